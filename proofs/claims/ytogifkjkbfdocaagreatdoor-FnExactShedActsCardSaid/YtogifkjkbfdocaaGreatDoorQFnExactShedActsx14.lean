/- Written by the kit's print.py, called by our own print2.sh with one import more; not by print.sh. -/
import Derived.Test.YtogifkjkbfdocaaGreatDoorQFnExactShedActsx0
import Derived.Test.YtogifkjkbfdocaaGreatDoorQFnExactShedActsx9
import Derived.Test.YtogifkjkbfdocaaGreatDoorQFnExactShedActsx11
import Derived.Test.YtogifkjkbfdocaaGreatDoorQFnExactShedActsx13
namespace Go.Proofs.YtogifkjkbfdocaaGreatDoor.QFnExactShedActs
open Go.RowKit Go.Proofs.YtogifkjkbfdocaaGreatDoorW.PrintWords Go.Proofs.YtogifkjkbfdocaaGreatDoorW.PrintLast Go.Proofs.YtogifkjkbfdocaaGreatDoorW.PrintMore
attribute [local go_sem] max2_int min2_int max_two min_two max_three min_three max_four min_four   -- for this text's walks alone
open Go.Proofs.YtogifkjkbfdocaaGreatDoor.Laid
open Go.Proofs.YtogifkjkbfdocaaGreatDoor.Short
set_option linter.unusedVariables false
set_option linter.unusedSimpArgs false

/-! ### impl_NewestSnap: function 31 -/
def impl_NewestSnap.l0 : Nat → List (S63) → Int → Int → Int → Int → List Int → ByteArray → Option (Int × Int × List Int × ByteArray × Bool)
 | 0, _, _, _, _, _, _, _ => none
 | k + 1, x16, x17, x18, x339000, x339001, x339002, x339003 => if x18 < x17 then (if 0 ≤ x18 then (if x18 < (x16.length : Int) then ((impl_numberOf.f k ((rd_T63 x16 x18).f0) (⟨#[115]⟩ : ByteArray) 1000000).bind fun t342 => ((impl_ReadSnap.f k ((rd_T63 x16 x18).f1)).bind fun bt343 => (if t342 ≥ 0 then (if bt343.2.2.2.2 = true then (if bt343.1 = t342 then (if t342 > x339000 then (impl_NewestSnap.l0 k x16 x17 (wrap64 (x18 + 1)) bt343.1 bt343.2.1 bt343.2.2.1 bt343.2.2.2.1) else (impl_NewestSnap.l0 k x16 x17 (wrap64 (x18 + 1)) x339000 x339001 x339002 x339003)) else (impl_NewestSnap.l0 k x16 x17 (wrap64 (x18 + 1)) x339000 x339001 x339002 x339003)) else (impl_NewestSnap.l0 k x16 x17 (wrap64 (x18 + 1)) x339000 x339001 x339002 x339003)) else (impl_NewestSnap.l0 k x16 x17 (wrap64 (x18 + 1)) x339000 x339001 x339002 x339003)))) else (none)) else (none)) else (if x339000 < 0 then (some (0, 0, ([] : List Int), (⟨#[]⟩ : ByteArray), false)) else (some (x339000, x339001, x339002, x339003, true)))
def impl_NewestSnap.f (k : Nat) (l0_0 : List (S63)) : Option (Int × Int × List Int × ByteArray × Bool) := (impl_DiskOk.f k l0_0).bind fun t339 => (if t339 = true then (impl_NewestSnap.l0 k l0_0 (l0_0.length : Int) 0 (-1) 0 ([] : List Int) (⟨#[]⟩ : ByteArray)) else (some (0, 0, ([] : List Int), (⟨#[]⟩ : ByteArray), false)))
theorem impl_NewestSnap.mono_l : ∀ k, (∀ y0 y1 y2 y3 y4 y5 y6, LeO (impl_NewestSnap.l0 k y0 y1 y2 y3 y4 y5 y6) (impl_NewestSnap.l0 (k + 1) y0 y1 y2 y3 y4 y5 y6))
 | 0 => fun _ _ _ _ _ _ _ r h => by simp [impl_NewestSnap.l0] at h
 | k + 1 => by
  have ih0 := impl_NewestSnap.mono_l k
  ·intro y0 y1 y2 y3 y4 y5 y6
   unfold impl_NewestSnap.l0
   repeat' first
   | (with_reducible exact ih0 _ _ _ _ _ _ _)
   | (with_reducible exact impl_DiskOk.mono _ _)
   | (with_reducible exact impl_ReadSnap.mono _ _)
   | (with_reducible exact impl_numberOf.mono _ _ _ _)
   | (with_reducible exact LeO.refl _)
   | (with_reducible exact LeO.none _)
   | (with_reducible refine LeO.ite ?_ ?_)
   | (with_reducible refine LeO.bind ?_ (fun _ => ?_))
   | exact ih0 _ _ _ _ _ _ _
   | exact impl_DiskOk.mono _ _
   | exact impl_ReadSnap.mono _ _
   | exact impl_numberOf.mono _ _ _ _
   | exact LeO.none _
   | refine LeO.ite ?_ ?_
   | refine LeO.bind ?_ (fun _ => ?_)
theorem impl_NewestSnap.mono : ∀ a0 k, LeO (impl_NewestSnap.f k a0) (impl_NewestSnap.f (k + 1) a0) := by
 intro a0 k
 have ih0 := impl_NewestSnap.mono_l k
 unfold impl_NewestSnap.f
 repeat' first
   | (with_reducible exact ih0 _ _ _ _ _ _ _)
   | (with_reducible exact impl_DiskOk.mono _ _)
   | (with_reducible exact impl_ReadSnap.mono _ _)
   | (with_reducible exact impl_numberOf.mono _ _ _ _)
   | (with_reducible exact LeO.refl _)
   | (with_reducible exact LeO.none _)
   | (with_reducible refine LeO.ite ?_ ?_)
   | (with_reducible refine LeO.bind ?_ (fun _ => ?_))
   | exact ih0 _ _ _ _ _ _ _
   | exact impl_DiskOk.mono _ _
   | exact impl_ReadSnap.mono _ _
   | exact impl_numberOf.mono _ _ _ _
   | exact LeO.none _
   | refine LeO.ite ?_ ?_
   | refine LeO.bind ?_ (fun _ => ?_)
set_option maxHeartbeats 8000000 in
set_option maxRecDepth 100000 in
theorem impl_NewestSnap.calls (k : Nat) (A0_0 : Option Addr) (c0_0 : Nat) (l0_0 : List (S63)) (r1 : Int) (r2 : Int) (r3 : List Int) (r4 : ByteArray) (r5 : Bool) (w : World) (hr0_0 : Kd.C k63 w A0_0 l0_0.length l0_0) (hc0_0 : l0_0.length ≤ c0_0) (h : impl_NewestSnap.f k l0_0 = some (r1, r2, r3, r4, r5)) (hLW : LaidW w) :
  Calls Tryz.prog 31 #[.agg #[.slice A0_0 l0_0.length c0_0]] w fun e w' => ∃ v2_ : Value, e = .returned (.tuple #[.agg #[.int .i64 r1, .int .i64 r2, v2_, .string r4], .bool r5]) ∧ Kd.R (Kd.int .i64) 3 w' w.heap.size (fun _ => True) v2_ r3 ∧ Below w.heap.size w w' := by
 have HLW := Aside0.mk hLW
 clear hLW
 have hu30 := Tryz.underlying30
 have hu52 := Tryz.underlying52
 have hu63 := Tryz.underlying63
 have HR0_0 := Aside0.mk hr0_0
 have HC0_0 := Aside0.mk hc0_0
 clear hr0_0 hc0_0
 have HB := Aside0.mk (Below.refl w.heap.size w)
 have H : ((impl_DiskOk.f k l0_0).bind fun t339 => (if t339 = true then (impl_NewestSnap.l0 k l0_0 (l0_0.length : Int) 0 (-1) 0 ([] : List Int) (⟨#[]⟩ : ByteArray)) else (some (0, 0, ([] : List Int), (⟨#[]⟩ : ByteArray), false)))) = some (r1, r2, r3, r4, r5) := h
 clear h
 replace H := Option.bind_eq_some_iff.mp H
 obtain ⟨t339, A20, H⟩ := H
 try dsimp only at H
 have A2 := Aside0.mk A20
 clear A20
 by_cases c3 : t339 = true
 ·subst c3
  have H1 : (impl_NewestSnap.l0 k l0_0 (l0_0.length : Int) 0 (-1) 0 ([] : List Int) (⟨#[]⟩ : ByteArray)) = some (r1, r2, r3, r4, r5) := by rw [if_pos rfl] at H; exact H
  clear H
  have H := H1
  clear H1
  have H' := Aside0.mk H
  clear H
  go_enter Tryz.func31, Tryz.ntmps31
  go_wp2_with (first | ((with_reducible refine gate_dst (N := 1) rfl ?_); refine box_event rfl (N := 1) rfl (cs := #[.slice A0_0 l0_0.length c0_0]) (t := 30) zrun ?_; intro gb336 hg w4 hbox hb; have BK336 := am (hbox); have GW336 := zge hg (zb0 HB.out); have GE336 := zge hg (zb0 HB.out); replace HB := zs0 hb HB; clear hb hbox hg) | ((with_reducible refine gate_dst (N := 2) rfl ?_); refine box_event rfl (N := 2) rfl (cs := #[.int .i64 0, .int .i64 0, .slice none 0 0, .string (⟨#[]⟩ : ByteArray)]) (t := 52) zrun ?_; intro gb337 hg w5 hbox hb; have BK337 := am (hbox); have GW337 := zge hg (zb1 HB.out GE336.out); have GE337 := zge hg (zb1 HB.out GE336.out); obtain ⟨NB336_337, NB337_336⟩ := zne hg BK336; replace BK336 := zk hb BK336; replace HB := zs1 hb HB GE336; clear hb hbox hg) | ((with_reducible refine gate_dst (N := 4) rfl ?_); refine box_event rfl (N := 4) rfl (cs := #[.int .i64 0, .int .i64 0, .slice none 0 0, .string (⟨#[]⟩ : ByteArray)]) (t := 52) zrun ?_; intro gb338 hg w6 hbox hb; have BK338 := am (hbox); have GW338 := zge hg (zb2 HB.out GE336.out GE337.out); have GE338 := zge hg (zb2 HB.out GE336.out GE337.out); obtain ⟨NB336_338, NB338_336⟩ := zne hg BK336; obtain ⟨NB337_338, NB338_337⟩ := zne hg BK337; replace BK336 := zk hb BK336; replace BK337 := zk hb BK337; replace HB := zs2 hb HB GE336 GE337; clear hb hbox hg; obtain ⟨hnb7, hnc7⟩ := zn2 NB338_336; obtain ⟨hnb8, hnc8⟩ := zn2 NB338_337; obtain ⟨hcz9_0, hcz9_1, hcz9_2, hcz9_3, hfz9_0, hfz9_1, hfz9_2, hfz9_3⟩ := zc4 BK338.out; obtain ⟨hnb10, hnc10⟩ := zn2 NB336_337; obtain ⟨hcz11_0, hfz11_0⟩ := zc1 BK336.out) | ((with_reducible refine gate_callee (f := 47) rfl ?_); refine goesL_ (some 12) rfl rfl Tryz.func47 (by kernel_rfl) rfl #[.agg #[.slice A0_0 l0_0.length c0_0]] rfl zr ?_; (with_reducible refine (impl_DiskOk.calls k _ _ l0_0 true _ ?side1 ?side2 A2.out).mono ?_); (case side1 => exact Kd.C_below HR0_0.out (zb3 HB.out GE336.out GE337.out GE338.out)); (case side2 => exact HC0_0.out); rintro e w12 ⟨rfl, hb⟩; refine ⟨_, rfl, ?_⟩; replace BK336 := zh1 hb BK336 NB336_338; replace BK337 := zh1 hb BK337 NB337_338; replace BK338 := am (blk_below (g := gb338) (o := .cells #[.int .i64 (-1), .int .i64 0, .slice none 0 0, .string (⟨#[]⟩ : ByteArray)] 52 (0, 0)) (by (with_reducible repeat (first | refine blk_drewN ?_ _ | refine blk_drew ?_ | refine blk_alloc ?_ _)); refine blk_put (cs := #[.int .i64 (-1), .int .i64 0, .slice none 0 0, .string (⟨#[]⟩ : ByteArray)]) ?_ 3 _ rfl; (with_reducible repeat (first | refine blk_drewN ?_ _ | refine blk_drew ?_ | refine blk_alloc ?_ _)); refine blk_put (cs := #[.int .i64 (-1), .int .i64 0, .slice none 0 0, .string (⟨#[]⟩ : ByteArray)]) ?_ 2 _ rfl; (with_reducible repeat (first | refine blk_drewN ?_ _ | refine blk_drew ?_ | refine blk_alloc ?_ _)); refine blk_put (cs := #[.int .i64 (-1), .int .i64 0, .slice none 0 0, .string (⟨#[]⟩ : ByteArray)]) ?_ 1 _ rfl; (with_reducible repeat (first | refine blk_drewN ?_ _ | refine blk_drew ?_ | refine blk_alloc ?_ _)); refine blk_put (cs := #[.int .i64 0, .int .i64 0, .slice none 0 0, .string (⟨#[]⟩ : ByteArray)]) ?_ 0 _ rfl; (with_reducible repeat (first | refine blk_drewN ?_ _ | refine blk_drew ?_ | refine blk_alloc ?_ _)); exact BK338.out) hb); replace HB := zs3 hb HB GE336 GE337 GE338; clear hb; obtain ⟨hcz13_0, hfz13_0⟩ := zc1 BK336.out))
  go_loopg [18] k (fun kq v18 w' => ∃ (x18_1 : Int) (x339000_1 : Int) (x339001_1 : Int) (x339002_1 : List Int) (x339003_1 : ByteArray) (u339002 : Value), v18 = .int .i64 x18_1 ∧ Aside0 (impl_NewestSnap.l0 kq l0_0 (l0_0.length : Int) x18_1 x339000_1 x339001_1 x339002_1 x339003_1 = some (r1, r2, r3, r4, r5)) ∧ Aside0 (kq ≤ k) ∧ Aside0 (Kd.R (Kd.int .i64) 3 w' w.heap.size (fun _ => True) u339002 x339002_1) ∧ Aside0 (w'.heap[gb336]? = some (.cells #[(.slice A0_0 l0_0.length c0_0)] 30 (0, 0))) ∧ Aside0 (w'.heap[gb337]? = some (.cells #[.int .i64 0, .int .i64 0, (.slice none 0 0), .string (⟨#[]⟩ : ByteArray)] 52 (0, 0))) ∧ Aside0 (w'.heap[gb338]? = some (.cells #[.int .i64 x339000_1, .int .i64 x339001_1, u339002, .string x339003_1] 52 (0, 0))) ∧ Aside0 (Below w.heap.size w w'))
  case atStart => exact ⟨(0), ((-1)), (0), (([] : List Int)), ((⟨#[]⟩ : ByteArray)), (.slice none 0 0), (by first | rfl | (simp; done) | (simp [*]; done)), H', ⟨Nat.le_refl _⟩, ⟨by first | exact Kd.R_nil _ _ _ _ _ | exact Kd.N_nil _ _ _ _ _ | exact Kd.V_nil _ _ _ _ _ | exact Kd.Q_nil _ _ _ _ _ | exact Kd.S_nil _ _ _ _ _⟩, ⟨kx BK336.out⟩, ⟨kx BK337.out⟩, ⟨kx BK338.out⟩, ⟨zb3 HB.out GE336.out GE337.out GE338.out⟩⟩
  case round =>
   clear H'
   obtain ⟨x18_1, x339000_1, x339001_1, x339002_1, x339003_1, u339002, rfl, HA, HK1, HO_339002, BK336, BK337, BK338, HB⟩ := hrel
   cases gk with
   | zero => exact absurd HA.out (by simp [impl_NewestSnap.l0])
   | succ k1 =>
    have H := HA.out
    clear HA
    simp only [impl_NewestSnap.l0] at H
    by_cases c14 : x18_1 < (l0_0.length : Int)
    ·rw [if_pos c14] at H
     have c14b0 : decide (x18_1 < (l0_0.length : Int)) = true := decide_eq_true c14
     have c14b1 : decide ((l0_0.length : Int) ≤ x18_1) = false := decide_eq_false (by omega)
     clear c14
     by_cases c15 : 0 ≤ x18_1
     ·rw [if_pos c15] at H
      have c15b0 : decide (0 ≤ x18_1) = true := decide_eq_true c15
      clear c15
      by_cases c16 : x18_1 < (l0_0.length : Int)
      ·rw [if_pos c16] at H
       have c16b0 : decide (x18_1 < (l0_0.length : Int)) = true := decide_eq_true c16
       have c16b1 : decide ((l0_0.length : Int) ≤ x18_1) = false := decide_eq_false (by omega)
       clear c16
       replace H := Option.bind_eq_some_iff.mp H
       obtain ⟨t342, A170, H⟩ := H
       try dsimp only at H
       have A17 := Aside0.mk A170
       clear A170
       replace H := Option.bind_eq_some_iff.mp H
       obtain ⟨⟨t343, t344, t345, t348, t349⟩, A180, H⟩ := H
       try dsimp only at H
       have A18 := Aside0.mk A180
       clear A180
       by_cases c19 : t342 ≥ 0
       ·rw [if_pos c19] at H
        have c19b0 : decide (0 ≤ t342) = true := decide_eq_true c19
        clear c19
        by_cases c20 : t349 = true
        ·subst c20
         have H1 : (if t343 = t342 then (if t342 > x339000_1 then (impl_NewestSnap.l0 k1 l0_0 (l0_0.length : Int) (wrap64 (x18_1 + 1)) t343 t344 t345 t348) else (impl_NewestSnap.l0 k1 l0_0 (l0_0.length : Int) (wrap64 (x18_1 + 1)) x339000_1 x339001_1 x339002_1 x339003_1)) else (impl_NewestSnap.l0 k1 l0_0 (l0_0.length : Int) (wrap64 (x18_1 + 1)) x339000_1 x339001_1 x339002_1 x339003_1)) = some (r1, r2, r3, r4, r5) := by rw [if_pos rfl] at H; exact H
         clear H
         have H := H1
         clear H1
         by_cases c21 : t343 = t342
         ·rw [if_pos c21] at H
          have c21b0 : (t343 == t342) = true := beq_iff_eq.mpr c21
          have c21b1 : (t343 != t342) = false := bne_eq_false_iff_eq.mpr c21
          clear c21
          by_cases c22 : t342 > x339000_1
          ·rw [if_pos c22] at H
           have c22b0 : decide (x339000_1 < t342) = true := decide_eq_true c22
           have c22b1 : decide (t342 ≤ x339000_1) = false := decide_eq_false (by omega)
           clear c22
           have H' := Aside0.mk H
           clear H
           have p340 : 0 ≤ (x18_1 : Int) := of_decide_eq_true (by first | (with_reducible assumption) | assumption)
           have q340 : x18_1 < (l0_0.length : Int) := of_decide_eq_true (by first | (with_reducible assumption) | assumption)
           obtain ⟨ad340, e340, hx340_0, hx340_1, hx340_2⟩ := at_T63 HR0_0.out x18_1 p340 q340
           cases e340
           replace hx340_0 := (HB.out.cell (World.block_lt_of_cell? w _ hx340_0)).trans hx340_0
           replace hx340_1 := (HB.out.cell (World.block_lt_of_cell? w _ hx340_1)).trans hx340_1
           replace hx340_2 := (HB.out.cell (World.block_lt_of_cell? w _ hx340_2)).trans hx340_2
           replace p340 := eq_true p340
           replace q340 := eq_true q340
           go_wp2_with (first | ((with_reducible refine gate_dst (N := 6) rfl ?_); refine box_event rfl (N := 6) rfl (cs := #[.string (⟨#[]⟩ : ByteArray), .string (⟨#[]⟩ : ByteArray), .int .i64 0]) (t := 63) zrun ?_; intro gb341 hg w23 hbox hb; have BK341 := am (hbox); have GW341 := zge hg (zb3 HB.out GE336.out GE337.out GE338.out); have GE341 := zge hg (zb3 HB.out GE336.out GE337.out GE338.out); obtain ⟨NB336_341, NB341_336⟩ := zne hg BK336; obtain ⟨NB337_341, NB341_337⟩ := zne hg BK337; obtain ⟨NB338_341, NB341_338⟩ := zne hg BK338; replace HO_339002 := am (Kd.R_below (rx HO_339002.out) hb); replace BK336 := zk hb BK336; replace BK337 := zk hb BK337; replace BK338 := zk hb BK338; replace HB := zs3 hb HB GE336 GE337 GE338; clear hb hbox hg; obtain ⟨hnb24, hnc24⟩ := zn2 NB341_336; obtain ⟨hnb25, hnc25⟩ := zn2 NB341_337; obtain ⟨hnb26, hnc26⟩ := zn2 NB341_338; obtain ⟨hcz27_0, hcz27_1, hcz27_2, hfz27_0, hfz27_1, hfz27_2⟩ := zc3 BK341.out) | ((with_reducible refine gate_callee (f := 46) rfl ?_); refine goesL_ (some 24) rfl rfl Tryz.func46 (by kernel_rfl) rfl #[.string ((rd_T63 l0_0 x18_1).f0), .string (⟨#[115]⟩ : ByteArray), .int .i64 1000000] rfl zr ?_; (with_reducible refine (impl_numberOf.calls k1 ((rd_T63 l0_0 x18_1).f0) (⟨#[115]⟩ : ByteArray) 1000000 t342 _ A17.out ?laid).mono ?_); (case laid => exact LaidW.later HLW.out (zb4 HB.out GE336.out GE337.out GE338.out GE341.out)); rintro e w28 ⟨rfl, hb⟩; refine ⟨_, rfl, ?_⟩; replace HO_339002 := am (Kd.R_below (rx ((Kd.R_mono (Kd.R_far (p := ⟨gb341, 2, none⟩) (Kd.R_far (p := ⟨gb341, 1, none⟩) (Kd.R_far (p := ⟨gb341, 0, none⟩) (Kd.R_types HO_339002.out BK341.out (by decide)) (fun _ hk => hk.2) (.string ((rd_T63 l0_0 x18_1).f0))) (fun _ hk => hk.2) (.string ((rd_T63 l0_0 x18_1).f1))) (fun _ hk => hk.2) (.int .i64 ((rd_T63 l0_0 x18_1).f2))) (fun _ h_ => h_.1)))) hb); replace BK336 := zh1 hb BK336 NB336_341; replace BK337 := zh1 hb BK337 NB337_341; replace BK338 := zh1 hb BK338 NB338_341; replace BK341 := am (blk_below (g := gb341) (o := .cells #[.string ((rd_T63 l0_0 x18_1).f0), .string ((rd_T63 l0_0 x18_1).f1), .int .i64 ((rd_T63 l0_0 x18_1).f2)] 63 (0, 0)) (by (with_reducible repeat (first | refine blk_drewN ?_ _ | refine blk_drew ?_ | refine blk_alloc ?_ _)); refine blk_put (cs := #[.string ((rd_T63 l0_0 x18_1).f0), .string ((rd_T63 l0_0 x18_1).f1), .int .i64 0]) ?_ 2 _ rfl; (with_reducible repeat (first | refine blk_drewN ?_ _ | refine blk_drew ?_ | refine blk_alloc ?_ _)); refine blk_put (cs := #[.string ((rd_T63 l0_0 x18_1).f0), .string (⟨#[]⟩ : ByteArray), .int .i64 0]) ?_ 1 _ rfl; (with_reducible repeat (first | refine blk_drewN ?_ _ | refine blk_drew ?_ | refine blk_alloc ?_ _)); refine blk_put (cs := #[.string (⟨#[]⟩ : ByteArray), .string (⟨#[]⟩ : ByteArray), .int .i64 0]) ?_ 0 _ rfl; (with_reducible repeat (first | refine blk_drewN ?_ _ | refine blk_drew ?_ | refine blk_alloc ?_ _)); exact BK341.out) hb); replace HB := zs4 hb HB GE336 GE337 GE338 GE341; clear hb; obtain ⟨hcz29_0, hcz29_1, hcz29_2, hfz29_0, hfz29_1, hfz29_2⟩ := zc3 BK341.out) | ((with_reducible refine gate_callee (f := 67) rfl ?_); refine goesL_ (some 28) rfl rfl Tryz.func67 (by kernel_rfl) rfl #[.string ((rd_T63 l0_0 x18_1).f1)] rfl zr ?_; (with_reducible refine (impl_ReadSnap.calls k1 ((rd_T63 l0_0 x18_1).f1) t343 t344 t345 t348 true _ A18.out).mono ?_); rintro e w30 ⟨v346, rfl, ho0, hb⟩; refine ⟨_, rfl, ?_⟩; have HO347 := am (Kd.R_lower (Kd.R_new' ho0 (Kd.R_lt (rx HO_339002.out))) (below_size (zb4 HB.out GE336.out GE337.out GE338.out GE341.out))); replace HO_339002 := am (Kd.R_elder' (rx HO_339002.out) (Kd.R_base ho0) hb); replace BK336 := zk hb BK336; replace BK337 := zk hb BK337; replace BK338 := zk hb BK338; replace BK341 := zk hb BK341; replace HB := zs4 hb HB GE336 GE337 GE338 GE341; clear hb ho0) | ((with_reducible refine gate_dst (N := 8) rfl ?_); refine box_event rfl (N := 8) rfl (cs := #[.int .i64 0, .int .i64 0, .slice none 0 0, .string (⟨#[]⟩ : ByteArray)]) (t := 52) zrun ?_; intro gb350 hg w31 hbox hb; have BK350 := am (hbox); have GW350 := zge hg (zb4 HB.out GE336.out GE337.out GE338.out GE341.out); have GE350 := zge hg (zb4 HB.out GE336.out GE337.out GE338.out GE341.out); obtain ⟨NB336_350, NB350_336⟩ := zne hg BK336; obtain ⟨NB337_350, NB350_337⟩ := zne hg BK337; obtain ⟨NB338_350, NB350_338⟩ := zne hg BK338; obtain ⟨NB341_350, NB350_341⟩ := zne hg BK341; replace HO_339002 := am (Kd.R_below (rx HO_339002.out) hb); replace HO347 := am (Kd.R_below (rx HO347.out) hb); replace BK336 := zk hb BK336; replace BK337 := zk hb BK337; replace BK338 := zk hb BK338; replace BK341 := zk hb BK341; replace HB := zs4 hb HB GE336 GE337 GE338 GE341; clear hb hbox hg; obtain ⟨hnb32, hnc32⟩ := zn2 NB350_336; obtain ⟨hnb33, hnc33⟩ := zn2 NB350_337; obtain ⟨hnb34, hnc34⟩ := zn2 NB350_338; obtain ⟨hnb35, hnc35⟩ := zn2 NB350_341; obtain ⟨hcz36_0, hcz36_1, hcz36_2, hcz36_3, hfz36_0, hfz36_1, hfz36_2, hfz36_3⟩ := zc4 BK350.out; obtain ⟨Ao37, co37, eo37⟩ := Kd.R_slice HO347.out; subst eo37; obtain ⟨hnb38, hnc38⟩ := zn2 NB338_336; obtain ⟨hnb39, hnc39⟩ := zn2 NB338_337; obtain ⟨hcz40_0, hcz40_1, hcz40_2, hcz40_3, hfz40_0, hfz40_1, hfz40_2, hfz40_3⟩ := zc4 BK338.out))
           go_roundg k1
           case measure => have := HK1.out; omega
           case rel => exact ⟨(wrap64 (x18_1 + 1)), (t343), (t344), (t345), (t348), (.slice Ao37 t345.length co37), (by first | rfl | (simp; done) | (simp [*]; done)), H', ⟨by have := HK1.out; omega⟩, ⟨rx (Kd.R_mono (Kd.R_far (p := ⟨gb338, 3, none⟩) (Kd.R_far (p := ⟨gb338, 2, none⟩) (Kd.R_far (p := ⟨gb338, 1, none⟩) (Kd.R_far (p := ⟨gb338, 0, none⟩) (Kd.R_far (p := ⟨gb350, 3, none⟩) (Kd.R_far (p := ⟨gb350, 2, none⟩) (Kd.R_far (p := ⟨gb350, 1, none⟩) (Kd.R_far (p := ⟨gb350, 0, none⟩) (Kd.R_types (Kd.R_types HO347.out BK350.out (by decide)) BK338.out (by decide)) (fun _ hk => hk.1.2) (.int .i64 t343)) (fun _ hk => hk.1.2) (.int .i64 t344)) (fun _ hk => hk.1.2) (.slice Ao37 t345.length co37)) (fun _ hk => hk.1.2) (.string t348)) (fun _ hk => hk.2) (.int .i64 t343)) (fun _ hk => hk.2) (.int .i64 t344)) (fun _ hk => hk.2) (.slice Ao37 t345.length co37)) (fun _ hk => hk.2) (.string t348)) (fun _ hk => trivial))⟩, ⟨zf2 BK336.out NB336_338.out NB336_350.out⟩, ⟨zf2 BK337.out NB337_338.out NB337_350.out⟩, ⟨by (with_reducible repeat (first | refine blk_drewN ?_ _ | refine blk_drew ?_ | refine blk_alloc ?_ _)); refine blk_put (cs := #[.int .i64 t343, .int .i64 t344, .slice Ao37 t345.length co37, .string x339003_1]) ?_ 3 _ rfl; (with_reducible repeat (first | refine blk_drewN ?_ _ | refine blk_drew ?_ | refine blk_alloc ?_ _)); refine blk_put (cs := #[.int .i64 t343, .int .i64 t344, u339002, .string x339003_1]) ?_ 2 _ rfl; (with_reducible repeat (first | refine blk_drewN ?_ _ | refine blk_drew ?_ | refine blk_alloc ?_ _)); refine blk_put (cs := #[.int .i64 t343, .int .i64 x339001_1, u339002, .string x339003_1]) ?_ 1 _ rfl; (with_reducible repeat (first | refine blk_drewN ?_ _ | refine blk_drew ?_ | refine blk_alloc ?_ _)); refine blk_put (cs := #[.int .i64 x339000_1, .int .i64 x339001_1, u339002, .string x339003_1]) ?_ 0 _ rfl; (with_reducible repeat (first | refine blk_drewN ?_ _ | refine blk_drew ?_ | refine blk_alloc ?_ _)); refine blk_far ?_ NB338_350.out _; (with_reducible repeat (first | refine blk_drewN ?_ _ | refine blk_drew ?_ | refine blk_alloc ?_ _)); refine blk_far ?_ NB338_350.out _; (with_reducible repeat (first | refine blk_drewN ?_ _ | refine blk_drew ?_ | refine blk_alloc ?_ _)); refine blk_far ?_ NB338_350.out _; (with_reducible repeat (first | refine blk_drewN ?_ _ | refine blk_drew ?_ | refine blk_alloc ?_ _)); refine blk_far ?_ NB338_350.out _; (with_reducible repeat (first | refine blk_drewN ?_ _ | refine blk_drew ?_ | refine blk_alloc ?_ _)); exact BK338.out⟩, ⟨zb5 HB.out GE336.out GE337.out GE338.out GE341.out GE350.out⟩⟩
          ·rw [if_neg c22] at H
           have c22b0 : decide (x339000_1 < t342) = false := decide_eq_false c22
           have c22b1 : decide (t342 ≤ x339000_1) = true := decide_eq_true (by omega)
           clear c22
           have H' := Aside0.mk H
           clear H
           have p340 : 0 ≤ (x18_1 : Int) := of_decide_eq_true (by first | (with_reducible assumption) | assumption)
           have q340 : x18_1 < (l0_0.length : Int) := of_decide_eq_true (by first | (with_reducible assumption) | assumption)
           obtain ⟨ad340, e340, hx340_0, hx340_1, hx340_2⟩ := at_T63 HR0_0.out x18_1 p340 q340
           cases e340
           replace hx340_0 := (HB.out.cell (World.block_lt_of_cell? w _ hx340_0)).trans hx340_0
           replace hx340_1 := (HB.out.cell (World.block_lt_of_cell? w _ hx340_1)).trans hx340_1
           replace hx340_2 := (HB.out.cell (World.block_lt_of_cell? w _ hx340_2)).trans hx340_2
           replace p340 := eq_true p340
           replace q340 := eq_true q340
           go_wp2_with (first | ((with_reducible refine gate_dst (N := 6) rfl ?_); refine box_event rfl (N := 6) rfl (cs := #[.string (⟨#[]⟩ : ByteArray), .string (⟨#[]⟩ : ByteArray), .int .i64 0]) (t := 63) zrun ?_; intro gb341 hg w41 hbox hb; have BK341 := am (hbox); have GW341 := zge hg (zb3 HB.out GE336.out GE337.out GE338.out); have GE341 := zge hg (zb3 HB.out GE336.out GE337.out GE338.out); obtain ⟨NB336_341, NB341_336⟩ := zne hg BK336; obtain ⟨NB337_341, NB341_337⟩ := zne hg BK337; obtain ⟨NB338_341, NB341_338⟩ := zne hg BK338; replace HO_339002 := am (Kd.R_below (rx HO_339002.out) hb); replace BK336 := zk hb BK336; replace BK337 := zk hb BK337; replace BK338 := zk hb BK338; replace HB := zs3 hb HB GE336 GE337 GE338; clear hb hbox hg; obtain ⟨hnb42, hnc42⟩ := zn2 NB341_336; obtain ⟨hnb43, hnc43⟩ := zn2 NB341_337; obtain ⟨hnb44, hnc44⟩ := zn2 NB341_338; obtain ⟨hcz45_0, hcz45_1, hcz45_2, hfz45_0, hfz45_1, hfz45_2⟩ := zc3 BK341.out) | ((with_reducible refine gate_callee (f := 46) rfl ?_); refine goesL_ (some 24) rfl rfl Tryz.func46 (by kernel_rfl) rfl #[.string ((rd_T63 l0_0 x18_1).f0), .string (⟨#[115]⟩ : ByteArray), .int .i64 1000000] rfl zr ?_; (with_reducible refine (impl_numberOf.calls k1 ((rd_T63 l0_0 x18_1).f0) (⟨#[115]⟩ : ByteArray) 1000000 t342 _ A17.out ?laid).mono ?_); (case laid => exact LaidW.later HLW.out (zb4 HB.out GE336.out GE337.out GE338.out GE341.out)); rintro e w46 ⟨rfl, hb⟩; refine ⟨_, rfl, ?_⟩; replace HO_339002 := am (Kd.R_below (rx ((Kd.R_mono (Kd.R_far (p := ⟨gb341, 2, none⟩) (Kd.R_far (p := ⟨gb341, 1, none⟩) (Kd.R_far (p := ⟨gb341, 0, none⟩) (Kd.R_types HO_339002.out BK341.out (by decide)) (fun _ hk => hk.2) (.string ((rd_T63 l0_0 x18_1).f0))) (fun _ hk => hk.2) (.string ((rd_T63 l0_0 x18_1).f1))) (fun _ hk => hk.2) (.int .i64 ((rd_T63 l0_0 x18_1).f2))) (fun _ h_ => h_.1)))) hb); replace BK336 := zh1 hb BK336 NB336_341; replace BK337 := zh1 hb BK337 NB337_341; replace BK338 := zh1 hb BK338 NB338_341; replace BK341 := am (blk_below (g := gb341) (o := .cells #[.string ((rd_T63 l0_0 x18_1).f0), .string ((rd_T63 l0_0 x18_1).f1), .int .i64 ((rd_T63 l0_0 x18_1).f2)] 63 (0, 0)) (by (with_reducible repeat (first | refine blk_drewN ?_ _ | refine blk_drew ?_ | refine blk_alloc ?_ _)); refine blk_put (cs := #[.string ((rd_T63 l0_0 x18_1).f0), .string ((rd_T63 l0_0 x18_1).f1), .int .i64 0]) ?_ 2 _ rfl; (with_reducible repeat (first | refine blk_drewN ?_ _ | refine blk_drew ?_ | refine blk_alloc ?_ _)); refine blk_put (cs := #[.string ((rd_T63 l0_0 x18_1).f0), .string (⟨#[]⟩ : ByteArray), .int .i64 0]) ?_ 1 _ rfl; (with_reducible repeat (first | refine blk_drewN ?_ _ | refine blk_drew ?_ | refine blk_alloc ?_ _)); refine blk_put (cs := #[.string (⟨#[]⟩ : ByteArray), .string (⟨#[]⟩ : ByteArray), .int .i64 0]) ?_ 0 _ rfl; (with_reducible repeat (first | refine blk_drewN ?_ _ | refine blk_drew ?_ | refine blk_alloc ?_ _)); exact BK341.out) hb); replace HB := zs4 hb HB GE336 GE337 GE338 GE341; clear hb; obtain ⟨hcz47_0, hcz47_1, hcz47_2, hfz47_0, hfz47_1, hfz47_2⟩ := zc3 BK341.out) | ((with_reducible refine gate_callee (f := 67) rfl ?_); refine goesL_ (some 28) rfl rfl Tryz.func67 (by kernel_rfl) rfl #[.string ((rd_T63 l0_0 x18_1).f1)] rfl zr ?_; (with_reducible refine (impl_ReadSnap.calls k1 ((rd_T63 l0_0 x18_1).f1) t343 t344 t345 t348 true _ A18.out).mono ?_); rintro e w48 ⟨v346, rfl, ho0, hb⟩; refine ⟨_, rfl, ?_⟩; have HO347 := am (Kd.R_lower (Kd.R_new' ho0 (Kd.R_lt (rx HO_339002.out))) (below_size (zb4 HB.out GE336.out GE337.out GE338.out GE341.out))); replace HO_339002 := am (Kd.R_elder' (rx HO_339002.out) (Kd.R_base ho0) hb); replace BK336 := zk hb BK336; replace BK337 := zk hb BK337; replace BK338 := zk hb BK338; replace BK341 := zk hb BK341; replace HB := zs4 hb HB GE336 GE337 GE338 GE341; clear hb ho0) | ((with_reducible refine gate_dst (N := 8) rfl ?_); refine box_event rfl (N := 8) rfl (cs := #[.int .i64 0, .int .i64 0, .slice none 0 0, .string (⟨#[]⟩ : ByteArray)]) (t := 52) zrun ?_; intro gb350 hg w49 hbox hb; have BK350 := am (hbox); have GW350 := zge hg (zb4 HB.out GE336.out GE337.out GE338.out GE341.out); have GE350 := zge hg (zb4 HB.out GE336.out GE337.out GE338.out GE341.out); obtain ⟨NB336_350, NB350_336⟩ := zne hg BK336; obtain ⟨NB337_350, NB350_337⟩ := zne hg BK337; obtain ⟨NB338_350, NB350_338⟩ := zne hg BK338; obtain ⟨NB341_350, NB350_341⟩ := zne hg BK341; replace HO_339002 := am (Kd.R_below (rx HO_339002.out) hb); replace HO347 := am (Kd.R_below (rx HO347.out) hb); replace BK336 := zk hb BK336; replace BK337 := zk hb BK337; replace BK338 := zk hb BK338; replace BK341 := zk hb BK341; replace HB := zs4 hb HB GE336 GE337 GE338 GE341; clear hb hbox hg; obtain ⟨hnb50, hnc50⟩ := zn2 NB350_336; obtain ⟨hnb51, hnc51⟩ := zn2 NB350_337; obtain ⟨hnb52, hnc52⟩ := zn2 NB350_338; obtain ⟨hnb53, hnc53⟩ := zn2 NB350_341; obtain ⟨hcz54_0, hcz54_1, hcz54_2, hcz54_3, hfz54_0, hfz54_1, hfz54_2, hfz54_3⟩ := zc4 BK350.out; obtain ⟨Ao55, co55, eo55⟩ := Kd.R_slice HO347.out; subst eo55; obtain ⟨hnb56, hnc56⟩ := zn2 NB338_336; obtain ⟨hnb57, hnc57⟩ := zn2 NB338_337; obtain ⟨hcz58_0, hcz58_1, hcz58_2, hcz58_3, hfz58_0, hfz58_1, hfz58_2, hfz58_3⟩ := zc4 BK338.out))
           go_roundg k1
           case measure => have := HK1.out; omega
           case rel => exact ⟨(wrap64 (x18_1 + 1)), (x339000_1), (x339001_1), (x339002_1), (x339003_1), (u339002), (by first | rfl | (simp; done) | (simp [*]; done)), H', ⟨by have := HK1.out; omega⟩, ⟨rx (Kd.R_mono (Kd.R_far (p := ⟨gb350, 3, none⟩) (Kd.R_far (p := ⟨gb350, 2, none⟩) (Kd.R_far (p := ⟨gb350, 1, none⟩) (Kd.R_far (p := ⟨gb350, 0, none⟩) (Kd.R_types HO_339002.out BK350.out (by decide)) (fun _ hk => hk.2) (.int .i64 t343)) (fun _ hk => hk.2) (.int .i64 t344)) (fun _ hk => hk.2) (.slice Ao55 t345.length co55)) (fun _ hk => hk.2) (.string t348)) (fun _ hk => trivial))⟩, ⟨zf1 BK336.out NB336_350.out⟩, ⟨zf1 BK337.out NB337_350.out⟩, ⟨zf1 BK338.out NB338_350.out⟩, ⟨zb5 HB.out GE336.out GE337.out GE338.out GE341.out GE350.out⟩⟩
         ·rw [if_neg c21] at H
          have c21b0 : (t343 == t342) = false := beq_eq_false_iff_ne.mpr c21
          have c21b1 : (t343 != t342) = true := bne_iff_ne.mpr c21
          have H' := Aside0.mk H
          clear H
          have p340 : 0 ≤ (x18_1 : Int) := of_decide_eq_true (by first | (with_reducible assumption) | assumption)
          have q340 : x18_1 < (l0_0.length : Int) := of_decide_eq_true (by first | (with_reducible assumption) | assumption)
          obtain ⟨ad340, e340, hx340_0, hx340_1, hx340_2⟩ := at_T63 HR0_0.out x18_1 p340 q340
          cases e340
          replace hx340_0 := (HB.out.cell (World.block_lt_of_cell? w _ hx340_0)).trans hx340_0
          replace hx340_1 := (HB.out.cell (World.block_lt_of_cell? w _ hx340_1)).trans hx340_1
          replace hx340_2 := (HB.out.cell (World.block_lt_of_cell? w _ hx340_2)).trans hx340_2
          replace p340 := eq_true p340
          replace q340 := eq_true q340
          go_wp2_with (first | ((with_reducible refine gate_dst (N := 6) rfl ?_); refine box_event rfl (N := 6) rfl (cs := #[.string (⟨#[]⟩ : ByteArray), .string (⟨#[]⟩ : ByteArray), .int .i64 0]) (t := 63) zrun ?_; intro gb341 hg w59 hbox hb; have BK341 := am (hbox); have GW341 := zge hg (zb3 HB.out GE336.out GE337.out GE338.out); have GE341 := zge hg (zb3 HB.out GE336.out GE337.out GE338.out); obtain ⟨NB336_341, NB341_336⟩ := zne hg BK336; obtain ⟨NB337_341, NB341_337⟩ := zne hg BK337; obtain ⟨NB338_341, NB341_338⟩ := zne hg BK338; replace HO_339002 := am (Kd.R_below (rx HO_339002.out) hb); replace BK336 := zk hb BK336; replace BK337 := zk hb BK337; replace BK338 := zk hb BK338; replace HB := zs3 hb HB GE336 GE337 GE338; clear hb hbox hg; obtain ⟨hnb60, hnc60⟩ := zn2 NB341_336; obtain ⟨hnb61, hnc61⟩ := zn2 NB341_337; obtain ⟨hnb62, hnc62⟩ := zn2 NB341_338; obtain ⟨hcz63_0, hcz63_1, hcz63_2, hfz63_0, hfz63_1, hfz63_2⟩ := zc3 BK341.out) | ((with_reducible refine gate_callee (f := 46) rfl ?_); refine goesL_ (some 24) rfl rfl Tryz.func46 (by kernel_rfl) rfl #[.string ((rd_T63 l0_0 x18_1).f0), .string (⟨#[115]⟩ : ByteArray), .int .i64 1000000] rfl zr ?_; (with_reducible refine (impl_numberOf.calls k1 ((rd_T63 l0_0 x18_1).f0) (⟨#[115]⟩ : ByteArray) 1000000 t342 _ A17.out ?laid).mono ?_); (case laid => exact LaidW.later HLW.out (zb4 HB.out GE336.out GE337.out GE338.out GE341.out)); rintro e w64 ⟨rfl, hb⟩; refine ⟨_, rfl, ?_⟩; replace HO_339002 := am (Kd.R_below (rx ((Kd.R_mono (Kd.R_far (p := ⟨gb341, 2, none⟩) (Kd.R_far (p := ⟨gb341, 1, none⟩) (Kd.R_far (p := ⟨gb341, 0, none⟩) (Kd.R_types HO_339002.out BK341.out (by decide)) (fun _ hk => hk.2) (.string ((rd_T63 l0_0 x18_1).f0))) (fun _ hk => hk.2) (.string ((rd_T63 l0_0 x18_1).f1))) (fun _ hk => hk.2) (.int .i64 ((rd_T63 l0_0 x18_1).f2))) (fun _ h_ => h_.1)))) hb); replace BK336 := zh1 hb BK336 NB336_341; replace BK337 := zh1 hb BK337 NB337_341; replace BK338 := zh1 hb BK338 NB338_341; replace BK341 := am (blk_below (g := gb341) (o := .cells #[.string ((rd_T63 l0_0 x18_1).f0), .string ((rd_T63 l0_0 x18_1).f1), .int .i64 ((rd_T63 l0_0 x18_1).f2)] 63 (0, 0)) (by (with_reducible repeat (first | refine blk_drewN ?_ _ | refine blk_drew ?_ | refine blk_alloc ?_ _)); refine blk_put (cs := #[.string ((rd_T63 l0_0 x18_1).f0), .string ((rd_T63 l0_0 x18_1).f1), .int .i64 0]) ?_ 2 _ rfl; (with_reducible repeat (first | refine blk_drewN ?_ _ | refine blk_drew ?_ | refine blk_alloc ?_ _)); refine blk_put (cs := #[.string ((rd_T63 l0_0 x18_1).f0), .string (⟨#[]⟩ : ByteArray), .int .i64 0]) ?_ 1 _ rfl; (with_reducible repeat (first | refine blk_drewN ?_ _ | refine blk_drew ?_ | refine blk_alloc ?_ _)); refine blk_put (cs := #[.string (⟨#[]⟩ : ByteArray), .string (⟨#[]⟩ : ByteArray), .int .i64 0]) ?_ 0 _ rfl; (with_reducible repeat (first | refine blk_drewN ?_ _ | refine blk_drew ?_ | refine blk_alloc ?_ _)); exact BK341.out) hb); replace HB := zs4 hb HB GE336 GE337 GE338 GE341; clear hb; obtain ⟨hcz65_0, hcz65_1, hcz65_2, hfz65_0, hfz65_1, hfz65_2⟩ := zc3 BK341.out) | ((with_reducible refine gate_callee (f := 67) rfl ?_); refine goesL_ (some 28) rfl rfl Tryz.func67 (by kernel_rfl) rfl #[.string ((rd_T63 l0_0 x18_1).f1)] rfl zr ?_; (with_reducible refine (impl_ReadSnap.calls k1 ((rd_T63 l0_0 x18_1).f1) t343 t344 t345 t348 true _ A18.out).mono ?_); rintro e w66 ⟨v346, rfl, ho0, hb⟩; refine ⟨_, rfl, ?_⟩; have HO347 := am (Kd.R_lower (Kd.R_new' ho0 (Kd.R_lt (rx HO_339002.out))) (below_size (zb4 HB.out GE336.out GE337.out GE338.out GE341.out))); replace HO_339002 := am (Kd.R_elder' (rx HO_339002.out) (Kd.R_base ho0) hb); replace BK336 := zk hb BK336; replace BK337 := zk hb BK337; replace BK338 := zk hb BK338; replace BK341 := zk hb BK341; replace HB := zs4 hb HB GE336 GE337 GE338 GE341; clear hb ho0) | ((with_reducible refine gate_dst (N := 8) rfl ?_); refine box_event rfl (N := 8) rfl (cs := #[.int .i64 0, .int .i64 0, .slice none 0 0, .string (⟨#[]⟩ : ByteArray)]) (t := 52) zrun ?_; intro gb350 hg w67 hbox hb; have BK350 := am (hbox); have GW350 := zge hg (zb4 HB.out GE336.out GE337.out GE338.out GE341.out); have GE350 := zge hg (zb4 HB.out GE336.out GE337.out GE338.out GE341.out); obtain ⟨NB336_350, NB350_336⟩ := zne hg BK336; obtain ⟨NB337_350, NB350_337⟩ := zne hg BK337; obtain ⟨NB338_350, NB350_338⟩ := zne hg BK338; obtain ⟨NB341_350, NB350_341⟩ := zne hg BK341; replace HO_339002 := am (Kd.R_below (rx HO_339002.out) hb); replace HO347 := am (Kd.R_below (rx HO347.out) hb); replace BK336 := zk hb BK336; replace BK337 := zk hb BK337; replace BK338 := zk hb BK338; replace BK341 := zk hb BK341; replace HB := zs4 hb HB GE336 GE337 GE338 GE341; clear hb hbox hg; obtain ⟨hnb68, hnc68⟩ := zn2 NB350_336; obtain ⟨hnb69, hnc69⟩ := zn2 NB350_337; obtain ⟨hnb70, hnc70⟩ := zn2 NB350_338; obtain ⟨hnb71, hnc71⟩ := zn2 NB350_341; obtain ⟨hcz72_0, hcz72_1, hcz72_2, hcz72_3, hfz72_0, hfz72_1, hfz72_2, hfz72_3⟩ := zc4 BK350.out; obtain ⟨Ao73, co73, eo73⟩ := Kd.R_slice HO347.out; subst eo73))
          go_roundg k1
          case measure => have := HK1.out; omega
          case rel => exact ⟨(wrap64 (x18_1 + 1)), (x339000_1), (x339001_1), (x339002_1), (x339003_1), (u339002), (by first | rfl | (simp; done) | (simp [*]; done)), H', ⟨by have := HK1.out; omega⟩, ⟨rx (Kd.R_mono (Kd.R_far (p := ⟨gb350, 3, none⟩) (Kd.R_far (p := ⟨gb350, 2, none⟩) (Kd.R_far (p := ⟨gb350, 1, none⟩) (Kd.R_far (p := ⟨gb350, 0, none⟩) (Kd.R_types HO_339002.out BK350.out (by decide)) (fun _ hk => hk.2) (.int .i64 t343)) (fun _ hk => hk.2) (.int .i64 t344)) (fun _ hk => hk.2) (.slice Ao73 t345.length co73)) (fun _ hk => hk.2) (.string t348)) (fun _ hk => trivial))⟩, ⟨zf1 BK336.out NB336_350.out⟩, ⟨zf1 BK337.out NB337_350.out⟩, ⟨zf1 BK338.out NB338_350.out⟩, ⟨zb5 HB.out GE336.out GE337.out GE338.out GE341.out GE350.out⟩⟩
        ·replace c20 := Bool.eq_false_iff.mpr c20
         subst c20
         have H1 : (impl_NewestSnap.l0 k1 l0_0 (l0_0.length : Int) (wrap64 (x18_1 + 1)) x339000_1 x339001_1 x339002_1 x339003_1) = some (r1, r2, r3, r4, r5) := by rw [if_neg (show ¬ (false = true) by decide)] at H; exact H
         clear H
         have H := H1
         clear H1
         have H' := Aside0.mk H
         clear H
         have p340 : 0 ≤ (x18_1 : Int) := of_decide_eq_true (by first | (with_reducible assumption) | assumption)
         have q340 : x18_1 < (l0_0.length : Int) := of_decide_eq_true (by first | (with_reducible assumption) | assumption)
         obtain ⟨ad340, e340, hx340_0, hx340_1, hx340_2⟩ := at_T63 HR0_0.out x18_1 p340 q340
         cases e340
         replace hx340_0 := (HB.out.cell (World.block_lt_of_cell? w _ hx340_0)).trans hx340_0
         replace hx340_1 := (HB.out.cell (World.block_lt_of_cell? w _ hx340_1)).trans hx340_1
         replace hx340_2 := (HB.out.cell (World.block_lt_of_cell? w _ hx340_2)).trans hx340_2
         replace p340 := eq_true p340
         replace q340 := eq_true q340
         go_wp2_with (first | ((with_reducible refine gate_dst (N := 6) rfl ?_); refine box_event rfl (N := 6) rfl (cs := #[.string (⟨#[]⟩ : ByteArray), .string (⟨#[]⟩ : ByteArray), .int .i64 0]) (t := 63) zrun ?_; intro gb341 hg w74 hbox hb; have BK341 := am (hbox); have GW341 := zge hg (zb3 HB.out GE336.out GE337.out GE338.out); have GE341 := zge hg (zb3 HB.out GE336.out GE337.out GE338.out); obtain ⟨NB336_341, NB341_336⟩ := zne hg BK336; obtain ⟨NB337_341, NB341_337⟩ := zne hg BK337; obtain ⟨NB338_341, NB341_338⟩ := zne hg BK338; replace HO_339002 := am (Kd.R_below (rx HO_339002.out) hb); replace BK336 := zk hb BK336; replace BK337 := zk hb BK337; replace BK338 := zk hb BK338; replace HB := zs3 hb HB GE336 GE337 GE338; clear hb hbox hg; obtain ⟨hnb75, hnc75⟩ := zn2 NB341_336; obtain ⟨hnb76, hnc76⟩ := zn2 NB341_337; obtain ⟨hnb77, hnc77⟩ := zn2 NB341_338; obtain ⟨hcz78_0, hcz78_1, hcz78_2, hfz78_0, hfz78_1, hfz78_2⟩ := zc3 BK341.out) | ((with_reducible refine gate_callee (f := 46) rfl ?_); refine goesL_ (some 24) rfl rfl Tryz.func46 (by kernel_rfl) rfl #[.string ((rd_T63 l0_0 x18_1).f0), .string (⟨#[115]⟩ : ByteArray), .int .i64 1000000] rfl zr ?_; (with_reducible refine (impl_numberOf.calls k1 ((rd_T63 l0_0 x18_1).f0) (⟨#[115]⟩ : ByteArray) 1000000 t342 _ A17.out ?laid).mono ?_); (case laid => exact LaidW.later HLW.out (zb4 HB.out GE336.out GE337.out GE338.out GE341.out)); rintro e w79 ⟨rfl, hb⟩; refine ⟨_, rfl, ?_⟩; replace HO_339002 := am (Kd.R_below (rx ((Kd.R_mono (Kd.R_far (p := ⟨gb341, 2, none⟩) (Kd.R_far (p := ⟨gb341, 1, none⟩) (Kd.R_far (p := ⟨gb341, 0, none⟩) (Kd.R_types HO_339002.out BK341.out (by decide)) (fun _ hk => hk.2) (.string ((rd_T63 l0_0 x18_1).f0))) (fun _ hk => hk.2) (.string ((rd_T63 l0_0 x18_1).f1))) (fun _ hk => hk.2) (.int .i64 ((rd_T63 l0_0 x18_1).f2))) (fun _ h_ => h_.1)))) hb); replace BK336 := zh1 hb BK336 NB336_341; replace BK337 := zh1 hb BK337 NB337_341; replace BK338 := zh1 hb BK338 NB338_341; replace BK341 := am (blk_below (g := gb341) (o := .cells #[.string ((rd_T63 l0_0 x18_1).f0), .string ((rd_T63 l0_0 x18_1).f1), .int .i64 ((rd_T63 l0_0 x18_1).f2)] 63 (0, 0)) (by (with_reducible repeat (first | refine blk_drewN ?_ _ | refine blk_drew ?_ | refine blk_alloc ?_ _)); refine blk_put (cs := #[.string ((rd_T63 l0_0 x18_1).f0), .string ((rd_T63 l0_0 x18_1).f1), .int .i64 0]) ?_ 2 _ rfl; (with_reducible repeat (first | refine blk_drewN ?_ _ | refine blk_drew ?_ | refine blk_alloc ?_ _)); refine blk_put (cs := #[.string ((rd_T63 l0_0 x18_1).f0), .string (⟨#[]⟩ : ByteArray), .int .i64 0]) ?_ 1 _ rfl; (with_reducible repeat (first | refine blk_drewN ?_ _ | refine blk_drew ?_ | refine blk_alloc ?_ _)); refine blk_put (cs := #[.string (⟨#[]⟩ : ByteArray), .string (⟨#[]⟩ : ByteArray), .int .i64 0]) ?_ 0 _ rfl; (with_reducible repeat (first | refine blk_drewN ?_ _ | refine blk_drew ?_ | refine blk_alloc ?_ _)); exact BK341.out) hb); replace HB := zs4 hb HB GE336 GE337 GE338 GE341; clear hb; obtain ⟨hcz80_0, hcz80_1, hcz80_2, hfz80_0, hfz80_1, hfz80_2⟩ := zc3 BK341.out) | ((with_reducible refine gate_callee (f := 67) rfl ?_); refine goesL_ (some 28) rfl rfl Tryz.func67 (by kernel_rfl) rfl #[.string ((rd_T63 l0_0 x18_1).f1)] rfl zr ?_; (with_reducible refine (impl_ReadSnap.calls k1 ((rd_T63 l0_0 x18_1).f1) t343 t344 t345 t348 false _ A18.out).mono ?_); rintro e w81 ⟨v346, rfl, ho0, hb⟩; refine ⟨_, rfl, ?_⟩; have HO347 := am (Kd.R_lower (Kd.R_new' ho0 (Kd.R_lt (rx HO_339002.out))) (below_size (zb4 HB.out GE336.out GE337.out GE338.out GE341.out))); replace HO_339002 := am (Kd.R_elder' (rx HO_339002.out) (Kd.R_base ho0) hb); replace BK336 := zk hb BK336; replace BK337 := zk hb BK337; replace BK338 := zk hb BK338; replace BK341 := zk hb BK341; replace HB := zs4 hb HB GE336 GE337 GE338 GE341; clear hb ho0) | ((with_reducible refine gate_dst (N := 8) rfl ?_); refine box_event rfl (N := 8) rfl (cs := #[.int .i64 0, .int .i64 0, .slice none 0 0, .string (⟨#[]⟩ : ByteArray)]) (t := 52) zrun ?_; intro gb350 hg w82 hbox hb; have BK350 := am (hbox); have GW350 := zge hg (zb4 HB.out GE336.out GE337.out GE338.out GE341.out); have GE350 := zge hg (zb4 HB.out GE336.out GE337.out GE338.out GE341.out); obtain ⟨NB336_350, NB350_336⟩ := zne hg BK336; obtain ⟨NB337_350, NB350_337⟩ := zne hg BK337; obtain ⟨NB338_350, NB350_338⟩ := zne hg BK338; obtain ⟨NB341_350, NB350_341⟩ := zne hg BK341; replace HO_339002 := am (Kd.R_below (rx HO_339002.out) hb); replace HO347 := am (Kd.R_below (rx HO347.out) hb); replace BK336 := zk hb BK336; replace BK337 := zk hb BK337; replace BK338 := zk hb BK338; replace BK341 := zk hb BK341; replace HB := zs4 hb HB GE336 GE337 GE338 GE341; clear hb hbox hg; obtain ⟨hnb83, hnc83⟩ := zn2 NB350_336; obtain ⟨hnb84, hnc84⟩ := zn2 NB350_337; obtain ⟨hnb85, hnc85⟩ := zn2 NB350_338; obtain ⟨hnb86, hnc86⟩ := zn2 NB350_341; obtain ⟨hcz87_0, hcz87_1, hcz87_2, hcz87_3, hfz87_0, hfz87_1, hfz87_2, hfz87_3⟩ := zc4 BK350.out; obtain ⟨Ao88, co88, eo88⟩ := Kd.R_slice HO347.out; subst eo88))
         go_roundg k1
         case measure => have := HK1.out; omega
         case rel => exact ⟨(wrap64 (x18_1 + 1)), (x339000_1), (x339001_1), (x339002_1), (x339003_1), (u339002), (by first | rfl | (simp; done) | (simp [*]; done)), H', ⟨by have := HK1.out; omega⟩, ⟨rx (Kd.R_mono (Kd.R_far (p := ⟨gb350, 3, none⟩) (Kd.R_far (p := ⟨gb350, 2, none⟩) (Kd.R_far (p := ⟨gb350, 1, none⟩) (Kd.R_far (p := ⟨gb350, 0, none⟩) (Kd.R_types HO_339002.out BK350.out (by decide)) (fun _ hk => hk.2) (.int .i64 t343)) (fun _ hk => hk.2) (.int .i64 t344)) (fun _ hk => hk.2) (.slice Ao88 t345.length co88)) (fun _ hk => hk.2) (.string t348)) (fun _ hk => trivial))⟩, ⟨zf1 BK336.out NB336_350.out⟩, ⟨zf1 BK337.out NB337_350.out⟩, ⟨zf1 BK338.out NB338_350.out⟩, ⟨zb5 HB.out GE336.out GE337.out GE338.out GE341.out GE350.out⟩⟩
       ·rw [if_neg c19] at H
        have c19b0 : decide (0 ≤ t342) = false := decide_eq_false c19
        clear c19
        have H' := Aside0.mk H
        clear H
        have p340 : 0 ≤ (x18_1 : Int) := of_decide_eq_true (by first | (with_reducible assumption) | assumption)
        have q340 : x18_1 < (l0_0.length : Int) := of_decide_eq_true (by first | (with_reducible assumption) | assumption)
        obtain ⟨ad340, e340, hx340_0, hx340_1, hx340_2⟩ := at_T63 HR0_0.out x18_1 p340 q340
        cases e340
        replace hx340_0 := (HB.out.cell (World.block_lt_of_cell? w _ hx340_0)).trans hx340_0
        replace hx340_1 := (HB.out.cell (World.block_lt_of_cell? w _ hx340_1)).trans hx340_1
        replace hx340_2 := (HB.out.cell (World.block_lt_of_cell? w _ hx340_2)).trans hx340_2
        replace p340 := eq_true p340
        replace q340 := eq_true q340
        go_wp2_with (first | ((with_reducible refine gate_dst (N := 6) rfl ?_); refine box_event rfl (N := 6) rfl (cs := #[.string (⟨#[]⟩ : ByteArray), .string (⟨#[]⟩ : ByteArray), .int .i64 0]) (t := 63) zrun ?_; intro gb341 hg w89 hbox hb; have BK341 := am (hbox); have GW341 := zge hg (zb3 HB.out GE336.out GE337.out GE338.out); have GE341 := zge hg (zb3 HB.out GE336.out GE337.out GE338.out); obtain ⟨NB336_341, NB341_336⟩ := zne hg BK336; obtain ⟨NB337_341, NB341_337⟩ := zne hg BK337; obtain ⟨NB338_341, NB341_338⟩ := zne hg BK338; replace HO_339002 := am (Kd.R_below (rx HO_339002.out) hb); replace BK336 := zk hb BK336; replace BK337 := zk hb BK337; replace BK338 := zk hb BK338; replace HB := zs3 hb HB GE336 GE337 GE338; clear hb hbox hg; obtain ⟨hnb90, hnc90⟩ := zn2 NB341_336; obtain ⟨hnb91, hnc91⟩ := zn2 NB341_337; obtain ⟨hnb92, hnc92⟩ := zn2 NB341_338; obtain ⟨hcz93_0, hcz93_1, hcz93_2, hfz93_0, hfz93_1, hfz93_2⟩ := zc3 BK341.out) | ((with_reducible refine gate_callee (f := 46) rfl ?_); refine goesL_ (some 24) rfl rfl Tryz.func46 (by kernel_rfl) rfl #[.string ((rd_T63 l0_0 x18_1).f0), .string (⟨#[115]⟩ : ByteArray), .int .i64 1000000] rfl zr ?_; (with_reducible refine (impl_numberOf.calls k1 ((rd_T63 l0_0 x18_1).f0) (⟨#[115]⟩ : ByteArray) 1000000 t342 _ A17.out ?laid).mono ?_); (case laid => exact LaidW.later HLW.out (zb4 HB.out GE336.out GE337.out GE338.out GE341.out)); rintro e w94 ⟨rfl, hb⟩; refine ⟨_, rfl, ?_⟩; replace HO_339002 := am (Kd.R_below (rx ((Kd.R_mono (Kd.R_far (p := ⟨gb341, 2, none⟩) (Kd.R_far (p := ⟨gb341, 1, none⟩) (Kd.R_far (p := ⟨gb341, 0, none⟩) (Kd.R_types HO_339002.out BK341.out (by decide)) (fun _ hk => hk.2) (.string ((rd_T63 l0_0 x18_1).f0))) (fun _ hk => hk.2) (.string ((rd_T63 l0_0 x18_1).f1))) (fun _ hk => hk.2) (.int .i64 ((rd_T63 l0_0 x18_1).f2))) (fun _ h_ => h_.1)))) hb); replace BK336 := zh1 hb BK336 NB336_341; replace BK337 := zh1 hb BK337 NB337_341; replace BK338 := zh1 hb BK338 NB338_341; replace BK341 := am (blk_below (g := gb341) (o := .cells #[.string ((rd_T63 l0_0 x18_1).f0), .string ((rd_T63 l0_0 x18_1).f1), .int .i64 ((rd_T63 l0_0 x18_1).f2)] 63 (0, 0)) (by (with_reducible repeat (first | refine blk_drewN ?_ _ | refine blk_drew ?_ | refine blk_alloc ?_ _)); refine blk_put (cs := #[.string ((rd_T63 l0_0 x18_1).f0), .string ((rd_T63 l0_0 x18_1).f1), .int .i64 0]) ?_ 2 _ rfl; (with_reducible repeat (first | refine blk_drewN ?_ _ | refine blk_drew ?_ | refine blk_alloc ?_ _)); refine blk_put (cs := #[.string ((rd_T63 l0_0 x18_1).f0), .string (⟨#[]⟩ : ByteArray), .int .i64 0]) ?_ 1 _ rfl; (with_reducible repeat (first | refine blk_drewN ?_ _ | refine blk_drew ?_ | refine blk_alloc ?_ _)); refine blk_put (cs := #[.string (⟨#[]⟩ : ByteArray), .string (⟨#[]⟩ : ByteArray), .int .i64 0]) ?_ 0 _ rfl; (with_reducible repeat (first | refine blk_drewN ?_ _ | refine blk_drew ?_ | refine blk_alloc ?_ _)); exact BK341.out) hb); replace HB := zs4 hb HB GE336 GE337 GE338 GE341; clear hb; obtain ⟨hcz95_0, hcz95_1, hcz95_2, hfz95_0, hfz95_1, hfz95_2⟩ := zc3 BK341.out) | ((with_reducible refine gate_callee (f := 67) rfl ?_); refine goesL_ (some 28) rfl rfl Tryz.func67 (by kernel_rfl) rfl #[.string ((rd_T63 l0_0 x18_1).f1)] rfl zr ?_; (with_reducible refine (impl_ReadSnap.calls k1 ((rd_T63 l0_0 x18_1).f1) t343 t344 t345 t348 t349 _ A18.out).mono ?_); rintro e w96 ⟨v346, rfl, ho0, hb⟩; refine ⟨_, rfl, ?_⟩; have HO347 := am (Kd.R_lower (Kd.R_new' ho0 (Kd.R_lt (rx HO_339002.out))) (below_size (zb4 HB.out GE336.out GE337.out GE338.out GE341.out))); replace HO_339002 := am (Kd.R_elder' (rx HO_339002.out) (Kd.R_base ho0) hb); replace BK336 := zk hb BK336; replace BK337 := zk hb BK337; replace BK338 := zk hb BK338; replace BK341 := zk hb BK341; replace HB := zs4 hb HB GE336 GE337 GE338 GE341; clear hb ho0) | ((with_reducible refine gate_dst (N := 8) rfl ?_); refine box_event rfl (N := 8) rfl (cs := #[.int .i64 0, .int .i64 0, .slice none 0 0, .string (⟨#[]⟩ : ByteArray)]) (t := 52) zrun ?_; intro gb350 hg w97 hbox hb; have BK350 := am (hbox); have GW350 := zge hg (zb4 HB.out GE336.out GE337.out GE338.out GE341.out); have GE350 := zge hg (zb4 HB.out GE336.out GE337.out GE338.out GE341.out); obtain ⟨NB336_350, NB350_336⟩ := zne hg BK336; obtain ⟨NB337_350, NB350_337⟩ := zne hg BK337; obtain ⟨NB338_350, NB350_338⟩ := zne hg BK338; obtain ⟨NB341_350, NB350_341⟩ := zne hg BK341; replace HO_339002 := am (Kd.R_below (rx HO_339002.out) hb); replace HO347 := am (Kd.R_below (rx HO347.out) hb); replace BK336 := zk hb BK336; replace BK337 := zk hb BK337; replace BK338 := zk hb BK338; replace BK341 := zk hb BK341; replace HB := zs4 hb HB GE336 GE337 GE338 GE341; clear hb hbox hg; obtain ⟨hnb98, hnc98⟩ := zn2 NB350_336; obtain ⟨hnb99, hnc99⟩ := zn2 NB350_337; obtain ⟨hnb100, hnc100⟩ := zn2 NB350_338; obtain ⟨hnb101, hnc101⟩ := zn2 NB350_341; obtain ⟨hcz102_0, hcz102_1, hcz102_2, hcz102_3, hfz102_0, hfz102_1, hfz102_2, hfz102_3⟩ := zc4 BK350.out; obtain ⟨Ao103, co103, eo103⟩ := Kd.R_slice HO347.out; subst eo103))
        go_roundg k1
        case measure => have := HK1.out; omega
        case rel => exact ⟨(wrap64 (x18_1 + 1)), (x339000_1), (x339001_1), (x339002_1), (x339003_1), (u339002), (by first | rfl | (simp; done) | (simp [*]; done)), H', ⟨by have := HK1.out; omega⟩, ⟨rx (Kd.R_mono (Kd.R_far (p := ⟨gb350, 3, none⟩) (Kd.R_far (p := ⟨gb350, 2, none⟩) (Kd.R_far (p := ⟨gb350, 1, none⟩) (Kd.R_far (p := ⟨gb350, 0, none⟩) (Kd.R_types HO_339002.out BK350.out (by decide)) (fun _ hk => hk.2) (.int .i64 t343)) (fun _ hk => hk.2) (.int .i64 t344)) (fun _ hk => hk.2) (.slice Ao103 t345.length co103)) (fun _ hk => hk.2) (.string t348)) (fun _ hk => trivial))⟩, ⟨zf1 BK336.out NB336_350.out⟩, ⟨zf1 BK337.out NB337_350.out⟩, ⟨zf1 BK338.out NB338_350.out⟩, ⟨zb5 HB.out GE336.out GE337.out GE338.out GE341.out GE350.out⟩⟩
      ·rw [if_neg c16] at H
       exact absurd H (by simp)
     ·rw [if_neg c15] at H
      exact absurd H (by simp)
    ·rw [if_neg c14] at H
     have c14b0 : decide (x18_1 < (l0_0.length : Int)) = false := decide_eq_false c14
     have c14b1 : decide ((l0_0.length : Int) ≤ x18_1) = true := decide_eq_true (by omega)
     clear c14
     by_cases c104 : x339000_1 < 0
     ·rw [if_pos c104] at H
      have c104b0 : decide (x339000_1 < 0) = true := decide_eq_true c104
      clear c104
      simp only [Option.some.injEq, Prod.mk.injEq] at H
      obtain ⟨rfl, rfl, rfl, rfl, rfl⟩ := H
      obtain ⟨hnb105, hnc105⟩ := zn2 NB338_336
      obtain ⟨hnb106, hnc106⟩ := zn2 NB338_337
      obtain ⟨hcz107_0, hcz107_1, hcz107_2, hcz107_3, hfz107_0, hfz107_1, hfz107_2, hfz107_3⟩ := zc4 BK338.out
      obtain ⟨hnb108, hnc108⟩ := zn2 NB337_336
      obtain ⟨hcz109_0, hcz109_1, hcz109_2, hcz109_3, hfz109_0, hfz109_1, hfz109_2, hfz109_3⟩ := zc4 BK337.out
      go_wp2
      refine bodyPost_ret (results_ct rfl _ _ gb337 52 #[.int .i64 0, .int .i64 0, .slice none 0 0, .string (⟨#[]⟩ : ByteArray)] (0, 0) _ rfl (by (with_reducible repeat (first | refine blk_drewN ?_ _ | refine blk_drew ?_ | refine blk_alloc ?_ _)); refine blk_put (cs := #[.int .i64 0, .int .i64 0, .slice none 0 0, .string (⟨#[]⟩ : ByteArray)]) ?_ 3 _ rfl; (with_reducible repeat (first | refine blk_drewN ?_ _ | refine blk_drew ?_ | refine blk_alloc ?_ _)); refine blk_put (cs := #[.int .i64 0, .int .i64 0, .slice none 0 0, .string (⟨#[]⟩ : ByteArray)]) ?_ 2 _ rfl; (with_reducible repeat (first | refine blk_drewN ?_ _ | refine blk_drew ?_ | refine blk_alloc ?_ _)); refine blk_put (cs := #[.int .i64 0, .int .i64 0, .slice none 0 0, .string (⟨#[]⟩ : ByteArray)]) ?_ 1 _ rfl; (with_reducible repeat (first | refine blk_drewN ?_ _ | refine blk_drew ?_ | refine blk_alloc ?_ _)); refine blk_put (cs := #[.int .i64 0, .int .i64 0, .slice none 0 0, .string (⟨#[]⟩ : ByteArray)]) ?_ 0 _ rfl; (with_reducible repeat (first | refine blk_drewN ?_ _ | refine blk_drew ?_ | refine blk_alloc ?_ _)); exact BK337.out) Tryz.underlying52 rfl (by kernel_rfl)) rfl ?_
      exact ⟨_, by first | rfl | (simp [errW_none, errW_some] <;> rfl) | (simp [*, errW_none, errW_some] <;> rfl), by first | exact Kd.R_nil _ _ _ _ _ | exact Kd.N_nil _ _ _ _ _ | exact Kd.V_nil _ _ _ _ _ | exact Kd.Q_nil _ _ _ _ _ | exact Kd.S_nil _ _ _ _ _, zb3 HB.out GE336.out GE337.out GE338.out⟩
     ·rw [if_neg c104] at H
      have c104b0 : decide (x339000_1 < 0) = false := decide_eq_false c104
      clear c104
      simp only [Option.some.injEq, Prod.mk.injEq] at H
      obtain ⟨rfl, rfl, rfl, rfl, rfl⟩ := H
      obtain ⟨hnb110, hnc110⟩ := zn2 NB338_336
      obtain ⟨hnb111, hnc111⟩ := zn2 NB338_337
      obtain ⟨hcz112_0, hcz112_1, hcz112_2, hcz112_3, hfz112_0, hfz112_1, hfz112_2, hfz112_3⟩ := zc4 BK338.out
      obtain ⟨hnb113, hnc113⟩ := zn2 NB337_336
      obtain ⟨hcz114_0, hcz114_1, hcz114_2, hcz114_3, hfz114_0, hfz114_1, hfz114_2, hfz114_3⟩ := zc4 BK337.out
      obtain ⟨Ao115, co115, eo115⟩ := Kd.R_slice HO_339002.out
      subst eo115
      go_wp2
      refine bodyPost_ret (results_ct rfl _ _ gb337 52 #[.int .i64 x339000_1, .int .i64 x339001_1, .slice Ao115 x339002_1.length co115, .string x339003_1] (0, 0) _ rfl (by (with_reducible repeat (first | refine blk_drewN ?_ _ | refine blk_drew ?_ | refine blk_alloc ?_ _)); refine blk_put (cs := #[.int .i64 x339000_1, .int .i64 x339001_1, .slice Ao115 x339002_1.length co115, .string (⟨#[]⟩ : ByteArray)]) ?_ 3 _ rfl; (with_reducible repeat (first | refine blk_drewN ?_ _ | refine blk_drew ?_ | refine blk_alloc ?_ _)); refine blk_put (cs := #[.int .i64 x339000_1, .int .i64 x339001_1, .slice none 0 0, .string (⟨#[]⟩ : ByteArray)]) ?_ 2 _ rfl; (with_reducible repeat (first | refine blk_drewN ?_ _ | refine blk_drew ?_ | refine blk_alloc ?_ _)); refine blk_put (cs := #[.int .i64 x339000_1, .int .i64 0, .slice none 0 0, .string (⟨#[]⟩ : ByteArray)]) ?_ 1 _ rfl; (with_reducible repeat (first | refine blk_drewN ?_ _ | refine blk_drew ?_ | refine blk_alloc ?_ _)); refine blk_put (cs := #[.int .i64 0, .int .i64 0, .slice none 0 0, .string (⟨#[]⟩ : ByteArray)]) ?_ 0 _ rfl; (with_reducible repeat (first | refine blk_drewN ?_ _ | refine blk_drew ?_ | refine blk_alloc ?_ _)); exact BK337.out) Tryz.underlying52 rfl (by kernel_rfl)) rfl ?_
      exact ⟨_, by first | rfl | (simp [errW_none, errW_some] <;> rfl) | (simp [*, errW_none, errW_some] <;> rfl), rx (Kd.R_mono (Kd.R_far (p := ⟨gb337, 3, none⟩) (Kd.R_far (p := ⟨gb337, 2, none⟩) (Kd.R_far (p := ⟨gb337, 1, none⟩) (Kd.R_far (p := ⟨gb337, 0, none⟩) (Kd.R_types HO_339002.out BK337.out (by decide)) (fun _ hk => hk.2) (.int .i64 x339000_1)) (fun _ hk => hk.2) (.int .i64 x339001_1)) (fun _ hk => hk.2) (.slice Ao115 x339002_1.length co115)) (fun _ hk => hk.2) (.string x339003_1)) (fun _ hk => trivial)), zb3 HB.out GE336.out GE337.out GE338.out⟩
 ·replace c3 := Bool.eq_false_iff.mpr c3
  subst c3
  have H1 : (some (0, 0, ([] : List Int), (⟨#[]⟩ : ByteArray), false)) = some (r1, r2, r3, r4, r5) := by rw [if_neg (show ¬ (false = true) by decide)] at H; exact H
  clear H
  have H := H1
  clear H1
  simp only [Option.some.injEq, Prod.mk.injEq] at H
  obtain ⟨rfl, rfl, rfl, rfl, rfl⟩ := H
  go_enter Tryz.func31, Tryz.ntmps31
  go_wp2_with (first | ((with_reducible refine gate_dst (N := 1) rfl ?_); refine box_event rfl (N := 1) rfl (cs := #[.slice A0_0 l0_0.length c0_0]) (t := 30) zrun ?_; intro gb336 hg w116 hbox hb; have BK336 := am (hbox); have GW336 := zge hg (zb0 HB.out); have GE336 := zge hg (zb0 HB.out); replace HB := zs0 hb HB; clear hb hbox hg) | ((with_reducible refine gate_dst (N := 2) rfl ?_); refine box_event rfl (N := 2) rfl (cs := #[.int .i64 0, .int .i64 0, .slice none 0 0, .string (⟨#[]⟩ : ByteArray)]) (t := 52) zrun ?_; intro gb337 hg w117 hbox hb; have BK337 := am (hbox); have GW337 := zge hg (zb1 HB.out GE336.out); have GE337 := zge hg (zb1 HB.out GE336.out); obtain ⟨NB336_337, NB337_336⟩ := zne hg BK336; replace BK336 := zk hb BK336; replace HB := zs1 hb HB GE336; clear hb hbox hg) | ((with_reducible refine gate_dst (N := 4) rfl ?_); refine box_event rfl (N := 4) rfl (cs := #[.int .i64 0, .int .i64 0, .slice none 0 0, .string (⟨#[]⟩ : ByteArray)]) (t := 52) zrun ?_; intro gb338 hg w118 hbox hb; have BK338 := am (hbox); have GW338 := zge hg (zb2 HB.out GE336.out GE337.out); have GE338 := zge hg (zb2 HB.out GE336.out GE337.out); obtain ⟨NB336_338, NB338_336⟩ := zne hg BK336; obtain ⟨NB337_338, NB338_337⟩ := zne hg BK337; replace BK336 := zk hb BK336; replace BK337 := zk hb BK337; replace HB := zs2 hb HB GE336 GE337; clear hb hbox hg; obtain ⟨hnb119, hnc119⟩ := zn2 NB338_336; obtain ⟨hnb120, hnc120⟩ := zn2 NB338_337; obtain ⟨hcz121_0, hcz121_1, hcz121_2, hcz121_3, hfz121_0, hfz121_1, hfz121_2, hfz121_3⟩ := zc4 BK338.out; obtain ⟨hnb122, hnc122⟩ := zn2 NB336_337; obtain ⟨hcz123_0, hfz123_0⟩ := zc1 BK336.out) | ((with_reducible refine gate_callee (f := 47) rfl ?_); refine goesL_ (some 12) rfl rfl Tryz.func47 (by kernel_rfl) rfl #[.agg #[.slice A0_0 l0_0.length c0_0]] rfl zr ?_; (with_reducible refine (impl_DiskOk.calls k _ _ l0_0 false _ ?side1 ?side2 A2.out).mono ?_); (case side1 => exact Kd.C_below HR0_0.out (zb3 HB.out GE336.out GE337.out GE338.out)); (case side2 => exact HC0_0.out); rintro e w124 ⟨rfl, hb⟩; refine ⟨_, rfl, ?_⟩; replace BK336 := zh1 hb BK336 NB336_338; replace BK337 := zh1 hb BK337 NB337_338; replace BK338 := am (blk_below (g := gb338) (o := .cells #[.int .i64 (-1), .int .i64 0, .slice none 0 0, .string (⟨#[]⟩ : ByteArray)] 52 (0, 0)) (by (with_reducible repeat (first | refine blk_drewN ?_ _ | refine blk_drew ?_ | refine blk_alloc ?_ _)); refine blk_put (cs := #[.int .i64 (-1), .int .i64 0, .slice none 0 0, .string (⟨#[]⟩ : ByteArray)]) ?_ 3 _ rfl; (with_reducible repeat (first | refine blk_drewN ?_ _ | refine blk_drew ?_ | refine blk_alloc ?_ _)); refine blk_put (cs := #[.int .i64 (-1), .int .i64 0, .slice none 0 0, .string (⟨#[]⟩ : ByteArray)]) ?_ 2 _ rfl; (with_reducible repeat (first | refine blk_drewN ?_ _ | refine blk_drew ?_ | refine blk_alloc ?_ _)); refine blk_put (cs := #[.int .i64 (-1), .int .i64 0, .slice none 0 0, .string (⟨#[]⟩ : ByteArray)]) ?_ 1 _ rfl; (with_reducible repeat (first | refine blk_drewN ?_ _ | refine blk_drew ?_ | refine blk_alloc ?_ _)); refine blk_put (cs := #[.int .i64 0, .int .i64 0, .slice none 0 0, .string (⟨#[]⟩ : ByteArray)]) ?_ 0 _ rfl; (with_reducible repeat (first | refine blk_drewN ?_ _ | refine blk_drew ?_ | refine blk_alloc ?_ _)); exact BK338.out) hb); replace HB := zs3 hb HB GE336 GE337 GE338; clear hb; obtain ⟨hcz125_0, hcz125_1, hcz125_2, hcz125_3, hfz125_0, hfz125_1, hfz125_2, hfz125_3⟩ := zc4 BK337.out))
  refine bodyPost_ret (results_ct rfl _ _ gb337 52 #[.int .i64 0, .int .i64 0, .slice none 0 0, .string (⟨#[]⟩ : ByteArray)] (0, 0) _ rfl (by (with_reducible repeat (first | refine blk_drewN ?_ _ | refine blk_drew ?_ | refine blk_alloc ?_ _)); refine blk_put (cs := #[.int .i64 0, .int .i64 0, .slice none 0 0, .string (⟨#[]⟩ : ByteArray)]) ?_ 3 _ rfl; (with_reducible repeat (first | refine blk_drewN ?_ _ | refine blk_drew ?_ | refine blk_alloc ?_ _)); refine blk_put (cs := #[.int .i64 0, .int .i64 0, .slice none 0 0, .string (⟨#[]⟩ : ByteArray)]) ?_ 2 _ rfl; (with_reducible repeat (first | refine blk_drewN ?_ _ | refine blk_drew ?_ | refine blk_alloc ?_ _)); refine blk_put (cs := #[.int .i64 0, .int .i64 0, .slice none 0 0, .string (⟨#[]⟩ : ByteArray)]) ?_ 1 _ rfl; (with_reducible repeat (first | refine blk_drewN ?_ _ | refine blk_drew ?_ | refine blk_alloc ?_ _)); refine blk_put (cs := #[.int .i64 0, .int .i64 0, .slice none 0 0, .string (⟨#[]⟩ : ByteArray)]) ?_ 0 _ rfl; (with_reducible repeat (first | refine blk_drewN ?_ _ | refine blk_drew ?_ | refine blk_alloc ?_ _)); exact BK337.out) Tryz.underlying52 rfl (by kernel_rfl)) rfl ?_
  exact ⟨_, by first | rfl | (simp [errW_none, errW_some] <;> rfl) | (simp [*, errW_none, errW_some] <;> rfl), by first | exact Kd.R_nil _ _ _ _ _ | exact Kd.N_nil _ _ _ _ _ | exact Kd.V_nil _ _ _ _ _ | exact Kd.Q_nil _ _ _ _ _ | exact Kd.S_nil _ _ _ _ _, zb3 HB.out GE336.out GE337.out GE338.out⟩

/-! ### impl_isSnap: function 32 -/
def impl_isSnap.f (k : Nat) (a0_0 : ByteArray) (a0_1 : ByteArray) (a0_2 : Int) : Option (Bool) := (impl_numberOf.f k a0_0 (⟨#[115]⟩ : ByteArray) 1000000).bind fun t352 => (some (decide (t352 ≥ 0)))
theorem impl_isSnap.mono : ∀ a0 a1 a2 k, LeO (impl_isSnap.f k a0 a1 a2) (impl_isSnap.f (k + 1) a0 a1 a2) := by
 intro a0 a1 a2 k
 unfold impl_isSnap.f
 repeat' first
   | (with_reducible exact impl_numberOf.mono _ _ _ _)
   | (with_reducible exact LeO.refl _)
   | (with_reducible exact LeO.none _)
   | (with_reducible refine LeO.ite ?_ ?_)
   | (with_reducible refine LeO.bind ?_ (fun _ => ?_))
   | exact impl_numberOf.mono _ _ _ _
   | exact LeO.none _
   | refine LeO.ite ?_ ?_
   | refine LeO.bind ?_ (fun _ => ?_)
set_option maxHeartbeats 8000000 in
set_option maxRecDepth 100000 in
theorem impl_isSnap.calls (k : Nat) (a0_0 : ByteArray) (a0_1 : ByteArray) (a0_2 : Int) (r : Bool) (w : World) (h : impl_isSnap.f k a0_0 a0_1 a0_2 = some r) (hLW : LaidW w) :
  Calls Tryz.prog 32 #[.agg #[.string a0_0, .string a0_1, .int .i64 a0_2]] w fun e w' => e = .returned (.bool r) ∧ Below w.heap.size w w' := by
 have HLW := Aside0.mk hLW
 clear hLW
 have hu63 := Tryz.underlying63
 have HB := Aside0.mk (Below.refl w.heap.size w)
 have H : ((impl_numberOf.f k a0_0 (⟨#[115]⟩ : ByteArray) 1000000).bind fun t352 => (some (decide (t352 ≥ 0)))) = some r := h
 clear h
 replace H := Option.bind_eq_some_iff.mp H
 obtain ⟨t352, A20, H⟩ := H
 try dsimp only at H
 have A2 := Aside0.mk A20
 clear A20
 obtain rfl := Option.some.inj H
 go_enter Tryz.func32, Tryz.ntmps32
 go_wp2_with (first | ((with_reducible refine gate_dst (N := 1) rfl ?_); refine box_event rfl (N := 1) rfl (cs := #[.string a0_0, .string a0_1, .int .i64 a0_2]) (t := 63) zrun ?_; intro gb351 hg w3 hbox hb; have BK351 := am (hbox); have GE351 := zge hg (zb0 HB.out); replace HB := zs0 hb HB; clear hb hbox hg; obtain ⟨hcz4_0, hcz4_1, hcz4_2, hfz4_0, hfz4_1, hfz4_2⟩ := zc3 BK351.out) | ((with_reducible refine gate_callee (f := 46) rfl ?_); refine goesL_ (some 5) rfl rfl Tryz.func46 (by kernel_rfl) rfl #[.string a0_0, .string (⟨#[115]⟩ : ByteArray), .int .i64 1000000] rfl zr ?_; (with_reducible refine (impl_numberOf.calls k a0_0 (⟨#[115]⟩ : ByteArray) 1000000 t352 _ A2.out ?laid).mono ?_); (case laid => exact LaidW.later HLW.out (zb1 HB.out GE351.out)); rintro e w5 ⟨rfl, hb⟩; refine ⟨_, rfl, ?_⟩; replace BK351 := zk hb BK351; replace HB := zs1 hb HB GE351; clear hb))
 go_ret
 exact ⟨by first | rfl | (simp [errW_none, errW_some] <;> rfl) | (simp [*, errW_none, errW_some] <;> rfl), zb1 HB.out GE351.out⟩

/-! ### impl_SnapName: function 33 -/
def impl_SnapName.f (a0 : Int) : Option (ByteArray) := (impl_isIndex.f a0).bind fun t353 => (if t353 = true then ((impl_Decimal.f a0).bind fun t354 => (if 1 + t354.size ≤ 9223372036854775807 then (some ((⟨#[115]⟩ : ByteArray) ++ t354)) else (none))) else (some (⟨#[]⟩ : ByteArray)))
set_option maxHeartbeats 8000000 in
set_option maxRecDepth 100000 in
theorem impl_SnapName.calls (a0 : Int) (r : ByteArray) (w : World) (h : impl_SnapName.f a0 = some r) (hLW : LaidW w) :
  Calls Tryz.prog 33 #[.int .i64 a0] w fun e w' => e = .returned (.string r) ∧ Below w.heap.size w w' := by
 have HLW := Aside0.mk hLW
 clear hLW
 have HB := Aside0.mk (Below.refl w.heap.size w)
 have H : ((impl_isIndex.f a0).bind fun t353 => (if t353 = true then ((impl_Decimal.f a0).bind fun t354 => (if 1 + t354.size ≤ 9223372036854775807 then (some ((⟨#[115]⟩ : ByteArray) ++ t354)) else (none))) else (some (⟨#[]⟩ : ByteArray)))) = some r := h
 clear h
 replace H := Option.bind_eq_some_iff.mp H
 obtain ⟨t353, A20, H⟩ := H
 try dsimp only at H
 have A2 := Aside0.mk A20
 clear A20
 by_cases c3 : t353 = true
 ·subst c3
  have H1 : ((impl_Decimal.f a0).bind fun t354 => (if 1 + t354.size ≤ 9223372036854775807 then (some ((⟨#[115]⟩ : ByteArray) ++ t354)) else (none))) = some r := by rw [if_pos rfl] at H; exact H
  clear H
  have H := H1
  clear H1
  replace H := Option.bind_eq_some_iff.mp H
  obtain ⟨t354, A40, H⟩ := H
  try dsimp only at H
  have A4 := Aside0.mk A40
  clear A40
  by_cases c5 : 1 + t354.size ≤ 9223372036854775807
  ·rw [if_pos c5] at H
   have c5b0 := eq_true c5
   have c5b1 : decide (1 + t354.size ≤ 9223372036854775807) = true := decide_eq_true c5
   try have c5b2 : (9223372036854775807 < 1 + t354.size) = False := eq_false (Nat.not_lt.2 c5)
   obtain rfl := Option.some.inj H
   go_enter Tryz.func33, Tryz.ntmps33
   go_wp2_with (first | ((with_reducible refine gate_callee (f := 68) rfl ?_); refine goesL_ (some 4) rfl rfl Tryz.func68 (by kernel_rfl) rfl #[.int .i64 a0] rfl zr ?_; (with_reducible refine (impl_isIndex.calls a0 true _ A2.out).mono ?_); rintro e w' ⟨rfl, ⟨nd, rfl⟩⟩; refine ⟨_, rfl, ?_⟩) | ((with_reducible refine gate_callee (f := 69) rfl ?_); refine goesL_ (some 7) rfl rfl Tryz.func69 (by kernel_rfl) rfl #[.int .i64 a0] rfl zr ?_; (with_reducible refine (impl_Decimal.calls a0 t354 _ A4.out ?laid).mono ?_); (case laid => exact LaidW.later HLW.out (zb0 HB.out)); rintro e w6 ⟨rfl, hb⟩; refine ⟨_, rfl, ?_⟩; replace HB := zs0 hb HB; clear hb))
   go_ret
   exact ⟨by first | rfl | (simp [errW_none, errW_some] <;> rfl) | (simp [*, errW_none, errW_some] <;> rfl), zb0 HB.out⟩
  ·rw [if_neg c5] at H
   exact absurd H (by simp)
 ·replace c3 := Bool.eq_false_iff.mpr c3
  subst c3
  have H1 : (some (⟨#[]⟩ : ByteArray)) = some r := by rw [if_neg (show ¬ (false = true) by decide)] at H; exact H
  clear H
  have H := H1
  clear H1
  obtain rfl := Option.some.inj H
  go_enter Tryz.func33, Tryz.ntmps33
  go_wp2_with (first | ((with_reducible refine gate_callee (f := 68) rfl ?_); refine goesL_ (some 4) rfl rfl Tryz.func68 (by kernel_rfl) rfl #[.int .i64 a0] rfl zr ?_; (with_reducible refine (impl_isIndex.calls a0 false _ A2.out).mono ?_); rintro e w' ⟨rfl, ⟨nd, rfl⟩⟩; refine ⟨_, rfl, ?_⟩))
  go_ret
  exact ⟨by first | rfl | (simp [errW_none, errW_some] <;> rfl) | (simp [*, errW_none, errW_some] <;> rfl), zb0 HB.out⟩

end Go.Proofs.YtogifkjkbfdocaaGreatDoor.QFnExactShedActs
