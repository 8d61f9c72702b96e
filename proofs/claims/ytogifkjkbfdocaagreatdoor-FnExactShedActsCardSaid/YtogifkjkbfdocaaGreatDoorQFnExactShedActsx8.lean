/- Written by the kit's print.py, called by our own print2.sh with one import more; not by print.sh. -/
import Derived.Test.YtogifkjkbfdocaaGreatDoorQFnExactShedActsx0
import Derived.Test.YtogifkjkbfdocaaGreatDoorQFnExactShedActsx1
import Derived.Test.YtogifkjkbfdocaaGreatDoorQFnExactShedActsx2
import Derived.Test.YtogifkjkbfdocaaGreatDoorQFnExactShedActsx7
namespace Go.Proofs.YtogifkjkbfdocaaGreatDoor.QFnExactShedActs
open Go.RowKit Go.Proofs.YtogifkjkbfdocaaGreatDoorW.PrintWords Go.Proofs.YtogifkjkbfdocaaGreatDoorW.PrintLast Go.Proofs.YtogifkjkbfdocaaGreatDoorW.PrintMore
attribute [local go_sem] max2_int min2_int max_two min_two max_three min_three max_four min_four   -- for this text's walks alone
open Go.Proofs.YtogifkjkbfdocaaGreatDoor.Short
set_option linter.unusedVariables false
set_option linter.unusedSimpArgs false

/-! ### spec_NewestSnap: function 27 -/
mutual
def spec_NewestSnap.l0 : Nat → Int → List (S63) → Int → Int → List Int → ByteArray → Option (Int × Int × List Int × ByteArray × Bool)
 | 0, _, _, _, _, _, _ => none
 | k + 1, x5, x195000, x197000, x197001, x197002, x197003 => if x5 < (x195000.length : Int) then ((spec_DiskOk.f k x195000).bind fun t197 => (spec_NewestSnap.j1 k x5 t197 x195000 x197000 x197001 x197002 x197003)) else (spec_NewestSnap.j1 k x5 false x195000 x197000 x197001 x197002 x197003)
def spec_NewestSnap.j1 : Nat → Int → Bool → List (S63) → Int → Int → List Int → ByteArray → Option (Int × Int × List Int × ByteArray × Bool)
 | 0, _, _, _, _, _, _, _ => none
 | k + 1, x5, x18, x195000, x197000, x197001, x197002, x197003 => if x18 = true then (if 0 ≤ x5 then (if x5 < (x195000.length : Int) then ((spec_l08Index.f k ((rd_T63 x195000 x5).f0)).bind fun t199 => ((spec_ReadSnap.f k ((rd_T63 x195000 x5).f1)).bind fun bt201 => (if t199 ≥ 0 then (if bt201.2.2.2.2 = true then (if bt201.1 = t199 then (if t199 > x197000 then (spec_NewestSnap.l0 k (wrap64 (x5 + 1)) x195000 bt201.1 bt201.2.1 bt201.2.2.1 bt201.2.2.2.1) else (spec_NewestSnap.l0 k (wrap64 (x5 + 1)) x195000 x197000 x197001 x197002 x197003)) else (spec_NewestSnap.l0 k (wrap64 (x5 + 1)) x195000 x197000 x197001 x197002 x197003)) else (spec_NewestSnap.l0 k (wrap64 (x5 + 1)) x195000 x197000 x197001 x197002 x197003)) else (spec_NewestSnap.l0 k (wrap64 (x5 + 1)) x195000 x197000 x197001 x197002 x197003)))) else (none)) else (none)) else (if x197000 < 0 then (some (0, 0, ([] : List Int), (⟨#[]⟩ : ByteArray), false)) else (some (x197000, x197001, x197002, x197003, true)))
end
def spec_NewestSnap.f (k : Nat) (l0_0 : List (S63)) : Option (Int × Int × List Int × ByteArray × Bool) := spec_NewestSnap.l0 k 0 l0_0 (-1) 0 ([] : List Int) (⟨#[]⟩ : ByteArray)
theorem spec_NewestSnap.mono_l : ∀ k, (∀ y0 y1 y2 y3 y4 y5, LeO (spec_NewestSnap.l0 k y0 y1 y2 y3 y4 y5) (spec_NewestSnap.l0 (k + 1) y0 y1 y2 y3 y4 y5)) ∧ (∀ y0 y1 y2 y3 y4 y5 y6, LeO (spec_NewestSnap.j1 k y0 y1 y2 y3 y4 y5 y6) (spec_NewestSnap.j1 (k + 1) y0 y1 y2 y3 y4 y5 y6))
 | 0 => ⟨fun _ _ _ _ _ _ r h => by simp [spec_NewestSnap.l0] at h, fun _ _ _ _ _ _ _ r h => by simp [spec_NewestSnap.j1] at h⟩
 | k + 1 => by
  obtain ⟨ih0, ih1⟩ := spec_NewestSnap.mono_l k
  refine ⟨?_, ?_⟩
  ·intro y0 y1 y2 y3 y4 y5
   unfold spec_NewestSnap.l0
   repeat' first
   | (with_reducible exact ih0 _ _ _ _ _ _)
   | (with_reducible exact ih1 _ _ _ _ _ _ _)
   | (with_reducible exact spec_DiskOk.mono _ _)
   | (with_reducible exact spec_ReadSnap.mono _ _)
   | (with_reducible exact spec_l08Index.mono _ _)
   | (with_reducible exact LeO.refl _)
   | (with_reducible exact LeO.none _)
   | (with_reducible refine LeO.ite ?_ ?_)
   | (with_reducible refine LeO.bind ?_ (fun _ => ?_))
   | exact ih0 _ _ _ _ _ _
   | exact ih1 _ _ _ _ _ _ _
   | exact spec_DiskOk.mono _ _
   | exact spec_ReadSnap.mono _ _
   | exact spec_l08Index.mono _ _
   | exact LeO.none _
   | refine LeO.ite ?_ ?_
   | refine LeO.bind ?_ (fun _ => ?_)
  ·intro y0 y1 y2 y3 y4 y5 y6
   unfold spec_NewestSnap.j1
   repeat' first
   | (with_reducible exact ih0 _ _ _ _ _ _)
   | (with_reducible exact ih1 _ _ _ _ _ _ _)
   | (with_reducible exact spec_DiskOk.mono _ _)
   | (with_reducible exact spec_ReadSnap.mono _ _)
   | (with_reducible exact spec_l08Index.mono _ _)
   | (with_reducible exact LeO.refl _)
   | (with_reducible exact LeO.none _)
   | (with_reducible refine LeO.ite ?_ ?_)
   | (with_reducible refine LeO.bind ?_ (fun _ => ?_))
   | exact ih0 _ _ _ _ _ _
   | exact ih1 _ _ _ _ _ _ _
   | exact spec_DiskOk.mono _ _
   | exact spec_ReadSnap.mono _ _
   | exact spec_l08Index.mono _ _
   | exact LeO.none _
   | refine LeO.ite ?_ ?_
   | refine LeO.bind ?_ (fun _ => ?_)
theorem spec_NewestSnap.mono : ∀ a0 k, LeO (spec_NewestSnap.f k a0) (spec_NewestSnap.f (k + 1) a0) := by
 intro a0 k
 obtain ⟨ih0, ih1⟩ := spec_NewestSnap.mono_l k
 unfold spec_NewestSnap.f
 repeat' first
   | (with_reducible exact ih0 _ _ _ _ _ _)
   | (with_reducible exact ih1 _ _ _ _ _ _ _)
   | (with_reducible exact spec_DiskOk.mono _ _)
   | (with_reducible exact spec_ReadSnap.mono _ _)
   | (with_reducible exact spec_l08Index.mono _ _)
   | (with_reducible exact LeO.refl _)
   | (with_reducible exact LeO.none _)
   | (with_reducible refine LeO.ite ?_ ?_)
   | (with_reducible refine LeO.bind ?_ (fun _ => ?_))
   | exact ih0 _ _ _ _ _ _
   | exact ih1 _ _ _ _ _ _ _
   | exact spec_DiskOk.mono _ _
   | exact spec_ReadSnap.mono _ _
   | exact spec_l08Index.mono _ _
   | exact LeO.none _
   | refine LeO.ite ?_ ?_
   | refine LeO.bind ?_ (fun _ => ?_)
set_option maxHeartbeats 8000000 in
set_option maxRecDepth 100000 in
theorem spec_NewestSnap.calls (k : Nat) (A0_0 : Option Addr) (c0_0 : Nat) (l0_0 : List (S63)) (r1 : Int) (r2 : Int) (r3 : List Int) (r4 : ByteArray) (r5 : Bool) (w : World) (hr0_0 : Kd.C k63 w A0_0 l0_0.length l0_0) (hc0_0 : l0_0.length ≤ c0_0) (h : spec_NewestSnap.f k l0_0 = some (r1, r2, r3, r4, r5)) :
  Calls Tryz.prog 27 #[.agg #[.slice A0_0 l0_0.length c0_0]] w fun e w' => ∃ v2_ : Value, e = .returned (.tuple #[.agg #[.int .i64 r1, .int .i64 r2, v2_, .string r4], .bool r5]) ∧ Kd.R (Kd.int .i64) 3 w' w.heap.size (fun _ => True) v2_ r3 ∧ Below w.heap.size w w' := by
 have hu30 := Tryz.underlying30
 have hu52 := Tryz.underlying52
 have HR0_0 := Aside0.mk hr0_0
 have HC0_0 := Aside0.mk hc0_0
 clear hr0_0 hc0_0
 have HB := Aside0.mk (Below.refl w.heap.size w)
 have H : (spec_NewestSnap.l0 k 0 l0_0 (-1) 0 ([] : List Int) (⟨#[]⟩ : ByteArray)) = some (r1, r2, r3, r4, r5) := h
 clear h
 have H' := Aside0.mk H
 clear H
 go_enter Tryz.func27, Tryz.ntmps27
 go_wp2_with (first | ((with_reducible refine gate_dst (N := 1) rfl ?_); refine box_event rfl (N := 1) rfl (cs := #[.slice A0_0 l0_0.length c0_0]) (t := 30) zrun ?_; intro gb194 hg w2 hbox hb; have BK194 := am (hbox); have GE194 := zge hg (zb0 HB.out); replace HB := zs0 hb HB; clear hb hbox hg) | ((with_reducible refine gate_dst (N := 2) rfl ?_); refine box_event rfl (N := 2) rfl (cs := #[.int .i64 0, .int .i64 0, .slice none 0 0, .string (⟨#[]⟩ : ByteArray)]) (t := 52) zrun ?_; intro gb195 hg w3 hbox hb; have BK195 := am (hbox); have GE195 := zge hg (zb1 HB.out GE194.out); obtain ⟨NB194_195, NB195_194⟩ := zne hg BK194; replace BK194 := zk hb BK194; replace HB := zs1 hb HB GE194; clear hb hbox hg) | ((with_reducible refine gate_dst (N := 4) rfl ?_); refine box_event rfl (N := 4) rfl (cs := #[.int .i64 0, .int .i64 0, .slice none 0 0, .string (⟨#[]⟩ : ByteArray)]) (t := 52) zrun ?_; intro gb196 hg w4 hbox hb; have BK196 := am (hbox); have GE196 := zge hg (zb2 HB.out GE194.out GE195.out); obtain ⟨NB194_196, NB196_194⟩ := zne hg BK194; obtain ⟨NB195_196, NB196_195⟩ := zne hg BK195; replace BK194 := zk hb BK194; replace BK195 := zk hb BK195; replace HB := zs2 hb HB GE194 GE195; clear hb hbox hg; obtain ⟨hnb5, hnc5⟩ := zn2 NB196_194; obtain ⟨hnb6, hnc6⟩ := zn2 NB196_195; obtain ⟨hcz7_0, hcz7_1, hcz7_2, hcz7_3, hfz7_0, hfz7_1, hfz7_2, hfz7_3⟩ := zc4 BK196.out))
 go_loopg [5] k (fun kq v5 w' => ∃ (x5_1 : Int) (x197000_1 : Int) (x197001_1 : Int) (x197002_1 : List Int) (x197003_1 : ByteArray) (u197002 : Value), v5 = .int .i64 x5_1 ∧ Aside0 (spec_NewestSnap.l0 kq x5_1 l0_0 x197000_1 x197001_1 x197002_1 x197003_1 = some (r1, r2, r3, r4, r5)) ∧ Aside0 (kq ≤ k) ∧ Aside0 (Kd.R (Kd.int .i64) 3 w' w.heap.size (fun _ => True) u197002 x197002_1) ∧ Aside0 (w'.heap[gb194]? = some (.cells #[(.slice A0_0 l0_0.length c0_0)] 30 (0, 0))) ∧ Aside0 (w'.heap[gb195]? = some (.cells #[.int .i64 0, .int .i64 0, (.slice none 0 0), .string (⟨#[]⟩ : ByteArray)] 52 (0, 0))) ∧ Aside0 (w'.heap[gb196]? = some (.cells #[.int .i64 x197000_1, .int .i64 x197001_1, u197002, .string x197003_1] 52 (0, 0))) ∧ Aside0 (Below w.heap.size w w'))
 case atStart => exact ⟨(0), ((-1)), (0), (([] : List Int)), ((⟨#[]⟩ : ByteArray)), (.slice none 0 0), (by first | rfl | (simp; done) | (simp [*]; done)), H', ⟨Nat.le_refl _⟩, ⟨by first | exact Kd.R_nil _ _ _ _ _ | exact Kd.N_nil _ _ _ _ _ | exact Kd.V_nil _ _ _ _ _ | exact Kd.Q_nil _ _ _ _ _ | exact Kd.S_nil _ _ _ _ _⟩, ⟨zf1 BK194.out NB194_196.out⟩, ⟨zf1 BK195.out NB195_196.out⟩, ⟨by (with_reducible repeat (first | refine blk_drewN ?_ _ | refine blk_drew ?_ | refine blk_alloc ?_ _)); refine blk_put (cs := #[.int .i64 (-1), .int .i64 0, .slice none 0 0, .string (⟨#[]⟩ : ByteArray)]) ?_ 3 _ rfl; (with_reducible repeat (first | refine blk_drewN ?_ _ | refine blk_drew ?_ | refine blk_alloc ?_ _)); refine blk_put (cs := #[.int .i64 (-1), .int .i64 0, .slice none 0 0, .string (⟨#[]⟩ : ByteArray)]) ?_ 2 _ rfl; (with_reducible repeat (first | refine blk_drewN ?_ _ | refine blk_drew ?_ | refine blk_alloc ?_ _)); refine blk_put (cs := #[.int .i64 (-1), .int .i64 0, .slice none 0 0, .string (⟨#[]⟩ : ByteArray)]) ?_ 1 _ rfl; (with_reducible repeat (first | refine blk_drewN ?_ _ | refine blk_drew ?_ | refine blk_alloc ?_ _)); refine blk_put (cs := #[.int .i64 0, .int .i64 0, .slice none 0 0, .string (⟨#[]⟩ : ByteArray)]) ?_ 0 _ rfl; (with_reducible repeat (first | refine blk_drewN ?_ _ | refine blk_drew ?_ | refine blk_alloc ?_ _)); exact BK196.out⟩, ⟨zb3 HB.out GE194.out GE195.out GE196.out⟩⟩
 case round =>
  clear H'
  obtain ⟨x5_1, x197000_1, x197001_1, x197002_1, x197003_1, u197002, rfl, HA, HK1, HO_197002, BK194, BK195, BK196, HB⟩ := hrel
  cases gk with
  | zero => exact absurd HA.out (by simp [spec_NewestSnap.l0])
  | succ k1 =>
   have H := HA.out
   clear HA
   simp only [spec_NewestSnap.l0] at H
   have HC8 := Aside0.mk H
   clear H
   go_upto_region 3 with (fail)
   go_cut [18] (fun v18 wc => ∃ (kq : Nat) (x18_7 : Bool), v18 = .bool x18_7 ∧ Aside0 (spec_NewestSnap.j1 kq x5_1 x18_7 l0_0 x197000_1 x197001_1 x197002_1 x197003_1 = some (r1, r2, r3, r4, r5)) ∧ Aside0 (kq ≤ k1) ∧ Aside0 (Kd.R (Kd.int .i64) 3 wc w.heap.size (fun _ => True) u197002 x197002_1) ∧ Aside0 (wc.heap[gb194]? = some (.cells #[(.slice A0_0 l0_0.length c0_0)] 30 (0, 0))) ∧ Aside0 (wc.heap[gb195]? = some (.cells #[.int .i64 0, .int .i64 0, (.slice none 0 0), .string (⟨#[]⟩ : ByteArray)] 52 (0, 0))) ∧ Aside0 (wc.heap[gb196]? = some (.cells #[.int .i64 x197000_1, .int .i64 x197001_1, u197002, .string x197003_1] 52 (0, 0))) ∧ Aside0 (Below w.heap.size w wc))
   case first =>
    have H := HC8.out
    clear HC8
    by_cases c9 : x5_1 < (l0_0.length : Int)
    ·rw [if_pos c9] at H
     have c9b0 : decide (x5_1 < (l0_0.length : Int)) = true := decide_eq_true c9
     have c9b1 : decide ((l0_0.length : Int) ≤ x5_1) = false := decide_eq_false (by omega)
     clear c9
     (first | rw [c9b0] | (simp only [i64_w, i32_w]; rw [c9b0]) | skip)
     replace H := Option.bind_eq_some_iff.mp H
     obtain ⟨t197, A100, H⟩ := H
     try dsimp only at H
     have A10 := Aside0.mk A100
     clear A100
     have H' := Aside0.mk H
     clear H
     obtain ⟨hnb11, hnc11⟩ := zn2 NB194_195
     obtain ⟨hnb12, hnc12⟩ := zn2 NB194_196
     obtain ⟨hcz13_0, hfz13_0⟩ := zc1 BK194.out
     go_wp2_with (first | (go_at_call 38; (with_reducible refine (spec_DiskOk.calls k1 _ _ l0_0 t197 _ ?side1 ?side2 A10.out).mono ?_); (case side1 => repeat (first | exact (Kd.C_below HR0_0.out HB.out) | (with_reducible refine Kd.C_alloc ?_ _) | (with_reducible refine Kd.C_drewN ?_ _) | (with_reducible refine Kd.C_drew ?_))); (case side2 => exact HC0_0.out); rintro e w14 ⟨rfl, hb⟩; replace HO_197002 := am (Kd.R_below (rx HO_197002.out) hb); replace BK194 := zk hb BK194; replace BK195 := zk hb BK195; replace BK196 := zk hb BK196; replace HB := zs3 hb HB GE194 GE195 GE196; clear hb))
     go_meet
     case rel => exact ⟨_, (t197), (by first | rfl | (simp; done) | (simp [*]; done)), H', ⟨by have := HK1.out; first | omega | exact Nat.le_refl _⟩, ⟨rx HO_197002.out⟩, ⟨kx BK194.out⟩, ⟨kx BK195.out⟩, ⟨kx BK196.out⟩, ⟨zb3 HB.out GE194.out GE195.out GE196.out⟩⟩
    ·rw [if_neg c9] at H
     have c9b0 : decide (x5_1 < (l0_0.length : Int)) = false := decide_eq_false c9
     have c9b1 : decide ((l0_0.length : Int) ≤ x5_1) = true := decide_eq_true (by omega)
     clear c9
     (first | rw [c9b0] | (simp only [i64_w, i32_w]; rw [c9b0]) | skip)
     have H' := Aside0.mk H
     clear H
     obtain ⟨hnb15, hnc15⟩ := zn2 NB194_195
     obtain ⟨hnb16, hnc16⟩ := zn2 NB194_196
     obtain ⟨hcz17_0, hfz17_0⟩ := zc1 BK194.out
     go_wp2
     go_meet
     case rel => exact ⟨_, (false), (by first | rfl | (simp; done) | (simp [*]; done)), H', ⟨by have := HK1.out; first | omega | exact Nat.le_refl _⟩, ⟨rx HO_197002.out⟩, ⟨kx BK194.out⟩, ⟨kx BK195.out⟩, ⟨kx BK196.out⟩, ⟨zb3 HB.out GE194.out GE195.out GE196.out⟩⟩
   case rest =>
    clear HC8
    obtain ⟨kq, x18_7, rfl, HA, HJ7, HO_197002, BK194, BK195, BK196, HB⟩ := hcut
    cases kq with
    | zero => exact absurd HA.out (by simp [spec_NewestSnap.j1])
    | succ kj7 =>
     have H := HA.out
     clear HA
     simp only [spec_NewestSnap.j1] at H
     by_cases c18 : x18_7 = true
     ·subst c18
      have H1 : (if 0 ≤ x5_1 then (if x5_1 < (l0_0.length : Int) then ((spec_l08Index.f kj7 ((rd_T63 l0_0 x5_1).f0)).bind fun t199 => ((spec_ReadSnap.f kj7 ((rd_T63 l0_0 x5_1).f1)).bind fun bt201 => (if t199 ≥ 0 then (if bt201.2.2.2.2 = true then (if bt201.1 = t199 then (if t199 > x197000_1 then (spec_NewestSnap.l0 kj7 (wrap64 (x5_1 + 1)) l0_0 bt201.1 bt201.2.1 bt201.2.2.1 bt201.2.2.2.1) else (spec_NewestSnap.l0 kj7 (wrap64 (x5_1 + 1)) l0_0 x197000_1 x197001_1 x197002_1 x197003_1)) else (spec_NewestSnap.l0 kj7 (wrap64 (x5_1 + 1)) l0_0 x197000_1 x197001_1 x197002_1 x197003_1)) else (spec_NewestSnap.l0 kj7 (wrap64 (x5_1 + 1)) l0_0 x197000_1 x197001_1 x197002_1 x197003_1)) else (spec_NewestSnap.l0 kj7 (wrap64 (x5_1 + 1)) l0_0 x197000_1 x197001_1 x197002_1 x197003_1)))) else (none)) else (none)) = some (r1, r2, r3, r4, r5) := by rw [if_pos rfl] at H; exact H
      clear H
      have H := H1
      clear H1
      by_cases c19 : 0 ≤ x5_1
      ·rw [if_pos c19] at H
       have c19b0 : decide (0 ≤ x5_1) = true := decide_eq_true c19
       clear c19
       by_cases c20 : x5_1 < (l0_0.length : Int)
       ·rw [if_pos c20] at H
        have c20b0 : decide (x5_1 < (l0_0.length : Int)) = true := decide_eq_true c20
        have c20b1 : decide ((l0_0.length : Int) ≤ x5_1) = false := decide_eq_false (by omega)
        clear c20
        replace H := Option.bind_eq_some_iff.mp H
        obtain ⟨t199, A210, H⟩ := H
        try dsimp only at H
        have A21 := Aside0.mk A210
        clear A210
        replace H := Option.bind_eq_some_iff.mp H
        obtain ⟨⟨t201, t202, t203, t206, t207⟩, A220, H⟩ := H
        try dsimp only at H
        have A22 := Aside0.mk A220
        clear A220
        by_cases c23 : t199 ≥ 0
        ·rw [if_pos c23] at H
         have c23b0 : decide (0 ≤ t199) = true := decide_eq_true c23
         clear c23
         by_cases c24 : t207 = true
         ·subst c24
          have H1 : (if t201 = t199 then (if t199 > x197000_1 then (spec_NewestSnap.l0 kj7 (wrap64 (x5_1 + 1)) l0_0 t201 t202 t203 t206) else (spec_NewestSnap.l0 kj7 (wrap64 (x5_1 + 1)) l0_0 x197000_1 x197001_1 x197002_1 x197003_1)) else (spec_NewestSnap.l0 kj7 (wrap64 (x5_1 + 1)) l0_0 x197000_1 x197001_1 x197002_1 x197003_1)) = some (r1, r2, r3, r4, r5) := by rw [if_pos rfl] at H; exact H
          clear H
          have H := H1
          clear H1
          by_cases c25 : t201 = t199
          ·rw [if_pos c25] at H
           have c25b0 : (t201 == t199) = true := beq_iff_eq.mpr c25
           have c25b1 : (t201 != t199) = false := bne_eq_false_iff_eq.mpr c25
           clear c25
           by_cases c26 : t199 > x197000_1
           ·rw [if_pos c26] at H
            have c26b0 : decide (x197000_1 < t199) = true := decide_eq_true c26
            have c26b1 : decide (t199 ≤ x197000_1) = false := decide_eq_false (by omega)
            clear c26
            have H' := Aside0.mk H
            clear H
            obtain ⟨hnb27, hnc27⟩ := zn2 NB194_195
            obtain ⟨hnb28, hnc28⟩ := zn2 NB194_196
            obtain ⟨hcz29_0, hfz29_0⟩ := zc1 BK194.out
            have p198 : 0 ≤ (x5_1 : Int) := of_decide_eq_true (by first | (with_reducible assumption) | assumption)
            have q198 : x5_1 < (l0_0.length : Int) := of_decide_eq_true (by first | (with_reducible assumption) | assumption)
            obtain ⟨ad198, e198, hx198_0, hx198_1, hx198_2⟩ := at_T63 HR0_0.out x5_1 p198 q198
            cases e198
            replace hx198_0 := (HB.out.cell (World.block_lt_of_cell? w _ hx198_0)).trans hx198_0
            replace hx198_1 := (HB.out.cell (World.block_lt_of_cell? w _ hx198_1)).trans hx198_1
            replace hx198_2 := (HB.out.cell (World.block_lt_of_cell? w _ hx198_2)).trans hx198_2
            replace p198 := eq_true p198
            replace q198 := eq_true q198
            go_wp2_with (first | ((with_reducible refine gate_callee (f := 64) rfl ?_); refine goesL_ (some 27) rfl rfl Tryz.func64 (by kernel_rfl) rfl #[.string ((rd_T63 l0_0 x5_1).f0)] rfl zr ?_; (with_reducible refine (spec_l08Index.calls kj7 ((rd_T63 l0_0 x5_1).f0) t199 _ A21.out).mono ?_); rintro e w30 ⟨rfl, hb⟩; refine ⟨_, rfl, ?_⟩; replace HO_197002 := am (Kd.R_below (rx HO_197002.out) hb); replace BK194 := zk hb BK194; replace BK195 := zk hb BK195; replace BK196 := zk hb BK196; replace HB := zs3 hb HB GE194 GE195 GE196; clear hb; obtain ⟨hcz31_0, hfz31_0⟩ := zc1 BK194.out; have p200 : 0 ≤ (x5_1 : Int) := of_decide_eq_true (by first | (with_reducible assumption) | assumption); have q200 : x5_1 < (l0_0.length : Int) := of_decide_eq_true (by first | (with_reducible assumption) | assumption); obtain ⟨ad200, e200, hx200_0, hx200_1, hx200_2⟩ := at_T63 HR0_0.out x5_1 p200 q200; obtain rfl : ad198 = ad200 := (by injection e200); replace hx200_0 := (HB.out.cell (World.block_lt_of_cell? w _ hx200_0)).trans hx200_0; replace hx200_1 := (HB.out.cell (World.block_lt_of_cell? w _ hx200_1)).trans hx200_1; replace hx200_2 := (HB.out.cell (World.block_lt_of_cell? w _ hx200_2)).trans hx200_2; replace p200 := eq_true p200; replace q200 := eq_true q200) | ((with_reducible refine gate_callee (f := 65) rfl ?_); refine goesL_ (some 35) rfl rfl Tryz.func65 (by kernel_rfl) rfl #[.string ((rd_T63 l0_0 x5_1).f1)] rfl zr ?_; (with_reducible refine (spec_ReadSnap.calls kj7 ((rd_T63 l0_0 x5_1).f1) t201 t202 t203 t206 true _ A22.out).mono ?_); rintro e w32 ⟨v204, rfl, ho0, hb⟩; refine ⟨_, rfl, ?_⟩; have HO205 := am (Kd.R_lower (Kd.R_new' ho0 (Kd.R_lt (rx HO_197002.out))) (below_size (zb3 HB.out GE194.out GE195.out GE196.out))); replace HO_197002 := am (Kd.R_elder' (rx HO_197002.out) (Kd.R_base ho0) hb); replace BK194 := zk hb BK194; replace BK195 := zk hb BK195; replace BK196 := zk hb BK196; replace HB := zs3 hb HB GE194 GE195 GE196; clear hb ho0) | ((with_reducible refine gate_dst (N := 7) rfl ?_); refine box_event rfl (N := 7) rfl (cs := #[.int .i64 0, .int .i64 0, .slice none 0 0, .string (⟨#[]⟩ : ByteArray)]) (t := 52) zrun ?_; intro gb208 hg w33 hbox hb; have BK208 := am (hbox); have GW208 := zge hg (zb3 HB.out GE194.out GE195.out GE196.out); have GE208 := zge hg (zb3 HB.out GE194.out GE195.out GE196.out); obtain ⟨NB194_208, NB208_194⟩ := zne hg BK194; obtain ⟨NB195_208, NB208_195⟩ := zne hg BK195; obtain ⟨NB196_208, NB208_196⟩ := zne hg BK196; replace HO_197002 := am (Kd.R_below (rx HO_197002.out) hb); replace HO205 := am (Kd.R_below (rx HO205.out) hb); replace BK194 := zk hb BK194; replace BK195 := zk hb BK195; replace BK196 := zk hb BK196; replace HB := zs3 hb HB GE194 GE195 GE196; clear hb hbox hg; obtain ⟨hnb34, hnc34⟩ := zn2 NB208_194; obtain ⟨hnb35, hnc35⟩ := zn2 NB208_195; obtain ⟨hnb36, hnc36⟩ := zn2 NB208_196; obtain ⟨hcz37_0, hcz37_1, hcz37_2, hcz37_3, hfz37_0, hfz37_1, hfz37_2, hfz37_3⟩ := zc4 BK208.out; obtain ⟨Ao38, co38, eo38⟩ := Kd.R_slice HO205.out; subst eo38; obtain ⟨hnb39, hnc39⟩ := zn2 NB196_195; obtain ⟨hcz40_0, hcz40_1, hcz40_2, hcz40_3, hfz40_0, hfz40_1, hfz40_2, hfz40_3⟩ := zc4 BK196.out))
            go_roundg kj7
            case measure => have := HK1.out; have := HJ7.out; omega
            case rel => exact ⟨(wrap64 (x5_1 + 1)), (t201), (t202), (t203), (t206), (.slice Ao38 t203.length co38), (by first | rfl | (simp; done) | (simp [*]; done)), H', ⟨by have := HK1.out; have := HJ7.out; omega⟩, ⟨rx (Kd.R_mono (Kd.R_far (p := ⟨gb196, 3, none⟩) (Kd.R_far (p := ⟨gb196, 2, none⟩) (Kd.R_far (p := ⟨gb196, 1, none⟩) (Kd.R_far (p := ⟨gb196, 0, none⟩) (Kd.R_far (p := ⟨gb208, 3, none⟩) (Kd.R_far (p := ⟨gb208, 2, none⟩) (Kd.R_far (p := ⟨gb208, 1, none⟩) (Kd.R_far (p := ⟨gb208, 0, none⟩) (Kd.R_types (Kd.R_types HO205.out BK208.out (by decide)) BK196.out (by decide)) (fun _ hk => hk.1.2) (.int .i64 t201)) (fun _ hk => hk.1.2) (.int .i64 t202)) (fun _ hk => hk.1.2) (.slice Ao38 t203.length co38)) (fun _ hk => hk.1.2) (.string t206)) (fun _ hk => hk.2) (.int .i64 t201)) (fun _ hk => hk.2) (.int .i64 t202)) (fun _ hk => hk.2) (.slice Ao38 t203.length co38)) (fun _ hk => hk.2) (.string t206)) (fun _ hk => trivial))⟩, ⟨zf2 BK194.out NB194_196.out NB194_208.out⟩, ⟨zf2 BK195.out NB195_196.out NB195_208.out⟩, ⟨by (with_reducible repeat (first | refine blk_drewN ?_ _ | refine blk_drew ?_ | refine blk_alloc ?_ _)); refine blk_put (cs := #[.int .i64 t201, .int .i64 t202, .slice Ao38 t203.length co38, .string x197003_1]) ?_ 3 _ rfl; (with_reducible repeat (first | refine blk_drewN ?_ _ | refine blk_drew ?_ | refine blk_alloc ?_ _)); refine blk_put (cs := #[.int .i64 t201, .int .i64 t202, u197002, .string x197003_1]) ?_ 2 _ rfl; (with_reducible repeat (first | refine blk_drewN ?_ _ | refine blk_drew ?_ | refine blk_alloc ?_ _)); refine blk_put (cs := #[.int .i64 t201, .int .i64 x197001_1, u197002, .string x197003_1]) ?_ 1 _ rfl; (with_reducible repeat (first | refine blk_drewN ?_ _ | refine blk_drew ?_ | refine blk_alloc ?_ _)); refine blk_put (cs := #[.int .i64 x197000_1, .int .i64 x197001_1, u197002, .string x197003_1]) ?_ 0 _ rfl; (with_reducible repeat (first | refine blk_drewN ?_ _ | refine blk_drew ?_ | refine blk_alloc ?_ _)); refine blk_far ?_ NB196_208.out _; (with_reducible repeat (first | refine blk_drewN ?_ _ | refine blk_drew ?_ | refine blk_alloc ?_ _)); refine blk_far ?_ NB196_208.out _; (with_reducible repeat (first | refine blk_drewN ?_ _ | refine blk_drew ?_ | refine blk_alloc ?_ _)); refine blk_far ?_ NB196_208.out _; (with_reducible repeat (first | refine blk_drewN ?_ _ | refine blk_drew ?_ | refine blk_alloc ?_ _)); refine blk_far ?_ NB196_208.out _; (with_reducible repeat (first | refine blk_drewN ?_ _ | refine blk_drew ?_ | refine blk_alloc ?_ _)); exact BK196.out⟩, ⟨zb4 HB.out GE194.out GE195.out GE196.out GE208.out⟩⟩
           ·rw [if_neg c26] at H
            have c26b0 : decide (x197000_1 < t199) = false := decide_eq_false c26
            have c26b1 : decide (t199 ≤ x197000_1) = true := decide_eq_true (by omega)
            clear c26
            have H' := Aside0.mk H
            clear H
            obtain ⟨hnb41, hnc41⟩ := zn2 NB194_195
            obtain ⟨hnb42, hnc42⟩ := zn2 NB194_196
            obtain ⟨hcz43_0, hfz43_0⟩ := zc1 BK194.out
            have p198 : 0 ≤ (x5_1 : Int) := of_decide_eq_true (by first | (with_reducible assumption) | assumption)
            have q198 : x5_1 < (l0_0.length : Int) := of_decide_eq_true (by first | (with_reducible assumption) | assumption)
            obtain ⟨ad198, e198, hx198_0, hx198_1, hx198_2⟩ := at_T63 HR0_0.out x5_1 p198 q198
            cases e198
            replace hx198_0 := (HB.out.cell (World.block_lt_of_cell? w _ hx198_0)).trans hx198_0
            replace hx198_1 := (HB.out.cell (World.block_lt_of_cell? w _ hx198_1)).trans hx198_1
            replace hx198_2 := (HB.out.cell (World.block_lt_of_cell? w _ hx198_2)).trans hx198_2
            replace p198 := eq_true p198
            replace q198 := eq_true q198
            go_wp2_with (first | ((with_reducible refine gate_callee (f := 64) rfl ?_); refine goesL_ (some 27) rfl rfl Tryz.func64 (by kernel_rfl) rfl #[.string ((rd_T63 l0_0 x5_1).f0)] rfl zr ?_; (with_reducible refine (spec_l08Index.calls kj7 ((rd_T63 l0_0 x5_1).f0) t199 _ A21.out).mono ?_); rintro e w44 ⟨rfl, hb⟩; refine ⟨_, rfl, ?_⟩; replace HO_197002 := am (Kd.R_below (rx HO_197002.out) hb); replace BK194 := zk hb BK194; replace BK195 := zk hb BK195; replace BK196 := zk hb BK196; replace HB := zs3 hb HB GE194 GE195 GE196; clear hb; obtain ⟨hcz45_0, hfz45_0⟩ := zc1 BK194.out; have p200 : 0 ≤ (x5_1 : Int) := of_decide_eq_true (by first | (with_reducible assumption) | assumption); have q200 : x5_1 < (l0_0.length : Int) := of_decide_eq_true (by first | (with_reducible assumption) | assumption); obtain ⟨ad200, e200, hx200_0, hx200_1, hx200_2⟩ := at_T63 HR0_0.out x5_1 p200 q200; obtain rfl : ad198 = ad200 := (by injection e200); replace hx200_0 := (HB.out.cell (World.block_lt_of_cell? w _ hx200_0)).trans hx200_0; replace hx200_1 := (HB.out.cell (World.block_lt_of_cell? w _ hx200_1)).trans hx200_1; replace hx200_2 := (HB.out.cell (World.block_lt_of_cell? w _ hx200_2)).trans hx200_2; replace p200 := eq_true p200; replace q200 := eq_true q200) | ((with_reducible refine gate_callee (f := 65) rfl ?_); refine goesL_ (some 35) rfl rfl Tryz.func65 (by kernel_rfl) rfl #[.string ((rd_T63 l0_0 x5_1).f1)] rfl zr ?_; (with_reducible refine (spec_ReadSnap.calls kj7 ((rd_T63 l0_0 x5_1).f1) t201 t202 t203 t206 true _ A22.out).mono ?_); rintro e w46 ⟨v204, rfl, ho0, hb⟩; refine ⟨_, rfl, ?_⟩; have HO205 := am (Kd.R_lower (Kd.R_new' ho0 (Kd.R_lt (rx HO_197002.out))) (below_size (zb3 HB.out GE194.out GE195.out GE196.out))); replace HO_197002 := am (Kd.R_elder' (rx HO_197002.out) (Kd.R_base ho0) hb); replace BK194 := zk hb BK194; replace BK195 := zk hb BK195; replace BK196 := zk hb BK196; replace HB := zs3 hb HB GE194 GE195 GE196; clear hb ho0) | ((with_reducible refine gate_dst (N := 7) rfl ?_); refine box_event rfl (N := 7) rfl (cs := #[.int .i64 0, .int .i64 0, .slice none 0 0, .string (⟨#[]⟩ : ByteArray)]) (t := 52) zrun ?_; intro gb208 hg w47 hbox hb; have BK208 := am (hbox); have GW208 := zge hg (zb3 HB.out GE194.out GE195.out GE196.out); have GE208 := zge hg (zb3 HB.out GE194.out GE195.out GE196.out); obtain ⟨NB194_208, NB208_194⟩ := zne hg BK194; obtain ⟨NB195_208, NB208_195⟩ := zne hg BK195; obtain ⟨NB196_208, NB208_196⟩ := zne hg BK196; replace HO_197002 := am (Kd.R_below (rx HO_197002.out) hb); replace HO205 := am (Kd.R_below (rx HO205.out) hb); replace BK194 := zk hb BK194; replace BK195 := zk hb BK195; replace BK196 := zk hb BK196; replace HB := zs3 hb HB GE194 GE195 GE196; clear hb hbox hg; obtain ⟨hnb48, hnc48⟩ := zn2 NB208_194; obtain ⟨hnb49, hnc49⟩ := zn2 NB208_195; obtain ⟨hnb50, hnc50⟩ := zn2 NB208_196; obtain ⟨hcz51_0, hcz51_1, hcz51_2, hcz51_3, hfz51_0, hfz51_1, hfz51_2, hfz51_3⟩ := zc4 BK208.out; obtain ⟨Ao52, co52, eo52⟩ := Kd.R_slice HO205.out; subst eo52; obtain ⟨hnb53, hnc53⟩ := zn2 NB196_195; obtain ⟨hcz54_0, hcz54_1, hcz54_2, hcz54_3, hfz54_0, hfz54_1, hfz54_2, hfz54_3⟩ := zc4 BK196.out))
            go_roundg kj7
            case measure => have := HK1.out; have := HJ7.out; omega
            case rel => exact ⟨(wrap64 (x5_1 + 1)), (x197000_1), (x197001_1), (x197002_1), (x197003_1), (u197002), (by first | rfl | (simp; done) | (simp [*]; done)), H', ⟨by have := HK1.out; have := HJ7.out; omega⟩, ⟨rx (Kd.R_mono (Kd.R_far (p := ⟨gb208, 3, none⟩) (Kd.R_far (p := ⟨gb208, 2, none⟩) (Kd.R_far (p := ⟨gb208, 1, none⟩) (Kd.R_far (p := ⟨gb208, 0, none⟩) (Kd.R_types HO_197002.out BK208.out (by decide)) (fun _ hk => hk.2) (.int .i64 t201)) (fun _ hk => hk.2) (.int .i64 t202)) (fun _ hk => hk.2) (.slice Ao52 t203.length co52)) (fun _ hk => hk.2) (.string t206)) (fun _ hk => trivial))⟩, ⟨zf1 BK194.out NB194_208.out⟩, ⟨zf1 BK195.out NB195_208.out⟩, ⟨zf1 BK196.out NB196_208.out⟩, ⟨zb4 HB.out GE194.out GE195.out GE196.out GE208.out⟩⟩
          ·rw [if_neg c25] at H
           have c25b0 : (t201 == t199) = false := beq_eq_false_iff_ne.mpr c25
           have c25b1 : (t201 != t199) = true := bne_iff_ne.mpr c25
           have H' := Aside0.mk H
           clear H
           obtain ⟨hnb55, hnc55⟩ := zn2 NB194_195
           obtain ⟨hnb56, hnc56⟩ := zn2 NB194_196
           obtain ⟨hcz57_0, hfz57_0⟩ := zc1 BK194.out
           have p198 : 0 ≤ (x5_1 : Int) := of_decide_eq_true (by first | (with_reducible assumption) | assumption)
           have q198 : x5_1 < (l0_0.length : Int) := of_decide_eq_true (by first | (with_reducible assumption) | assumption)
           obtain ⟨ad198, e198, hx198_0, hx198_1, hx198_2⟩ := at_T63 HR0_0.out x5_1 p198 q198
           cases e198
           replace hx198_0 := (HB.out.cell (World.block_lt_of_cell? w _ hx198_0)).trans hx198_0
           replace hx198_1 := (HB.out.cell (World.block_lt_of_cell? w _ hx198_1)).trans hx198_1
           replace hx198_2 := (HB.out.cell (World.block_lt_of_cell? w _ hx198_2)).trans hx198_2
           replace p198 := eq_true p198
           replace q198 := eq_true q198
           go_wp2_with (first | ((with_reducible refine gate_callee (f := 64) rfl ?_); refine goesL_ (some 27) rfl rfl Tryz.func64 (by kernel_rfl) rfl #[.string ((rd_T63 l0_0 x5_1).f0)] rfl zr ?_; (with_reducible refine (spec_l08Index.calls kj7 ((rd_T63 l0_0 x5_1).f0) t199 _ A21.out).mono ?_); rintro e w58 ⟨rfl, hb⟩; refine ⟨_, rfl, ?_⟩; replace HO_197002 := am (Kd.R_below (rx HO_197002.out) hb); replace BK194 := zk hb BK194; replace BK195 := zk hb BK195; replace BK196 := zk hb BK196; replace HB := zs3 hb HB GE194 GE195 GE196; clear hb; obtain ⟨hcz59_0, hfz59_0⟩ := zc1 BK194.out; have p200 : 0 ≤ (x5_1 : Int) := of_decide_eq_true (by first | (with_reducible assumption) | assumption); have q200 : x5_1 < (l0_0.length : Int) := of_decide_eq_true (by first | (with_reducible assumption) | assumption); obtain ⟨ad200, e200, hx200_0, hx200_1, hx200_2⟩ := at_T63 HR0_0.out x5_1 p200 q200; obtain rfl : ad198 = ad200 := (by injection e200); replace hx200_0 := (HB.out.cell (World.block_lt_of_cell? w _ hx200_0)).trans hx200_0; replace hx200_1 := (HB.out.cell (World.block_lt_of_cell? w _ hx200_1)).trans hx200_1; replace hx200_2 := (HB.out.cell (World.block_lt_of_cell? w _ hx200_2)).trans hx200_2; replace p200 := eq_true p200; replace q200 := eq_true q200) | ((with_reducible refine gate_callee (f := 65) rfl ?_); refine goesL_ (some 35) rfl rfl Tryz.func65 (by kernel_rfl) rfl #[.string ((rd_T63 l0_0 x5_1).f1)] rfl zr ?_; (with_reducible refine (spec_ReadSnap.calls kj7 ((rd_T63 l0_0 x5_1).f1) t201 t202 t203 t206 true _ A22.out).mono ?_); rintro e w60 ⟨v204, rfl, ho0, hb⟩; refine ⟨_, rfl, ?_⟩; have HO205 := am (Kd.R_lower (Kd.R_new' ho0 (Kd.R_lt (rx HO_197002.out))) (below_size (zb3 HB.out GE194.out GE195.out GE196.out))); replace HO_197002 := am (Kd.R_elder' (rx HO_197002.out) (Kd.R_base ho0) hb); replace BK194 := zk hb BK194; replace BK195 := zk hb BK195; replace BK196 := zk hb BK196; replace HB := zs3 hb HB GE194 GE195 GE196; clear hb ho0) | ((with_reducible refine gate_dst (N := 7) rfl ?_); refine box_event rfl (N := 7) rfl (cs := #[.int .i64 0, .int .i64 0, .slice none 0 0, .string (⟨#[]⟩ : ByteArray)]) (t := 52) zrun ?_; intro gb208 hg w61 hbox hb; have BK208 := am (hbox); have GW208 := zge hg (zb3 HB.out GE194.out GE195.out GE196.out); have GE208 := zge hg (zb3 HB.out GE194.out GE195.out GE196.out); obtain ⟨NB194_208, NB208_194⟩ := zne hg BK194; obtain ⟨NB195_208, NB208_195⟩ := zne hg BK195; obtain ⟨NB196_208, NB208_196⟩ := zne hg BK196; replace HO_197002 := am (Kd.R_below (rx HO_197002.out) hb); replace HO205 := am (Kd.R_below (rx HO205.out) hb); replace BK194 := zk hb BK194; replace BK195 := zk hb BK195; replace BK196 := zk hb BK196; replace HB := zs3 hb HB GE194 GE195 GE196; clear hb hbox hg; obtain ⟨hnb62, hnc62⟩ := zn2 NB208_194; obtain ⟨hnb63, hnc63⟩ := zn2 NB208_195; obtain ⟨hnb64, hnc64⟩ := zn2 NB208_196; obtain ⟨hcz65_0, hcz65_1, hcz65_2, hcz65_3, hfz65_0, hfz65_1, hfz65_2, hfz65_3⟩ := zc4 BK208.out; obtain ⟨Ao66, co66, eo66⟩ := Kd.R_slice HO205.out; subst eo66))
           go_roundg kj7
           case measure => have := HK1.out; have := HJ7.out; omega
           case rel => exact ⟨(wrap64 (x5_1 + 1)), (x197000_1), (x197001_1), (x197002_1), (x197003_1), (u197002), (by first | rfl | (simp; done) | (simp [*]; done)), H', ⟨by have := HK1.out; have := HJ7.out; omega⟩, ⟨rx (Kd.R_mono (Kd.R_far (p := ⟨gb208, 3, none⟩) (Kd.R_far (p := ⟨gb208, 2, none⟩) (Kd.R_far (p := ⟨gb208, 1, none⟩) (Kd.R_far (p := ⟨gb208, 0, none⟩) (Kd.R_types HO_197002.out BK208.out (by decide)) (fun _ hk => hk.2) (.int .i64 t201)) (fun _ hk => hk.2) (.int .i64 t202)) (fun _ hk => hk.2) (.slice Ao66 t203.length co66)) (fun _ hk => hk.2) (.string t206)) (fun _ hk => trivial))⟩, ⟨zf1 BK194.out NB194_208.out⟩, ⟨zf1 BK195.out NB195_208.out⟩, ⟨zf1 BK196.out NB196_208.out⟩, ⟨zb4 HB.out GE194.out GE195.out GE196.out GE208.out⟩⟩
         ·replace c24 := Bool.eq_false_iff.mpr c24
          subst c24
          have H1 : (spec_NewestSnap.l0 kj7 (wrap64 (x5_1 + 1)) l0_0 x197000_1 x197001_1 x197002_1 x197003_1) = some (r1, r2, r3, r4, r5) := by rw [if_neg (show ¬ (false = true) by decide)] at H; exact H
          clear H
          have H := H1
          clear H1
          have H' := Aside0.mk H
          clear H
          obtain ⟨hnb67, hnc67⟩ := zn2 NB194_195
          obtain ⟨hnb68, hnc68⟩ := zn2 NB194_196
          obtain ⟨hcz69_0, hfz69_0⟩ := zc1 BK194.out
          have p198 : 0 ≤ (x5_1 : Int) := of_decide_eq_true (by first | (with_reducible assumption) | assumption)
          have q198 : x5_1 < (l0_0.length : Int) := of_decide_eq_true (by first | (with_reducible assumption) | assumption)
          obtain ⟨ad198, e198, hx198_0, hx198_1, hx198_2⟩ := at_T63 HR0_0.out x5_1 p198 q198
          cases e198
          replace hx198_0 := (HB.out.cell (World.block_lt_of_cell? w _ hx198_0)).trans hx198_0
          replace hx198_1 := (HB.out.cell (World.block_lt_of_cell? w _ hx198_1)).trans hx198_1
          replace hx198_2 := (HB.out.cell (World.block_lt_of_cell? w _ hx198_2)).trans hx198_2
          replace p198 := eq_true p198
          replace q198 := eq_true q198
          go_wp2_with (first | ((with_reducible refine gate_callee (f := 64) rfl ?_); refine goesL_ (some 27) rfl rfl Tryz.func64 (by kernel_rfl) rfl #[.string ((rd_T63 l0_0 x5_1).f0)] rfl zr ?_; (with_reducible refine (spec_l08Index.calls kj7 ((rd_T63 l0_0 x5_1).f0) t199 _ A21.out).mono ?_); rintro e w70 ⟨rfl, hb⟩; refine ⟨_, rfl, ?_⟩; replace HO_197002 := am (Kd.R_below (rx HO_197002.out) hb); replace BK194 := zk hb BK194; replace BK195 := zk hb BK195; replace BK196 := zk hb BK196; replace HB := zs3 hb HB GE194 GE195 GE196; clear hb; obtain ⟨hcz71_0, hfz71_0⟩ := zc1 BK194.out; have p200 : 0 ≤ (x5_1 : Int) := of_decide_eq_true (by first | (with_reducible assumption) | assumption); have q200 : x5_1 < (l0_0.length : Int) := of_decide_eq_true (by first | (with_reducible assumption) | assumption); obtain ⟨ad200, e200, hx200_0, hx200_1, hx200_2⟩ := at_T63 HR0_0.out x5_1 p200 q200; obtain rfl : ad198 = ad200 := (by injection e200); replace hx200_0 := (HB.out.cell (World.block_lt_of_cell? w _ hx200_0)).trans hx200_0; replace hx200_1 := (HB.out.cell (World.block_lt_of_cell? w _ hx200_1)).trans hx200_1; replace hx200_2 := (HB.out.cell (World.block_lt_of_cell? w _ hx200_2)).trans hx200_2; replace p200 := eq_true p200; replace q200 := eq_true q200) | ((with_reducible refine gate_callee (f := 65) rfl ?_); refine goesL_ (some 35) rfl rfl Tryz.func65 (by kernel_rfl) rfl #[.string ((rd_T63 l0_0 x5_1).f1)] rfl zr ?_; (with_reducible refine (spec_ReadSnap.calls kj7 ((rd_T63 l0_0 x5_1).f1) t201 t202 t203 t206 false _ A22.out).mono ?_); rintro e w72 ⟨v204, rfl, ho0, hb⟩; refine ⟨_, rfl, ?_⟩; have HO205 := am (Kd.R_lower (Kd.R_new' ho0 (Kd.R_lt (rx HO_197002.out))) (below_size (zb3 HB.out GE194.out GE195.out GE196.out))); replace HO_197002 := am (Kd.R_elder' (rx HO_197002.out) (Kd.R_base ho0) hb); replace BK194 := zk hb BK194; replace BK195 := zk hb BK195; replace BK196 := zk hb BK196; replace HB := zs3 hb HB GE194 GE195 GE196; clear hb ho0) | ((with_reducible refine gate_dst (N := 7) rfl ?_); refine box_event rfl (N := 7) rfl (cs := #[.int .i64 0, .int .i64 0, .slice none 0 0, .string (⟨#[]⟩ : ByteArray)]) (t := 52) zrun ?_; intro gb208 hg w73 hbox hb; have BK208 := am (hbox); have GW208 := zge hg (zb3 HB.out GE194.out GE195.out GE196.out); have GE208 := zge hg (zb3 HB.out GE194.out GE195.out GE196.out); obtain ⟨NB194_208, NB208_194⟩ := zne hg BK194; obtain ⟨NB195_208, NB208_195⟩ := zne hg BK195; obtain ⟨NB196_208, NB208_196⟩ := zne hg BK196; replace HO_197002 := am (Kd.R_below (rx HO_197002.out) hb); replace HO205 := am (Kd.R_below (rx HO205.out) hb); replace BK194 := zk hb BK194; replace BK195 := zk hb BK195; replace BK196 := zk hb BK196; replace HB := zs3 hb HB GE194 GE195 GE196; clear hb hbox hg; obtain ⟨hnb74, hnc74⟩ := zn2 NB208_194; obtain ⟨hnb75, hnc75⟩ := zn2 NB208_195; obtain ⟨hnb76, hnc76⟩ := zn2 NB208_196; obtain ⟨hcz77_0, hcz77_1, hcz77_2, hcz77_3, hfz77_0, hfz77_1, hfz77_2, hfz77_3⟩ := zc4 BK208.out; obtain ⟨Ao78, co78, eo78⟩ := Kd.R_slice HO205.out; subst eo78))
          go_roundg kj7
          case measure => have := HK1.out; have := HJ7.out; omega
          case rel => exact ⟨(wrap64 (x5_1 + 1)), (x197000_1), (x197001_1), (x197002_1), (x197003_1), (u197002), (by first | rfl | (simp; done) | (simp [*]; done)), H', ⟨by have := HK1.out; have := HJ7.out; omega⟩, ⟨rx (Kd.R_mono (Kd.R_far (p := ⟨gb208, 3, none⟩) (Kd.R_far (p := ⟨gb208, 2, none⟩) (Kd.R_far (p := ⟨gb208, 1, none⟩) (Kd.R_far (p := ⟨gb208, 0, none⟩) (Kd.R_types HO_197002.out BK208.out (by decide)) (fun _ hk => hk.2) (.int .i64 t201)) (fun _ hk => hk.2) (.int .i64 t202)) (fun _ hk => hk.2) (.slice Ao78 t203.length co78)) (fun _ hk => hk.2) (.string t206)) (fun _ hk => trivial))⟩, ⟨zf1 BK194.out NB194_208.out⟩, ⟨zf1 BK195.out NB195_208.out⟩, ⟨zf1 BK196.out NB196_208.out⟩, ⟨zb4 HB.out GE194.out GE195.out GE196.out GE208.out⟩⟩
        ·rw [if_neg c23] at H
         have c23b0 : decide (0 ≤ t199) = false := decide_eq_false c23
         clear c23
         have H' := Aside0.mk H
         clear H
         obtain ⟨hnb79, hnc79⟩ := zn2 NB194_195
         obtain ⟨hnb80, hnc80⟩ := zn2 NB194_196
         obtain ⟨hcz81_0, hfz81_0⟩ := zc1 BK194.out
         have p198 : 0 ≤ (x5_1 : Int) := of_decide_eq_true (by first | (with_reducible assumption) | assumption)
         have q198 : x5_1 < (l0_0.length : Int) := of_decide_eq_true (by first | (with_reducible assumption) | assumption)
         obtain ⟨ad198, e198, hx198_0, hx198_1, hx198_2⟩ := at_T63 HR0_0.out x5_1 p198 q198
         cases e198
         replace hx198_0 := (HB.out.cell (World.block_lt_of_cell? w _ hx198_0)).trans hx198_0
         replace hx198_1 := (HB.out.cell (World.block_lt_of_cell? w _ hx198_1)).trans hx198_1
         replace hx198_2 := (HB.out.cell (World.block_lt_of_cell? w _ hx198_2)).trans hx198_2
         replace p198 := eq_true p198
         replace q198 := eq_true q198
         go_wp2_with (first | ((with_reducible refine gate_callee (f := 64) rfl ?_); refine goesL_ (some 27) rfl rfl Tryz.func64 (by kernel_rfl) rfl #[.string ((rd_T63 l0_0 x5_1).f0)] rfl zr ?_; (with_reducible refine (spec_l08Index.calls kj7 ((rd_T63 l0_0 x5_1).f0) t199 _ A21.out).mono ?_); rintro e w82 ⟨rfl, hb⟩; refine ⟨_, rfl, ?_⟩; replace HO_197002 := am (Kd.R_below (rx HO_197002.out) hb); replace BK194 := zk hb BK194; replace BK195 := zk hb BK195; replace BK196 := zk hb BK196; replace HB := zs3 hb HB GE194 GE195 GE196; clear hb; obtain ⟨hcz83_0, hfz83_0⟩ := zc1 BK194.out; have p200 : 0 ≤ (x5_1 : Int) := of_decide_eq_true (by first | (with_reducible assumption) | assumption); have q200 : x5_1 < (l0_0.length : Int) := of_decide_eq_true (by first | (with_reducible assumption) | assumption); obtain ⟨ad200, e200, hx200_0, hx200_1, hx200_2⟩ := at_T63 HR0_0.out x5_1 p200 q200; obtain rfl : ad198 = ad200 := (by injection e200); replace hx200_0 := (HB.out.cell (World.block_lt_of_cell? w _ hx200_0)).trans hx200_0; replace hx200_1 := (HB.out.cell (World.block_lt_of_cell? w _ hx200_1)).trans hx200_1; replace hx200_2 := (HB.out.cell (World.block_lt_of_cell? w _ hx200_2)).trans hx200_2; replace p200 := eq_true p200; replace q200 := eq_true q200) | ((with_reducible refine gate_callee (f := 65) rfl ?_); refine goesL_ (some 35) rfl rfl Tryz.func65 (by kernel_rfl) rfl #[.string ((rd_T63 l0_0 x5_1).f1)] rfl zr ?_; (with_reducible refine (spec_ReadSnap.calls kj7 ((rd_T63 l0_0 x5_1).f1) t201 t202 t203 t206 t207 _ A22.out).mono ?_); rintro e w84 ⟨v204, rfl, ho0, hb⟩; refine ⟨_, rfl, ?_⟩; have HO205 := am (Kd.R_lower (Kd.R_new' ho0 (Kd.R_lt (rx HO_197002.out))) (below_size (zb3 HB.out GE194.out GE195.out GE196.out))); replace HO_197002 := am (Kd.R_elder' (rx HO_197002.out) (Kd.R_base ho0) hb); replace BK194 := zk hb BK194; replace BK195 := zk hb BK195; replace BK196 := zk hb BK196; replace HB := zs3 hb HB GE194 GE195 GE196; clear hb ho0) | ((with_reducible refine gate_dst (N := 7) rfl ?_); refine box_event rfl (N := 7) rfl (cs := #[.int .i64 0, .int .i64 0, .slice none 0 0, .string (⟨#[]⟩ : ByteArray)]) (t := 52) zrun ?_; intro gb208 hg w85 hbox hb; have BK208 := am (hbox); have GW208 := zge hg (zb3 HB.out GE194.out GE195.out GE196.out); have GE208 := zge hg (zb3 HB.out GE194.out GE195.out GE196.out); obtain ⟨NB194_208, NB208_194⟩ := zne hg BK194; obtain ⟨NB195_208, NB208_195⟩ := zne hg BK195; obtain ⟨NB196_208, NB208_196⟩ := zne hg BK196; replace HO_197002 := am (Kd.R_below (rx HO_197002.out) hb); replace HO205 := am (Kd.R_below (rx HO205.out) hb); replace BK194 := zk hb BK194; replace BK195 := zk hb BK195; replace BK196 := zk hb BK196; replace HB := zs3 hb HB GE194 GE195 GE196; clear hb hbox hg; obtain ⟨hnb86, hnc86⟩ := zn2 NB208_194; obtain ⟨hnb87, hnc87⟩ := zn2 NB208_195; obtain ⟨hnb88, hnc88⟩ := zn2 NB208_196; obtain ⟨hcz89_0, hcz89_1, hcz89_2, hcz89_3, hfz89_0, hfz89_1, hfz89_2, hfz89_3⟩ := zc4 BK208.out; obtain ⟨Ao90, co90, eo90⟩ := Kd.R_slice HO205.out; subst eo90))
         go_roundg kj7
         case measure => have := HK1.out; have := HJ7.out; omega
         case rel => exact ⟨(wrap64 (x5_1 + 1)), (x197000_1), (x197001_1), (x197002_1), (x197003_1), (u197002), (by first | rfl | (simp; done) | (simp [*]; done)), H', ⟨by have := HK1.out; have := HJ7.out; omega⟩, ⟨rx (Kd.R_mono (Kd.R_far (p := ⟨gb208, 3, none⟩) (Kd.R_far (p := ⟨gb208, 2, none⟩) (Kd.R_far (p := ⟨gb208, 1, none⟩) (Kd.R_far (p := ⟨gb208, 0, none⟩) (Kd.R_types HO_197002.out BK208.out (by decide)) (fun _ hk => hk.2) (.int .i64 t201)) (fun _ hk => hk.2) (.int .i64 t202)) (fun _ hk => hk.2) (.slice Ao90 t203.length co90)) (fun _ hk => hk.2) (.string t206)) (fun _ hk => trivial))⟩, ⟨zf1 BK194.out NB194_208.out⟩, ⟨zf1 BK195.out NB195_208.out⟩, ⟨zf1 BK196.out NB196_208.out⟩, ⟨zb4 HB.out GE194.out GE195.out GE196.out GE208.out⟩⟩
       ·rw [if_neg c20] at H
        exact absurd H (by simp)
      ·rw [if_neg c19] at H
       exact absurd H (by simp)
     ·replace c18 := Bool.eq_false_iff.mpr c18
      subst c18
      have H1 : (if x197000_1 < 0 then (some (0, 0, ([] : List Int), (⟨#[]⟩ : ByteArray), false)) else (some (x197000_1, x197001_1, x197002_1, x197003_1, true))) = some (r1, r2, r3, r4, r5) := by rw [if_neg (show ¬ (false = true) by decide)] at H; exact H
      clear H
      have H := H1
      clear H1
      by_cases c91 : x197000_1 < 0
      ·rw [if_pos c91] at H
       have c91b0 : decide (x197000_1 < 0) = true := decide_eq_true c91
       clear c91
       simp only [Option.some.injEq, Prod.mk.injEq] at H
       obtain ⟨rfl, rfl, rfl, rfl, rfl⟩ := H
       obtain ⟨hnb92, hnc92⟩ := zn2 NB196_194
       obtain ⟨hnb93, hnc93⟩ := zn2 NB196_195
       obtain ⟨hcz94_0, hcz94_1, hcz94_2, hcz94_3, hfz94_0, hfz94_1, hfz94_2, hfz94_3⟩ := zc4 BK196.out
       obtain ⟨hnb95, hnc95⟩ := zn2 NB195_194
       obtain ⟨hcz96_0, hcz96_1, hcz96_2, hcz96_3, hfz96_0, hfz96_1, hfz96_2, hfz96_3⟩ := zc4 BK195.out
       go_wp2
       refine bodyPost_ret (results_ct rfl _ _ gb195 52 #[.int .i64 0, .int .i64 0, .slice none 0 0, .string (⟨#[]⟩ : ByteArray)] (0, 0) _ rfl (by (with_reducible repeat (first | refine blk_drewN ?_ _ | refine blk_drew ?_ | refine blk_alloc ?_ _)); refine blk_put (cs := #[.int .i64 0, .int .i64 0, .slice none 0 0, .string (⟨#[]⟩ : ByteArray)]) ?_ 3 _ rfl; (with_reducible repeat (first | refine blk_drewN ?_ _ | refine blk_drew ?_ | refine blk_alloc ?_ _)); refine blk_put (cs := #[.int .i64 0, .int .i64 0, .slice none 0 0, .string (⟨#[]⟩ : ByteArray)]) ?_ 2 _ rfl; (with_reducible repeat (first | refine blk_drewN ?_ _ | refine blk_drew ?_ | refine blk_alloc ?_ _)); refine blk_put (cs := #[.int .i64 0, .int .i64 0, .slice none 0 0, .string (⟨#[]⟩ : ByteArray)]) ?_ 1 _ rfl; (with_reducible repeat (first | refine blk_drewN ?_ _ | refine blk_drew ?_ | refine blk_alloc ?_ _)); refine blk_put (cs := #[.int .i64 0, .int .i64 0, .slice none 0 0, .string (⟨#[]⟩ : ByteArray)]) ?_ 0 _ rfl; (with_reducible repeat (first | refine blk_drewN ?_ _ | refine blk_drew ?_ | refine blk_alloc ?_ _)); exact BK195.out) Tryz.underlying52 rfl (by kernel_rfl)) rfl ?_
       exact ⟨_, by first | rfl | (simp [errW_none, errW_some] <;> rfl) | (simp [*, errW_none, errW_some] <;> rfl), by first | exact Kd.R_nil _ _ _ _ _ | exact Kd.N_nil _ _ _ _ _ | exact Kd.V_nil _ _ _ _ _ | exact Kd.Q_nil _ _ _ _ _ | exact Kd.S_nil _ _ _ _ _, zb3 HB.out GE194.out GE195.out GE196.out⟩
      ·rw [if_neg c91] at H
       have c91b0 : decide (x197000_1 < 0) = false := decide_eq_false c91
       clear c91
       simp only [Option.some.injEq, Prod.mk.injEq] at H
       obtain ⟨rfl, rfl, rfl, rfl, rfl⟩ := H
       obtain ⟨hnb97, hnc97⟩ := zn2 NB196_194
       obtain ⟨hnb98, hnc98⟩ := zn2 NB196_195
       obtain ⟨hcz99_0, hcz99_1, hcz99_2, hcz99_3, hfz99_0, hfz99_1, hfz99_2, hfz99_3⟩ := zc4 BK196.out
       obtain ⟨hnb100, hnc100⟩ := zn2 NB195_194
       obtain ⟨hcz101_0, hcz101_1, hcz101_2, hcz101_3, hfz101_0, hfz101_1, hfz101_2, hfz101_3⟩ := zc4 BK195.out
       obtain ⟨Ao102, co102, eo102⟩ := Kd.R_slice HO_197002.out
       subst eo102
       go_wp2
       refine bodyPost_ret (results_ct rfl _ _ gb195 52 #[.int .i64 x197000_1, .int .i64 x197001_1, .slice Ao102 x197002_1.length co102, .string x197003_1] (0, 0) _ rfl (by (with_reducible repeat (first | refine blk_drewN ?_ _ | refine blk_drew ?_ | refine blk_alloc ?_ _)); refine blk_put (cs := #[.int .i64 x197000_1, .int .i64 x197001_1, .slice Ao102 x197002_1.length co102, .string (⟨#[]⟩ : ByteArray)]) ?_ 3 _ rfl; (with_reducible repeat (first | refine blk_drewN ?_ _ | refine blk_drew ?_ | refine blk_alloc ?_ _)); refine blk_put (cs := #[.int .i64 x197000_1, .int .i64 x197001_1, .slice none 0 0, .string (⟨#[]⟩ : ByteArray)]) ?_ 2 _ rfl; (with_reducible repeat (first | refine blk_drewN ?_ _ | refine blk_drew ?_ | refine blk_alloc ?_ _)); refine blk_put (cs := #[.int .i64 x197000_1, .int .i64 0, .slice none 0 0, .string (⟨#[]⟩ : ByteArray)]) ?_ 1 _ rfl; (with_reducible repeat (first | refine blk_drewN ?_ _ | refine blk_drew ?_ | refine blk_alloc ?_ _)); refine blk_put (cs := #[.int .i64 0, .int .i64 0, .slice none 0 0, .string (⟨#[]⟩ : ByteArray)]) ?_ 0 _ rfl; (with_reducible repeat (first | refine blk_drewN ?_ _ | refine blk_drew ?_ | refine blk_alloc ?_ _)); exact BK195.out) Tryz.underlying52 rfl (by kernel_rfl)) rfl ?_
       exact ⟨_, by first | rfl | (simp [errW_none, errW_some] <;> rfl) | (simp [*, errW_none, errW_some] <;> rfl), rx (Kd.R_mono (Kd.R_far (p := ⟨gb195, 3, none⟩) (Kd.R_far (p := ⟨gb195, 2, none⟩) (Kd.R_far (p := ⟨gb195, 1, none⟩) (Kd.R_far (p := ⟨gb195, 0, none⟩) (Kd.R_types HO_197002.out BK195.out (by decide)) (fun _ hk => hk.2) (.int .i64 x197000_1)) (fun _ hk => hk.2) (.int .i64 x197001_1)) (fun _ hk => hk.2) (.slice Ao102 x197002_1.length co102)) (fun _ hk => hk.2) (.string x197003_1)) (fun _ hk => trivial)), zb3 HB.out GE194.out GE195.out GE196.out⟩

/-! ### spec_l03At: function 43 -/
def spec_l03At.l0 : Nat → ByteArray → Int → List (S63) → Option (Int)
 | 0, _, _, _ => none
 | k + 1, x1, x5, x210000 => if x5 < (x210000.length : Int) then (if 0 ≤ x5 then (if ((rd_T63 x210000 x5).f0).toList = x1.toList then (some x5) else (spec_l03At.l0 k x1 (wrap64 (x5 + 1)) x210000)) else (none)) else (some (-1))
def spec_l03At.f (k : Nat) (l0_0 : List (S63)) (a1 : ByteArray) : Option (Int) := spec_l03At.l0 k a1 0 l0_0
theorem spec_l03At.mono_l : ∀ k, (∀ y0 y1 y2, LeO (spec_l03At.l0 k y0 y1 y2) (spec_l03At.l0 (k + 1) y0 y1 y2))
 | 0 => fun _ _ _ r h => by simp [spec_l03At.l0] at h
 | k + 1 => by
  have ih0 := spec_l03At.mono_l k
  ·intro y0 y1 y2
   unfold spec_l03At.l0
   repeat' first
   | (with_reducible exact ih0 _ _ _)
   | (with_reducible exact LeO.refl _)
   | (with_reducible exact LeO.none _)
   | (with_reducible refine LeO.ite ?_ ?_)
   | (with_reducible refine LeO.bind ?_ (fun _ => ?_))
   | exact ih0 _ _ _
   | exact LeO.none _
   | refine LeO.ite ?_ ?_
   | refine LeO.bind ?_ (fun _ => ?_)
theorem spec_l03At.mono : ∀ a0 a1 k, LeO (spec_l03At.f k a0 a1) (spec_l03At.f (k + 1) a0 a1) := by
 intro a0 a1 k
 have ih0 := spec_l03At.mono_l k
 unfold spec_l03At.f
 repeat' first
   | (with_reducible exact ih0 _ _ _)
   | (with_reducible exact LeO.refl _)
   | (with_reducible exact LeO.none _)
   | (with_reducible refine LeO.ite ?_ ?_)
   | (with_reducible refine LeO.bind ?_ (fun _ => ?_))
   | exact ih0 _ _ _
   | exact LeO.none _
   | refine LeO.ite ?_ ?_
   | refine LeO.bind ?_ (fun _ => ?_)
set_option maxHeartbeats 8000000 in
set_option maxRecDepth 100000 in
theorem spec_l03At.calls (k : Nat) (A0_0 : Option Addr) (c0_0 : Nat) (l0_0 : List (S63)) (a1 : ByteArray) (r : Int) (w : World) (hr0_0 : Kd.C k63 w A0_0 l0_0.length l0_0) (hc0_0 : l0_0.length ≤ c0_0) (h : spec_l03At.f k l0_0 a1 = some r) :
  Calls Tryz.prog 43 #[.agg #[.slice A0_0 l0_0.length c0_0], .string a1] w fun e w' => e = .returned (.int .i64 r) ∧ Below w.heap.size w w' := by
 have hu30 := Tryz.underlying30
 have HR0_0 := Aside0.mk hr0_0
 have HC0_0 := Aside0.mk hc0_0
 clear hr0_0 hc0_0
 have HB := Aside0.mk (Below.refl w.heap.size w)
 have H : (spec_l03At.l0 k a1 0 l0_0) = some r := h
 clear h
 have H' := Aside0.mk H
 clear H
 go_enter Tryz.func43, Tryz.ntmps43
 go_wp2_with (first | ((with_reducible refine gate_dst (N := 2) rfl ?_); refine box_event rfl (N := 2) rfl (cs := #[.slice A0_0 l0_0.length c0_0]) (t := 30) zrun ?_; intro gb209 hg w3 hbox hb; have BK209 := am (hbox); have GE209 := zge hg (zb0 HB.out); replace HB := zs0 hb HB; clear hb hbox hg))
 go_loopg [5] k (fun kq v5 w' => ∃ (x5_1 : Int), v5 = .int .i64 x5_1 ∧ Aside0 (spec_l03At.l0 kq a1 x5_1 l0_0 = some r) ∧ Aside0 (kq ≤ k) ∧ Aside0 (w'.heap[gb209]? = some (.cells #[(.slice A0_0 l0_0.length c0_0)] 30 (0, 0))) ∧ Aside0 (Below w.heap.size w w'))
 case atStart => exact ⟨(0), (by first | rfl | (simp; done) | (simp [*]; done)), H', ⟨Nat.le_refl _⟩, ⟨kx BK209.out⟩, ⟨zb1 HB.out GE209.out⟩⟩
 case round =>
  clear H'
  obtain ⟨x5_1, rfl, HA, HK1, BK209, HB⟩ := hrel
  cases gk with
  | zero => exact absurd HA.out (by simp [spec_l03At.l0])
  | succ k1 =>
   have H := HA.out
   clear HA
   simp only [spec_l03At.l0] at H
   by_cases c4 : x5_1 < (l0_0.length : Int)
   ·rw [if_pos c4] at H
    have c4b0 : decide (x5_1 < (l0_0.length : Int)) = true := decide_eq_true c4
    have c4b1 : decide ((l0_0.length : Int) ≤ x5_1) = false := decide_eq_false (by omega)
    clear c4
    by_cases c5 : 0 ≤ x5_1
    ·rw [if_pos c5] at H
     have c5b0 : decide (0 ≤ x5_1) = true := decide_eq_true c5
     clear c5
     by_cases c6 : ((rd_T63 l0_0 x5_1).f0).toList = a1.toList
     ·rw [if_pos c6] at H
      have c6b0 : (((rd_T63 l0_0 x5_1).f0).toList == a1.toList) = true := beq_iff_eq.mpr c6
      have c6b1 : (((rd_T63 l0_0 x5_1).f0).toList != a1.toList) = false := bne_eq_false_iff_eq.mpr c6
      clear c6
      obtain rfl := Option.some.inj H
      obtain ⟨hcz7_0, hfz7_0⟩ := zc1 BK209.out
      have p210 : 0 ≤ (x5_1 : Int) := of_decide_eq_true (by first | (with_reducible assumption) | assumption)
      have q210 : x5_1 < (l0_0.length : Int) := of_decide_eq_true (by first | (with_reducible assumption) | assumption)
      obtain ⟨ad210, e210, hx210_0, hx210_1, hx210_2⟩ := at_T63 HR0_0.out x5_1 p210 q210
      cases e210
      replace hx210_0 := (HB.out.cell (World.block_lt_of_cell? w _ hx210_0)).trans hx210_0
      replace hx210_1 := (HB.out.cell (World.block_lt_of_cell? w _ hx210_1)).trans hx210_1
      replace hx210_2 := (HB.out.cell (World.block_lt_of_cell? w _ hx210_2)).trans hx210_2
      replace p210 := eq_true p210
      replace q210 := eq_true q210
      go_wp2
      go_ret
      exact ⟨by first | rfl | (simp [errW_none, errW_some] <;> rfl) | (simp [*, errW_none, errW_some] <;> rfl), zb1 HB.out GE209.out⟩
     ·rw [if_neg c6] at H
      have c6b0 : (((rd_T63 l0_0 x5_1).f0).toList == a1.toList) = false := beq_eq_false_iff_ne.mpr c6
      have c6b1 : (((rd_T63 l0_0 x5_1).f0).toList != a1.toList) = true := bne_iff_ne.mpr c6
      have H' := Aside0.mk H
      clear H
      obtain ⟨hcz8_0, hfz8_0⟩ := zc1 BK209.out
      have p210 : 0 ≤ (x5_1 : Int) := of_decide_eq_true (by first | (with_reducible assumption) | assumption)
      have q210 : x5_1 < (l0_0.length : Int) := of_decide_eq_true (by first | (with_reducible assumption) | assumption)
      obtain ⟨ad210, e210, hx210_0, hx210_1, hx210_2⟩ := at_T63 HR0_0.out x5_1 p210 q210
      cases e210
      replace hx210_0 := (HB.out.cell (World.block_lt_of_cell? w _ hx210_0)).trans hx210_0
      replace hx210_1 := (HB.out.cell (World.block_lt_of_cell? w _ hx210_1)).trans hx210_1
      replace hx210_2 := (HB.out.cell (World.block_lt_of_cell? w _ hx210_2)).trans hx210_2
      replace p210 := eq_true p210
      replace q210 := eq_true q210
      go_wp2
      go_roundg k1
      case measure => have := HK1.out; omega
      case rel => exact ⟨(wrap64 (x5_1 + 1)), (by first | rfl | (simp; done) | (simp [*]; done)), H', ⟨by have := HK1.out; omega⟩, ⟨kx BK209.out⟩, ⟨zb1 HB.out GE209.out⟩⟩
    ·rw [if_neg c5] at H
     exact absurd H (by simp)
   ·rw [if_neg c4] at H
    have c4b0 : decide (x5_1 < (l0_0.length : Int)) = false := decide_eq_false c4
    have c4b1 : decide ((l0_0.length : Int) ≤ x5_1) = true := decide_eq_true (by omega)
    clear c4
    obtain rfl := Option.some.inj H
    obtain ⟨hcz9_0, hfz9_0⟩ := zc1 BK209.out
    go_wp2
    go_ret
    exact ⟨by first | rfl | (simp [errW_none, errW_some] <;> rfl) | (simp [*, errW_none, errW_some] <;> rfl), zb1 HB.out GE209.out⟩

/-! ### spec_l08New: function 28 -/
def spec_l08New.f (k : Nat) (l0_0 : List (S63)) : Option ((List (S67))) := (spec_l03At.f k l0_0 (⟨#[115, 43]⟩ : ByteArray)).bind fun t212 => (if t212 ≥ 0 then (some (([(⟨4, (⟨#[115, 43]⟩ : ByteArray), (⟨#[]⟩ : ByteArray), (⟨#[]⟩ : ByteArray)⟩ : S67)] : List (S67)))) else (some (([] : List (S67)))))
theorem spec_l08New.mono : ∀ a0 k, LeO (spec_l08New.f k a0) (spec_l08New.f (k + 1) a0) := by
 intro a0 k
 unfold spec_l08New.f
 repeat' first
   | (with_reducible exact spec_l03At.mono _ _ _)
   | (with_reducible exact LeO.refl _)
   | (with_reducible exact LeO.none _)
   | (with_reducible refine LeO.ite ?_ ?_)
   | (with_reducible refine LeO.bind ?_ (fun _ => ?_))
   | exact spec_l03At.mono _ _ _
   | exact LeO.none _
   | refine LeO.ite ?_ ?_
   | refine LeO.bind ?_ (fun _ => ?_)
set_option maxHeartbeats 8000000 in
set_option maxRecDepth 100000 in
theorem spec_l08New.calls (k : Nat) (A0_0 : Option Addr) (c0_0 : Nat) (l0_0 : List (S63)) (r : List (S67)) (w : World) (hr0_0 : Kd.C k63 w A0_0 l0_0.length l0_0) (hc0_0 : l0_0.length ≤ c0_0) (h : spec_l08New.f k l0_0 = some r) :
  Calls Tryz.prog 28 #[.agg #[.slice A0_0 l0_0.length c0_0]] w fun e w' => ∃ v0_ : Value, e = .returned (v0_) ∧ Kd.R k67 67 w' w.heap.size (fun _ => True) v0_ r ∧ Below w.heap.size w w' := by
 have hu30 := Tryz.underlying30
 have hu67 := Tryz.underlying67
 have HR0_0 := Aside0.mk hr0_0
 have HC0_0 := Aside0.mk hc0_0
 clear hr0_0 hc0_0
 have HB := Aside0.mk (Below.refl w.heap.size w)
 have H : ((spec_l03At.f k l0_0 (⟨#[115, 43]⟩ : ByteArray)).bind fun t212 => (if t212 ≥ 0 then (some (([(⟨4, (⟨#[115, 43]⟩ : ByteArray), (⟨#[]⟩ : ByteArray), (⟨#[]⟩ : ByteArray)⟩ : S67)] : List (S67)))) else (some (([] : List (S67)))))) = some r := h
 clear h
 replace H := Option.bind_eq_some_iff.mp H
 obtain ⟨t212, A20, H⟩ := H
 try dsimp only at H
 have A2 := Aside0.mk A20
 clear A20
 by_cases c3 : t212 ≥ 0
 ·rw [if_pos c3] at H
  have c3b0 : decide (0 ≤ t212) = true := decide_eq_true c3
  clear c3
  obtain ⟨y213, hy213⟩ : ∃ y_ : List (S67), y_ = (([(⟨4, (⟨#[115, 43]⟩ : ByteArray), (⟨#[]⟩ : ByteArray), (⟨#[]⟩ : ByteArray)⟩ : S67)] : List (S67))) := ⟨_, rfl⟩
  replace H : (some y213) = some r := by first | (rw [hy213]; with_reducible exact H) | (have H2_ := (Option.bind_some _ _).symm.trans H; rw [hy213]; with_reducible exact H2_) | (have H2_ := (Option.bind_some _ _).symm.trans H; with_reducible exact H2_) | with_reducible exact H | (rw [hy213]; exact H) | exact H
  have Ny213 := Aside0.mk hy213
  clear hy213
  obtain rfl := Option.some.inj H
  go_enter Tryz.func28, Tryz.ntmps28
  go_wp2_with (first | ((with_reducible refine gate_dst (N := 1) rfl ?_); refine box_event rfl (N := 1) rfl (cs := #[.slice A0_0 l0_0.length c0_0]) (t := 30) zrun ?_; intro gb211 hg w4 hbox hb; have BK211 := am (hbox); have GW211 := zge hg (zb0 HB.out); have GE211 := zge hg (zb0 HB.out); replace HB := zs0 hb HB; clear hb hbox hg; obtain ⟨hcz5_0, hfz5_0⟩ := zc1 BK211.out) | ((with_reducible refine gate_callee (f := 43) rfl ?_); refine goesL_ (some 4) rfl rfl Tryz.func43 (by kernel_rfl) rfl #[.agg #[.slice A0_0 l0_0.length c0_0], .string (⟨#[115, 43]⟩ : ByteArray)] rfl zr ?_; (with_reducible refine (spec_l03At.calls k _ _ l0_0 (⟨#[115, 43]⟩ : ByteArray) t212 _ ?side1 ?side2 A2.out).mono ?_); (case side1 => repeat (first | exact (Kd.C_below HR0_0.out HB.out) | (with_reducible refine Kd.C_alloc ?_ _) | (with_reducible refine Kd.C_drewN ?_ _) | (with_reducible refine Kd.C_drew ?_))); (case side2 => exact HC0_0.out); rintro e w6 ⟨rfl, hb⟩; refine ⟨_, rfl, ?_⟩; replace BK211 := zk hb BK211; replace HB := zs1 hb HB GE211; clear hb) | ((with_reducible refine gate_dst (N := 7) rfl ?_); refine Kd.R_lit k67 _ 67 ?hg (N := 7) ?hd (xs := ([(⟨4, (⟨#[115, 43]⟩ : ByteArray), (⟨#[]⟩ : ByteArray), (⟨#[]⟩ : ByteArray)⟩ : S67)] : List (S67))) (inner := [.int .i64 4, .string (⟨#[115, 43]⟩ : ByteArray), .string (⟨#[]⟩ : ByteArray), .string (⟨#[]⟩ : ByteArray)]) (ok := fun _ => True) (okp := fun _ => True) ?hr ?hp (fun _ hk => hk) trivial (Below.refl _ _) (Nat.le_refl _) (by simp) ?_; (case hd => rfl); (case hg => rfl); (case hr => first | (go_simp; done) | (go_simp; rfl)); (case hp => exact (Reps.c4 (show Kd.M k67 _ _ _ (⟨4, (⟨#[115, 43]⟩ : ByteArray), (⟨#[]⟩ : ByteArray), (⟨#[]⟩ : ByteArray)⟩ : S67) [.int .i64 4, .string (⟨#[115, 43]⟩ : ByteArray), .string (⟨#[]⟩ : ByteArray), .string (⟨#[]⟩ : ByteArray)] from (k67_mkM _ _ _ (⟨4, (⟨#[115, 43]⟩ : ByteArray), (⟨#[]⟩ : ByteArray), (⟨#[]⟩ : ByteArray)⟩ : S67) )) (Reps.none _ _))); intro v214 w7 ho8 hb hg_ hnew_; clear hg_ hnew_; (first | rw [← Ny213.out] at ho8 | (simp only [Int.reduceToNat] at ho8; rw [← Ny213.out] at ho8)); have HO215 := am (Kd.R_lower ho8 (below_size (zb1 HB.out GE211.out))); replace BK211 := zk hb BK211; replace HB := zs1 hb HB GE211; clear hb ho8))
  go_ret
  exact ⟨_, by first | rfl | (simp [errW_none, errW_some] <;> rfl) | (simp [*, errW_none, errW_some] <;> rfl), rx HO215.out, zb1 HB.out GE211.out⟩
 ·rw [if_neg c3] at H
  have c3b0 : decide (0 ≤ t212) = false := decide_eq_false c3
  clear c3
  obtain ⟨y216, hy216⟩ : ∃ y_ : List (S67), y_ = (([] : List (S67))) := ⟨_, rfl⟩
  replace H : (some y216) = some r := by first | (rw [hy216]; with_reducible exact H) | (have H2_ := (Option.bind_some _ _).symm.trans H; rw [hy216]; with_reducible exact H2_) | (have H2_ := (Option.bind_some _ _).symm.trans H; with_reducible exact H2_) | with_reducible exact H | (rw [hy216]; exact H) | exact H
  have Ny216 := Aside0.mk hy216
  clear hy216
  obtain rfl := Option.some.inj H
  go_enter Tryz.func28, Tryz.ntmps28
  go_wp2_with (first | ((with_reducible refine gate_dst (N := 1) rfl ?_); refine box_event rfl (N := 1) rfl (cs := #[.slice A0_0 l0_0.length c0_0]) (t := 30) zrun ?_; intro gb211 hg w9 hbox hb; have BK211 := am (hbox); have GW211 := zge hg (zb0 HB.out); have GE211 := zge hg (zb0 HB.out); replace HB := zs0 hb HB; clear hb hbox hg; obtain ⟨hcz10_0, hfz10_0⟩ := zc1 BK211.out) | ((with_reducible refine gate_callee (f := 43) rfl ?_); refine goesL_ (some 4) rfl rfl Tryz.func43 (by kernel_rfl) rfl #[.agg #[.slice A0_0 l0_0.length c0_0], .string (⟨#[115, 43]⟩ : ByteArray)] rfl zr ?_; (with_reducible refine (spec_l03At.calls k _ _ l0_0 (⟨#[115, 43]⟩ : ByteArray) t212 _ ?side1 ?side2 A2.out).mono ?_); (case side1 => repeat (first | exact (Kd.C_below HR0_0.out HB.out) | (with_reducible refine Kd.C_alloc ?_ _) | (with_reducible refine Kd.C_drewN ?_ _) | (with_reducible refine Kd.C_drew ?_))); (case side2 => exact HC0_0.out); rintro e w11 ⟨rfl, hb⟩; refine ⟨_, rfl, ?_⟩; replace BK211 := zk hb BK211; replace HB := zs1 hb HB GE211; clear hb) | ((with_reducible refine gate_dst (N := 8) rfl ?_); refine Kd.R_lit k67 _ 67 ?hg (N := 8) ?hd (xs := ([] : List (S67))) (inner := []) (ok := fun _ => True) (okp := fun _ => True) ?hr ?hp (fun _ hk => hk) trivial (Below.refl _ _) (Nat.le_refl _) (by simp) ?_; (case hd => rfl); (case hg => rfl); (case hr => first | (go_simp; done) | (go_simp; rfl)); (case hp => exact (Reps.none _ _)); intro v217 w12 ho13 hb hg_ hnew_; clear hg_ hnew_; (first | rw [← Ny216.out] at ho13 | (simp only [Int.reduceToNat] at ho13; rw [← Ny216.out] at ho13)); have HO218 := am (Kd.R_lower ho13 (below_size (zb1 HB.out GE211.out))); replace BK211 := zk hb BK211; replace HB := zs1 hb HB GE211; clear hb ho13))
  go_ret
  exact ⟨_, by first | rfl | (simp [errW_none, errW_some] <;> rfl) | (simp [*, errW_none, errW_some] <;> rfl), rx HO218.out, zb1 HB.out GE211.out⟩

/-! ### spec_l08Drops: function 29 -/
def spec_l08Drops.l0 : Nat → Int → List (S67) → Int → List (S63) → Option ((List (S67)))
 | 0, _, _, _, _ => none
 | k + 1, x1, x5, x6, x220000 => if x6 < (x220000.length : Int) then (if 0 ≤ x6 then ((spec_l08Index.f k ((rd_T63 x220000 x6).f0)).bind fun t224 => (if t224 ≥ 0 then (if t224 = x1 then (spec_l08Drops.l0 k x1 x5 (wrap64 (x6 + 1)) x220000) else (if x5.length < 2513169434916 then (spec_l08Drops.l0 k x1 (x5 ++ [(⟨4, (rd_T63 x220000 x6).f0, (⟨#[]⟩ : ByteArray), (⟨#[]⟩ : ByteArray)⟩ : S67)]) (wrap64 (x6 + 1)) x220000) else (none))) else (spec_l08Drops.l0 k x1 x5 (wrap64 (x6 + 1)) x220000))) else (none)) else (some x5)
def spec_l08Drops.f (k : Nat) (l0_0 : List (S63)) (a1 : Int) : Option ((List (S67))) := spec_l08Drops.l0 k a1 (([] : List (S67))) 0 l0_0
theorem spec_l08Drops.mono_l : ∀ k, (∀ y0 y1 y2 y3, LeO (spec_l08Drops.l0 k y0 y1 y2 y3) (spec_l08Drops.l0 (k + 1) y0 y1 y2 y3))
 | 0 => fun _ _ _ _ r h => by simp [spec_l08Drops.l0] at h
 | k + 1 => by
  have ih0 := spec_l08Drops.mono_l k
  ·intro y0 y1 y2 y3
   unfold spec_l08Drops.l0
   repeat' first
   | (with_reducible exact ih0 _ _ _ _)
   | (with_reducible exact spec_l08Index.mono _ _)
   | (with_reducible exact LeO.refl _)
   | (with_reducible exact LeO.none _)
   | (with_reducible refine LeO.ite ?_ ?_)
   | (with_reducible refine LeO.bind ?_ (fun _ => ?_))
   | exact ih0 _ _ _ _
   | exact spec_l08Index.mono _ _
   | exact LeO.none _
   | refine LeO.ite ?_ ?_
   | refine LeO.bind ?_ (fun _ => ?_)
theorem spec_l08Drops.mono : ∀ a0 a1 k, LeO (spec_l08Drops.f k a0 a1) (spec_l08Drops.f (k + 1) a0 a1) := by
 intro a0 a1 k
 have ih0 := spec_l08Drops.mono_l k
 unfold spec_l08Drops.f
 repeat' first
   | (with_reducible exact ih0 _ _ _ _)
   | (with_reducible exact spec_l08Index.mono _ _)
   | (with_reducible exact LeO.refl _)
   | (with_reducible exact LeO.none _)
   | (with_reducible refine LeO.ite ?_ ?_)
   | (with_reducible refine LeO.bind ?_ (fun _ => ?_))
   | exact ih0 _ _ _ _
   | exact spec_l08Index.mono _ _
   | exact LeO.none _
   | refine LeO.ite ?_ ?_
   | refine LeO.bind ?_ (fun _ => ?_)
set_option maxHeartbeats 8000000 in
set_option maxRecDepth 100000 in
theorem spec_l08Drops.calls (k : Nat) (A0_0 : Option Addr) (c0_0 : Nat) (l0_0 : List (S63)) (a1 : Int) (r : List (S67)) (w : World) (hr0_0 : Kd.C k63 w A0_0 l0_0.length l0_0) (hc0_0 : l0_0.length ≤ c0_0) (h : spec_l08Drops.f k l0_0 a1 = some r) :
  Calls Tryz.prog 29 #[.agg #[.slice A0_0 l0_0.length c0_0], .int .i64 a1] w fun e w' => ∃ v0_ : Value, e = .returned (v0_) ∧ Kd.R k67 67 w' w.heap.size (fun _ => True) v0_ r ∧ Below w.heap.size w w' := by
 have hu30 := Tryz.underlying30
 have hu67 := Tryz.underlying67
 have HR0_0 := Aside0.mk hr0_0
 have HC0_0 := Aside0.mk hc0_0
 clear hr0_0 hc0_0
 have HB := Aside0.mk (Below.refl w.heap.size w)
 have H : (spec_l08Drops.l0 k a1 (([] : List (S67))) 0 l0_0) = some r := h
 clear h
 obtain ⟨y220, hy220⟩ : ∃ y_ : List (S67), y_ = (([] : List (S67))) := ⟨_, rfl⟩
 replace H : (spec_l08Drops.l0 k a1 y220 0 l0_0) = some r := by first | (rw [hy220]; with_reducible exact H) | (have H2_ := (Option.bind_some _ _).symm.trans H; rw [hy220]; with_reducible exact H2_) | (have H2_ := (Option.bind_some _ _).symm.trans H; with_reducible exact H2_) | with_reducible exact H | (rw [hy220]; exact H) | exact H
 have Ny220 := Aside0.mk hy220
 clear hy220
 have H' := Aside0.mk H
 clear H
 go_enter Tryz.func29, Tryz.ntmps29
 go_wp2_with (first | ((with_reducible refine gate_dst (N := 2) rfl ?_); refine box_event rfl (N := 2) rfl (cs := #[.slice A0_0 l0_0.length c0_0]) (t := 30) zrun ?_; intro gb219 hg w3 hbox hb; have BK219 := am (hbox); have GE219 := zge hg (zb0 HB.out); replace HB := zs0 hb HB; clear hb hbox hg) | ((with_reducible refine gate_dst (N := 8) rfl ?_); refine Kd.R_lit k67 _ 67 ?hg (N := 8) ?hd (xs := ([] : List (S67))) (inner := []) (ok := fun _ => True) (okp := fun _ => True) ?hr ?hp (fun _ hk => hk) trivial (Below.refl _ _) (Nat.le_refl _) (by simp) ?_; (case hd => rfl); (case hg => rfl); (case hr => first | (go_simp; done) | (go_simp; rfl)); (case hp => exact (Reps.none _ _)); intro v221 w4 ho5 hb hg_ hnew_; clear hg_ hnew_; (first | rw [← Ny220.out] at ho5 | (simp only [Int.reduceToNat] at ho5; rw [← Ny220.out] at ho5)); have HO222 := am (Kd.R_lower ho5 (below_size (zb1 HB.out GE219.out))); replace BK219 := zk hb BK219; replace HB := zs1 hb HB GE219; clear hb ho5))
 go_loopg [5, 6] k (fun kq v5 v6 w' => ∃ (x5_1 : List (S67)) (x6_1 : Int), v6 = .int .i64 x6_1 ∧ Aside0 (spec_l08Drops.l0 kq a1 x5_1 x6_1 l0_0 = some r) ∧ Aside0 (kq ≤ k) ∧ Aside0 (Kd.R k67 67 w' w.heap.size (fun _ => True) v5 x5_1) ∧ Aside0 (w'.heap[gb219]? = some (.cells #[(.slice A0_0 l0_0.length c0_0)] 30 (0, 0))) ∧ Aside0 (Below w.heap.size w w'))
 case atStart => exact ⟨(y220), (0), (by first | rfl | (simp; done) | (simp [*]; done)), H', ⟨Nat.le_refl _⟩, ⟨rx HO222.out⟩, ⟨kx BK219.out⟩, ⟨zb1 HB.out GE219.out⟩⟩
 case round =>
  clear H'
  obtain ⟨x5_1, x6_1, rfl, HA, HK1, HO_5, BK219, HB⟩ := hrel
  cases gk with
  | zero => exact absurd HA.out (by simp [spec_l08Drops.l0])
  | succ k1 =>
   have H := HA.out
   clear HA
   simp only [spec_l08Drops.l0] at H
   by_cases c6 : x6_1 < (l0_0.length : Int)
   ·rw [if_pos c6] at H
    have c6b0 : decide (x6_1 < (l0_0.length : Int)) = true := decide_eq_true c6
    have c6b1 : decide ((l0_0.length : Int) ≤ x6_1) = false := decide_eq_false (by omega)
    clear c6
    by_cases c7 : 0 ≤ x6_1
    ·rw [if_pos c7] at H
     have c7b0 : decide (0 ≤ x6_1) = true := decide_eq_true c7
     clear c7
     replace H := Option.bind_eq_some_iff.mp H
     obtain ⟨t224, A80, H⟩ := H
     try dsimp only at H
     have A8 := Aside0.mk A80
     clear A80
     by_cases c9 : t224 ≥ 0
     ·rw [if_pos c9] at H
      have c9b0 : decide (0 ≤ t224) = true := decide_eq_true c9
      clear c9
      by_cases c10 : t224 = a1
      ·rw [if_pos c10] at H
       have c10b0 : (t224 == a1) = true := beq_iff_eq.mpr c10
       have c10b1 : (t224 != a1) = false := bne_eq_false_iff_eq.mpr c10
       clear c10
       have H' := Aside0.mk H
       clear H
       obtain ⟨hcz11_0, hfz11_0⟩ := zc1 BK219.out
       have p223 : 0 ≤ (x6_1 : Int) := of_decide_eq_true (by first | (with_reducible assumption) | assumption)
       have q223 : x6_1 < (l0_0.length : Int) := of_decide_eq_true (by first | (with_reducible assumption) | assumption)
       obtain ⟨ad223, e223, hx223_0, hx223_1, hx223_2⟩ := at_T63 HR0_0.out x6_1 p223 q223
       cases e223
       replace hx223_0 := (HB.out.cell (World.block_lt_of_cell? w _ hx223_0)).trans hx223_0
       replace hx223_1 := (HB.out.cell (World.block_lt_of_cell? w _ hx223_1)).trans hx223_1
       replace hx223_2 := (HB.out.cell (World.block_lt_of_cell? w _ hx223_2)).trans hx223_2
       replace p223 := eq_true p223
       replace q223 := eq_true q223
       go_wp2_with (first | ((with_reducible refine gate_callee (f := 64) rfl ?_); refine goesL_ (some 22) rfl rfl Tryz.func64 (by kernel_rfl) rfl #[.string ((rd_T63 l0_0 x6_1).f0)] rfl zr ?_; (with_reducible refine (spec_l08Index.calls k1 ((rd_T63 l0_0 x6_1).f0) t224 _ A8.out).mono ?_); rintro e w12 ⟨rfl, hb⟩; refine ⟨_, rfl, ?_⟩; replace HO_5 := am (Kd.R_below (rx HO_5.out) hb); replace BK219 := zk hb BK219; replace HB := zs1 hb HB GE219; clear hb))
       go_roundg k1
       case measure => have := HK1.out; omega
       case rel => exact ⟨(x5_1), (wrap64 (x6_1 + 1)), (by first | rfl | (simp; done) | (simp [*]; done)), H', ⟨by have := HK1.out; omega⟩, ⟨rx HO_5.out⟩, ⟨kx BK219.out⟩, ⟨zb1 HB.out GE219.out⟩⟩
      ·rw [if_neg c10] at H
       have c10b0 : (t224 == a1) = false := beq_eq_false_iff_ne.mpr c10
       have c10b1 : (t224 != a1) = true := bne_iff_ne.mpr c10
       by_cases c13 : x5_1.length < 2513169434916
       ·rw [if_pos c13] at H
        have LMc13 := Aside0.mk c13
        clear c13
        obtain ⟨y226, hy226⟩ : ∃ y_ : List (S67), y_ = (x5_1 ++ [(⟨4, (rd_T63 l0_0 x6_1).f0, (⟨#[]⟩ : ByteArray), (⟨#[]⟩ : ByteArray)⟩ : S67)]) := ⟨_, rfl⟩
        replace H : (spec_l08Drops.l0 k1 a1 y226 (wrap64 (x6_1 + 1)) l0_0) = some r := by first | (rw [hy226]; with_reducible exact H) | (have H2_ := (Option.bind_some _ _).symm.trans H; rw [hy226]; with_reducible exact H2_) | (have H2_ := (Option.bind_some _ _).symm.trans H; with_reducible exact H2_) | with_reducible exact H | (rw [hy226]; exact H) | exact H
        have Ny226 := Aside0.mk hy226
        clear hy226
        have H' := Aside0.mk H
        clear H
        obtain ⟨hcz14_0, hfz14_0⟩ := zc1 BK219.out
        have p223 : 0 ≤ (x6_1 : Int) := of_decide_eq_true (by first | (with_reducible assumption) | assumption)
        have q223 : x6_1 < (l0_0.length : Int) := of_decide_eq_true (by first | (with_reducible assumption) | assumption)
        obtain ⟨ad223, e223, hx223_0, hx223_1, hx223_2⟩ := at_T63 HR0_0.out x6_1 p223 q223
        cases e223
        replace hx223_0 := (HB.out.cell (World.block_lt_of_cell? w _ hx223_0)).trans hx223_0
        replace hx223_1 := (HB.out.cell (World.block_lt_of_cell? w _ hx223_1)).trans hx223_1
        replace hx223_2 := (HB.out.cell (World.block_lt_of_cell? w _ hx223_2)).trans hx223_2
        replace p223 := eq_true p223
        replace q223 := eq_true q223
        go_wp2_with (first | ((with_reducible refine gate_callee (f := 64) rfl ?_); refine goesL_ (some 22) rfl rfl Tryz.func64 (by kernel_rfl) rfl #[.string ((rd_T63 l0_0 x6_1).f0)] rfl zr ?_; (with_reducible refine (spec_l08Index.calls k1 ((rd_T63 l0_0 x6_1).f0) t224 _ A8.out).mono ?_); rintro e w15 ⟨rfl, hb⟩; refine ⟨_, rfl, ?_⟩; replace HO_5 := am (Kd.R_below (rx HO_5.out) hb); replace BK219 := zk hb BK219; replace HB := zs1 hb HB GE219; clear hb; obtain ⟨hcz16_0, hfz16_0⟩ := zc1 BK219.out; have p225 : 0 ≤ (x6_1 : Int) := of_decide_eq_true (by first | (with_reducible assumption) | assumption); have q225 : x6_1 < (l0_0.length : Int) := of_decide_eq_true (by first | (with_reducible assumption) | assumption); obtain ⟨ad225, e225, hx225_0, hx225_1, hx225_2⟩ := at_T63 HR0_0.out x6_1 p225 q225; obtain rfl : ad223 = ad225 := (by injection e225); replace hx225_0 := (HB.out.cell (World.block_lt_of_cell? w _ hx225_0)).trans hx225_0; replace hx225_1 := (HB.out.cell (World.block_lt_of_cell? w _ hx225_1)).trans hx225_1; replace hx225_2 := (HB.out.cell (World.block_lt_of_cell? w _ hx225_2)).trans hx225_2; replace p225 := eq_true p225; replace q225 := eq_true q225) | ((with_reducible refine gate_builtin (b := .append) (xs := #[.tmp 30, .tmp 38]) rfl ?_); at_builtin; refine Kd.R_append k67 (w0 := w) w.heap.size rfl (.tmp 30) (.tmp 38) 26 67 (.agg #[(.int .i64 0), (.string ⟨#[]⟩), (.string ⟨#[]⟩), (.string ⟨#[]⟩)]) 56 rfl Tryz.underlying26 info67 rfl (by decide) (by omega) u5 x5_1 (⟨4, (rd_T63 l0_0 x6_1).f0, (⟨#[]⟩ : ByteArray), (⟨#[]⟩ : ByteArray)⟩ : S67) [.int .i64 4, .string ((rd_T63 l0_0 x6_1).f0), .string (⟨#[]⟩ : ByteArray), .string (⟨#[]⟩ : ByteArray)] (fun _ => True) (fun _ => False) rfl rfl ?aP (fun _ hk => hk.elim) ?aF ?aO ?aB ?aS ?aL ?_; (case aP => exact k67_mkM _ _ _ (⟨4, (rd_T63 l0_0 x6_1).f0, (⟨#[]⟩ : ByteArray), (⟨#[]⟩ : ByteArray)⟩ : S67)); (case aB => exact (zb1 HB.out GE219.out)); (case aF => exact (fun _ _ => trivial)); (case aO => exact (rx HO_5.out)); (case aS => exact (below_size (zb1 HB.out GE219.out))); (case aL => have := LMc13.out; omega); intro v227 w17 ho hb hg hat; rw [← Ny226.out] at ho; have HO228 := am (ho); replace BK219 := am (blk_grown (g := gb219) (o := .cells #[.slice (some ad223) l0_0.length c0_0] 30 (0, 0)) (kx BK219.out) hg (Kd.R_ne HO_5.out BK219.out (by decide))); replace HB := am (hb); clear HO_5; clear ho hb hg hat))
        go_roundg k1
        case measure => have := HK1.out; omega
        case rel => exact ⟨(y226), (wrap64 (x6_1 + 1)), (by first | rfl | (simp; done) | (simp [*]; done)), H', ⟨by have := HK1.out; omega⟩, ⟨rx HO228.out⟩, ⟨kx BK219.out⟩, ⟨zb1 HB.out GE219.out⟩⟩
       ·rw [if_neg c13] at H
        exact absurd H (by simp)
     ·rw [if_neg c9] at H
      have c9b0 : decide (0 ≤ t224) = false := decide_eq_false c9
      clear c9
      have H' := Aside0.mk H
      clear H
      obtain ⟨hcz18_0, hfz18_0⟩ := zc1 BK219.out
      have p223 : 0 ≤ (x6_1 : Int) := of_decide_eq_true (by first | (with_reducible assumption) | assumption)
      have q223 : x6_1 < (l0_0.length : Int) := of_decide_eq_true (by first | (with_reducible assumption) | assumption)
      obtain ⟨ad223, e223, hx223_0, hx223_1, hx223_2⟩ := at_T63 HR0_0.out x6_1 p223 q223
      cases e223
      replace hx223_0 := (HB.out.cell (World.block_lt_of_cell? w _ hx223_0)).trans hx223_0
      replace hx223_1 := (HB.out.cell (World.block_lt_of_cell? w _ hx223_1)).trans hx223_1
      replace hx223_2 := (HB.out.cell (World.block_lt_of_cell? w _ hx223_2)).trans hx223_2
      replace p223 := eq_true p223
      replace q223 := eq_true q223
      go_wp2_with (first | ((with_reducible refine gate_callee (f := 64) rfl ?_); refine goesL_ (some 22) rfl rfl Tryz.func64 (by kernel_rfl) rfl #[.string ((rd_T63 l0_0 x6_1).f0)] rfl zr ?_; (with_reducible refine (spec_l08Index.calls k1 ((rd_T63 l0_0 x6_1).f0) t224 _ A8.out).mono ?_); rintro e w19 ⟨rfl, hb⟩; refine ⟨_, rfl, ?_⟩; replace HO_5 := am (Kd.R_below (rx HO_5.out) hb); replace BK219 := zk hb BK219; replace HB := zs1 hb HB GE219; clear hb))
      go_roundg k1
      case measure => have := HK1.out; omega
      case rel => exact ⟨(x5_1), (wrap64 (x6_1 + 1)), (by first | rfl | (simp; done) | (simp [*]; done)), H', ⟨by have := HK1.out; omega⟩, ⟨rx HO_5.out⟩, ⟨kx BK219.out⟩, ⟨zb1 HB.out GE219.out⟩⟩
    ·rw [if_neg c7] at H
     exact absurd H (by simp)
   ·rw [if_neg c6] at H
    have c6b0 : decide (x6_1 < (l0_0.length : Int)) = false := decide_eq_false c6
    have c6b1 : decide ((l0_0.length : Int) ≤ x6_1) = true := decide_eq_true (by omega)
    clear c6
    obtain rfl := Option.some.inj H
    obtain ⟨hcz20_0, hfz20_0⟩ := zc1 BK219.out
    go_wp2
    go_ret
    exact ⟨_, by first | rfl | (simp [errW_none, errW_some] <;> rfl) | (simp [*, errW_none, errW_some] <;> rfl), rx HO_5.out, zb1 HB.out GE219.out⟩

end Go.Proofs.YtogifkjkbfdocaaGreatDoor.QFnExactShedActs
