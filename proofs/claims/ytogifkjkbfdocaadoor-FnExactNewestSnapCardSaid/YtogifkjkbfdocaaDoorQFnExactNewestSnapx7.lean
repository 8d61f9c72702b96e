/- Written by the kit's print.py, called by our own print2.sh with one import more; not by print.sh. -/
import Derived.Test.YtogifkjkbfdocaaDoorQFnExactNewestSnapx0
import Derived.Test.YtogifkjkbfdocaaDoorQFnExactNewestSnapx1
import Derived.Test.YtogifkjkbfdocaaDoorQFnExactNewestSnapx2
import Derived.Test.YtogifkjkbfdocaaDoorQFnExactNewestSnapx6
namespace Go.Proofs.YtogifkjkbfdocaaDoor.QFnExactNewestSnap
open Go.RowKit Go.Proofs.YtogifkjkbfdocaaDoorW.PrintWords Go.Proofs.YtogifkjkbfdocaaDoorW.PrintLast Go.Proofs.YtogifkjkbfdocaaDoorW.PrintMore
attribute [local go_sem] max2_int min2_int max_two min_two max_three min_three max_four min_four   -- for this text's walks alone
open Go.Proofs.YtogifkjkbfdocaaDoor.Short
set_option linter.unusedVariables false
set_option linter.unusedSimpArgs false

attribute [local go_sem high] gtr_str
/-! ### spec_NewestSnap: function 25 -/
mutual
def spec_NewestSnap.l0 : Nat → Int → List (S78) → Int → Int → List Int → ByteArray → Option (Int × Int × List Int × ByteArray × Bool)
 | 0, _, _, _, _, _, _ => none
 | k + 1, x5, x195000, x197000, x197001, x197002, x197003 => if x5 < (x195000.length : Int) then ((spec_DiskOk.f k x195000).bind fun t197 => (spec_NewestSnap.j1 k x5 t197 x195000 x197000 x197001 x197002 x197003)) else (spec_NewestSnap.j1 k x5 false x195000 x197000 x197001 x197002 x197003)
def spec_NewestSnap.j1 : Nat → Int → Bool → List (S78) → Int → Int → List Int → ByteArray → Option (Int × Int × List Int × ByteArray × Bool)
 | 0, _, _, _, _, _, _, _ => none
 | k + 1, x5, x18, x195000, x197000, x197001, x197002, x197003 => if x18 = true then (if 0 ≤ x5 then (if x5 < (x195000.length : Int) then ((spec_l08Index.f k ((rd_T78 x195000 x5).f0)).bind fun t199 => ((spec_ReadSnap.f k ((rd_T78 x195000 x5).f1)).bind fun bt201 => (if t199 ≥ 0 then (if bt201.2.2.2.2 = true then (if bt201.1 = t199 then (if t199 > x197000 then (spec_NewestSnap.l0 k (wrap64 (x5 + 1)) x195000 bt201.1 bt201.2.1 bt201.2.2.1 bt201.2.2.2.1) else (spec_NewestSnap.l0 k (wrap64 (x5 + 1)) x195000 x197000 x197001 x197002 x197003)) else (spec_NewestSnap.l0 k (wrap64 (x5 + 1)) x195000 x197000 x197001 x197002 x197003)) else (spec_NewestSnap.l0 k (wrap64 (x5 + 1)) x195000 x197000 x197001 x197002 x197003)) else (spec_NewestSnap.l0 k (wrap64 (x5 + 1)) x195000 x197000 x197001 x197002 x197003)))) else (none)) else (none)) else (if x197000 < 0 then (some (0, 0, ([] : List Int), (⟨#[]⟩ : ByteArray), false)) else (some (x197000, x197001, x197002, x197003, true)))
end
def spec_NewestSnap.f (k : Nat) (l0_0 : List (S78)) : Option (Int × Int × List Int × ByteArray × Bool) := spec_NewestSnap.l0 k 0 l0_0 (-1) 0 ([] : List Int) (⟨#[]⟩ : ByteArray)
theorem spec_NewestSnap.mono_l : ∀ k, (∀ y0 y1 y2 y3 y4 y5, LeO (spec_NewestSnap.l0 k y0 y1 y2 y3 y4 y5) (spec_NewestSnap.l0 (k + 1) y0 y1 y2 y3 y4 y5)) ∧ (∀ y0 y1 y2 y3 y4 y5 y6, LeO (spec_NewestSnap.j1 k y0 y1 y2 y3 y4 y5 y6) (spec_NewestSnap.j1 (k + 1) y0 y1 y2 y3 y4 y5 y6))
 | 0 => ⟨fun _ _ _ _ _ _ r h => by simp [spec_NewestSnap.l0] at h, fun _ _ _ _ _ _ _ r h => by simp [spec_NewestSnap.j1] at h⟩
 | k + 1 => by
  obtain ⟨ih0, ih1⟩ := spec_NewestSnap.mono_l k
  refine ⟨?_, ?_⟩
  ·intro y0 y1 y2 y3 y4 y5
   unfold spec_NewestSnap.l0
   repeat' first
   | (with_reducible exact ih0 _ _ _ _ _ _)
   | (with_reducible exact ih1 _ _ _ _ _ _ _)
   | (with_reducible exact spec_DiskOk.mono _ _)
   | (with_reducible exact spec_ReadSnap.mono _ _)
   | (with_reducible exact spec_l08Index.mono _ _)
   | (with_reducible exact LeO.refl _)
   | (with_reducible exact LeO.none _)
   | (with_reducible refine LeO.ite ?_ ?_)
   | (with_reducible refine LeO.bind ?_ (fun _ => ?_))
   | exact ih0 _ _ _ _ _ _
   | exact ih1 _ _ _ _ _ _ _
   | exact spec_DiskOk.mono _ _
   | exact spec_ReadSnap.mono _ _
   | exact spec_l08Index.mono _ _
   | exact LeO.none _
   | refine LeO.ite ?_ ?_
   | refine LeO.bind ?_ (fun _ => ?_)
  ·intro y0 y1 y2 y3 y4 y5 y6
   unfold spec_NewestSnap.j1
   repeat' first
   | (with_reducible exact ih0 _ _ _ _ _ _)
   | (with_reducible exact ih1 _ _ _ _ _ _ _)
   | (with_reducible exact spec_DiskOk.mono _ _)
   | (with_reducible exact spec_ReadSnap.mono _ _)
   | (with_reducible exact spec_l08Index.mono _ _)
   | (with_reducible exact LeO.refl _)
   | (with_reducible exact LeO.none _)
   | (with_reducible refine LeO.ite ?_ ?_)
   | (with_reducible refine LeO.bind ?_ (fun _ => ?_))
   | exact ih0 _ _ _ _ _ _
   | exact ih1 _ _ _ _ _ _ _
   | exact spec_DiskOk.mono _ _
   | exact spec_ReadSnap.mono _ _
   | exact spec_l08Index.mono _ _
   | exact LeO.none _
   | refine LeO.ite ?_ ?_
   | refine LeO.bind ?_ (fun _ => ?_)
theorem spec_NewestSnap.mono : ∀ a0 k, LeO (spec_NewestSnap.f k a0) (spec_NewestSnap.f (k + 1) a0) := by
 intro a0 k
 obtain ⟨ih0, ih1⟩ := spec_NewestSnap.mono_l k
 unfold spec_NewestSnap.f
 repeat' first
   | (with_reducible exact ih0 _ _ _ _ _ _)
   | (with_reducible exact ih1 _ _ _ _ _ _ _)
   | (with_reducible exact spec_DiskOk.mono _ _)
   | (with_reducible exact spec_ReadSnap.mono _ _)
   | (with_reducible exact spec_l08Index.mono _ _)
   | (with_reducible exact LeO.refl _)
   | (with_reducible exact LeO.none _)
   | (with_reducible refine LeO.ite ?_ ?_)
   | (with_reducible refine LeO.bind ?_ (fun _ => ?_))
   | exact ih0 _ _ _ _ _ _
   | exact ih1 _ _ _ _ _ _ _
   | exact spec_DiskOk.mono _ _
   | exact spec_ReadSnap.mono _ _
   | exact spec_l08Index.mono _ _
   | exact LeO.none _
   | refine LeO.ite ?_ ?_
   | refine LeO.bind ?_ (fun _ => ?_)
set_option maxHeartbeats 8000000 in
set_option maxRecDepth 100000 in
theorem spec_NewestSnap.calls (k : Nat) (A0_0 : Option Addr) (c0_0 : Nat) (l0_0 : List (S78)) (r1 : Int) (r2 : Int) (r3 : List Int) (r4 : ByteArray) (r5 : Bool) (w : World) (hr0_0 : Kd.C k78 w A0_0 l0_0.length l0_0) (hc0_0 : l0_0.length ≤ c0_0) (h : spec_NewestSnap.f k l0_0 = some (r1, r2, r3, r4, r5)) :
  Calls Tryd.prog 25 #[.agg #[.slice A0_0 l0_0.length c0_0]] w fun e w' => ∃ v2_ : Value, e = .returned (.tuple #[.agg #[.int .i64 r1, .int .i64 r2, v2_, .string r4], .bool r5]) ∧ Kd.R (Kd.int .i64) 3 w' w.heap.size (fun _ => True) v2_ r3 ∧ Below w.heap.size w w' := by
 have hu53 := Tryd.underlying53
 have hu48 := Tryd.underlying48
 have HR0_0 := Aside0.mk hr0_0
 have HC0_0 := Aside0.mk hc0_0
 clear hr0_0 hc0_0
 have HB := Aside0.mk (Below.refl w.heap.size w)
 have H : (spec_NewestSnap.l0 k 0 l0_0 (-1) 0 ([] : List Int) (⟨#[]⟩ : ByteArray)) = some (r1, r2, r3, r4, r5) := h
 clear h
 have H' := Aside0.mk H
 clear H
 go_enter Tryd.func25, Tryd.ntmps25
 go_wp2_with (first | ((with_reducible refine gate_dst (N := 1) rfl ?_); refine box_event ?hg (N := 1) ?hd (cs := #[.slice A0_0 l0_0.length c0_0]) (t := 53) ?hr ?_; (case hd => rfl); (case hg => rfl); (case hr => first | (go_simp; done) | (go_simp; rfl)); intro gb194 hg w2 hbox hb; have BK194 := am (hbox); have GW194 := zge hg (zb0 HB.out); have GE194 := zge hg (zb0 HB.out); replace HB := am (below_step (zb0 HB.out) hb); clear hb hbox hg) | ((with_reducible refine gate_dst (N := 2) rfl ?_); refine box_event ?hg (N := 2) ?hd (cs := #[.int .i64 0, .int .i64 0, .slice none 0 0, .string (⟨#[]⟩ : ByteArray)]) (t := 48) ?hr ?_; (case hd => rfl); (case hg => rfl); (case hr => first | (go_simp; done) | (go_simp; rfl)); intro gb195 hg w3 hbox hb; have BK195 := am (hbox); have GW195 := zge hg (zb1 HB.out GE194.out); have GE195 := zge hg (zb1 HB.out GE194.out); have NB194_195 := znl hg (kx BK194.out); have NB195_194 := zng hg (kx BK194.out); replace BK194 := am (bb hb (kx BK194.out)); replace HB := am (below_step (zb1 HB.out GE194.out) hb); clear hb hbox hg) | ((with_reducible refine gate_dst (N := 4) rfl ?_); refine box_event ?hg (N := 4) ?hd (cs := #[.int .i64 0, .int .i64 0, .slice none 0 0, .string (⟨#[]⟩ : ByteArray)]) (t := 48) ?hr ?_; (case hd => rfl); (case hg => rfl); (case hr => first | (go_simp; done) | (go_simp; rfl)); intro gb196 hg w4 hbox hb; have BK196 := am (hbox); have GW196 := zge hg (zb2 HB.out GE194.out GE195.out); have GE196 := zge hg (zb2 HB.out GE194.out GE195.out); have NB194_196 := znl hg (kx BK194.out); have NB196_194 := zng hg (kx BK194.out); have NB195_196 := znl hg (kx BK195.out); have NB196_195 := zng hg (kx BK195.out); replace BK194 := am (bb hb (kx BK194.out)); replace BK195 := am (bb hb (kx BK195.out)); replace HB := am (below_step (zb2 HB.out GE194.out GE195.out) hb); clear hb hbox hg; have hnb5 := NB196_194.out; have hnc5 := NB194_196.out; have hnb6 := NB196_195.out; have hnc6 := NB195_196.out; obtain ⟨hcz7_0, hcz7_1, hcz7_2, hcz7_3, hfz7_0, hfz7_1, hfz7_2, hfz7_3⟩ := zc4 BK196.out))
 go_loopg [5] k (fun kq v5 w' => ∃ (x5_1 : Int) (x197000_1 : Int) (x197001_1 : Int) (x197002_1 : List Int) (x197003_1 : ByteArray) (u197002 : Value), v5 = .int .i64 x5_1 ∧ Aside0 (spec_NewestSnap.l0 kq x5_1 l0_0 x197000_1 x197001_1 x197002_1 x197003_1 = some (r1, r2, r3, r4, r5)) ∧ Aside0 (kq ≤ k) ∧ Aside0 (Kd.R (Kd.int .i64) 3 w' w.heap.size (fun _ => True) u197002 x197002_1) ∧ Aside0 (w'.heap[gb194]? = some (.cells #[(.slice A0_0 l0_0.length c0_0)] 53 (0, 0))) ∧ Aside0 (w'.heap[gb195]? = some (.cells #[.int .i64 0, .int .i64 0, (.slice none 0 0), .string (⟨#[]⟩ : ByteArray)] 48 (0, 0))) ∧ Aside0 (w'.heap[gb196]? = some (.cells #[.int .i64 x197000_1, .int .i64 x197001_1, u197002, .string x197003_1] 48 (0, 0))) ∧ Aside0 (Below w.heap.size w w'))
 case atStart => exact ⟨(0), ((-1)), (0), (([] : List Int)), ((⟨#[]⟩ : ByteArray)), (.slice none 0 0), (by first | rfl | (simp; done) | (simp [*]; done)), H', ⟨Nat.le_refl _⟩, ⟨by first | exact Kd.R_nil _ _ _ _ _ | exact Kd.N_nil _ _ _ _ _ | exact Kd.V_nil _ _ _ _ _ | exact Kd.Q_nil _ _ _ _ _ | exact Kd.S_nil _ _ _ _ _⟩, ⟨zf1 BK194.out NB194_196.out⟩, ⟨zf1 BK195.out NB195_196.out⟩, ⟨by (with_reducible repeat (first | refine blk_drewN ?_ _ | refine blk_drew ?_ | refine blk_alloc ?_ _)); refine blk_put (cs := #[.int .i64 (-1), .int .i64 0, .slice none 0 0, .string (⟨#[]⟩ : ByteArray)]) ?_ 3 _ rfl; (with_reducible repeat (first | refine blk_drewN ?_ _ | refine blk_drew ?_ | refine blk_alloc ?_ _)); refine blk_put (cs := #[.int .i64 (-1), .int .i64 0, .slice none 0 0, .string (⟨#[]⟩ : ByteArray)]) ?_ 2 _ rfl; (with_reducible repeat (first | refine blk_drewN ?_ _ | refine blk_drew ?_ | refine blk_alloc ?_ _)); refine blk_put (cs := #[.int .i64 (-1), .int .i64 0, .slice none 0 0, .string (⟨#[]⟩ : ByteArray)]) ?_ 1 _ rfl; (with_reducible repeat (first | refine blk_drewN ?_ _ | refine blk_drew ?_ | refine blk_alloc ?_ _)); refine blk_put (cs := #[.int .i64 0, .int .i64 0, .slice none 0 0, .string (⟨#[]⟩ : ByteArray)]) ?_ 0 _ rfl; (with_reducible repeat (first | refine blk_drewN ?_ _ | refine blk_drew ?_ | refine blk_alloc ?_ _)); exact BK196.out⟩, ⟨zb3 HB.out GE194.out GE195.out GE196.out⟩⟩
 case round =>
  clear H'
  try clear c2
  try clear p2
  try clear c5
  try clear c6
  try clear hcz7_0
  try clear hcz7_1
  try clear hcz7_2
  try clear hcz7_3
  try clear hfz7_0
  try clear hfz7_1
  try clear hfz7_2
  try clear hfz7_3
  obtain ⟨x5_1, x197000_1, x197001_1, x197002_1, x197003_1, u197002, rfl, HA, HK1, HO_197002, BK194, BK195, BK196, HB⟩ := hrel
  cases gk with
  | zero => exact absurd HA.out (by simp [spec_NewestSnap.l0])
  | succ k1 =>
   have H := HA.out
   clear HA
   simp only [spec_NewestSnap.l0] at H
   have HC8 := Aside0.mk H
   clear H
   go_upto_region 3 with (fail)
   go_cut [18] (fun v18 wc => ∃ (kq : Nat) (x18_7 : Bool), v18 = .bool x18_7 ∧ Aside0 (spec_NewestSnap.j1 kq x5_1 x18_7 l0_0 x197000_1 x197001_1 x197002_1 x197003_1 = some (r1, r2, r3, r4, r5)) ∧ Aside0 (kq ≤ k1) ∧ Aside0 (Kd.R (Kd.int .i64) 3 wc w.heap.size (fun _ => True) u197002 x197002_1) ∧ Aside0 (wc.heap[gb194]? = some (.cells #[(.slice A0_0 l0_0.length c0_0)] 53 (0, 0))) ∧ Aside0 (wc.heap[gb195]? = some (.cells #[.int .i64 0, .int .i64 0, (.slice none 0 0), .string (⟨#[]⟩ : ByteArray)] 48 (0, 0))) ∧ Aside0 (wc.heap[gb196]? = some (.cells #[.int .i64 x197000_1, .int .i64 x197001_1, u197002, .string x197003_1] 48 (0, 0))) ∧ Aside0 (Below w.heap.size w wc))
   case first =>
    have H := HC8.out
    clear HC8
    by_cases c9 : x5_1 < (l0_0.length : Int)
    ·rw [if_pos c9] at H
     have c9b0 : decide (x5_1 < (l0_0.length : Int)) = true := decide_eq_true c9
     have c9b1 : decide ((l0_0.length : Int) ≤ x5_1) = false := decide_eq_false (by omega)
     clear c9
     (first | rw [c9b0] | (simp only [i64_w, i32_w]; rw [c9b0]) | skip)
     replace H := Option.bind_eq_some_iff.mp H
     obtain ⟨t197, A100, H⟩ := H
     try dsimp only at H
     have A10 := Aside0.mk A100
     clear A100
     have H' := Aside0.mk H
     clear H
     have hnb11 := NB194_195.out
     have hnc11 := NB195_194.out
     have hnb12 := NB194_196.out
     have hnc12 := NB196_194.out
     obtain ⟨hcz13_0, hfz13_0⟩ := zc1 BK194.out
     go_wp2_with (first | (go_at_call 47; (with_reducible refine (spec_DiskOk.calls k1 _ _ l0_0 t197 _ ?side1 ?side2 A10.out).mono ?_); (case side1 => repeat (first | exact (Kd.C_below HR0_0.out HB.out) | (with_reducible refine Kd.C_alloc ?_ _) | (with_reducible refine Kd.C_drewN ?_ _) | (with_reducible refine Kd.C_drew ?_))); (case side2 => exact HC0_0.out); rintro e w14 ⟨rfl, hb⟩; replace HO_197002 := am (Kd.R_below (rx HO_197002.out) hb); replace BK194 := am (bb hb (kx BK194.out)); replace BK195 := am (bb hb (kx BK195.out)); replace BK196 := am (bb hb (kx BK196.out)); replace HB := am (below_step (zb3 HB.out GE194.out GE195.out GE196.out) hb); (try clear hb); (try clear hb2); (try clear hk); (try clear hi)))
     go_meet
     case rel => exact ⟨_, (t197), (by first | rfl | (simp; done) | (simp [*]; done)), H', ⟨by have := HK1.out; first | omega | exact Nat.le_refl _⟩, ⟨rx HO_197002.out⟩, ⟨kx BK194.out⟩, ⟨kx BK195.out⟩, ⟨kx BK196.out⟩, ⟨zb3 HB.out GE194.out GE195.out GE196.out⟩⟩
    ·rw [if_neg c9] at H
     have c9b0 : decide (x5_1 < (l0_0.length : Int)) = false := decide_eq_false c9
     have c9b1 : decide ((l0_0.length : Int) ≤ x5_1) = true := decide_eq_true (by omega)
     clear c9
     (first | rw [c9b0] | (simp only [i64_w, i32_w]; rw [c9b0]) | skip)
     have H' := Aside0.mk H
     clear H
     have hnb15 := NB194_195.out
     have hnc15 := NB195_194.out
     have hnb16 := NB194_196.out
     have hnc16 := NB196_194.out
     obtain ⟨hcz17_0, hfz17_0⟩ := zc1 BK194.out
     go_wp2
     go_meet
     case rel => exact ⟨_, (false), (by first | rfl | (simp; done) | (simp [*]; done)), H', ⟨by have := HK1.out; first | omega | exact Nat.le_refl _⟩, ⟨rx HO_197002.out⟩, ⟨kx BK194.out⟩, ⟨kx BK195.out⟩, ⟨kx BK196.out⟩, ⟨zb3 HB.out GE194.out GE195.out GE196.out⟩⟩
   case rest =>
    clear HC8
    try clear c1
    try clear c2
    try clear p2
    try clear c5
    try clear c6
    try clear c9
    try clear c9b0
    try clear c9b1
    try clear c11
    try clear c12
    try clear c15
    try clear c16
    try clear hcz13_0
    try clear hcz17_0
    try clear hcz7_0
    try clear hcz7_1
    try clear hcz7_2
    try clear hcz7_3
    try clear hfz13_0
    try clear hfz17_0
    try clear hfz7_0
    try clear hfz7_1
    try clear hfz7_2
    try clear hfz7_3
    try clear p2
    obtain ⟨kq, x18_7, rfl, HA, HJ7, HO_197002, BK194, BK195, BK196, HB⟩ := hcut
    cases kq with
    | zero => exact absurd HA.out (by simp [spec_NewestSnap.j1])
    | succ kj7 =>
     have H := HA.out
     clear HA
     simp only [spec_NewestSnap.j1] at H
     by_cases c18 : x18_7 = true
     ·subst c18
      have H1 : (if 0 ≤ x5_1 then (if x5_1 < (l0_0.length : Int) then ((spec_l08Index.f kj7 ((rd_T78 l0_0 x5_1).f0)).bind fun t199 => ((spec_ReadSnap.f kj7 ((rd_T78 l0_0 x5_1).f1)).bind fun bt201 => (if t199 ≥ 0 then (if bt201.2.2.2.2 = true then (if bt201.1 = t199 then (if t199 > x197000_1 then (spec_NewestSnap.l0 kj7 (wrap64 (x5_1 + 1)) l0_0 bt201.1 bt201.2.1 bt201.2.2.1 bt201.2.2.2.1) else (spec_NewestSnap.l0 kj7 (wrap64 (x5_1 + 1)) l0_0 x197000_1 x197001_1 x197002_1 x197003_1)) else (spec_NewestSnap.l0 kj7 (wrap64 (x5_1 + 1)) l0_0 x197000_1 x197001_1 x197002_1 x197003_1)) else (spec_NewestSnap.l0 kj7 (wrap64 (x5_1 + 1)) l0_0 x197000_1 x197001_1 x197002_1 x197003_1)) else (spec_NewestSnap.l0 kj7 (wrap64 (x5_1 + 1)) l0_0 x197000_1 x197001_1 x197002_1 x197003_1)))) else (none)) else (none)) = some (r1, r2, r3, r4, r5) := by rw [if_pos rfl] at H; exact H
      clear H
      have H := H1
      clear H1
      by_cases c19 : 0 ≤ x5_1
      ·rw [if_pos c19] at H
       have c19b0 : decide (0 ≤ x5_1) = true := decide_eq_true c19
       clear c19
       by_cases c20 : x5_1 < (l0_0.length : Int)
       ·rw [if_pos c20] at H
        have c20b0 : decide (x5_1 < (l0_0.length : Int)) = true := decide_eq_true c20
        have c20b1 : decide ((l0_0.length : Int) ≤ x5_1) = false := decide_eq_false (by omega)
        clear c20
        replace H := Option.bind_eq_some_iff.mp H
        obtain ⟨t199, A210, H⟩ := H
        try dsimp only at H
        have A21 := Aside0.mk A210
        clear A210
        replace H := Option.bind_eq_some_iff.mp H
        obtain ⟨⟨t201, t202, t203, t206, t207⟩, A220, H⟩ := H
        try dsimp only at H
        have A22 := Aside0.mk A220
        clear A220
        by_cases c23 : t199 ≥ 0
        ·rw [if_pos c23] at H
         have c23b0 : decide (0 ≤ t199) = true := decide_eq_true c23
         clear c23
         by_cases c24 : t207 = true
         ·subst c24
          have H1 : (if t201 = t199 then (if t199 > x197000_1 then (spec_NewestSnap.l0 kj7 (wrap64 (x5_1 + 1)) l0_0 t201 t202 t203 t206) else (spec_NewestSnap.l0 kj7 (wrap64 (x5_1 + 1)) l0_0 x197000_1 x197001_1 x197002_1 x197003_1)) else (spec_NewestSnap.l0 kj7 (wrap64 (x5_1 + 1)) l0_0 x197000_1 x197001_1 x197002_1 x197003_1)) = some (r1, r2, r3, r4, r5) := by rw [if_pos rfl] at H; exact H
          clear H
          have H := H1
          clear H1
          by_cases c25 : t201 = t199
          ·rw [if_pos c25] at H
           have c25b0 : (t201 == t199) = true := beq_iff_eq.mpr c25
           have c25b1 : (t201 != t199) = false := bne_eq_false_iff_eq.mpr c25
           clear c25
           by_cases c26 : t199 > x197000_1
           ·rw [if_pos c26] at H
            have c26b0 : decide (x197000_1 < t199) = true := decide_eq_true c26
            have c26b1 : decide (t199 ≤ x197000_1) = false := decide_eq_false (by omega)
            clear c26
            have H' := Aside0.mk H
            clear H
            have hnb27 := NB194_195.out
            have hnc27 := NB195_194.out
            have hnb28 := NB194_196.out
            have hnc28 := NB196_194.out
            obtain ⟨hcz29_0, hfz29_0⟩ := zc1 BK194.out
            have p198 : 0 ≤ (x5_1 : Int) := of_decide_eq_true (by first | (with_reducible assumption) | assumption)
            have q198 : x5_1 < (l0_0.length : Int) := of_decide_eq_true (by first | (with_reducible assumption) | assumption)
            obtain ⟨ad198, e198, hx198_0, hx198_1, hx198_2⟩ := at_T78 HR0_0.out x5_1 p198 q198
            cases e198
            replace hx198_0 := (HB.out.cell (World.block_lt_of_cell? w _ hx198_0)).trans hx198_0
            replace hx198_1 := (HB.out.cell (World.block_lt_of_cell? w _ hx198_1)).trans hx198_1
            replace hx198_2 := (HB.out.cell (World.block_lt_of_cell? w _ hx198_2)).trans hx198_2
            replace p198 := eq_true p198
            replace q198 := eq_true q198
            go_wp2_with (first | ((with_reducible refine gate_callee (f := 48) rfl ?_); refine goesL_ (some 27) rfl rfl Tryd.func48 (by kernel_rfl) rfl #[.string ((rd_T78 l0_0 x5_1).f0)] rfl zr ?_; (with_reducible refine (spec_l08Index.calls kj7 ((rd_T78 l0_0 x5_1).f0) t199 _ A21.out).mono ?_); rintro e w30 ⟨rfl, hb⟩; refine ⟨_, rfl, ?_⟩; replace HO_197002 := am (Kd.R_below (rx HO_197002.out) hb); replace BK194 := am (bb hb (kx BK194.out)); replace BK195 := am (bb hb (kx BK195.out)); replace BK196 := am (bb hb (kx BK196.out)); replace HB := am (below_step (zb3 HB.out GE194.out GE195.out GE196.out) hb); (try clear hb); (try clear hb2); (try clear hk); (try clear hi); obtain ⟨hcz31_0, hfz31_0⟩ := zc1 BK194.out; have p200 : 0 ≤ (x5_1 : Int) := of_decide_eq_true (by first | (with_reducible assumption) | assumption); have q200 : x5_1 < (l0_0.length : Int) := of_decide_eq_true (by first | (with_reducible assumption) | assumption); obtain ⟨ad200, e200, hx200_0, hx200_1, hx200_2⟩ := at_T78 HR0_0.out x5_1 p200 q200; obtain rfl : ad198 = ad200 := (by injection e200); replace hx200_0 := (HB.out.cell (World.block_lt_of_cell? w _ hx200_0)).trans hx200_0; replace hx200_1 := (HB.out.cell (World.block_lt_of_cell? w _ hx200_1)).trans hx200_1; replace hx200_2 := (HB.out.cell (World.block_lt_of_cell? w _ hx200_2)).trans hx200_2; replace p200 := eq_true p200; replace q200 := eq_true q200) | ((with_reducible refine gate_callee (f := 49) rfl ?_); refine goesL_ (some 35) rfl rfl Tryd.func49 (by kernel_rfl) rfl #[.string ((rd_T78 l0_0 x5_1).f1)] rfl zr ?_; (with_reducible refine (spec_ReadSnap.calls kj7 ((rd_T78 l0_0 x5_1).f1) t201 t202 t203 t206 true _ A22.out).mono ?_); rintro e w32 ⟨v204, rfl, ho0, hb⟩; refine ⟨_, rfl, ?_⟩; have HO205 := am (Kd.R_lower (Kd.R_new' ho0 (Kd.R_lt (rx HO_197002.out))) (below_size (zb3 HB.out GE194.out GE195.out GE196.out))); replace HO_197002 := am (Kd.R_elder' (rx HO_197002.out) (Kd.R_base ho0) hb); replace BK194 := am (bb hb (kx BK194.out)); replace BK195 := am (bb hb (kx BK195.out)); replace BK196 := am (bb hb (kx BK196.out)); replace HB := am (below_step (zb3 HB.out GE194.out GE195.out GE196.out) hb); (try clear hb); (try clear hb2); (try clear hk); (try clear hi); (try clear ho0)) | ((with_reducible refine gate_dst (N := 7) rfl ?_); refine box_event ?hg (N := 7) ?hd (cs := #[.int .i64 0, .int .i64 0, .slice none 0 0, .string (⟨#[]⟩ : ByteArray)]) (t := 48) ?hr ?_; (case hd => rfl); (case hg => rfl); (case hr => first | (go_simp; done) | (go_simp; rfl)); intro gb208 hg w33 hbox hb; have BK208 := am (hbox); have GW208 := zge hg (zb3 HB.out GE194.out GE195.out GE196.out); have GE208 := zge hg (zb3 HB.out GE194.out GE195.out GE196.out); have NB194_208 := znl hg (kx BK194.out); have NB208_194 := zng hg (kx BK194.out); have NB195_208 := znl hg (kx BK195.out); have NB208_195 := zng hg (kx BK195.out); have NB196_208 := znl hg (kx BK196.out); have NB208_196 := zng hg (kx BK196.out); replace HO_197002 := am (Kd.R_below (rx HO_197002.out) hb); replace HO205 := am (Kd.R_below (rx HO205.out) hb); replace BK194 := am (bb hb (kx BK194.out)); replace BK195 := am (bb hb (kx BK195.out)); replace BK196 := am (bb hb (kx BK196.out)); replace HB := am (below_step (zb3 HB.out GE194.out GE195.out GE196.out) hb); clear hb hbox hg; have hnb34 := NB208_194.out; have hnc34 := NB194_208.out; have hnb35 := NB208_195.out; have hnc35 := NB195_208.out; have hnb36 := NB208_196.out; have hnc36 := NB196_208.out; obtain ⟨hcz37_0, hcz37_1, hcz37_2, hcz37_3, hfz37_0, hfz37_1, hfz37_2, hfz37_3⟩ := zc4 BK208.out; obtain ⟨Ao38, co38, eo38⟩ := Kd.R_slice HO205.out; subst eo38; have hnb39 := NB196_195.out; have hnc39 := NB195_196.out; obtain ⟨hcz40_0, hcz40_1, hcz40_2, hcz40_3, hfz40_0, hfz40_1, hfz40_2, hfz40_3⟩ := zc4 BK196.out))
            go_roundg kj7
            case measure => have := HK1.out; have := HJ7.out; omega
            case rel => exact ⟨(wrap64 (x5_1 + 1)), (t201), (t202), (t203), (t206), (.slice Ao38 t203.length co38), (by first | rfl | (simp; done) | (simp [*]; done)), H', ⟨by have := HK1.out; have := HJ7.out; omega⟩, ⟨rx (Kd.R_mono (Kd.R_far (p := ⟨gb196, 3, none⟩) (Kd.R_far (p := ⟨gb196, 2, none⟩) (Kd.R_far (p := ⟨gb196, 1, none⟩) (Kd.R_far (p := ⟨gb196, 0, none⟩) (Kd.R_far (p := ⟨gb208, 3, none⟩) (Kd.R_far (p := ⟨gb208, 2, none⟩) (Kd.R_far (p := ⟨gb208, 1, none⟩) (Kd.R_far (p := ⟨gb208, 0, none⟩) (Kd.R_types (Kd.R_types HO205.out BK208.out (by decide)) BK196.out (by decide)) (fun _ hk => hk.1.2) (.int .i64 t201)) (fun _ hk => hk.1.2) (.int .i64 t202)) (fun _ hk => hk.1.2) (.slice Ao38 t203.length co38)) (fun _ hk => hk.1.2) (.string t206)) (fun _ hk => hk.2) (.int .i64 t201)) (fun _ hk => hk.2) (.int .i64 t202)) (fun _ hk => hk.2) (.slice Ao38 t203.length co38)) (fun _ hk => hk.2) (.string t206)) (fun _ hk => trivial))⟩, ⟨zf2 BK194.out NB194_196.out NB194_208.out⟩, ⟨zf2 BK195.out NB195_196.out NB195_208.out⟩, ⟨by (with_reducible repeat (first | refine blk_drewN ?_ _ | refine blk_drew ?_ | refine blk_alloc ?_ _)); refine blk_put (cs := #[.int .i64 t201, .int .i64 t202, .slice Ao38 t203.length co38, .string x197003_1]) ?_ 3 _ rfl; (with_reducible repeat (first | refine blk_drewN ?_ _ | refine blk_drew ?_ | refine blk_alloc ?_ _)); refine blk_put (cs := #[.int .i64 t201, .int .i64 t202, u197002, .string x197003_1]) ?_ 2 _ rfl; (with_reducible repeat (first | refine blk_drewN ?_ _ | refine blk_drew ?_ | refine blk_alloc ?_ _)); refine blk_put (cs := #[.int .i64 t201, .int .i64 x197001_1, u197002, .string x197003_1]) ?_ 1 _ rfl; (with_reducible repeat (first | refine blk_drewN ?_ _ | refine blk_drew ?_ | refine blk_alloc ?_ _)); refine blk_put (cs := #[.int .i64 x197000_1, .int .i64 x197001_1, u197002, .string x197003_1]) ?_ 0 _ rfl; (with_reducible repeat (first | refine blk_drewN ?_ _ | refine blk_drew ?_ | refine blk_alloc ?_ _)); refine blk_far ?_ NB196_208.out _; (with_reducible repeat (first | refine blk_drewN ?_ _ | refine blk_drew ?_ | refine blk_alloc ?_ _)); refine blk_far ?_ NB196_208.out _; (with_reducible repeat (first | refine blk_drewN ?_ _ | refine blk_drew ?_ | refine blk_alloc ?_ _)); refine blk_far ?_ NB196_208.out _; (with_reducible repeat (first | refine blk_drewN ?_ _ | refine blk_drew ?_ | refine blk_alloc ?_ _)); refine blk_far ?_ NB196_208.out _; (with_reducible repeat (first | refine blk_drewN ?_ _ | refine blk_drew ?_ | refine blk_alloc ?_ _)); exact BK196.out⟩, ⟨zb4 HB.out GE194.out GE195.out GE196.out GE208.out⟩⟩
           ·rw [if_neg c26] at H
            have c26b0 : decide (x197000_1 < t199) = false := decide_eq_false c26
            have c26b1 : decide (t199 ≤ x197000_1) = true := decide_eq_true (by omega)
            clear c26
            have H' := Aside0.mk H
            clear H
            have hnb41 := NB194_195.out
            have hnc41 := NB195_194.out
            have hnb42 := NB194_196.out
            have hnc42 := NB196_194.out
            obtain ⟨hcz43_0, hfz43_0⟩ := zc1 BK194.out
            have p198 : 0 ≤ (x5_1 : Int) := of_decide_eq_true (by first | (with_reducible assumption) | assumption)
            have q198 : x5_1 < (l0_0.length : Int) := of_decide_eq_true (by first | (with_reducible assumption) | assumption)
            obtain ⟨ad198, e198, hx198_0, hx198_1, hx198_2⟩ := at_T78 HR0_0.out x5_1 p198 q198
            cases e198
            replace hx198_0 := (HB.out.cell (World.block_lt_of_cell? w _ hx198_0)).trans hx198_0
            replace hx198_1 := (HB.out.cell (World.block_lt_of_cell? w _ hx198_1)).trans hx198_1
            replace hx198_2 := (HB.out.cell (World.block_lt_of_cell? w _ hx198_2)).trans hx198_2
            replace p198 := eq_true p198
            replace q198 := eq_true q198
            go_wp2_with (first | ((with_reducible refine gate_callee (f := 48) rfl ?_); refine goesL_ (some 27) rfl rfl Tryd.func48 (by kernel_rfl) rfl #[.string ((rd_T78 l0_0 x5_1).f0)] rfl zr ?_; (with_reducible refine (spec_l08Index.calls kj7 ((rd_T78 l0_0 x5_1).f0) t199 _ A21.out).mono ?_); rintro e w44 ⟨rfl, hb⟩; refine ⟨_, rfl, ?_⟩; replace HO_197002 := am (Kd.R_below (rx HO_197002.out) hb); replace BK194 := am (bb hb (kx BK194.out)); replace BK195 := am (bb hb (kx BK195.out)); replace BK196 := am (bb hb (kx BK196.out)); replace HB := am (below_step (zb3 HB.out GE194.out GE195.out GE196.out) hb); (try clear hb); (try clear hb2); (try clear hk); (try clear hi); obtain ⟨hcz45_0, hfz45_0⟩ := zc1 BK194.out; have p200 : 0 ≤ (x5_1 : Int) := of_decide_eq_true (by first | (with_reducible assumption) | assumption); have q200 : x5_1 < (l0_0.length : Int) := of_decide_eq_true (by first | (with_reducible assumption) | assumption); obtain ⟨ad200, e200, hx200_0, hx200_1, hx200_2⟩ := at_T78 HR0_0.out x5_1 p200 q200; obtain rfl : ad198 = ad200 := (by injection e200); replace hx200_0 := (HB.out.cell (World.block_lt_of_cell? w _ hx200_0)).trans hx200_0; replace hx200_1 := (HB.out.cell (World.block_lt_of_cell? w _ hx200_1)).trans hx200_1; replace hx200_2 := (HB.out.cell (World.block_lt_of_cell? w _ hx200_2)).trans hx200_2; replace p200 := eq_true p200; replace q200 := eq_true q200) | ((with_reducible refine gate_callee (f := 49) rfl ?_); refine goesL_ (some 35) rfl rfl Tryd.func49 (by kernel_rfl) rfl #[.string ((rd_T78 l0_0 x5_1).f1)] rfl zr ?_; (with_reducible refine (spec_ReadSnap.calls kj7 ((rd_T78 l0_0 x5_1).f1) t201 t202 t203 t206 true _ A22.out).mono ?_); rintro e w46 ⟨v204, rfl, ho0, hb⟩; refine ⟨_, rfl, ?_⟩; have HO205 := am (Kd.R_lower (Kd.R_new' ho0 (Kd.R_lt (rx HO_197002.out))) (below_size (zb3 HB.out GE194.out GE195.out GE196.out))); replace HO_197002 := am (Kd.R_elder' (rx HO_197002.out) (Kd.R_base ho0) hb); replace BK194 := am (bb hb (kx BK194.out)); replace BK195 := am (bb hb (kx BK195.out)); replace BK196 := am (bb hb (kx BK196.out)); replace HB := am (below_step (zb3 HB.out GE194.out GE195.out GE196.out) hb); (try clear hb); (try clear hb2); (try clear hk); (try clear hi); (try clear ho0)) | ((with_reducible refine gate_dst (N := 7) rfl ?_); refine box_event ?hg (N := 7) ?hd (cs := #[.int .i64 0, .int .i64 0, .slice none 0 0, .string (⟨#[]⟩ : ByteArray)]) (t := 48) ?hr ?_; (case hd => rfl); (case hg => rfl); (case hr => first | (go_simp; done) | (go_simp; rfl)); intro gb208 hg w47 hbox hb; have BK208 := am (hbox); have GW208 := zge hg (zb3 HB.out GE194.out GE195.out GE196.out); have GE208 := zge hg (zb3 HB.out GE194.out GE195.out GE196.out); have NB194_208 := znl hg (kx BK194.out); have NB208_194 := zng hg (kx BK194.out); have NB195_208 := znl hg (kx BK195.out); have NB208_195 := zng hg (kx BK195.out); have NB196_208 := znl hg (kx BK196.out); have NB208_196 := zng hg (kx BK196.out); replace HO_197002 := am (Kd.R_below (rx HO_197002.out) hb); replace HO205 := am (Kd.R_below (rx HO205.out) hb); replace BK194 := am (bb hb (kx BK194.out)); replace BK195 := am (bb hb (kx BK195.out)); replace BK196 := am (bb hb (kx BK196.out)); replace HB := am (below_step (zb3 HB.out GE194.out GE195.out GE196.out) hb); clear hb hbox hg; have hnb48 := NB208_194.out; have hnc48 := NB194_208.out; have hnb49 := NB208_195.out; have hnc49 := NB195_208.out; have hnb50 := NB208_196.out; have hnc50 := NB196_208.out; obtain ⟨hcz51_0, hcz51_1, hcz51_2, hcz51_3, hfz51_0, hfz51_1, hfz51_2, hfz51_3⟩ := zc4 BK208.out; obtain ⟨Ao52, co52, eo52⟩ := Kd.R_slice HO205.out; subst eo52; have hnb53 := NB196_195.out; have hnc53 := NB195_196.out; obtain ⟨hcz54_0, hcz54_1, hcz54_2, hcz54_3, hfz54_0, hfz54_1, hfz54_2, hfz54_3⟩ := zc4 BK196.out))
            go_roundg kj7
            case measure => have := HK1.out; have := HJ7.out; omega
            case rel => exact ⟨(wrap64 (x5_1 + 1)), (x197000_1), (x197001_1), (x197002_1), (x197003_1), (u197002), (by first | rfl | (simp; done) | (simp [*]; done)), H', ⟨by have := HK1.out; have := HJ7.out; omega⟩, ⟨rx (Kd.R_mono (Kd.R_far (p := ⟨gb208, 3, none⟩) (Kd.R_far (p := ⟨gb208, 2, none⟩) (Kd.R_far (p := ⟨gb208, 1, none⟩) (Kd.R_far (p := ⟨gb208, 0, none⟩) (Kd.R_types HO_197002.out BK208.out (by decide)) (fun _ hk => hk.2) (.int .i64 t201)) (fun _ hk => hk.2) (.int .i64 t202)) (fun _ hk => hk.2) (.slice Ao52 t203.length co52)) (fun _ hk => hk.2) (.string t206)) (fun _ hk => trivial))⟩, ⟨zf1 BK194.out NB194_208.out⟩, ⟨zf1 BK195.out NB195_208.out⟩, ⟨zf1 BK196.out NB196_208.out⟩, ⟨zb4 HB.out GE194.out GE195.out GE196.out GE208.out⟩⟩
          ·rw [if_neg c25] at H
           have c25b0 : (t201 == t199) = false := beq_eq_false_iff_ne.mpr c25
           have c25b1 : (t201 != t199) = true := bne_iff_ne.mpr c25
           have H' := Aside0.mk H
           clear H
           have hnb55 := NB194_195.out
           have hnc55 := NB195_194.out
           have hnb56 := NB194_196.out
           have hnc56 := NB196_194.out
           obtain ⟨hcz57_0, hfz57_0⟩ := zc1 BK194.out
           have p198 : 0 ≤ (x5_1 : Int) := of_decide_eq_true (by first | (with_reducible assumption) | assumption)
           have q198 : x5_1 < (l0_0.length : Int) := of_decide_eq_true (by first | (with_reducible assumption) | assumption)
           obtain ⟨ad198, e198, hx198_0, hx198_1, hx198_2⟩ := at_T78 HR0_0.out x5_1 p198 q198
           cases e198
           replace hx198_0 := (HB.out.cell (World.block_lt_of_cell? w _ hx198_0)).trans hx198_0
           replace hx198_1 := (HB.out.cell (World.block_lt_of_cell? w _ hx198_1)).trans hx198_1
           replace hx198_2 := (HB.out.cell (World.block_lt_of_cell? w _ hx198_2)).trans hx198_2
           replace p198 := eq_true p198
           replace q198 := eq_true q198
           go_wp2_with (first | ((with_reducible refine gate_callee (f := 48) rfl ?_); refine goesL_ (some 27) rfl rfl Tryd.func48 (by kernel_rfl) rfl #[.string ((rd_T78 l0_0 x5_1).f0)] rfl zr ?_; (with_reducible refine (spec_l08Index.calls kj7 ((rd_T78 l0_0 x5_1).f0) t199 _ A21.out).mono ?_); rintro e w58 ⟨rfl, hb⟩; refine ⟨_, rfl, ?_⟩; replace HO_197002 := am (Kd.R_below (rx HO_197002.out) hb); replace BK194 := am (bb hb (kx BK194.out)); replace BK195 := am (bb hb (kx BK195.out)); replace BK196 := am (bb hb (kx BK196.out)); replace HB := am (below_step (zb3 HB.out GE194.out GE195.out GE196.out) hb); (try clear hb); (try clear hb2); (try clear hk); (try clear hi); obtain ⟨hcz59_0, hfz59_0⟩ := zc1 BK194.out; have p200 : 0 ≤ (x5_1 : Int) := of_decide_eq_true (by first | (with_reducible assumption) | assumption); have q200 : x5_1 < (l0_0.length : Int) := of_decide_eq_true (by first | (with_reducible assumption) | assumption); obtain ⟨ad200, e200, hx200_0, hx200_1, hx200_2⟩ := at_T78 HR0_0.out x5_1 p200 q200; obtain rfl : ad198 = ad200 := (by injection e200); replace hx200_0 := (HB.out.cell (World.block_lt_of_cell? w _ hx200_0)).trans hx200_0; replace hx200_1 := (HB.out.cell (World.block_lt_of_cell? w _ hx200_1)).trans hx200_1; replace hx200_2 := (HB.out.cell (World.block_lt_of_cell? w _ hx200_2)).trans hx200_2; replace p200 := eq_true p200; replace q200 := eq_true q200) | ((with_reducible refine gate_callee (f := 49) rfl ?_); refine goesL_ (some 35) rfl rfl Tryd.func49 (by kernel_rfl) rfl #[.string ((rd_T78 l0_0 x5_1).f1)] rfl zr ?_; (with_reducible refine (spec_ReadSnap.calls kj7 ((rd_T78 l0_0 x5_1).f1) t201 t202 t203 t206 true _ A22.out).mono ?_); rintro e w60 ⟨v204, rfl, ho0, hb⟩; refine ⟨_, rfl, ?_⟩; have HO205 := am (Kd.R_lower (Kd.R_new' ho0 (Kd.R_lt (rx HO_197002.out))) (below_size (zb3 HB.out GE194.out GE195.out GE196.out))); replace HO_197002 := am (Kd.R_elder' (rx HO_197002.out) (Kd.R_base ho0) hb); replace BK194 := am (bb hb (kx BK194.out)); replace BK195 := am (bb hb (kx BK195.out)); replace BK196 := am (bb hb (kx BK196.out)); replace HB := am (below_step (zb3 HB.out GE194.out GE195.out GE196.out) hb); (try clear hb); (try clear hb2); (try clear hk); (try clear hi); (try clear ho0)) | ((with_reducible refine gate_dst (N := 7) rfl ?_); refine box_event ?hg (N := 7) ?hd (cs := #[.int .i64 0, .int .i64 0, .slice none 0 0, .string (⟨#[]⟩ : ByteArray)]) (t := 48) ?hr ?_; (case hd => rfl); (case hg => rfl); (case hr => first | (go_simp; done) | (go_simp; rfl)); intro gb208 hg w61 hbox hb; have BK208 := am (hbox); have GW208 := zge hg (zb3 HB.out GE194.out GE195.out GE196.out); have GE208 := zge hg (zb3 HB.out GE194.out GE195.out GE196.out); have NB194_208 := znl hg (kx BK194.out); have NB208_194 := zng hg (kx BK194.out); have NB195_208 := znl hg (kx BK195.out); have NB208_195 := zng hg (kx BK195.out); have NB196_208 := znl hg (kx BK196.out); have NB208_196 := zng hg (kx BK196.out); replace HO_197002 := am (Kd.R_below (rx HO_197002.out) hb); replace HO205 := am (Kd.R_below (rx HO205.out) hb); replace BK194 := am (bb hb (kx BK194.out)); replace BK195 := am (bb hb (kx BK195.out)); replace BK196 := am (bb hb (kx BK196.out)); replace HB := am (below_step (zb3 HB.out GE194.out GE195.out GE196.out) hb); clear hb hbox hg; have hnb62 := NB208_194.out; have hnc62 := NB194_208.out; have hnb63 := NB208_195.out; have hnc63 := NB195_208.out; have hnb64 := NB208_196.out; have hnc64 := NB196_208.out; obtain ⟨hcz65_0, hcz65_1, hcz65_2, hcz65_3, hfz65_0, hfz65_1, hfz65_2, hfz65_3⟩ := zc4 BK208.out; obtain ⟨Ao66, co66, eo66⟩ := Kd.R_slice HO205.out; subst eo66))
           go_roundg kj7
           case measure => have := HK1.out; have := HJ7.out; omega
           case rel => exact ⟨(wrap64 (x5_1 + 1)), (x197000_1), (x197001_1), (x197002_1), (x197003_1), (u197002), (by first | rfl | (simp; done) | (simp [*]; done)), H', ⟨by have := HK1.out; have := HJ7.out; omega⟩, ⟨rx (Kd.R_mono (Kd.R_far (p := ⟨gb208, 3, none⟩) (Kd.R_far (p := ⟨gb208, 2, none⟩) (Kd.R_far (p := ⟨gb208, 1, none⟩) (Kd.R_far (p := ⟨gb208, 0, none⟩) (Kd.R_types HO_197002.out BK208.out (by decide)) (fun _ hk => hk.2) (.int .i64 t201)) (fun _ hk => hk.2) (.int .i64 t202)) (fun _ hk => hk.2) (.slice Ao66 t203.length co66)) (fun _ hk => hk.2) (.string t206)) (fun _ hk => trivial))⟩, ⟨zf1 BK194.out NB194_208.out⟩, ⟨zf1 BK195.out NB195_208.out⟩, ⟨zf1 BK196.out NB196_208.out⟩, ⟨zb4 HB.out GE194.out GE195.out GE196.out GE208.out⟩⟩
         ·replace c24 := Bool.eq_false_iff.mpr c24
          subst c24
          have H1 : (spec_NewestSnap.l0 kj7 (wrap64 (x5_1 + 1)) l0_0 x197000_1 x197001_1 x197002_1 x197003_1) = some (r1, r2, r3, r4, r5) := by rw [if_neg (show ¬ (false = true) by decide)] at H; exact H
          clear H
          have H := H1
          clear H1
          have H' := Aside0.mk H
          clear H
          have hnb67 := NB194_195.out
          have hnc67 := NB195_194.out
          have hnb68 := NB194_196.out
          have hnc68 := NB196_194.out
          obtain ⟨hcz69_0, hfz69_0⟩ := zc1 BK194.out
          have p198 : 0 ≤ (x5_1 : Int) := of_decide_eq_true (by first | (with_reducible assumption) | assumption)
          have q198 : x5_1 < (l0_0.length : Int) := of_decide_eq_true (by first | (with_reducible assumption) | assumption)
          obtain ⟨ad198, e198, hx198_0, hx198_1, hx198_2⟩ := at_T78 HR0_0.out x5_1 p198 q198
          cases e198
          replace hx198_0 := (HB.out.cell (World.block_lt_of_cell? w _ hx198_0)).trans hx198_0
          replace hx198_1 := (HB.out.cell (World.block_lt_of_cell? w _ hx198_1)).trans hx198_1
          replace hx198_2 := (HB.out.cell (World.block_lt_of_cell? w _ hx198_2)).trans hx198_2
          replace p198 := eq_true p198
          replace q198 := eq_true q198
          go_wp2_with (first | ((with_reducible refine gate_callee (f := 48) rfl ?_); refine goesL_ (some 27) rfl rfl Tryd.func48 (by kernel_rfl) rfl #[.string ((rd_T78 l0_0 x5_1).f0)] rfl zr ?_; (with_reducible refine (spec_l08Index.calls kj7 ((rd_T78 l0_0 x5_1).f0) t199 _ A21.out).mono ?_); rintro e w70 ⟨rfl, hb⟩; refine ⟨_, rfl, ?_⟩; replace HO_197002 := am (Kd.R_below (rx HO_197002.out) hb); replace BK194 := am (bb hb (kx BK194.out)); replace BK195 := am (bb hb (kx BK195.out)); replace BK196 := am (bb hb (kx BK196.out)); replace HB := am (below_step (zb3 HB.out GE194.out GE195.out GE196.out) hb); (try clear hb); (try clear hb2); (try clear hk); (try clear hi); obtain ⟨hcz71_0, hfz71_0⟩ := zc1 BK194.out; have p200 : 0 ≤ (x5_1 : Int) := of_decide_eq_true (by first | (with_reducible assumption) | assumption); have q200 : x5_1 < (l0_0.length : Int) := of_decide_eq_true (by first | (with_reducible assumption) | assumption); obtain ⟨ad200, e200, hx200_0, hx200_1, hx200_2⟩ := at_T78 HR0_0.out x5_1 p200 q200; obtain rfl : ad198 = ad200 := (by injection e200); replace hx200_0 := (HB.out.cell (World.block_lt_of_cell? w _ hx200_0)).trans hx200_0; replace hx200_1 := (HB.out.cell (World.block_lt_of_cell? w _ hx200_1)).trans hx200_1; replace hx200_2 := (HB.out.cell (World.block_lt_of_cell? w _ hx200_2)).trans hx200_2; replace p200 := eq_true p200; replace q200 := eq_true q200) | ((with_reducible refine gate_callee (f := 49) rfl ?_); refine goesL_ (some 35) rfl rfl Tryd.func49 (by kernel_rfl) rfl #[.string ((rd_T78 l0_0 x5_1).f1)] rfl zr ?_; (with_reducible refine (spec_ReadSnap.calls kj7 ((rd_T78 l0_0 x5_1).f1) t201 t202 t203 t206 false _ A22.out).mono ?_); rintro e w72 ⟨v204, rfl, ho0, hb⟩; refine ⟨_, rfl, ?_⟩; have HO205 := am (Kd.R_lower (Kd.R_new' ho0 (Kd.R_lt (rx HO_197002.out))) (below_size (zb3 HB.out GE194.out GE195.out GE196.out))); replace HO_197002 := am (Kd.R_elder' (rx HO_197002.out) (Kd.R_base ho0) hb); replace BK194 := am (bb hb (kx BK194.out)); replace BK195 := am (bb hb (kx BK195.out)); replace BK196 := am (bb hb (kx BK196.out)); replace HB := am (below_step (zb3 HB.out GE194.out GE195.out GE196.out) hb); (try clear hb); (try clear hb2); (try clear hk); (try clear hi); (try clear ho0)) | ((with_reducible refine gate_dst (N := 7) rfl ?_); refine box_event ?hg (N := 7) ?hd (cs := #[.int .i64 0, .int .i64 0, .slice none 0 0, .string (⟨#[]⟩ : ByteArray)]) (t := 48) ?hr ?_; (case hd => rfl); (case hg => rfl); (case hr => first | (go_simp; done) | (go_simp; rfl)); intro gb208 hg w73 hbox hb; have BK208 := am (hbox); have GW208 := zge hg (zb3 HB.out GE194.out GE195.out GE196.out); have GE208 := zge hg (zb3 HB.out GE194.out GE195.out GE196.out); have NB194_208 := znl hg (kx BK194.out); have NB208_194 := zng hg (kx BK194.out); have NB195_208 := znl hg (kx BK195.out); have NB208_195 := zng hg (kx BK195.out); have NB196_208 := znl hg (kx BK196.out); have NB208_196 := zng hg (kx BK196.out); replace HO_197002 := am (Kd.R_below (rx HO_197002.out) hb); replace HO205 := am (Kd.R_below (rx HO205.out) hb); replace BK194 := am (bb hb (kx BK194.out)); replace BK195 := am (bb hb (kx BK195.out)); replace BK196 := am (bb hb (kx BK196.out)); replace HB := am (below_step (zb3 HB.out GE194.out GE195.out GE196.out) hb); clear hb hbox hg; have hnb74 := NB208_194.out; have hnc74 := NB194_208.out; have hnb75 := NB208_195.out; have hnc75 := NB195_208.out; have hnb76 := NB208_196.out; have hnc76 := NB196_208.out; obtain ⟨hcz77_0, hcz77_1, hcz77_2, hcz77_3, hfz77_0, hfz77_1, hfz77_2, hfz77_3⟩ := zc4 BK208.out; obtain ⟨Ao78, co78, eo78⟩ := Kd.R_slice HO205.out; subst eo78))
          go_roundg kj7
          case measure => have := HK1.out; have := HJ7.out; omega
          case rel => exact ⟨(wrap64 (x5_1 + 1)), (x197000_1), (x197001_1), (x197002_1), (x197003_1), (u197002), (by first | rfl | (simp; done) | (simp [*]; done)), H', ⟨by have := HK1.out; have := HJ7.out; omega⟩, ⟨rx (Kd.R_mono (Kd.R_far (p := ⟨gb208, 3, none⟩) (Kd.R_far (p := ⟨gb208, 2, none⟩) (Kd.R_far (p := ⟨gb208, 1, none⟩) (Kd.R_far (p := ⟨gb208, 0, none⟩) (Kd.R_types HO_197002.out BK208.out (by decide)) (fun _ hk => hk.2) (.int .i64 t201)) (fun _ hk => hk.2) (.int .i64 t202)) (fun _ hk => hk.2) (.slice Ao78 t203.length co78)) (fun _ hk => hk.2) (.string t206)) (fun _ hk => trivial))⟩, ⟨zf1 BK194.out NB194_208.out⟩, ⟨zf1 BK195.out NB195_208.out⟩, ⟨zf1 BK196.out NB196_208.out⟩, ⟨zb4 HB.out GE194.out GE195.out GE196.out GE208.out⟩⟩
        ·rw [if_neg c23] at H
         have c23b0 : decide (0 ≤ t199) = false := decide_eq_false c23
         clear c23
         have H' := Aside0.mk H
         clear H
         have hnb79 := NB194_195.out
         have hnc79 := NB195_194.out
         have hnb80 := NB194_196.out
         have hnc80 := NB196_194.out
         obtain ⟨hcz81_0, hfz81_0⟩ := zc1 BK194.out
         have p198 : 0 ≤ (x5_1 : Int) := of_decide_eq_true (by first | (with_reducible assumption) | assumption)
         have q198 : x5_1 < (l0_0.length : Int) := of_decide_eq_true (by first | (with_reducible assumption) | assumption)
         obtain ⟨ad198, e198, hx198_0, hx198_1, hx198_2⟩ := at_T78 HR0_0.out x5_1 p198 q198
         cases e198
         replace hx198_0 := (HB.out.cell (World.block_lt_of_cell? w _ hx198_0)).trans hx198_0
         replace hx198_1 := (HB.out.cell (World.block_lt_of_cell? w _ hx198_1)).trans hx198_1
         replace hx198_2 := (HB.out.cell (World.block_lt_of_cell? w _ hx198_2)).trans hx198_2
         replace p198 := eq_true p198
         replace q198 := eq_true q198
         go_wp2_with (first | ((with_reducible refine gate_callee (f := 48) rfl ?_); refine goesL_ (some 27) rfl rfl Tryd.func48 (by kernel_rfl) rfl #[.string ((rd_T78 l0_0 x5_1).f0)] rfl zr ?_; (with_reducible refine (spec_l08Index.calls kj7 ((rd_T78 l0_0 x5_1).f0) t199 _ A21.out).mono ?_); rintro e w82 ⟨rfl, hb⟩; refine ⟨_, rfl, ?_⟩; replace HO_197002 := am (Kd.R_below (rx HO_197002.out) hb); replace BK194 := am (bb hb (kx BK194.out)); replace BK195 := am (bb hb (kx BK195.out)); replace BK196 := am (bb hb (kx BK196.out)); replace HB := am (below_step (zb3 HB.out GE194.out GE195.out GE196.out) hb); (try clear hb); (try clear hb2); (try clear hk); (try clear hi); obtain ⟨hcz83_0, hfz83_0⟩ := zc1 BK194.out; have p200 : 0 ≤ (x5_1 : Int) := of_decide_eq_true (by first | (with_reducible assumption) | assumption); have q200 : x5_1 < (l0_0.length : Int) := of_decide_eq_true (by first | (with_reducible assumption) | assumption); obtain ⟨ad200, e200, hx200_0, hx200_1, hx200_2⟩ := at_T78 HR0_0.out x5_1 p200 q200; obtain rfl : ad198 = ad200 := (by injection e200); replace hx200_0 := (HB.out.cell (World.block_lt_of_cell? w _ hx200_0)).trans hx200_0; replace hx200_1 := (HB.out.cell (World.block_lt_of_cell? w _ hx200_1)).trans hx200_1; replace hx200_2 := (HB.out.cell (World.block_lt_of_cell? w _ hx200_2)).trans hx200_2; replace p200 := eq_true p200; replace q200 := eq_true q200) | ((with_reducible refine gate_callee (f := 49) rfl ?_); refine goesL_ (some 35) rfl rfl Tryd.func49 (by kernel_rfl) rfl #[.string ((rd_T78 l0_0 x5_1).f1)] rfl zr ?_; (with_reducible refine (spec_ReadSnap.calls kj7 ((rd_T78 l0_0 x5_1).f1) t201 t202 t203 t206 t207 _ A22.out).mono ?_); rintro e w84 ⟨v204, rfl, ho0, hb⟩; refine ⟨_, rfl, ?_⟩; have HO205 := am (Kd.R_lower (Kd.R_new' ho0 (Kd.R_lt (rx HO_197002.out))) (below_size (zb3 HB.out GE194.out GE195.out GE196.out))); replace HO_197002 := am (Kd.R_elder' (rx HO_197002.out) (Kd.R_base ho0) hb); replace BK194 := am (bb hb (kx BK194.out)); replace BK195 := am (bb hb (kx BK195.out)); replace BK196 := am (bb hb (kx BK196.out)); replace HB := am (below_step (zb3 HB.out GE194.out GE195.out GE196.out) hb); (try clear hb); (try clear hb2); (try clear hk); (try clear hi); (try clear ho0)) | ((with_reducible refine gate_dst (N := 7) rfl ?_); refine box_event ?hg (N := 7) ?hd (cs := #[.int .i64 0, .int .i64 0, .slice none 0 0, .string (⟨#[]⟩ : ByteArray)]) (t := 48) ?hr ?_; (case hd => rfl); (case hg => rfl); (case hr => first | (go_simp; done) | (go_simp; rfl)); intro gb208 hg w85 hbox hb; have BK208 := am (hbox); have GW208 := zge hg (zb3 HB.out GE194.out GE195.out GE196.out); have GE208 := zge hg (zb3 HB.out GE194.out GE195.out GE196.out); have NB194_208 := znl hg (kx BK194.out); have NB208_194 := zng hg (kx BK194.out); have NB195_208 := znl hg (kx BK195.out); have NB208_195 := zng hg (kx BK195.out); have NB196_208 := znl hg (kx BK196.out); have NB208_196 := zng hg (kx BK196.out); replace HO_197002 := am (Kd.R_below (rx HO_197002.out) hb); replace HO205 := am (Kd.R_below (rx HO205.out) hb); replace BK194 := am (bb hb (kx BK194.out)); replace BK195 := am (bb hb (kx BK195.out)); replace BK196 := am (bb hb (kx BK196.out)); replace HB := am (below_step (zb3 HB.out GE194.out GE195.out GE196.out) hb); clear hb hbox hg; have hnb86 := NB208_194.out; have hnc86 := NB194_208.out; have hnb87 := NB208_195.out; have hnc87 := NB195_208.out; have hnb88 := NB208_196.out; have hnc88 := NB196_208.out; obtain ⟨hcz89_0, hcz89_1, hcz89_2, hcz89_3, hfz89_0, hfz89_1, hfz89_2, hfz89_3⟩ := zc4 BK208.out; obtain ⟨Ao90, co90, eo90⟩ := Kd.R_slice HO205.out; subst eo90))
         go_roundg kj7
         case measure => have := HK1.out; have := HJ7.out; omega
         case rel => exact ⟨(wrap64 (x5_1 + 1)), (x197000_1), (x197001_1), (x197002_1), (x197003_1), (u197002), (by first | rfl | (simp; done) | (simp [*]; done)), H', ⟨by have := HK1.out; have := HJ7.out; omega⟩, ⟨rx (Kd.R_mono (Kd.R_far (p := ⟨gb208, 3, none⟩) (Kd.R_far (p := ⟨gb208, 2, none⟩) (Kd.R_far (p := ⟨gb208, 1, none⟩) (Kd.R_far (p := ⟨gb208, 0, none⟩) (Kd.R_types HO_197002.out BK208.out (by decide)) (fun _ hk => hk.2) (.int .i64 t201)) (fun _ hk => hk.2) (.int .i64 t202)) (fun _ hk => hk.2) (.slice Ao90 t203.length co90)) (fun _ hk => hk.2) (.string t206)) (fun _ hk => trivial))⟩, ⟨zf1 BK194.out NB194_208.out⟩, ⟨zf1 BK195.out NB195_208.out⟩, ⟨zf1 BK196.out NB196_208.out⟩, ⟨zb4 HB.out GE194.out GE195.out GE196.out GE208.out⟩⟩
       ·rw [if_neg c20] at H
        exact absurd H (by simp)
      ·rw [if_neg c19] at H
       exact absurd H (by simp)
     ·replace c18 := Bool.eq_false_iff.mpr c18
      subst c18
      have H1 : (if x197000_1 < 0 then (some (0, 0, ([] : List Int), (⟨#[]⟩ : ByteArray), false)) else (some (x197000_1, x197001_1, x197002_1, x197003_1, true))) = some (r1, r2, r3, r4, r5) := by rw [if_neg (show ¬ (false = true) by decide)] at H; exact H
      clear H
      have H := H1
      clear H1
      by_cases c91 : x197000_1 < 0
      ·rw [if_pos c91] at H
       have c91b0 : decide (x197000_1 < 0) = true := decide_eq_true c91
       clear c91
       simp only [Option.some.injEq, Prod.mk.injEq] at H
       obtain ⟨rfl, rfl, rfl, rfl, rfl⟩ := H
       have hnb92 := NB196_194.out
       have hnc92 := NB194_196.out
       have hnb93 := NB196_195.out
       have hnc93 := NB195_196.out
       obtain ⟨hcz94_0, hcz94_1, hcz94_2, hcz94_3, hfz94_0, hfz94_1, hfz94_2, hfz94_3⟩ := zc4 BK196.out
       have hnb95 := NB195_194.out
       have hnc95 := NB194_195.out
       obtain ⟨hcz96_0, hcz96_1, hcz96_2, hcz96_3, hfz96_0, hfz96_1, hfz96_2, hfz96_3⟩ := zc4 BK195.out
       go_wp2
       refine bodyPost_ret (results_ct rfl _ _ gb195 48 #[.int .i64 0, .int .i64 0, .slice none 0 0, .string (⟨#[]⟩ : ByteArray)] (0, 0) _ rfl (by (with_reducible repeat (first | refine blk_drewN ?_ _ | refine blk_drew ?_ | refine blk_alloc ?_ _)); refine blk_put (cs := #[.int .i64 0, .int .i64 0, .slice none 0 0, .string (⟨#[]⟩ : ByteArray)]) ?_ 3 _ rfl; (with_reducible repeat (first | refine blk_drewN ?_ _ | refine blk_drew ?_ | refine blk_alloc ?_ _)); refine blk_put (cs := #[.int .i64 0, .int .i64 0, .slice none 0 0, .string (⟨#[]⟩ : ByteArray)]) ?_ 2 _ rfl; (with_reducible repeat (first | refine blk_drewN ?_ _ | refine blk_drew ?_ | refine blk_alloc ?_ _)); refine blk_put (cs := #[.int .i64 0, .int .i64 0, .slice none 0 0, .string (⟨#[]⟩ : ByteArray)]) ?_ 1 _ rfl; (with_reducible repeat (first | refine blk_drewN ?_ _ | refine blk_drew ?_ | refine blk_alloc ?_ _)); refine blk_put (cs := #[.int .i64 0, .int .i64 0, .slice none 0 0, .string (⟨#[]⟩ : ByteArray)]) ?_ 0 _ rfl; (with_reducible repeat (first | refine blk_drewN ?_ _ | refine blk_drew ?_ | refine blk_alloc ?_ _)); exact BK195.out) Tryd.underlying48 rfl (by kernel_rfl)) rfl ?_
       exact ⟨_, by first | rfl | (simp [errW_none, errW_some] <;> rfl) | (simp [*, errW_none, errW_some] <;> rfl), by first | exact Kd.R_nil _ _ _ _ _ | exact Kd.N_nil _ _ _ _ _ | exact Kd.V_nil _ _ _ _ _ | exact Kd.Q_nil _ _ _ _ _ | exact Kd.S_nil _ _ _ _ _, zb3 HB.out GE194.out GE195.out GE196.out⟩
      ·rw [if_neg c91] at H
       have c91b0 : decide (x197000_1 < 0) = false := decide_eq_false c91
       clear c91
       simp only [Option.some.injEq, Prod.mk.injEq] at H
       obtain ⟨rfl, rfl, rfl, rfl, rfl⟩ := H
       have hnb97 := NB196_194.out
       have hnc97 := NB194_196.out
       have hnb98 := NB196_195.out
       have hnc98 := NB195_196.out
       obtain ⟨hcz99_0, hcz99_1, hcz99_2, hcz99_3, hfz99_0, hfz99_1, hfz99_2, hfz99_3⟩ := zc4 BK196.out
       have hnb100 := NB195_194.out
       have hnc100 := NB194_195.out
       obtain ⟨hcz101_0, hcz101_1, hcz101_2, hcz101_3, hfz101_0, hfz101_1, hfz101_2, hfz101_3⟩ := zc4 BK195.out
       obtain ⟨Ao102, co102, eo102⟩ := Kd.R_slice HO_197002.out
       subst eo102
       go_wp2
       refine bodyPost_ret (results_ct rfl _ _ gb195 48 #[.int .i64 x197000_1, .int .i64 x197001_1, .slice Ao102 x197002_1.length co102, .string x197003_1] (0, 0) _ rfl (by (with_reducible repeat (first | refine blk_drewN ?_ _ | refine blk_drew ?_ | refine blk_alloc ?_ _)); refine blk_put (cs := #[.int .i64 x197000_1, .int .i64 x197001_1, .slice Ao102 x197002_1.length co102, .string (⟨#[]⟩ : ByteArray)]) ?_ 3 _ rfl; (with_reducible repeat (first | refine blk_drewN ?_ _ | refine blk_drew ?_ | refine blk_alloc ?_ _)); refine blk_put (cs := #[.int .i64 x197000_1, .int .i64 x197001_1, .slice none 0 0, .string (⟨#[]⟩ : ByteArray)]) ?_ 2 _ rfl; (with_reducible repeat (first | refine blk_drewN ?_ _ | refine blk_drew ?_ | refine blk_alloc ?_ _)); refine blk_put (cs := #[.int .i64 x197000_1, .int .i64 0, .slice none 0 0, .string (⟨#[]⟩ : ByteArray)]) ?_ 1 _ rfl; (with_reducible repeat (first | refine blk_drewN ?_ _ | refine blk_drew ?_ | refine blk_alloc ?_ _)); refine blk_put (cs := #[.int .i64 0, .int .i64 0, .slice none 0 0, .string (⟨#[]⟩ : ByteArray)]) ?_ 0 _ rfl; (with_reducible repeat (first | refine blk_drewN ?_ _ | refine blk_drew ?_ | refine blk_alloc ?_ _)); exact BK195.out) Tryd.underlying48 rfl (by kernel_rfl)) rfl ?_
       exact ⟨_, by first | rfl | (simp [errW_none, errW_some] <;> rfl) | (simp [*, errW_none, errW_some] <;> rfl), rx (Kd.R_mono (Kd.R_far (p := ⟨gb195, 3, none⟩) (Kd.R_far (p := ⟨gb195, 2, none⟩) (Kd.R_far (p := ⟨gb195, 1, none⟩) (Kd.R_far (p := ⟨gb195, 0, none⟩) (Kd.R_types HO_197002.out BK195.out (by decide)) (fun _ hk => hk.2) (.int .i64 x197000_1)) (fun _ hk => hk.2) (.int .i64 x197001_1)) (fun _ hk => hk.2) (.slice Ao102 x197002_1.length co102)) (fun _ hk => hk.2) (.string x197003_1)) (fun _ hk => trivial)), zb3 HB.out GE194.out GE195.out GE196.out⟩

/-! ### laws_toFile: function 76 -/
def laws_toFile.f (a0_0 : ByteArray) (a0_1 : ByteArray) (a0_2 : Int) : Option (ByteArray × ByteArray × Int) := some (a0_0, a0_1, a0_2)
set_option maxHeartbeats 8000000 in
set_option maxRecDepth 100000 in
theorem laws_toFile.calls (a0_0 : ByteArray) (a0_1 : ByteArray) (a0_2 : Int) (r1 : ByteArray) (r2 : ByteArray) (r3 : Int) (w : World) (h : laws_toFile.f a0_0 a0_1 a0_2 = some (r1, r2, r3)) :
  Calls Tryd.prog 76 #[.agg #[.string a0_0, .string a0_1, .int .i64 a0_2]] w fun e w' => e = .returned (.agg #[.string r1, .string r2, .int .i64 r3]) ∧ Below w.heap.size w w' := by
 have hu93 := Tryd.underlying93
 have hu78 := Tryd.underlying78
 have HB := Aside0.mk (Below.refl w.heap.size w)
 have H : (some (a0_0, a0_1, a0_2)) = some (r1, r2, r3) := h
 clear h
 simp only [Option.some.injEq, Prod.mk.injEq] at H
 obtain ⟨rfl, rfl, rfl⟩ := H
 go_enter Tryd.func76, Tryd.ntmps76
 go_wp2_with (first | ((with_reducible refine gate_dst (N := 1) rfl ?_); refine box_event ?hg (N := 1) ?hd (cs := #[.string a0_0, .string a0_1, .int .i64 a0_2]) (t := 93) ?hr ?_; (case hd => rfl); (case hg => rfl); (case hr => first | (go_simp; done) | (go_simp; rfl)); intro gb209 hg w2 hbox hb; have BK209 := am (hbox); have GW209 := zge hg (zb0 HB.out); have GE209 := zge hg (zb0 HB.out); replace HB := am (below_step (zb0 HB.out) hb); clear hb hbox hg) | ((with_reducible refine gate_dst (N := 2) rfl ?_); refine box_event ?hg (N := 2) ?hd (cs := #[.string (⟨#[]⟩ : ByteArray), .string (⟨#[]⟩ : ByteArray), .int .i64 0]) (t := 78) ?hr ?_; (case hd => rfl); (case hg => rfl); (case hr => first | (go_simp; done) | (go_simp; rfl)); intro gb210 hg w3 hbox hb; have BK210 := am (hbox); have GW210 := zge hg (zb1 HB.out GE209.out); have GE210 := zge hg (zb1 HB.out GE209.out); have NB209_210 := znl hg (kx BK209.out); have NB210_209 := zng hg (kx BK209.out); replace BK209 := am (bb hb (kx BK209.out)); replace HB := am (below_step (zb1 HB.out GE209.out) hb); clear hb hbox hg) | ((with_reducible refine gate_dst (N := 3) rfl ?_); refine box_event ?hg (N := 3) ?hd (cs := #[.string (⟨#[]⟩ : ByteArray), .string (⟨#[]⟩ : ByteArray), .int .i64 0]) (t := 78) ?hr ?_; (case hd => rfl); (case hg => rfl); (case hr => first | (go_simp; done) | (go_simp; rfl)); intro gb211 hg w4 hbox hb; have BK211 := am (hbox); have GW211 := zge hg (zb2 HB.out GE209.out GE210.out); have GE211 := zge hg (zb2 HB.out GE209.out GE210.out); have NB209_211 := znl hg (kx BK209.out); have NB211_209 := zng hg (kx BK209.out); have NB210_211 := znl hg (kx BK210.out); have NB211_210 := zng hg (kx BK210.out); replace BK209 := am (bb hb (kx BK209.out)); replace BK210 := am (bb hb (kx BK210.out)); replace HB := am (below_step (zb2 HB.out GE209.out GE210.out) hb); clear hb hbox hg; have hnb5 := NB209_210.out; have hnc5 := NB210_209.out; have hnb6 := NB209_211.out; have hnc6 := NB211_209.out; obtain ⟨hcz7_0, hcz7_1, hcz7_2, hfz7_0, hfz7_1, hfz7_2⟩ := zc3 BK209.out; have hnb8 := NB211_210.out; have hnc8 := NB210_211.out; obtain ⟨hcz9_0, hcz9_1, hcz9_2, hfz9_0, hfz9_1, hfz9_2⟩ := zc3 BK211.out; obtain ⟨hcz10_0, hcz10_1, hcz10_2, hfz10_0, hfz10_1, hfz10_2⟩ := zc3 BK210.out))
 refine bodyPost_ret (results_cell_row rfl _ _ gb210 78 #[.string a0_0, .string a0_1, .int .i64 a0_2] (0, 0) _ rfl (by (with_reducible repeat (first | refine blk_drewN ?_ _ | refine blk_drew ?_ | refine blk_alloc ?_ _)); refine blk_put (cs := #[.string a0_0, .string a0_1, .int .i64 0]) ?_ 2 _ rfl; (with_reducible repeat (first | refine blk_drewN ?_ _ | refine blk_drew ?_ | refine blk_alloc ?_ _)); refine blk_put (cs := #[.string a0_0, .string (⟨#[]⟩ : ByteArray), .int .i64 0]) ?_ 1 _ rfl; (with_reducible repeat (first | refine blk_drewN ?_ _ | refine blk_drew ?_ | refine blk_alloc ?_ _)); refine blk_put (cs := #[.string (⟨#[]⟩ : ByteArray), .string (⟨#[]⟩ : ByteArray), .int .i64 0]) ?_ 0 _ rfl; (with_reducible repeat (first | refine blk_drewN ?_ _ | refine blk_drew ?_ | refine blk_alloc ?_ _)); refine blk_far ?_ NB210_211.out _; (with_reducible repeat (first | refine blk_drewN ?_ _ | refine blk_drew ?_ | refine blk_alloc ?_ _)); refine blk_far ?_ NB210_211.out _; (with_reducible repeat (first | refine blk_drewN ?_ _ | refine blk_drew ?_ | refine blk_alloc ?_ _)); refine blk_far ?_ NB210_211.out _; (with_reducible repeat (first | refine blk_drewN ?_ _ | refine blk_drew ?_ | refine blk_alloc ?_ _)); exact BK210.out) Tryd.underlying78 rfl (by kernel_rfl)) rfl ?_
 exact ⟨by first | rfl | (simp [errW_none, errW_some] <;> rfl) | (simp [*, errW_none, errW_some] <;> rfl), zb3 HB.out GE209.out GE210.out GE211.out⟩

/-! ### laws_toFileS: function 50 -/
def laws_toFileS.l0 : Nat → List (S93) → List (S78) → Int → Option ((List (S78)))
 | 0, _, _, _ => none
 | k + 1, x0, x3, x4 => if x4 < (x0.length : Int) then (if 0 ≤ x4 then ((laws_toFile.f ((rd_T93 x0 x4).f0) ((rd_T93 x0 x4).f1) ((rd_T93 x0 x4).f2)).bind fun bt216 => (if x4 < (x3.length : Int) then (laws_toFileS.l0 k x0 (x3.set (x4 : Int).toNat (⟨bt216.1, bt216.2.1, bt216.2.2⟩ : S78)) (wrap64 (x4 + 1))) else (none))) else (none)) else (some x3)
def laws_toFileS.f (k : Nat) (l0 : List (S93)) : Option ((List (S78))) := if 0 ≤ (l0.length : Int) then (if ((l0.length : Int) : Int).toNat ≤ 7036874417766 then (laws_toFileS.l0 k l0 (List.replicate ((l0.length : Int) : Int).toNat z78) 0) else (none)) else (none)
theorem laws_toFileS.mono_l : ∀ k, (∀ y0 y1 y2, LeO (laws_toFileS.l0 k y0 y1 y2) (laws_toFileS.l0 (k + 1) y0 y1 y2))
 | 0 => fun _ _ _ r h => by simp [laws_toFileS.l0] at h
 | k + 1 => by
  have ih0 := laws_toFileS.mono_l k
  ·intro y0 y1 y2
   unfold laws_toFileS.l0
   repeat' first
   | (with_reducible exact ih0 _ _ _)
   | (with_reducible exact LeO.refl _)
   | (with_reducible exact LeO.none _)
   | (with_reducible refine LeO.ite ?_ ?_)
   | (with_reducible refine LeO.bind ?_ (fun _ => ?_))
   | exact ih0 _ _ _
   | exact LeO.none _
   | refine LeO.ite ?_ ?_
   | refine LeO.bind ?_ (fun _ => ?_)
theorem laws_toFileS.mono : ∀ a0 k, LeO (laws_toFileS.f k a0) (laws_toFileS.f (k + 1) a0) := by
 intro a0 k
 have ih0 := laws_toFileS.mono_l k
 unfold laws_toFileS.f
 repeat' first
   | (with_reducible exact ih0 _ _ _)
   | (with_reducible exact LeO.refl _)
   | (with_reducible exact LeO.none _)
   | (with_reducible refine LeO.ite ?_ ?_)
   | (with_reducible refine LeO.bind ?_ (fun _ => ?_))
   | exact ih0 _ _ _
   | exact LeO.none _
   | refine LeO.ite ?_ ?_
   | refine LeO.bind ?_ (fun _ => ?_)
set_option maxHeartbeats 8000000 in
set_option maxRecDepth 100000 in
theorem laws_toFileS.calls (k : Nat) (A0 : Option Addr) (c0 : Nat) (l0 : List (S93)) (r : List (S78)) (w : World) (hr0 : Kd.C k93 w A0 l0.length l0) (hc0 : l0.length ≤ c0) (h : laws_toFileS.f k l0 = some r) :
  Calls Tryd.prog 50 #[.slice A0 l0.length c0] w fun e w' => ∃ v0_ : Value, e = .returned (v0_) ∧ Kd.R k78 78 w' w.heap.size (fun _ => True) v0_ r ∧ Below w.heap.size w w' := by
 have hu93 := Tryd.underlying93
 have hu78 := Tryd.underlying78
 have HR0 := Aside0.mk hr0
 have HC0 := Aside0.mk hc0
 clear hr0 hc0
 have HB := Aside0.mk (Below.refl w.heap.size w)
 have H : (if 0 ≤ (l0.length : Int) then (if ((l0.length : Int) : Int).toNat ≤ 7036874417766 then (laws_toFileS.l0 k l0 (List.replicate ((l0.length : Int) : Int).toNat z78) 0) else (none)) else (none)) = some r := h
 clear h
 by_cases c2 : 0 ≤ (l0.length : Int)
 ·rw [if_pos c2] at H
  have c2b0 := eq_true c2
  have c2b1 : decide (0 ≤ (l0.length : Int)) = true := decide_eq_true c2
  clear c2
  by_cases c3 : ((l0.length : Int) : Int).toNat ≤ 7036874417766
  ·rw [if_pos c3] at H
   have c3b0 := eq_true c3
   have c3b1 : decide (((l0.length : Int) : Int).toNat ≤ 7036874417766) = true := decide_eq_true c3
   clear c3
   obtain ⟨y212, hy212⟩ : ∃ y_ : List (S78), y_ = (List.replicate ((l0.length : Int) : Int).toNat z78) := ⟨_, rfl⟩
   replace H : (laws_toFileS.l0 k l0 y212 0) = some r := by first | (rw [hy212]; with_reducible exact H) | (have H2_ := (Option.bind_some _ _).symm.trans H; rw [hy212]; with_reducible exact H2_) | (have H2_ := (Option.bind_some _ _).symm.trans H; with_reducible exact H2_) | with_reducible exact H | (rw [hy212]; exact H) | exact H
   have Ny212 := Aside0.mk hy212
   clear hy212
   have H' := Aside0.mk H
   clear H
   go_enter Tryd.func50, Tryd.ntmps50
   go_wp2_with (first | ((with_reducible refine gate_dst (N := 7) rfl ?_); refine Kd.R_make k78 _ 78 rfl (N := 7) rfl 51 _ _ rfl (l0.length : Int) rfl rfl Tryd.underlying51 (.agg #[(.string ⟨#[]⟩), (.string ⟨#[]⟩), (.int .i64 0)]) 40 info78 rfl (by decide) (by omega) z78 (ok := fun _ => True) (okp := fun _ => True) (k78_mkM _ _ _ z78 ) (fun _ hk => hk) trivial (of_decide_eq_true (by first | (with_reducible assumption) | assumption)) (Nat.le_trans (Nat.mul_le_mul_right _ (of_decide_eq_true (by first | (with_reducible assumption) | assumption) : (l0.length : Int).toNat ≤ 7036874417766)) (by omega)) (Below.refl _ _) (Nat.le_refl _) ?_; intro v213 w4 ho5 hb hg_ hnew_; clear hg_ hnew_; (first | rw [← Ny212.out] at ho5 | (simp only [Int.reduceToNat] at ho5; rw [← Ny212.out] at ho5)); have HO214 := am (Kd.R_lower ho5 (below_size (zb0 HB.out))); replace HB := am (below_step (zb0 HB.out) hb); clear hb ho5))
   go_loopg [4] k (fun kq v4 w' => ∃ (x3_1 : List (S78)) (x4_1 : Int), v4 = .int .i64 x4_1 ∧ Aside0 (laws_toFileS.l0 kq l0 x3_1 x4_1 = some r) ∧ Aside0 (kq ≤ k) ∧ Aside0 (Kd.R k78 78 w' w.heap.size (fun _ => True) v213 x3_1) ∧ Aside0 (Below w.heap.size w w'))
   case atStart => exact ⟨(y212), (0), (by first | rfl | (simp; done) | (simp [*]; done)), H', ⟨Nat.le_refl _⟩, ⟨rx HO214.out⟩, ⟨zb0 HB.out⟩⟩
   case round =>
    clear H'
    try clear c2
    try clear c2b0
    try clear c2b1
    try clear p2
    try clear c3
    try clear c3b0
    try clear c3b1
    try clear c5
    obtain ⟨x3_1, x4_1, rfl, HA, HK1, HO_3, HB⟩ := hrel
    cases gk with
    | zero => exact absurd HA.out (by simp [laws_toFileS.l0])
    | succ k1 =>
     have H := HA.out
     clear HA
     simp only [laws_toFileS.l0] at H
     by_cases c6 : x4_1 < (l0.length : Int)
     ·rw [if_pos c6] at H
      have c6b0 : decide (x4_1 < (l0.length : Int)) = true := decide_eq_true c6
      have c6b1 : decide ((l0.length : Int) ≤ x4_1) = false := decide_eq_false (by omega)
      clear c6
      by_cases c7 : 0 ≤ x4_1
      ·rw [if_pos c7] at H
       have c7b0 : decide (0 ≤ x4_1) = true := decide_eq_true c7
       clear c7
       replace H := Option.bind_eq_some_iff.mp H
       obtain ⟨⟨t216, t217, t218⟩, A80, H⟩ := H
       try dsimp only at H
       have A8 := Aside0.mk A80
       clear A80
       by_cases c9 : x4_1 < (x3_1.length : Int)
       ·rw [if_pos c9] at H
        have c9b0 : decide (x4_1 < (x3_1.length : Int)) = true := decide_eq_true c9
        have c9b1 : decide ((x3_1.length : Int) ≤ x4_1) = false := decide_eq_false (by omega)
        clear c9
        obtain ⟨y219, hy219⟩ : ∃ y_ : List (S78), y_ = (x3_1.set (x4_1 : Int).toNat (⟨t216, t217, t218⟩ : S78)) := ⟨_, rfl⟩
        replace H : (laws_toFileS.l0 k1 l0 y219 (wrap64 (x4_1 + 1))) = some r := by first | (rw [hy219]; with_reducible exact H) | (have H2_ := (Option.bind_some _ _).symm.trans H; rw [hy219]; with_reducible exact H2_) | (have H2_ := (Option.bind_some _ _).symm.trans H; with_reducible exact H2_) | with_reducible exact H | (rw [hy219]; exact H) | exact H
        have Ny219 := Aside0.mk hy219
        clear hy219
        have H' := Aside0.mk H
        clear H
        have p215 : 0 ≤ (x4_1 : Int) := of_decide_eq_true (by first | (with_reducible assumption) | assumption)
        have q215 : x4_1 < (l0.length : Int) := of_decide_eq_true (by first | (with_reducible assumption) | assumption)
        obtain ⟨ad215, e215, hx215_0, hx215_1, hx215_2⟩ := at_T93 HR0.out x4_1 p215 q215
        cases e215
        replace hx215_0 := (HB.out.cell (World.block_lt_of_cell? w _ hx215_0)).trans hx215_0
        replace hx215_1 := (HB.out.cell (World.block_lt_of_cell? w _ hx215_1)).trans hx215_1
        replace hx215_2 := (HB.out.cell (World.block_lt_of_cell? w _ hx215_2)).trans hx215_2
        replace p215 := eq_true p215
        replace q215 := eq_true q215
        go_wp2_with (first | ((with_reducible refine gate_callee (f := 76) rfl ?_); refine goesL_ (some 20) rfl rfl Tryd.func76 (by kernel_rfl) rfl #[.agg #[.string ((rd_T93 l0 x4_1).f0), .string ((rd_T93 l0 x4_1).f1), .int .i64 ((rd_T93 l0 x4_1).f2)]] rfl zr ?_; (with_reducible refine (laws_toFile.calls ((rd_T93 l0 x4_1).f0) ((rd_T93 l0 x4_1).f1) ((rd_T93 l0 x4_1).f2) t216 t217 t218 _ A8.out).mono ?_); rintro e w11 ⟨rfl, hb⟩; refine ⟨_, rfl, ?_⟩; replace HO_3 := am (Kd.R_below (rx HO_3.out) hb); replace HB := am (below_step (zb0 HB.out) hb); (try clear hb); (try clear hb2); (try clear hk); (try clear hi); have p10 : 0 ≤ (x4_1 : Int) := of_decide_eq_true (by first | (with_reducible assumption) | assumption); have q10 : (x4_1 : Int) < ((x3_1.length : Int) : Int) := of_decide_eq_true (by first | (with_reducible assumption) | assumption); obtain ⟨go10, co10, eo10, gb10, gl10, cl10, HG10⟩ := Kd.R_form HO_3.out (by omega); (first | cases eo10 | (injection eo10 with ea_ en_ ec_; (first | subst ea_ | (injection ea_ with ea_; subst ea_)); subst ec_; clear en_)); have GB10 := Aside0.mk gb10; have GG10 := Aside0.mk HG10; clear gb10 gl10 HG10; obtain ⟨ce10, hcl10, hM10, hcc10, hfr10⟩ := Kd.R_elem HO_3.out z78 (x4_1 : Int) p10 q10; obtain rfl := k78_openM hM10; have hx10_0 : w11.cell? ⟨go10, (x4_1 : Int).toNat * 3, none⟩ = some (.string ((rd_T78 x3_1 x4_1).f0)) := hcc10 0 _ rfl; have hx10_1 : w11.cell? ⟨go10, (x4_1 : Int).toNat * 3 + 1, none⟩ = some (.string ((rd_T78 x3_1 x4_1).f1)) := hcc10 1 _ rfl; have hx10_2 : w11.cell? ⟨go10, (x4_1 : Int).toNat * 3 + 2, none⟩ = some (.int .i64 ((rd_T78 x3_1 x4_1).f2)) := hcc10 2 _ rfl; have hf10_0 : w11.frozen? ⟨go10, (x4_1 : Int).toNat * 3, none⟩ = false := hfr10 0; have hf10_1 : w11.frozen? ⟨go10, (x4_1 : Int).toNat * 3 + 1, none⟩ = false := hfr10 1; have hf10_2 : w11.frozen? ⟨go10, (x4_1 : Int).toNat * 3 + 2, none⟩ = false := hfr10 2; clear hcl10 hcc10 hfr10 hM10; replace p10 := eq_true p10; replace q10 := eq_true q10; have HX12 := Aside0.mk (show Kd.R k78 78 w11 w.heap.size (fun _ => True) (.slice (some ⟨go10, 0, none⟩) x3_1.length co10) x3_1 from (rx HO_3.out)); obtain ⟨ce12, hcl12, hM12, hcc12, hfr12⟩ := Kd.R_elem HX12.out z78 (x4_1 : Int) (of_decide_eq_true (by first | (with_reducible assumption) | assumption)) (by have h_ : (x4_1 : Int) < ((x3_1.length : Int) : Int) := of_decide_eq_true (by first | (with_reducible assumption) | assumption); first | exact h_ | (have e_ := (Kd.R_reads' HO_3.out).1; omega) | simpa using h_); obtain rfl := k78_openM hM12; have HP12 := Kd.R_seg HX12.out (x4_1 : Int) (of_decide_eq_true (by first | (with_reducible assumption) | assumption)) (by have h_ : (x4_1 : Int) < ((x3_1.length : Int) : Int) := of_decide_eq_true (by first | (with_reducible assumption) | assumption); first | exact h_ | (have e_ := (Kd.R_reads' HO_3.out).1; omega) | simpa using h_) (seg := [.string t216, .string t217, .int .i64 t218]) (j := 0) hcl12 hcc12 (show 3 ≤ 3 from by decide) (x' := (⟨t216, t217, t218⟩ : S78)) (k78_mkM _ _ _ (⟨t216, t217, t218⟩ : S78) ) (fun _ hk => hk); have hx12_0 := hcc12 0 _ rfl; (try simp only [show (k78).sz = 3 from rfl, Nat.mul_one, Nat.add_zero] at hx12_0); have hf12_0 := hfr12 0; (try simp only [show (k78).sz = 3 from rfl, Nat.mul_one, Nat.add_zero] at hf12_0); have hx12_1 := hcc12 1 _ rfl; (try simp only [show (k78).sz = 3 from rfl, Nat.mul_one, Nat.add_zero] at hx12_1); have hf12_1 := hfr12 1; (try simp only [show (k78).sz = 3 from rfl, Nat.mul_one, Nat.add_zero] at hf12_1); have hx12_2 := hcc12 2 _ rfl; (try simp only [show (k78).sz = 3 from rfl, Nat.mul_one, Nat.add_zero] at hx12_2); have hf12_2 := hfr12 2; (try simp only [show (k78).sz = 3 from rfl, Nat.mul_one, Nat.add_zero] at hf12_2); clear hcl12 hcc12 hfr12 hM12) | ((with_reducible refine gate_store (t := 78) (p := 21) rfl ?_); refine store_event (t := 78) (p := 21) (v := ?vo_w13) (w1 := (((w11.setCell ⟨go10, (x4_1 : Int).toNat * 3, none⟩ (.string t216)).setCell ⟨go10, (x4_1 : Int).toNat * 3 + 1, none⟩ (.string t217)).setCell ⟨go10, (x4_1 : Int).toNat * 3 + 2, none⟩ (.int .i64 t218))) ?hg ?ho ?hn ?hr ?_; (case ho => rfl); (case hg => rfl); (case hn => rfl); (case hr => first | (go_simp; done) | (go_simp; rfl)); intro w13 hw; have hg : w11.grownBy w13 (some go10) := (by rw [hw]; exact HP12.2); have hp_ : Kd.R k78 78 w13 w.heap.size (fun _ => True) (.slice (some ⟨go10, 0, none⟩) x3_1.length co10) y219 := (by rw [hw, Ny219.out]; exact HP12.1); clear HP12; replace HO_3 := am (hp_); replace HB := am ((by rw [hw]; exact below_set (below_set (below_set (HB.out) GB10.out) GB10.out) GB10.out : Below w.heap.size w w13)); clear hg hw hp_))
        go_roundg k1
        case measure => have := HK1.out; omega
        case rel => exact ⟨(y219), (wrap64 (x4_1 + 1)), (by first | rfl | (simp; done) | (simp [*]; done)), H', ⟨by have := HK1.out; omega⟩, ⟨rx HO_3.out⟩, ⟨zb0 HB.out⟩⟩
       ·rw [if_neg c9] at H
        exact absurd H (by simp)
      ·rw [if_neg c7] at H
       exact absurd H (by simp)
     ·rw [if_neg c6] at H
      have c6b0 : decide (x4_1 < (l0.length : Int)) = false := decide_eq_false c6
      have c6b1 : decide ((l0.length : Int) ≤ x4_1) = true := decide_eq_true (by omega)
      clear c6
      obtain rfl := Option.some.inj H
      go_wp2
      go_ret
      exact ⟨_, by first | rfl | (simp [errW_none, errW_some] <;> rfl) | (simp [*, errW_none, errW_some] <;> rfl), rx HO_3.out, zb0 HB.out⟩
  ·rw [if_neg c3] at H
   exact absurd H (by simp)
 ·rw [if_neg c2] at H
  exact absurd H (by simp)

/-! ### laws_toDisk: function 26 -/
def laws_toDisk.f (k : Nat) (l0_0 : List (S93)) : Option ((List (S78))) := (laws_toFileS.f k l0_0).bind fun t223 => (some t223)
theorem laws_toDisk.mono : ∀ a0 k, LeO (laws_toDisk.f k a0) (laws_toDisk.f (k + 1) a0) := by
 intro a0 k
 unfold laws_toDisk.f
 repeat' first
   | (with_reducible exact laws_toFileS.mono _ _)
   | (with_reducible exact LeO.refl _)
   | (with_reducible exact LeO.none _)
   | (with_reducible refine LeO.ite ?_ ?_)
   | (with_reducible refine LeO.bind ?_ (fun _ => ?_))
   | exact laws_toFileS.mono _ _
   | exact LeO.none _
   | refine LeO.ite ?_ ?_
   | refine LeO.bind ?_ (fun _ => ?_)
set_option maxHeartbeats 8000000 in
set_option maxRecDepth 100000 in
theorem laws_toDisk.calls (k : Nat) (A0_0 : Option Addr) (c0_0 : Nat) (l0_0 : List (S93)) (r : List (S78)) (w : World) (hr0_0 : Kd.C k93 w A0_0 l0_0.length l0_0) (hc0_0 : l0_0.length ≤ c0_0) (h : laws_toDisk.f k l0_0 = some r) :
  Calls Tryd.prog 26 #[.agg #[.slice A0_0 l0_0.length c0_0]] w fun e w' => ∃ v0_ : Value, e = .returned (.agg #[v0_]) ∧ Kd.R k78 78 w' w.heap.size (fun _ => True) v0_ r ∧ Below w.heap.size w w' := by
 have hu44 := Tryd.underlying44
 have hu53 := Tryd.underlying53
 have HR0_0 := Aside0.mk hr0_0
 have HC0_0 := Aside0.mk hc0_0
 clear hr0_0 hc0_0
 have HB := Aside0.mk (Below.refl w.heap.size w)
 have H : ((laws_toFileS.f k l0_0).bind fun t223 => (some t223)) = some r := h
 clear h
 replace H := Option.bind_eq_some_iff.mp H
 obtain ⟨t223, A20, H⟩ := H
 try dsimp only at H
 have A2 := Aside0.mk A20
 clear A20
 obtain rfl := Option.some.inj H
 go_enter Tryd.func26, Tryd.ntmps26
 go_wp2_with (first | ((with_reducible refine gate_dst (N := 1) rfl ?_); refine box_event ?hg (N := 1) ?hd (cs := #[.slice A0_0 l0_0.length c0_0]) (t := 44) ?hr ?_; (case hd => rfl); (case hg => rfl); (case hr => first | (go_simp; done) | (go_simp; rfl)); intro gb220 hg w3 hbox hb; have BK220 := am (hbox); have GW220 := zge hg (zb0 HB.out); have GE220 := zge hg (zb0 HB.out); replace HB := am (below_step (zb0 HB.out) hb); clear hb hbox hg) | ((with_reducible refine gate_dst (N := 2) rfl ?_); refine box_event ?hg (N := 2) ?hd (cs := #[.slice none 0 0]) (t := 53) ?hr ?_; (case hd => rfl); (case hg => rfl); (case hr => first | (go_simp; done) | (go_simp; rfl)); intro gb221 hg w4 hbox hb; have BK221 := am (hbox); have GW221 := zge hg (zb1 HB.out GE220.out); have GE221 := zge hg (zb1 HB.out GE220.out); have NB220_221 := znl hg (kx BK220.out); have NB221_220 := zng hg (kx BK220.out); replace BK220 := am (bb hb (kx BK220.out)); replace HB := am (below_step (zb1 HB.out GE220.out) hb); clear hb hbox hg) | ((with_reducible refine gate_dst (N := 3) rfl ?_); refine box_event ?hg (N := 3) ?hd (cs := #[.slice none 0 0]) (t := 53) ?hr ?_; (case hd => rfl); (case hg => rfl); (case hr => first | (go_simp; done) | (go_simp; rfl)); intro gb222 hg w5 hbox hb; have BK222 := am (hbox); have GW222 := zge hg (zb2 HB.out GE220.out GE221.out); have GE222 := zge hg (zb2 HB.out GE220.out GE221.out); have NB220_222 := znl hg (kx BK220.out); have NB222_220 := zng hg (kx BK220.out); have NB221_222 := znl hg (kx BK221.out); have NB222_221 := zng hg (kx BK221.out); replace BK220 := am (bb hb (kx BK220.out)); replace BK221 := am (bb hb (kx BK221.out)); replace HB := am (below_step (zb2 HB.out GE220.out GE221.out) hb); clear hb hbox hg; have hnb6 := NB220_221.out; have hnc6 := NB221_220.out; have hnb7 := NB220_222.out; have hnc7 := NB222_220.out; obtain ⟨hcz8_0, hfz8_0⟩ := zc1 BK220.out) | ((with_reducible refine gate_callee (f := 50) rfl ?_); refine goesL_ (some 6) rfl rfl Tryd.func50 (by kernel_rfl) rfl #[.slice A0_0 l0_0.length c0_0] rfl zr ?_; (with_reducible refine (laws_toFileS.calls k _ _ l0_0 t223 _ ?side1 ?side2 A2.out).mono ?_); (case side1 => repeat (first | exact (Kd.C_below HR0_0.out HB.out) | (with_reducible refine Kd.C_alloc ?_ _) | (with_reducible refine Kd.C_drewN ?_ _) | (with_reducible refine Kd.C_drew ?_))); (case side2 => exact HC0_0.out); rintro e w9 ⟨v224, rfl, ho0, hb⟩; refine ⟨_, rfl, ?_⟩; have HO225 := am (Kd.R_lower ho0 (below_size (zb3 HB.out GE220.out GE221.out GE222.out))); replace BK220 := am (bb hb (kx BK220.out)); replace BK221 := am (bb hb (kx BK221.out)); replace BK222 := am (bb hb (kx BK222.out)); replace HB := am (below_step (zb3 HB.out GE220.out GE221.out GE222.out) hb); (try clear hb); (try clear hb2); (try clear hk); (try clear hi); (try clear ho0); obtain ⟨Ao10, co10, eo10⟩ := Kd.R_slice HO225.out; subst eo10; have hnb11 := NB222_221.out; have hnc11 := NB221_222.out; obtain ⟨hcz12_0, hfz12_0⟩ := zc1 BK222.out; obtain ⟨hcz13_0, hfz13_0⟩ := zc1 BK221.out))
 refine bodyPost_ret (results_cell_row rfl _ _ gb221 53 #[.slice Ao10 t223.length co10] (0, 0) _ rfl (by (with_reducible repeat (first | refine blk_drewN ?_ _ | refine blk_drew ?_ | refine blk_alloc ?_ _)); refine blk_put (cs := #[.slice none 0 0]) ?_ 0 _ rfl; (with_reducible repeat (first | refine blk_drewN ?_ _ | refine blk_drew ?_ | refine blk_alloc ?_ _)); refine blk_far ?_ NB221_222.out _; (with_reducible repeat (first | refine blk_drewN ?_ _ | refine blk_drew ?_ | refine blk_alloc ?_ _)); exact BK221.out) Tryd.underlying53 rfl (by kernel_rfl)) rfl ?_
 exact ⟨_, by first | rfl | (simp [errW_none, errW_some] <;> rfl) | (simp [*, errW_none, errW_some] <;> rfl), rx (Kd.R_mono (Kd.R_far (p := ⟨gb221, 0, none⟩) (Kd.R_far (p := ⟨gb222, 0, none⟩) (Kd.R_types (Kd.R_types HO225.out BK222.out (by decide)) BK221.out (by decide)) (fun _ hk => hk.1.2) (.slice Ao10 t223.length co10)) (fun _ hk => hk.2) (.slice Ao10 t223.length co10)) (fun _ hk => trivial)), zb3 HB.out GE220.out GE221.out GE222.out⟩

/-! ### impl_within: function 33 -/
def impl_within.f (a0 : Int) (a1 : Int) (a2 : Int) : Option (Bool) := if a0 ≥ a1 then (some (decide (a0 ≤ a2))) else (some false)
set_option maxHeartbeats 8000000 in
set_option maxRecDepth 100000 in
theorem impl_within.calls (a0 : Int) (a1 : Int) (a2 : Int) (r : Bool) (w : World) (h : impl_within.f a0 a1 a2 = some r) :
  Calls Tryd.prog 33 #[.int .i64 a0, .int .i64 a1, .int .i64 a2] w fun e w' => e = .returned (.bool r) ∧ Drawn0 w w' := by
 have H : (if a0 ≥ a1 then (some (decide (a0 ≤ a2))) else (some false)) = some r := h
 clear h
 by_cases c4 : a0 ≥ a1
 ·rw [if_pos c4] at H
  have c4b0 : decide (a1 ≤ a0) = true := decide_eq_true c4
  have c4b1 : decide (a0 < a1) = false := decide_eq_false (by omega)
  clear c4
  obtain rfl := Option.some.inj H
  go_enter Tryd.func33, Tryd.ntmps33
  go_wp2
  go_ret
  exact ⟨by first | rfl | (simp; done) | (simp [*]; done), by repeat (first | exact Drawn0.refl _ | apply Drawn0.step)⟩
 ·rw [if_neg c4] at H
  have c4b0 : decide (a1 ≤ a0) = false := decide_eq_false c4
  have c4b1 : decide (a0 < a1) = true := decide_eq_true (by omega)
  clear c4
  obtain rfl := Option.some.inj H
  go_enter Tryd.func33, Tryd.ntmps33
  go_wp2
  go_ret
  exact ⟨by first | rfl | (simp; done) | (simp [*]; done), by repeat (first | exact Drawn0.refl _ | apply Drawn0.step)⟩

/-! ### impl_DiskOk: function 51, by hand -/ -- rounds making
def impl_DiskOk.l0 : Nat → List (S78) → Int → Int → List (S78) → Option (Bool)
 | 0, _, _, _, _ => none
 | k + 1, x6, x7, x8, x191000 => if x8 < x7 then (if 0 ≤ x8 then (if x8 < (x6.length : Int) then ((impl_within.f (((rd_T78 x6 x8).f0).size : Int) 1 8).bind fun t193 => (if t193 = true then (if (((rd_T78 x6 x8).f1).size : Int) > 20000 then (some false) else ((impl_within.f ((rd_T78 x6 x8).f2) 0 (((rd_T78 x6 x8).f1).size : Int)).bind fun t194 => (if t194 = true then (if x8 > 0 then (if 0 ≤ (wrap64 (x8 - 1)) then (if (wrap64 (x8 - 1)) < (x191000.length : Int) then (if ((Op.bytesLess (((rd_T78 x191000 (wrap64 (x8 - 1))).f0).toList) (((rd_T78 x6 x8).f0).toList)) = true) then (impl_DiskOk.l0 k x6 x7 (wrap64 (x8 + 1)) x191000) else (some false)) else (none)) else (none)) else (impl_DiskOk.l0 k x6 x7 (wrap64 (x8 + 1)) x191000)) else (some false)))) else (some false))) else (none)) else (none)) else (some (decide ((x191000.length : Int) ≤ 30)))
def impl_DiskOk.f (k : Nat) (l0_0 : List (S78)) : Option (Bool) := impl_DiskOk.l0 k l0_0 (l0_0.length : Int) 0 l0_0
theorem impl_DiskOk.mono_l : ∀ k, (∀ y0 y1 y2 y3, LeO (impl_DiskOk.l0 k y0 y1 y2 y3) (impl_DiskOk.l0 (k + 1) y0 y1 y2 y3))
 | 0 => fun _ _ _ _ r h => by simp [impl_DiskOk.l0] at h
 | k + 1 => by
  have ih0 := impl_DiskOk.mono_l k
  ·intro y0 y1 y2 y3
   unfold impl_DiskOk.l0
   repeat' first
   | (with_reducible exact ih0 _ _ _ _)
   | (with_reducible exact LeO.refl _)
   | (with_reducible exact LeO.none _)
   | (with_reducible refine LeO.ite ?_ ?_)
   | (with_reducible refine LeO.bind ?_ (fun _ => ?_))
   | exact ih0 _ _ _ _
   | exact LeO.none _
   | refine LeO.ite ?_ ?_
   | refine LeO.bind ?_ (fun _ => ?_)
theorem impl_DiskOk.mono : ∀ a0 k, LeO (impl_DiskOk.f k a0) (impl_DiskOk.f (k + 1) a0) := by
 intro a0 k
 have ih0 := impl_DiskOk.mono_l k
 unfold impl_DiskOk.f
 repeat' first
   | (with_reducible exact ih0 _ _ _ _)
   | (with_reducible exact LeO.refl _)
   | (with_reducible exact LeO.none _)
   | (with_reducible refine LeO.ite ?_ ?_)
   | (with_reducible refine LeO.bind ?_ (fun _ => ?_))
   | exact ih0 _ _ _ _
   | exact LeO.none _
   | refine LeO.ite ?_ ?_
   | refine LeO.bind ?_ (fun _ => ?_)
set_option maxHeartbeats 8000000 in
set_option maxRecDepth 100000 in
theorem impl_DiskOk.calls (k : Nat) (A0_0 : Option Addr) (c0_0 : Nat) (l0_0 : List (S78)) (r : Bool) (w : World) (hr0_0 : Kd.C k78 w A0_0 l0_0.length l0_0) (hc0_0 : l0_0.length ≤ c0_0) (h : impl_DiskOk.f k l0_0 = some r) :
  Calls Tryd.prog 51 #[.agg #[.slice A0_0 l0_0.length c0_0]] w fun e w' => e = .returned (.bool r) ∧ Below w.heap.size w w' := by
 have HR := Aside0.mk hr0_0
 have H' := Aside0.mk (show impl_DiskOk.l0 k l0_0 (l0_0.length : Int) 0 l0_0 = some r from h)
 clear hr0_0 hc0_0 h
 go_enter Tryd.func51, Tryd.ntmps51
 go_wp2_with ((with_reducible refine gate_dst (N := 1) rfl ?_); refine box_event ?hg (N := 1) ?hd (cs := #[.slice A0_0 l0_0.length c0_0]) (t := 53) ?hr ?_; (case hd => rfl); (case hg => rfl); (case hr => first | (go_simp; done) | (go_simp; rfl)); intro gd hg w2 hbox hb; have BK := Aside0.mk hbox; have HB := Aside0.mk hb; have c0 := blk_cell hbox 0; simp only [List.getElem?_toArray, List.getElem?_cons_zero] at c0; clear hbox hb hg)
 go_loopg [8] k (fun kq v8 w' => ∃ x : Int, v8 = .int .i64 x ∧ Aside0 (impl_DiskOk.l0 kq l0_0 (l0_0.length : Int) x l0_0 = some r) ∧ Aside0 (kq ≤ k) ∧ Aside0 (w'.heap[gd]? = some (.cells #[.slice A0_0 l0_0.length c0_0] 53 (0, 0))) ∧ Aside0 (Below w.heap.size w w'))
 case atStart => exact ⟨0, rfl, H', ⟨Nat.le_refl _⟩, BK, HB⟩
 case round =>
  clear H' BK HB c0
  obtain ⟨x, rfl, HA, HK1, BK, HB⟩ := hrel
  cases gk with
  | zero => exact absurd HA.out (by simp [impl_DiskOk.l0])
  | succ k1 =>
   have H := HA.out
   clear HA
   simp only [impl_DiskOk.l0] at H
   by_cases c1 : x < (l0_0.length : Int)
   ·rw [if_pos c1] at H
    by_cases c2 : 0 ≤ x
    ·rw [if_pos c2, if_pos c1] at H
     have x1 : decide (x < (l0_0.length : Int)) = true := decide_eq_true c1
     have x2 : decide ((l0_0.length : Int) ≤ x) = false := decide_eq_false (by omega)
     obtain ⟨ad, e, t0, t1, t2⟩ := at_T78 HR.out x c2 c1
     have ea := Aside0.mk e
     replace t0 := (HB.out.cell (World.block_lt_of_cell? w _ t0)).trans t0
     replace t1 := (HB.out.cell (World.block_lt_of_cell? w _ t1)).trans t1
     replace t2 := (HB.out.cell (World.block_lt_of_cell? w _ t2)).trans t2
     cases e
     have p0 := eq_true c2
     have q0 := eq_true c1
     have C1 := Aside0.mk c1
     have C2 := Aside0.mk c2
     clear c1 c2 ea
     obtain ⟨f, hf⟩ : ∃ f, f = rd_T78 l0_0 x := ⟨_, rfl⟩
     rw [← hf] at H t0 t1 t2
     have HF := Aside0.mk hf
     clear hf
     have HH := Aside0.mk H
     clear H
     go_wp2_with ((with_reducible refine gate_dst (N := 4) rfl ?_); refine box_event ?hg (N := 4) ?hd (cs := #[.string (⟨#[]⟩ : ByteArray), .string (⟨#[]⟩ : ByteArray), .int .i64 0]) (t := 78) ?hr ?_; (case hd => rfl); (case hg => rfl); (case hr => first | (go_simp; done) | (go_simp; rfl)); intro gb hg w_b hbox hb; have YB := Aside0.mk hbox; have ZB := Aside0.mk hb; have GB := Aside0.mk hg; have d0 := blk_cell hbox 0; have d1 := blk_cell hbox 1; have d2 := blk_cell hbox 2; simp only [List.getElem?_toArray, List.getElem?_cons_zero, List.getElem?_cons_succ] at d0 d1 d2; have f0 := blk_frozen hbox 0; have f1 := blk_frozen hbox 1; have f2 := blk_frozen hbox 2; clear hbox hb hg)
     have hgd : gd ≠ gb := by have := blk_lt BK.out; have := GB.out; omega
     have B3 : Aside0 ((((w_b.setCell ⟨gb, 0, none⟩ (.string f.f0)).setCell ⟨gb, 1, none⟩ (.string f.f1)).setCell ⟨gb, 2, none⟩ (.int .i64 f.f2)).heap[gb]? = some (.cells #[.string f.f0, .string f.f1, .int .i64 f.f2] 78 (0, 0))) := ⟨blk_put (blk_put (blk_put YB.out 0 (.string f.f0) rfl) 1 (.string f.f1) rfl) 2 (.int .i64 f.f2) rfl⟩
     have D3 : Aside0 ((((w_b.setCell ⟨gb, 0, none⟩ (.string f.f0)).setCell ⟨gb, 1, none⟩ (.string f.f1)).setCell ⟨gb, 2, none⟩ (.int .i64 f.f2)).heap[gd]? = some (.cells #[.slice (some ad) l0_0.length c0_0] 53 (0, 0))) := ⟨blk_far (blk_far (blk_far (blk_below BK.out ZB.out) hgd _) hgd _) hgd _⟩
     have hgb : w.heap.size ≤ gb := by rw [GB.out]; exact HB.out.size
     have H3 : Aside0 (Below w.heap.size w (((w_b.setCell ⟨gb, 0, none⟩ (.string f.f0)).setCell ⟨gb, 1, none⟩ (.string f.f1)).setCell ⟨gb, 2, none⟩ (.int .i64 f.f2))) := ⟨below_set (below_set (below_set (below_step HB.out ZB.out) hgb) hgb) hgb⟩
     clear BK HB YB ZB GB d0 d1 d2 f0 f1 f2 hgd hgb t0 t1 t2
     generalize (((w_b.setCell ⟨gb, 0, none⟩ (.string f.f0)).setCell ⟨gb, 1, none⟩ (.string f.f1)).setCell ⟨gb, 2, none⟩ (.int .i64 f.f2)) = W3 at B3 D3 H3 ⊢
     have d0 := blk_cell B3.out 0
     have d1 := blk_cell B3.out 1
     have d2 := blk_cell B3.out 2
     have g0 := blk_cell D3.out 0
     simp only [List.getElem?_toArray, List.getElem?_cons_zero, List.getElem?_cons_succ] at d0 d1 d2 g0
     have H := HH.out
     clear HH
     obtain ⟨b1, h1, H⟩ := Option.bind_eq_some_iff.mp H
     have A1 := Aside0.mk h1
     clear h1
     cases b1 with
     | false =>
      obtain rfl := Option.some.inj H
      clear H
      go_quiet (first | (go_at_call 33; (with_reducible refine (impl_within.calls (f.f0.size : Int) 1 8 false _ A1.out).mono ?_); rintro e w' ⟨rfl, ⟨nd, rfl⟩⟩; (try first | exact ⟨rfl, _, World.drewN_drewN _ _ _⟩ | exact ⟨rfl, _, Eq.trans (World.drewN_drewN _ _ _) (congrArg (World.drewN _) (Nat.add_assoc _ _ _))⟩)))
      go_wp2
      go_ret
      exact ⟨rfl, pw_below_drewN H3.out _⟩
     | true =>
      rw [if_pos rfl] at H
      by_cases c3 : (f.f1.size : Int) > 20000
      ·rw [if_pos c3] at H
       have y1 : decide (20000 < (f.f1.size : Int)) = true := decide_eq_true c3
       have y2 : decide (20000 < f.f1.size) = true := decide_eq_true (by omega)
       clear c3
       obtain rfl := Option.some.inj H
       clear H
       go_quiet (first | (go_at_call 33; (with_reducible refine (impl_within.calls (f.f0.size : Int) 1 8 true _ A1.out).mono ?_); rintro e w' ⟨rfl, ⟨nd, rfl⟩⟩; (try first | exact ⟨rfl, _, World.drewN_drewN _ _ _⟩ | exact ⟨rfl, _, Eq.trans (World.drewN_drewN _ _ _) (congrArg (World.drewN _) (Nat.add_assoc _ _ _))⟩)))
       go_wp2
       go_ret
       exact ⟨rfl, pw_below_drewN H3.out _⟩
      ·rw [if_neg c3] at H
       have y1 : decide (20000 < (f.f1.size : Int)) = false := decide_eq_false c3
       have y2 : decide (20000 < f.f1.size) = false := decide_eq_false (by omega)
       clear c3
       obtain ⟨b2, h2, H⟩ := Option.bind_eq_some_iff.mp H
       have A2 := Aside0.mk h2
       clear h2
       cases b2 with
       | false =>
        obtain rfl := Option.some.inj H
        clear H
        go_quiet (first | (go_at_call 33; (with_reducible refine (impl_within.calls (f.f0.size : Int) 1 8 true _ A1.out).mono ?_); rintro e w' ⟨rfl, ⟨nd, rfl⟩⟩; (try first | exact ⟨rfl, _, World.drewN_drewN _ _ _⟩ | exact ⟨rfl, _, Eq.trans (World.drewN_drewN _ _ _) (congrArg (World.drewN _) (Nat.add_assoc _ _ _))⟩)) | (go_at_call 33; (with_reducible refine (impl_within.calls f.f2 0 (f.f1.size : Int) false _ A2.out).mono ?_); rintro e w' ⟨rfl, ⟨nd, rfl⟩⟩; (try first | exact ⟨rfl, _, World.drewN_drewN _ _ _⟩ | exact ⟨rfl, _, Eq.trans (World.drewN_drewN _ _ _) (congrArg (World.drewN _) (Nat.add_assoc _ _ _))⟩)))
        go_wp2
        go_ret
        exact ⟨rfl, pw_below_drewN H3.out _⟩
       | true =>
        rw [if_pos rfl] at H
        by_cases c4 : x > 0
        ·rw [if_pos c4] at H
         have z1 : decide (0 < x) = true := decide_eq_true c4
         by_cases c5 : 0 ≤ wrap64 (x - 1)
         ·rw [if_pos c5] at H
          by_cases c6 : wrap64 (x - 1) < (l0_0.length : Int)
          ·rw [if_pos c6] at H
           obtain ⟨ad', e', t0, _, _⟩ := at_T78 HR.out (wrap64 (x - 1)) c5 c6
           obtain rfl : ad = ad' := by injection e'
           replace t0 := (H3.out.cell (World.block_lt_of_cell? w _ t0)).trans t0
           have p1 := eq_true c5
           have p2 := eq_true c6
           clear c4 c5 c6 e'
           by_cases c7 : Op.bytesLess (rd_T78 l0_0 (wrap64 (x - 1))).f0.toList f.f0.toList = true
           ·rw [if_pos c7] at H
            have HA := Aside0.mk H
            clear H
            go_quiet (first | (go_at_call 33; (with_reducible refine (impl_within.calls (f.f0.size : Int) 1 8 true _ A1.out).mono ?_); rintro e w' ⟨rfl, ⟨nd, rfl⟩⟩; (try first | exact ⟨rfl, _, World.drewN_drewN _ _ _⟩ | exact ⟨rfl, _, Eq.trans (World.drewN_drewN _ _ _) (congrArg (World.drewN _) (Nat.add_assoc _ _ _))⟩)) | (go_at_call 33; (with_reducible refine (impl_within.calls f.f2 0 (f.f1.size : Int) true _ A2.out).mono ?_); rintro e w' ⟨rfl, ⟨nd, rfl⟩⟩; (try first | exact ⟨rfl, _, World.drewN_drewN _ _ _⟩ | exact ⟨rfl, _, Eq.trans (World.drewN_drewN _ _ _) (congrArg (World.drewN _) (Nat.add_assoc _ _ _))⟩)))
            go_wp2
            go_roundg k1
            case measure => have := HK1.out; omega
            case rel => exact ⟨wrap64 (x + 1), (by first | rfl | (simp; done) | (simp [*]; done)), HA, ⟨by have := HK1.out; omega⟩, D3, ⟨pw_below_drewN H3.out _⟩⟩
           ·rw [if_neg c7] at H
            have c7' : Op.bytesLess (rd_T78 l0_0 (wrap64 (x - 1))).f0.toList f.f0.toList = false := by simpa using c7
            clear c7
            obtain rfl := Option.some.inj H
            clear H
            go_quiet (first | (go_at_call 33; (with_reducible refine (impl_within.calls (f.f0.size : Int) 1 8 true _ A1.out).mono ?_); rintro e w' ⟨rfl, ⟨nd, rfl⟩⟩; (try first | exact ⟨rfl, _, World.drewN_drewN _ _ _⟩ | exact ⟨rfl, _, Eq.trans (World.drewN_drewN _ _ _) (congrArg (World.drewN _) (Nat.add_assoc _ _ _))⟩)) | (go_at_call 33; (with_reducible refine (impl_within.calls f.f2 0 (f.f1.size : Int) true _ A2.out).mono ?_); rintro e w' ⟨rfl, ⟨nd, rfl⟩⟩; (try first | exact ⟨rfl, _, World.drewN_drewN _ _ _⟩ | exact ⟨rfl, _, Eq.trans (World.drewN_drewN _ _ _) (congrArg (World.drewN _) (Nat.add_assoc _ _ _))⟩)))
            go_wp2
            go_ret
            exact ⟨rfl, pw_below_drewN H3.out _⟩
          ·rw [if_neg c6] at H
           exact absurd H (by simp)
         ·rw [if_neg c5] at H
          exact absurd H (by simp)
        ·rw [if_neg c4] at H
         have z1 : decide (0 < x) = false := decide_eq_false c4
         clear c4
         have HA := Aside0.mk H
         clear H
         go_quiet (first | (go_at_call 33; (with_reducible refine (impl_within.calls (f.f0.size : Int) 1 8 true _ A1.out).mono ?_); rintro e w' ⟨rfl, ⟨nd, rfl⟩⟩; (try first | exact ⟨rfl, _, World.drewN_drewN _ _ _⟩ | exact ⟨rfl, _, Eq.trans (World.drewN_drewN _ _ _) (congrArg (World.drewN _) (Nat.add_assoc _ _ _))⟩)) | (go_at_call 33; (with_reducible refine (impl_within.calls f.f2 0 (f.f1.size : Int) true _ A2.out).mono ?_); rintro e w' ⟨rfl, ⟨nd, rfl⟩⟩; (try first | exact ⟨rfl, _, World.drewN_drewN _ _ _⟩ | exact ⟨rfl, _, Eq.trans (World.drewN_drewN _ _ _) (congrArg (World.drewN _) (Nat.add_assoc _ _ _))⟩)))
         go_wp2
         go_roundg k1
         case measure => have := HK1.out; omega
         case rel => exact ⟨wrap64 (x + 1), (by first | rfl | (simp; done) | (simp [*]; done)), HA, ⟨by have := HK1.out; omega⟩, D3, ⟨pw_below_drewN H3.out _⟩⟩
    ·rw [if_neg c2] at H
     exact absurd H (by simp)
   ·rw [if_neg c1] at H
    have x1 : decide (x < (l0_0.length : Int)) = false := decide_eq_false c1
    have x2 : decide ((l0_0.length : Int) ≤ x) = true := decide_eq_true (by omega)
    clear c1
    obtain rfl := Option.some.inj H
    clear H
    have c0 := blk_cell BK.out 0
    simp only [List.getElem?_toArray, List.getElem?_cons_zero] at c0
    go_wp2
    go_ret
    exact ⟨by first | rfl | (simp; done), HB.out⟩

end Go.Proofs.YtogifkjkbfdocaaDoor.QFnExactNewestSnap
