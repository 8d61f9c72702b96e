/- Written by the kit's print.py, called by our own print2.sh with one import more; not by print.sh. -/
import Derived.Test.YtklbkkoojkmjbaaQFnActsx0
namespace Go.Proofs.Ytklbkkoojkmjbaa.QFnActs
open Go.RowKit Go.Proofs.YtklbkkoojkmjbaaW.PrintWords Go.Proofs.YtklbkkoojkmjbaaW.PrintLast Go.Proofs.YtklbkkoojkmjbaaW.PrintMore
attribute [local go_sem] max2_int min2_int max_two min_two max_three min_three max_four min_four   -- for this text's walks alone
open Go.Proofs.Ytklbkkoojkmjbaa.Short
set_option linter.unusedVariables false
set_option linter.unusedSimpArgs false

attribute [local go_sem high] gtr_str
-- NOT PRINTED: function 60 (impl_File_60)

/-! ### impl_placeOf: function 38, by hand -/ -- making
instance : Inhabited S66 := ⟨z66⟩
def impl_placeOf.f (l0_0 : List (S66)) (a1 : ByteArray) : Option (Int) := some (Lib.idxByFrom (fun (_ : S66) y => y.f0.toList == a1.toList) z66 l0_0 0)
def impl_placeOf.enc (x : S66) : List Value := [.string x.f0, .string x.f1, .int .i64 x.f2]
theorem impl_placeOf.pred (n : ByteArray) (B : Nat) (w : World) (hB : B < w.heap.size) (hcell : w.cell? ⟨B, 0, none⟩ = some (.string n)) :
  PredBelow Try.prog 61 #[.pointer (some ⟨B, 0, none⟩)] (fun x => .agg (impl_placeOf.enc x).toArray) (fun y => y.f0.toList == n.toList) w := fun W x hb => by
 have hc : W.cell? ⟨B, 0, none⟩ = some (.string n) := (hb.cell (p := ⟨B, 0, none⟩) hB).trans hcell
 have hBW : B < W.heap.size := Nat.lt_of_lt_of_le hB hb.size
 have hne : B ≠ W.heap.size := by omega
 show Calls Try.prog 61 #[.agg #[.string x.f0, .string x.f1, .int .i64 x.f2], .pointer (some ⟨B, 0, none⟩)] W _
 go_enter Try.func61, Try.ntmps61
 go_wp2
 all_goals (go_ret; exact ⟨by first | rfl | simp_all, hb.alloc hb.size _⟩)
theorem impl_placeOf.none_ (A : Option Addr) (c : Nat) (fv : Value) (w : World) : Calls Try.prog 60 #[.slice A 0 c, fv] w fun e w' => e = .returned (.int .i64 (-1)) ∧ Below w.heap.size w w' := by
 go_enter Try.func60, Try.ntmps60
 go_wp2
 go_loopg [8] 0 (fun gg s8 wr => s8 = .int .i64 0 ∧ wr = w)
 case atStart => exact ⟨rfl, rfl⟩
 case round =>
  obtain ⟨rfl, rfl⟩ := hrel
  go_wp2
  go_ret
  exact ⟨rfl, Below.refl _ _⟩
set_option maxHeartbeats 2000000 in
theorem impl_placeOf.calls (A0_0 : Option Addr) (c0_0 : Nat) (l0_0 : List (S66)) (a1 : ByteArray) (r : Int) (w : World) (hr0_0 : Kd.C k66 w A0_0 l0_0.length l0_0) (hc0_0 : l0_0.length ≤ c0_0) (h : impl_placeOf.f l0_0 a1 = some r) :
  Calls Try.prog 38 #[.agg #[.slice A0_0 l0_0.length c0_0], .string a1] w fun e w' => e = .returned (.int .i64 r) ∧ Below w.heap.size w w' := by
 obtain rfl := Option.some.inj h
 clear h
 have hcon : Calls Try.prog 60 #[.slice A0_0 l0_0.length c0_0, .func (.func 61) #[] #[.pointer (some ⟨w.heap.size + 1, 0, none⟩)]] ((w.alloc (.cells #[.slice A0_0 l0_0.length c0_0] 31)).alloc (.cells #[.string a1] 9))
   fun e w' => e = .returned (.int .i64 (Lib.idxByFrom (fun (_ : S66) y => y.f0.toList == a1.toList) z66 l0_0 0)) ∧ Below ((w.alloc (.cells #[.slice A0_0 l0_0.length c0_0] 31)).alloc (.cells #[.string a1] 9)).heap.size ((w.alloc (.cells #[.slice A0_0 l0_0.length c0_0] 31)).alloc (.cells #[.string a1] 9)) w' := by
  cases hl : l0_0 with
  | nil => exact impl_placeOf.none_ _ _ _ _
  | cons x l =>
   rw [← hl]
   have hpos : (0 : Int) < l0_0.length := by rw [hl, List.length_cons]; omega
   obtain ⟨ad, ead, h0, _, _⟩ := at_T66 hr0_0 0 (by omega) hpos
   have hsp : ad.spot = none := World.cell?_spot h0
   have hbl : ad.block < w.heap.size := World.block_lt_of_cell? w _ h0
   obtain ⟨b, off, sp⟩ := ad
   obtain rfl : sp = none := hsp
   subst ead
   have eg : ∀ args W, (callFunc 61 args).run Try.prog W = .ok (.enter 61 args) W := enters_of Try.func61 (by kernel_rfl) rfl
   have hq := AnyQ.slices_IndexFunc Try.l60 3 Try.isAgg66 Try.sizeOf66 impl_placeOf.enc (fun _ => rfl) (fun y => y.f0.toList == a1.toList) 61 #[.pointer (some ⟨w.heap.size + 1, 0, none⟩)] eg b off l0_0.length c0_0 l0_0 ((w.alloc (.cells #[.slice (some ⟨b, off, none⟩) l0_0.length c0_0] 31)).alloc (.cells #[.string a1] 9))
    (impl_placeOf.pred a1 (w.heap.size + 1) _ (by simp) (by simp)) (Nat.le_refl _) hr0_0.2.1 (by have hbl' : b < w.heap.size := hbl; simp; omega) (fun j hj i v hi => by
     obtain ⟨ad, ead, h1, h2, h3⟩ := at_T66 hr0_0 (j : Int) (by omega) (by omega)
     cases ead
     have ej : rd_T66 l0_0 (j : Int) = l0_0[j]! := by unfold rd_T66; rw [show ((j : Int)).toNat = j by omega, List.getD_eq_getElem?_getD, getElem!_def]; cases l0_0[j]? <;> rfl
     have e0 : (Addr.add ⟨b, off, none⟩ ((j : Int).toNat * 3)) = ⟨b, off + j * 3, none⟩ := by rw [show ((j : Int)).toNat = j by omega, Addr.add_lit]
     rw [e0, ej] at h1 h2 h3
     clear e0 ej
     generalize l0_0[j]! = y at hi h1 h2 h3
     refine Lib.cell?_alloc_some _ (Lib.cell?_alloc_some _ ?_)
     match i, hi with
     | 0, hi => simp [impl_placeOf.enc] at hi; rw [← hi]; exact h1
     | 1, hi => simp [impl_placeOf.enc] at hi; rw [← hi]; exact h2
     | 2, hi => simp [impl_placeOf.enc] at hi; rw [← hi]; exact h3
     | i + 3, hi => simp [impl_placeOf.enc] at hi)
   rw [List.take_length] at hq
   exact hq
 go_enter Try.func38, Try.ntmps38
 go_wp2_with (go_at_call 60; refine hcon.mono ?_; rintro e w' ⟨rfl, hb'⟩)
 go_ret
 exact ⟨rfl, (below_alloc (below_alloc (Below.refl _ _) _) _).trans (hb'.mono (by simp; omega))⟩

/-! ### impl_within: function 54 -/
def impl_within.f (a0 : Int) (a1 : Int) (a2 : Int) : Option (Bool) := if a0 ≥ a1 then (some (decide (a0 ≤ a2))) else (some false)
set_option maxHeartbeats 8000000 in
set_option maxRecDepth 100000 in
theorem impl_within.calls (a0 : Int) (a1 : Int) (a2 : Int) (r : Bool) (w : World) (h : impl_within.f a0 a1 a2 = some r) :
  Calls Try.prog 54 #[.int .i64 a0, .int .i64 a1, .int .i64 a2] w fun e w' => e = .returned (.bool r) ∧ Drawn0 w w' := by
 have H : (if a0 ≥ a1 then (some (decide (a0 ≤ a2))) else (some false)) = some r := h
 clear h
 by_cases c4 : a0 ≥ a1
 ·rw [if_pos c4] at H
  have c4b0 : decide (a1 ≤ a0) = true := decide_eq_true c4
  have c4b1 : decide (a0 < a1) = false := decide_eq_false (by omega)
  clear c4
  obtain rfl := Option.some.inj H
  go_enter Try.func54, Try.ntmps54
  go_wp2
  go_ret
  exact ⟨by first | rfl | (simp; done) | (simp [*]; done), by repeat (first | exact Drawn0.refl _ | apply Drawn0.step)⟩
 ·rw [if_neg c4] at H
  have c4b0 : decide (a1 ≤ a0) = false := decide_eq_false c4
  have c4b1 : decide (a0 < a1) = true := decide_eq_true (by omega)
  clear c4
  obtain rfl := Option.some.inj H
  go_enter Try.func54, Try.ntmps54
  go_wp2
  go_ret
  exact ⟨by first | rfl | (simp; done) | (simp [*]; done), by repeat (first | exact Drawn0.refl _ | apply Drawn0.step)⟩

/-! ### impl_DiskOk: function 39, by hand -/ -- rounds making
def impl_DiskOk.l0 : Nat → List (S66) → Int → Int → List (S66) → Option (Bool)
 | 0, _, _, _, _ => none
 | k + 1, x6, x7, x8, x191000 => if x8 < x7 then (if 0 ≤ x8 then (if x8 < (x6.length : Int) then ((impl_within.f (((rd_T66 x6 x8).f0).size : Int) 1 8).bind fun t193 => (if t193 = true then (if (((rd_T66 x6 x8).f1).size : Int) > 20000 then (some false) else ((impl_within.f ((rd_T66 x6 x8).f2) 0 (((rd_T66 x6 x8).f1).size : Int)).bind fun t194 => (if t194 = true then (if x8 > 0 then (if 0 ≤ (wrap64 (x8 - 1)) then (if (wrap64 (x8 - 1)) < (x191000.length : Int) then (if ((Op.bytesLess (((rd_T66 x191000 (wrap64 (x8 - 1))).f0).toList) (((rd_T66 x6 x8).f0).toList)) = true) then (impl_DiskOk.l0 k x6 x7 (wrap64 (x8 + 1)) x191000) else (some false)) else (none)) else (none)) else (impl_DiskOk.l0 k x6 x7 (wrap64 (x8 + 1)) x191000)) else (some false)))) else (some false))) else (none)) else (none)) else (some (decide ((x191000.length : Int) ≤ 30)))
def impl_DiskOk.f (k : Nat) (l0_0 : List (S66)) : Option (Bool) := impl_DiskOk.l0 k l0_0 (l0_0.length : Int) 0 l0_0
theorem impl_DiskOk.mono_l : ∀ k, (∀ y0 y1 y2 y3, LeO (impl_DiskOk.l0 k y0 y1 y2 y3) (impl_DiskOk.l0 (k + 1) y0 y1 y2 y3))
 | 0 => fun _ _ _ _ r h => by simp [impl_DiskOk.l0] at h
 | k + 1 => by
  have ih0 := impl_DiskOk.mono_l k
  ·intro y0 y1 y2 y3
   unfold impl_DiskOk.l0
   repeat' first
   | (with_reducible exact ih0 _ _ _ _)
   | (with_reducible exact LeO.refl _)
   | (with_reducible exact LeO.none _)
   | (with_reducible refine LeO.ite ?_ ?_)
   | (with_reducible refine LeO.bind ?_ (fun _ => ?_))
   | exact ih0 _ _ _ _
   | exact LeO.none _
   | refine LeO.ite ?_ ?_
   | refine LeO.bind ?_ (fun _ => ?_)
theorem impl_DiskOk.mono : ∀ a0 k, LeO (impl_DiskOk.f k a0) (impl_DiskOk.f (k + 1) a0) := by
 intro a0 k
 have ih0 := impl_DiskOk.mono_l k
 unfold impl_DiskOk.f
 repeat' first
   | (with_reducible exact ih0 _ _ _ _)
   | (with_reducible exact LeO.refl _)
   | (with_reducible exact LeO.none _)
   | (with_reducible refine LeO.ite ?_ ?_)
   | (with_reducible refine LeO.bind ?_ (fun _ => ?_))
   | exact ih0 _ _ _ _
   | exact LeO.none _
   | refine LeO.ite ?_ ?_
   | refine LeO.bind ?_ (fun _ => ?_)
set_option maxHeartbeats 8000000 in
set_option maxRecDepth 100000 in
theorem impl_DiskOk.calls (k : Nat) (A0_0 : Option Addr) (c0_0 : Nat) (l0_0 : List (S66)) (r : Bool) (w : World) (hr0_0 : Kd.C k66 w A0_0 l0_0.length l0_0) (hc0_0 : l0_0.length ≤ c0_0) (h : impl_DiskOk.f k l0_0 = some r) :
  Calls Try.prog 39 #[.agg #[.slice A0_0 l0_0.length c0_0]] w fun e w' => e = .returned (.bool r) ∧ Below w.heap.size w w' := by
 have HR := Aside0.mk hr0_0
 have H' := Aside0.mk (show impl_DiskOk.l0 k l0_0 (l0_0.length : Int) 0 l0_0 = some r from h)
 clear hr0_0 hc0_0 h
 go_enter Try.func39, Try.ntmps39
 go_wp2_with ((with_reducible refine gate_dst (N := 1) rfl ?_); refine box_event rfl (N := 1) rfl (cs := #[.slice A0_0 l0_0.length c0_0]) (t := 31) zrun ?_; intro gd hg w2 hbox hb; have BK := Aside0.mk hbox; have HB := Aside0.mk hb; have c0 := blk_cell hbox 0; simp only [List.getElem?_toArray, List.getElem?_cons_zero] at c0; clear hbox hb hg)
 go_loopg [8] k (fun kq v8 w' => ∃ x : Int, v8 = .int .i64 x ∧ Aside0 (impl_DiskOk.l0 kq l0_0 (l0_0.length : Int) x l0_0 = some r) ∧ Aside0 (kq ≤ k) ∧ Aside0 (w'.heap[gd]? = some (.cells #[.slice A0_0 l0_0.length c0_0] 31 (0, 0))) ∧ Aside0 (Below w.heap.size w w'))
 case atStart => exact ⟨0, rfl, H', ⟨Nat.le_refl _⟩, BK, HB⟩
 case round =>
  clear H' BK HB c0
  obtain ⟨x, rfl, HA, HK1, BK, HB⟩ := hrel
  cases gk with
  | zero => exact absurd HA.out (by simp [impl_DiskOk.l0])
  | succ k1 =>
   have H := HA.out
   clear HA
   simp only [impl_DiskOk.l0] at H
   by_cases c1 : x < (l0_0.length : Int)
   ·rw [if_pos c1] at H
    by_cases c2 : 0 ≤ x
    ·rw [if_pos c2, if_pos c1] at H
     have x1 : decide (x < (l0_0.length : Int)) = true := decide_eq_true c1
     have x2 : decide ((l0_0.length : Int) ≤ x) = false := decide_eq_false (by omega)
     obtain ⟨ad, e, t0, t1, t2⟩ := at_T66 HR.out x c2 c1
     have ea := Aside0.mk e
     replace t0 := (HB.out.cell (World.block_lt_of_cell? w _ t0)).trans t0
     replace t1 := (HB.out.cell (World.block_lt_of_cell? w _ t1)).trans t1
     replace t2 := (HB.out.cell (World.block_lt_of_cell? w _ t2)).trans t2
     cases e
     have p0 := eq_true c2
     have q0 := eq_true c1
     have C1 := Aside0.mk c1
     have C2 := Aside0.mk c2
     clear c1 c2 ea
     obtain ⟨f, hf⟩ : ∃ f, f = rd_T66 l0_0 x := ⟨_, rfl⟩
     rw [← hf] at H t0 t1 t2
     have HF := Aside0.mk hf
     clear hf
     have HH := Aside0.mk H
     clear H
     go_wp2_with ((with_reducible refine gate_dst (N := 4) rfl ?_); refine box_event rfl (N := 4) rfl (cs := #[.string (⟨#[]⟩ : ByteArray), .string (⟨#[]⟩ : ByteArray), .int .i64 0]) (t := 66) zrun ?_; intro gb hg w_b hbox hb; have YB := Aside0.mk hbox; have ZB := Aside0.mk hb; have GB := Aside0.mk hg; have d0 := blk_cell hbox 0; have d1 := blk_cell hbox 1; have d2 := blk_cell hbox 2; simp only [List.getElem?_toArray, List.getElem?_cons_zero, List.getElem?_cons_succ] at d0 d1 d2; have f0 := blk_frozen hbox 0; have f1 := blk_frozen hbox 1; have f2 := blk_frozen hbox 2; clear hbox hb hg)
     have hgd : gd ≠ gb := by have := blk_lt BK.out; have := GB.out; omega
     have B3 : Aside0 ((((w_b.setCell ⟨gb, 0, none⟩ (.string f.f0)).setCell ⟨gb, 1, none⟩ (.string f.f1)).setCell ⟨gb, 2, none⟩ (.int .i64 f.f2)).heap[gb]? = some (.cells #[.string f.f0, .string f.f1, .int .i64 f.f2] 66 (0, 0))) := ⟨blk_put (blk_put (blk_put YB.out 0 (.string f.f0) rfl) 1 (.string f.f1) rfl) 2 (.int .i64 f.f2) rfl⟩
     have D3 : Aside0 ((((w_b.setCell ⟨gb, 0, none⟩ (.string f.f0)).setCell ⟨gb, 1, none⟩ (.string f.f1)).setCell ⟨gb, 2, none⟩ (.int .i64 f.f2)).heap[gd]? = some (.cells #[.slice (some ad) l0_0.length c0_0] 31 (0, 0))) := ⟨blk_far (blk_far (blk_far (blk_below BK.out ZB.out) hgd _) hgd _) hgd _⟩
     have hgb : w.heap.size ≤ gb := by rw [GB.out]; exact HB.out.size
     have H3 : Aside0 (Below w.heap.size w (((w_b.setCell ⟨gb, 0, none⟩ (.string f.f0)).setCell ⟨gb, 1, none⟩ (.string f.f1)).setCell ⟨gb, 2, none⟩ (.int .i64 f.f2))) := ⟨below_set (below_set (below_set (below_step HB.out ZB.out) hgb) hgb) hgb⟩
     clear BK HB YB ZB GB d0 d1 d2 f0 f1 f2 hgd hgb t0 t1 t2
     generalize (((w_b.setCell ⟨gb, 0, none⟩ (.string f.f0)).setCell ⟨gb, 1, none⟩ (.string f.f1)).setCell ⟨gb, 2, none⟩ (.int .i64 f.f2)) = W3 at B3 D3 H3 ⊢
     have d0 := blk_cell B3.out 0
     have d1 := blk_cell B3.out 1
     have d2 := blk_cell B3.out 2
     have g0 := blk_cell D3.out 0
     simp only [List.getElem?_toArray, List.getElem?_cons_zero, List.getElem?_cons_succ] at d0 d1 d2 g0
     have H := HH.out
     clear HH
     obtain ⟨b1, h1, H⟩ := Option.bind_eq_some_iff.mp H
     have A1 := Aside0.mk h1
     clear h1
     cases b1 with
     | false =>
      obtain rfl := Option.some.inj H
      clear H
      go_quiet (first | (go_at_call 54; (with_reducible refine (impl_within.calls (f.f0.size : Int) 1 8 false _ A1.out).mono ?_); rintro e w' ⟨rfl, ⟨nd, rfl⟩⟩; (try first | exact ⟨rfl, _, World.drewN_drewN _ _ _⟩ | exact ⟨rfl, _, Eq.trans (World.drewN_drewN _ _ _) (congrArg (World.drewN _) (Nat.add_assoc _ _ _))⟩)))
      go_wp2
      go_ret
      exact ⟨rfl, pw_below_drewN H3.out _⟩
     | true =>
      rw [if_pos rfl] at H
      by_cases c3 : (f.f1.size : Int) > 20000
      ·rw [if_pos c3] at H
       have y1 : decide (20000 < (f.f1.size : Int)) = true := decide_eq_true c3
       have y2 : decide (20000 < f.f1.size) = true := decide_eq_true (by omega)
       clear c3
       obtain rfl := Option.some.inj H
       clear H
       go_quiet (first | (go_at_call 54; (with_reducible refine (impl_within.calls (f.f0.size : Int) 1 8 true _ A1.out).mono ?_); rintro e w' ⟨rfl, ⟨nd, rfl⟩⟩; (try first | exact ⟨rfl, _, World.drewN_drewN _ _ _⟩ | exact ⟨rfl, _, Eq.trans (World.drewN_drewN _ _ _) (congrArg (World.drewN _) (Nat.add_assoc _ _ _))⟩)))
       go_wp2
       go_ret
       exact ⟨rfl, pw_below_drewN H3.out _⟩
      ·rw [if_neg c3] at H
       have y1 : decide (20000 < (f.f1.size : Int)) = false := decide_eq_false c3
       have y2 : decide (20000 < f.f1.size) = false := decide_eq_false (by omega)
       clear c3
       obtain ⟨b2, h2, H⟩ := Option.bind_eq_some_iff.mp H
       have A2 := Aside0.mk h2
       clear h2
       cases b2 with
       | false =>
        obtain rfl := Option.some.inj H
        clear H
        go_quiet (first | (go_at_call 54; (with_reducible refine (impl_within.calls (f.f0.size : Int) 1 8 true _ A1.out).mono ?_); rintro e w' ⟨rfl, ⟨nd, rfl⟩⟩; (try first | exact ⟨rfl, _, World.drewN_drewN _ _ _⟩ | exact ⟨rfl, _, Eq.trans (World.drewN_drewN _ _ _) (congrArg (World.drewN _) (Nat.add_assoc _ _ _))⟩)) | (go_at_call 54; (with_reducible refine (impl_within.calls f.f2 0 (f.f1.size : Int) false _ A2.out).mono ?_); rintro e w' ⟨rfl, ⟨nd, rfl⟩⟩; (try first | exact ⟨rfl, _, World.drewN_drewN _ _ _⟩ | exact ⟨rfl, _, Eq.trans (World.drewN_drewN _ _ _) (congrArg (World.drewN _) (Nat.add_assoc _ _ _))⟩)))
        go_wp2
        go_ret
        exact ⟨rfl, pw_below_drewN H3.out _⟩
       | true =>
        rw [if_pos rfl] at H
        by_cases c4 : x > 0
        ·rw [if_pos c4] at H
         have z1 : decide (0 < x) = true := decide_eq_true c4
         by_cases c5 : 0 ≤ wrap64 (x - 1)
         ·rw [if_pos c5] at H
          by_cases c6 : wrap64 (x - 1) < (l0_0.length : Int)
          ·rw [if_pos c6] at H
           obtain ⟨ad', e', t0, _, _⟩ := at_T66 HR.out (wrap64 (x - 1)) c5 c6
           obtain rfl : ad = ad' := by injection e'
           replace t0 := (H3.out.cell (World.block_lt_of_cell? w _ t0)).trans t0
           have p1 := eq_true c5
           have p2 := eq_true c6
           clear c4 c5 c6 e'
           by_cases c7 : Op.bytesLess (rd_T66 l0_0 (wrap64 (x - 1))).f0.toList f.f0.toList = true
           ·rw [if_pos c7] at H
            have HA := Aside0.mk H
            clear H
            go_quiet (first | (go_at_call 54; (with_reducible refine (impl_within.calls (f.f0.size : Int) 1 8 true _ A1.out).mono ?_); rintro e w' ⟨rfl, ⟨nd, rfl⟩⟩; (try first | exact ⟨rfl, _, World.drewN_drewN _ _ _⟩ | exact ⟨rfl, _, Eq.trans (World.drewN_drewN _ _ _) (congrArg (World.drewN _) (Nat.add_assoc _ _ _))⟩)) | (go_at_call 54; (with_reducible refine (impl_within.calls f.f2 0 (f.f1.size : Int) true _ A2.out).mono ?_); rintro e w' ⟨rfl, ⟨nd, rfl⟩⟩; (try first | exact ⟨rfl, _, World.drewN_drewN _ _ _⟩ | exact ⟨rfl, _, Eq.trans (World.drewN_drewN _ _ _) (congrArg (World.drewN _) (Nat.add_assoc _ _ _))⟩)))
            go_wp2
            go_roundg k1
            case measure => have := HK1.out; omega
            case rel => exact ⟨wrap64 (x + 1), (by first | rfl | (simp; done) | (simp [*]; done)), HA, ⟨by have := HK1.out; omega⟩, D3, ⟨pw_below_drewN H3.out _⟩⟩
           ·rw [if_neg c7] at H
            have c7' : Op.bytesLess (rd_T66 l0_0 (wrap64 (x - 1))).f0.toList f.f0.toList = false := by simpa using c7
            clear c7
            obtain rfl := Option.some.inj H
            clear H
            go_quiet (first | (go_at_call 54; (with_reducible refine (impl_within.calls (f.f0.size : Int) 1 8 true _ A1.out).mono ?_); rintro e w' ⟨rfl, ⟨nd, rfl⟩⟩; (try first | exact ⟨rfl, _, World.drewN_drewN _ _ _⟩ | exact ⟨rfl, _, Eq.trans (World.drewN_drewN _ _ _) (congrArg (World.drewN _) (Nat.add_assoc _ _ _))⟩)) | (go_at_call 54; (with_reducible refine (impl_within.calls f.f2 0 (f.f1.size : Int) true _ A2.out).mono ?_); rintro e w' ⟨rfl, ⟨nd, rfl⟩⟩; (try first | exact ⟨rfl, _, World.drewN_drewN _ _ _⟩ | exact ⟨rfl, _, Eq.trans (World.drewN_drewN _ _ _) (congrArg (World.drewN _) (Nat.add_assoc _ _ _))⟩)))
            go_wp2
            go_ret
            exact ⟨rfl, pw_below_drewN H3.out _⟩
          ·rw [if_neg c6] at H
           exact absurd H (by simp)
         ·rw [if_neg c5] at H
          exact absurd H (by simp)
        ·rw [if_neg c4] at H
         have z1 : decide (0 < x) = false := decide_eq_false c4
         clear c4
         have HA := Aside0.mk H
         clear H
         go_quiet (first | (go_at_call 54; (with_reducible refine (impl_within.calls (f.f0.size : Int) 1 8 true _ A1.out).mono ?_); rintro e w' ⟨rfl, ⟨nd, rfl⟩⟩; (try first | exact ⟨rfl, _, World.drewN_drewN _ _ _⟩ | exact ⟨rfl, _, Eq.trans (World.drewN_drewN _ _ _) (congrArg (World.drewN _) (Nat.add_assoc _ _ _))⟩)) | (go_at_call 54; (with_reducible refine (impl_within.calls f.f2 0 (f.f1.size : Int) true _ A2.out).mono ?_); rintro e w' ⟨rfl, ⟨nd, rfl⟩⟩; (try first | exact ⟨rfl, _, World.drewN_drewN _ _ _⟩ | exact ⟨rfl, _, Eq.trans (World.drewN_drewN _ _ _) (congrArg (World.drewN _) (Nat.add_assoc _ _ _))⟩)))
         go_wp2
         go_roundg k1
         case measure => have := HK1.out; omega
         case rel => exact ⟨wrap64 (x + 1), (by first | rfl | (simp; done) | (simp [*]; done)), HA, ⟨by have := HK1.out; omega⟩, D3, ⟨pw_below_drewN H3.out _⟩⟩
    ·rw [if_neg c2] at H
     exact absurd H (by simp)
   ·rw [if_neg c1] at H
    have x1 : decide (x < (l0_0.length : Int)) = false := decide_eq_false c1
    have x2 : decide ((l0_0.length : Int) ≤ x) = true := decide_eq_true (by omega)
    clear c1
    obtain rfl := Option.some.inj H
    clear H
    have c0 := blk_cell BK.out 0
    simp only [List.getElem?_toArray, List.getElem?_cons_zero] at c0
    go_wp2
    go_ret
    exact ⟨by first | rfl | (simp; done), HB.out⟩

/-! ### impl_actOk: function 40 -/
def impl_actOk.f (a0_0 : Int) (a0_1 : ByteArray) (a0_2 : ByteArray) (a0_3 : ByteArray) : Option (Bool) := (impl_within.f a0_0 1 4).bind fun t102 => (if t102 = true then (if a0_2.toList = ([] : List UInt8) then (if a0_3.toList = ([] : List UInt8) then (some true) else (some (a0_0 == 3))) else (if a0_0 = 1 then (if a0_3.toList = ([] : List UInt8) then (some true) else (some (a0_0 == 3))) else (some false))) else (some false))
set_option maxHeartbeats 8000000 in
set_option maxRecDepth 100000 in
theorem impl_actOk.calls (a0_0 : Int) (a0_1 : ByteArray) (a0_2 : ByteArray) (a0_3 : ByteArray) (r : Bool) (w : World) (h : impl_actOk.f a0_0 a0_1 a0_2 a0_3 = some r) :
  Calls Try.prog 40 #[.agg #[.int .i64 a0_0, .string a0_1, .string a0_2, .string a0_3]] w fun e w' => e = .returned (.bool r) ∧ Below w.heap.size w w' := by
 have hu35 := Try.underlying35
 have HB := Aside0.mk (Below.refl w.heap.size w)
 have H : ((impl_within.f a0_0 1 4).bind fun t102 => (if t102 = true then (if a0_2.toList = ([] : List UInt8) then (if a0_3.toList = ([] : List UInt8) then (some true) else (some (a0_0 == 3))) else (if a0_0 = 1 then (if a0_3.toList = ([] : List UInt8) then (some true) else (some (a0_0 == 3))) else (some false))) else (some false))) = some r := h
 clear h
 replace H := Option.bind_eq_some_iff.mp H
 obtain ⟨t102, A20, H⟩ := H
 try dsimp only at H
 have A2 := Aside0.mk A20
 clear A20
 by_cases c3 : t102 = true
 ·subst c3
  have H1 : (if a0_2.toList = ([] : List UInt8) then (if a0_3.toList = ([] : List UInt8) then (some true) else (some (a0_0 == 3))) else (if a0_0 = 1 then (if a0_3.toList = ([] : List UInt8) then (some true) else (some (a0_0 == 3))) else (some false))) = some r := by rw [if_pos rfl] at H; exact H
  clear H
  have H := H1
  clear H1
  by_cases c4 : a0_2.toList = ([] : List UInt8)
  ·rw [if_pos c4] at H
   have c4b0 : (a0_2.toList == ([] : List UInt8)) = true := beq_iff_eq.mpr c4
   have c4b1 : (a0_2.toList != ([] : List UInt8)) = false := bne_eq_false_iff_eq.mpr c4
   clear c4
   by_cases c5 : a0_3.toList = ([] : List UInt8)
   ·rw [if_pos c5] at H
    have c5b0 : (a0_3.toList == ([] : List UInt8)) = true := beq_iff_eq.mpr c5
    have c5b1 : (a0_3.toList != ([] : List UInt8)) = false := bne_eq_false_iff_eq.mpr c5
    clear c5
    obtain rfl := Option.some.inj H
    go_enter Try.func40, Try.ntmps40
    go_wp2_with (first | ((with_reducible refine gate_dst (N := 1) rfl ?_); refine box_event rfl (N := 1) rfl (cs := #[.int .i64 a0_0, .string a0_1, .string a0_2, .string a0_3]) (t := 35) zrun ?_; intro gb101 hg w6 hbox hb; have BK101 := am (hbox); have GW101 := zge hg (zb0 HB.out); have GE101 := zge hg (zb0 HB.out); replace HB := zs0 hb HB; clear hb hbox hg; obtain ⟨hcz7_0, hcz7_1, hcz7_2, hcz7_3, hfz7_0, hfz7_1, hfz7_2, hfz7_3⟩ := zc4 BK101.out) | ((with_reducible refine gate_callee (f := 54) rfl ?_); refine goesL_ (some 5) rfl rfl Try.func54 (by kernel_rfl) rfl #[.int .i64 a0_0, .int .i64 1, .int .i64 4] rfl zr ?_; (with_reducible refine (impl_within.calls a0_0 1 4 true _ A2.out).mono ?_); rintro e w' ⟨rfl, ⟨nd, rfl⟩⟩; refine ⟨_, rfl, ?_⟩))
    go_ret
    exact ⟨by first | rfl | (simp [errW_none, errW_some] <;> rfl) | (simp [*, errW_none, errW_some] <;> rfl), zb1 HB.out GE101.out⟩
   ·rw [if_neg c5] at H
    have c5b0 : (a0_3.toList == ([] : List UInt8)) = false := beq_eq_false_iff_ne.mpr c5
    have c5b1 : (a0_3.toList != ([] : List UInt8)) = true := bne_iff_ne.mpr c5
    obtain rfl := Option.some.inj H
    go_enter Try.func40, Try.ntmps40
    go_wp2_with (first | ((with_reducible refine gate_dst (N := 1) rfl ?_); refine box_event rfl (N := 1) rfl (cs := #[.int .i64 a0_0, .string a0_1, .string a0_2, .string a0_3]) (t := 35) zrun ?_; intro gb101 hg w8 hbox hb; have BK101 := am (hbox); have GW101 := zge hg (zb0 HB.out); have GE101 := zge hg (zb0 HB.out); replace HB := zs0 hb HB; clear hb hbox hg; obtain ⟨hcz9_0, hcz9_1, hcz9_2, hcz9_3, hfz9_0, hfz9_1, hfz9_2, hfz9_3⟩ := zc4 BK101.out) | ((with_reducible refine gate_callee (f := 54) rfl ?_); refine goesL_ (some 5) rfl rfl Try.func54 (by kernel_rfl) rfl #[.int .i64 a0_0, .int .i64 1, .int .i64 4] rfl zr ?_; (with_reducible refine (impl_within.calls a0_0 1 4 true _ A2.out).mono ?_); rintro e w' ⟨rfl, ⟨nd, rfl⟩⟩; refine ⟨_, rfl, ?_⟩))
    go_ret
    exact ⟨by first | rfl | (simp [errW_none, errW_some] <;> rfl) | (simp [*, errW_none, errW_some] <;> rfl), zb1 HB.out GE101.out⟩
  ·rw [if_neg c4] at H
   have c4b0 : (a0_2.toList == ([] : List UInt8)) = false := beq_eq_false_iff_ne.mpr c4
   have c4b1 : (a0_2.toList != ([] : List UInt8)) = true := bne_iff_ne.mpr c4
   by_cases c10 : a0_0 = 1
   ·rw [if_pos c10] at H
    have c10b0 : (a0_0 == 1) = true := beq_iff_eq.mpr c10
    have c10b1 : (a0_0 != 1) = false := bne_eq_false_iff_eq.mpr c10
    clear c10
    by_cases c11 : a0_3.toList = ([] : List UInt8)
    ·rw [if_pos c11] at H
     have c11b0 : (a0_3.toList == ([] : List UInt8)) = true := beq_iff_eq.mpr c11
     have c11b1 : (a0_3.toList != ([] : List UInt8)) = false := bne_eq_false_iff_eq.mpr c11
     clear c11
     obtain rfl := Option.some.inj H
     go_enter Try.func40, Try.ntmps40
     go_wp2_with (first | ((with_reducible refine gate_dst (N := 1) rfl ?_); refine box_event rfl (N := 1) rfl (cs := #[.int .i64 a0_0, .string a0_1, .string a0_2, .string a0_3]) (t := 35) zrun ?_; intro gb101 hg w12 hbox hb; have BK101 := am (hbox); have GW101 := zge hg (zb0 HB.out); have GE101 := zge hg (zb0 HB.out); replace HB := zs0 hb HB; clear hb hbox hg; obtain ⟨hcz13_0, hcz13_1, hcz13_2, hcz13_3, hfz13_0, hfz13_1, hfz13_2, hfz13_3⟩ := zc4 BK101.out) | ((with_reducible refine gate_callee (f := 54) rfl ?_); refine goesL_ (some 5) rfl rfl Try.func54 (by kernel_rfl) rfl #[.int .i64 a0_0, .int .i64 1, .int .i64 4] rfl zr ?_; (with_reducible refine (impl_within.calls a0_0 1 4 true _ A2.out).mono ?_); rintro e w' ⟨rfl, ⟨nd, rfl⟩⟩; refine ⟨_, rfl, ?_⟩))
     go_ret
     exact ⟨by first | rfl | (simp [errW_none, errW_some] <;> rfl) | (simp [*, errW_none, errW_some] <;> rfl), zb1 HB.out GE101.out⟩
    ·rw [if_neg c11] at H
     have c11b0 : (a0_3.toList == ([] : List UInt8)) = false := beq_eq_false_iff_ne.mpr c11
     have c11b1 : (a0_3.toList != ([] : List UInt8)) = true := bne_iff_ne.mpr c11
     obtain rfl := Option.some.inj H
     go_enter Try.func40, Try.ntmps40
     go_wp2_with (first | ((with_reducible refine gate_dst (N := 1) rfl ?_); refine box_event rfl (N := 1) rfl (cs := #[.int .i64 a0_0, .string a0_1, .string a0_2, .string a0_3]) (t := 35) zrun ?_; intro gb101 hg w14 hbox hb; have BK101 := am (hbox); have GW101 := zge hg (zb0 HB.out); have GE101 := zge hg (zb0 HB.out); replace HB := zs0 hb HB; clear hb hbox hg; obtain ⟨hcz15_0, hcz15_1, hcz15_2, hcz15_3, hfz15_0, hfz15_1, hfz15_2, hfz15_3⟩ := zc4 BK101.out) | ((with_reducible refine gate_callee (f := 54) rfl ?_); refine goesL_ (some 5) rfl rfl Try.func54 (by kernel_rfl) rfl #[.int .i64 a0_0, .int .i64 1, .int .i64 4] rfl zr ?_; (with_reducible refine (impl_within.calls a0_0 1 4 true _ A2.out).mono ?_); rintro e w' ⟨rfl, ⟨nd, rfl⟩⟩; refine ⟨_, rfl, ?_⟩))
     go_ret
     exact ⟨by first | rfl | (simp [errW_none, errW_some] <;> rfl) | (simp [*, errW_none, errW_some] <;> rfl), zb1 HB.out GE101.out⟩
   ·rw [if_neg c10] at H
    have c10b0 : (a0_0 == 1) = false := beq_eq_false_iff_ne.mpr c10
    have c10b1 : (a0_0 != 1) = true := bne_iff_ne.mpr c10
    obtain rfl := Option.some.inj H
    go_enter Try.func40, Try.ntmps40
    go_wp2_with (first | ((with_reducible refine gate_dst (N := 1) rfl ?_); refine box_event rfl (N := 1) rfl (cs := #[.int .i64 a0_0, .string a0_1, .string a0_2, .string a0_3]) (t := 35) zrun ?_; intro gb101 hg w16 hbox hb; have BK101 := am (hbox); have GW101 := zge hg (zb0 HB.out); have GE101 := zge hg (zb0 HB.out); replace HB := zs0 hb HB; clear hb hbox hg; obtain ⟨hcz17_0, hcz17_1, hcz17_2, hcz17_3, hfz17_0, hfz17_1, hfz17_2, hfz17_3⟩ := zc4 BK101.out) | ((with_reducible refine gate_callee (f := 54) rfl ?_); refine goesL_ (some 5) rfl rfl Try.func54 (by kernel_rfl) rfl #[.int .i64 a0_0, .int .i64 1, .int .i64 4] rfl zr ?_; (with_reducible refine (impl_within.calls a0_0 1 4 true _ A2.out).mono ?_); rintro e w' ⟨rfl, ⟨nd, rfl⟩⟩; refine ⟨_, rfl, ?_⟩))
    go_ret
    exact ⟨by first | rfl | (simp [errW_none, errW_some] <;> rfl) | (simp [*, errW_none, errW_some] <;> rfl), zb1 HB.out GE101.out⟩
 ·replace c3 := Bool.eq_false_iff.mpr c3
  subst c3
  have H1 : (some false) = some r := by rw [if_neg (show ¬ (false = true) by decide)] at H; exact H
  clear H
  have H := H1
  clear H1
  obtain rfl := Option.some.inj H
  go_enter Try.func40, Try.ntmps40
  go_wp2_with (first | ((with_reducible refine gate_dst (N := 1) rfl ?_); refine box_event rfl (N := 1) rfl (cs := #[.int .i64 a0_0, .string a0_1, .string a0_2, .string a0_3]) (t := 35) zrun ?_; intro gb101 hg w18 hbox hb; have BK101 := am (hbox); have GW101 := zge hg (zb0 HB.out); have GE101 := zge hg (zb0 HB.out); replace HB := zs0 hb HB; clear hb hbox hg; obtain ⟨hcz19_0, hcz19_1, hcz19_2, hcz19_3, hfz19_0, hfz19_1, hfz19_2, hfz19_3⟩ := zc4 BK101.out) | ((with_reducible refine gate_callee (f := 54) rfl ?_); refine goesL_ (some 5) rfl rfl Try.func54 (by kernel_rfl) rfl #[.int .i64 a0_0, .int .i64 1, .int .i64 4] rfl zr ?_; (with_reducible refine (impl_within.calls a0_0 1 4 false _ A2.out).mono ?_); rintro e w' ⟨rfl, ⟨nd, rfl⟩⟩; refine ⟨_, rfl, ?_⟩))
  go_ret
  exact ⟨by first | rfl | (simp [errW_none, errW_some] <;> rfl) | (simp [*, errW_none, errW_some] <;> rfl), zb1 HB.out GE101.out⟩

/-! ### impl_copyDisk: function 46 -/
def impl_copyDisk.f (l0_0 : List (S66)) : Option ((List (S66))) := (some (([] : List (S66)) : List (S66))).bind fun y105 => (if y105.length + l0_0.length < 3518437208883 then (some (y105 ++ l0_0)) else (none))
set_option maxHeartbeats 8000000 in
set_option maxRecDepth 100000 in
theorem impl_copyDisk.calls (A0_0 : Option Addr) (c0_0 : Nat) (l0_0 : List (S66)) (r : List (S66)) (w : World) (hr0_0 : Kd.C k66 w A0_0 l0_0.length l0_0) (hc0_0 : l0_0.length ≤ c0_0) (h : impl_copyDisk.f l0_0 = some r) :
  Calls Try.prog 46 #[.agg #[.slice A0_0 l0_0.length c0_0]] w fun e w' => ∃ v0_ : Value, e = .returned (.agg #[v0_]) ∧ Kd.R k66 66 w' w.heap.size (fun _ => True) v0_ r ∧ Below w.heap.size w w' := by
 have hu31 := Try.underlying31
 have HR0_0 := Aside0.mk hr0_0
 have HC0_0 := Aside0.mk hc0_0
 clear hr0_0 hc0_0
 have HB := Aside0.mk (Below.refl w.heap.size w)
 have H : ((some (([] : List (S66)) : List (S66))).bind fun y105 => (if y105.length + l0_0.length < 3518437208883 then (some (y105 ++ l0_0)) else (none))) = some r := h
 clear h
 obtain ⟨y105, hy105⟩ : ∃ y_ : List (S66), y_ = (([] : List (S66))) := ⟨_, rfl⟩
 replace H : (if y105.length + l0_0.length < 3518437208883 then (some (y105 ++ l0_0)) else (none)) = some r := by first | (rw [hy105]; with_reducible exact H) | (have H2_ := (Option.bind_some _ _).symm.trans H; rw [hy105]; with_reducible exact H2_) | (have H2_ := (Option.bind_some _ _).symm.trans H; with_reducible exact H2_) | with_reducible exact H | (rw [hy105]; exact H) | exact H
 have Ny105 := Aside0.mk hy105
 clear hy105
 by_cases c2 : y105.length + l0_0.length < 3518437208883
 ·rw [if_pos c2] at H
  have LMc2 := Aside0.mk c2
  clear c2
  obtain ⟨y108, hy108⟩ : ∃ y_ : List (S66), y_ = (y105 ++ l0_0) := ⟨_, rfl⟩
  replace H : (some y108) = some r := by first | (rw [hy108]; with_reducible exact H) | (have H2_ := (Option.bind_some _ _).symm.trans H; rw [hy108]; with_reducible exact H2_) | (have H2_ := (Option.bind_some _ _).symm.trans H; with_reducible exact H2_) | with_reducible exact H | (rw [hy108]; exact H) | exact H
  have Ny108 := Aside0.mk hy108
  clear hy108
  obtain rfl := Option.some.inj H
  go_enter Try.func46, Try.ntmps46
  go_wp2_with (first | ((with_reducible refine gate_dst (N := 1) rfl ?_); refine box_event rfl (N := 1) rfl (cs := #[.slice A0_0 l0_0.length c0_0]) (t := 31) zrun ?_; intro gb103 hg w3 hbox hb; have BK103 := am (hbox); have GE103 := zge hg (zb0 HB.out); replace HB := zs0 hb HB; clear hb hbox hg) | ((with_reducible refine gate_dst (N := 2) rfl ?_); refine box_event rfl (N := 2) rfl (cs := #[.slice none 0 0]) (t := 31) zrun ?_; intro gb104 hg w4 hbox hb; have BK104 := am (hbox); have GE104 := zge hg (zb1 HB.out GE103.out); obtain ⟨NB103_104, NB104_103⟩ := zne hg BK103; replace BK103 := zk hb BK103; replace HB := zs1 hb HB GE103; clear hb hbox hg) | ((with_reducible refine gate_dst (N := 3) rfl ?_); refine Kd.R_lit k66 _ 66 ?hg (N := 3) ?hd (xs := ([] : List (S66))) (inner := []) (ok := fun _ => True) (okp := fun _ => True) ?hr ?hp (fun _ hk => hk) trivial (Below.refl _ _) (Nat.le_refl _) (by simp) ?_; (case hd => rfl); (case hg => rfl); (case hr => first | (go_simp; done) | (go_simp; rfl)); (case hp => exact (Reps.none _ _)); intro v106 w5 ho6 hb hg_ hnew_; clear hg_ hnew_; (first | rw [← Ny105.out] at ho6 | (simp only [Int.reduceToNat] at ho6; rw [← Ny105.out] at ho6)); have HO107 := am (Kd.R_lower ho6 (below_size (zb2 HB.out GE103.out GE104.out))); replace BK103 := zk hb BK103; replace BK104 := zk hb BK104; replace HB := zs2 hb HB GE103 GE104; clear hb ho6; obtain ⟨hnb7, hnc7⟩ := zn2 NB103_104; obtain ⟨hcz8_0, hfz8_0⟩ := zc1 BK103.out) | ((with_reducible refine gate_builtin (b := .append) (xs := #[.tmp 3, .tmp 5]) rfl ?_); at_builtin; refine Kd.R_append_rows k66 (w0 := w) w.heap.size rfl (.tmp 3) (.tmp 5) 29 66 (.agg #[(.string ⟨#[]⟩), (.string ⟨#[]⟩), (.int .i64 0)]) 40 rfl Try.underlying29 info66 rfl (by decide) (by omega) v106 y105 l0_0 _ _ _ (fun _ => True) (fun _ => False) rfl rfl ?aO ?aR (fun _ _ h => h) (fun _ h => h.elim) ?aF ?aB ?aS ?aL ?_; (case aR => repeat (first | exact (Kd.C_below HR0_0.out HB.out) | (with_reducible refine Kd.C_alloc ?_ _) | (with_reducible refine Kd.C_drewN ?_ _) | (with_reducible refine Kd.C_drew ?_))); (case aB => exact (zb2 HB.out GE103.out GE104.out)); (case aF => exact (fun _ _ => trivial)); (case aO => exact (rx HO107.out)); (case aS => exact (below_size (zb2 HB.out GE103.out GE104.out))); (case aL => have := LMc2.out; omega); intro v109 w9 ho hb hg hat; rw [← Ny108.out] at ho; have HO110 := am (ho); replace BK103 := am (blk_grown (g := gb103) (o := .cells #[.slice A0_0 l0_0.length c0_0] 31 (0, 0)) (kx BK103.out) hg (Kd.R_ne HO107.out BK103.out (by decide))); replace BK104 := am (blk_grown (g := gb104) (o := .cells #[.slice none 0 0] 31 (0, 0)) (kx BK104.out) hg (Kd.R_ne HO107.out BK104.out (by decide))); replace HB := am (hb); clear HO107; clear ho hb hg hat; obtain ⟨Ao10, co10, eo10⟩ := Kd.R_slice HO110.out; subst eo10; obtain ⟨hcz11_0, hfz11_0⟩ := zc1 BK104.out))
  refine bodyPost_ret (results_cell_row rfl _ _ gb104 31 #[.slice Ao10 y108.length co10] (0, 0) _ rfl (zp0 BK104.out) Try.underlying31 rfl (by kernel_rfl)) rfl ?_
  exact ⟨_, by first | rfl | (simp [errW_none, errW_some] <;> rfl) | (simp [*, errW_none, errW_some] <;> rfl), rx (Kd.R_mono (Kd.R_far (p := ⟨gb104, 0, none⟩) (Kd.R_types HO110.out BK104.out (by decide)) (fun _ hk => hk.2) (.slice Ao10 y108.length co10)) (fun _ hk => trivial)), zb2 HB.out GE103.out GE104.out⟩
 ·rw [if_neg c2] at H
  exact absurd H (by simp)

-- NOT PRINTED: function 63 (impl_File_63)

/-! ### impl_withoutFile: function 42, by hand -/ -- making
open Go.Proofs.Ytklbkkoojkmjbaa.Base
def impl_withoutFile.keep (nm : ByteArray) (y : S66) : Bool := !(y.f0.toList == nm.toList)
def impl_withoutFile.f (l0_0 : List (S66)) (a1 : ByteArray) : Option (List (S66)) := if l0_0.length < 1000000 then some (l0_0.filter (impl_withoutFile.keep a1)) else none
def impl_withoutFile.fc (x : S66) : List Value := [.string x.f0, .string x.f1, .int .i64 x.f2]
def impl_withoutFile.fl (xs : List (S66)) : List Value := xs.flatMap impl_withoutFile.fc
theorem impl_withoutFile.fl_len (xs : List (S66)) : (impl_withoutFile.fl xs).length = xs.length * 3 := by
 induction xs with
 | nil => rfl
 | cons x r ih => show (impl_withoutFile.fc x ++ impl_withoutFile.fl r).length = _; rw [List.length_append, ih, List.length_cons]; show 3 + r.length * 3 = _; omega
theorem impl_withoutFile.fl_app (a b : List (S66)) : impl_withoutFile.fl (a ++ b) = impl_withoutFile.fl a ++ impl_withoutFile.fl b := List.flatMap_append
theorem impl_withoutFile.fl_at : ∀ (xs : List (S66)) (j : Nat) (h : j < xs.length) (i : Nat), i < 3 → (impl_withoutFile.fl xs)[j * 3 + i]? = (impl_withoutFile.fc xs[j])[i]?
 | x :: r, 0, _, i, hi => by
  show (impl_withoutFile.fc x ++ impl_withoutFile.fl r)[0 * 3 + i]? = _
  rw [Nat.zero_mul, Nat.zero_add, List.getElem?_append_left (by show i < 3; exact hi)]; rfl
 | x :: r, j + 1, h, i, hi => by
  show (impl_withoutFile.fc x ++ impl_withoutFile.fl r)[(j + 1) * 3 + i]? = _
  rw [List.getElem?_append_right (by show 3 ≤ _; omega), show (j + 1) * 3 + i - (impl_withoutFile.fc x).length = j * 3 + i from by show (j + 1) * 3 + i - 3 = _; omega, impl_withoutFile.fl_at r j (by simpa using h) i hi]; rfl
theorem impl_withoutFile.fl_one (xs : List (S66)) : ∀ u ∈ impl_withoutFile.fl xs, u.oneCell' = true := by
 intro u hu
 obtain ⟨x, _, hx⟩ := List.mem_flatMap.mp hu
 simp only [impl_withoutFile.fc, List.mem_cons, List.not_mem_nil, or_false] at hx
 rcases hx with rfl | rfl | rfl <;> rfl
theorem impl_withoutFile.fl_seg : ∀ (xs : List (S66)) (j : Nat) (h : j < xs.length), ((impl_withoutFile.fl xs).drop (j * 3)).take 3 = impl_withoutFile.fc xs[j]
 | x :: r, 0, _ => by show ((impl_withoutFile.fc x ++ impl_withoutFile.fl r).drop (0 * 3)).take 3 = _; rw [Nat.zero_mul, List.drop_zero]; exact List.take_left' rfl
 | x :: r, j + 1, h => by
  show ((impl_withoutFile.fc x ++ impl_withoutFile.fl r).drop ((j + 1) * 3)).take 3 = _
  rw [show (j + 1) * 3 = (impl_withoutFile.fc x).length + j * 3 from by show (j + 1) * 3 = 3 + j * 3; omega, List.drop_append, show (impl_withoutFile.fc x).length + j * 3 - (impl_withoutFile.fc x).length = j * 3 by omega, List.drop_eq_nil_of_le (by omega), List.nil_append]
  exact impl_withoutFile.fl_seg r j (by simpa using h)
theorem impl_withoutFile.fl_take (xs : List (S66)) : ∀ j, (impl_withoutFile.fl xs).take (j * 3) = impl_withoutFile.fl (xs.take j) := by
 induction xs with
 | nil => intro j; simp [impl_withoutFile.fl]
 | cons x r ih =>
  intro j
  cases j with
  | zero => simp [impl_withoutFile.fl]
  | succ j =>
   show (impl_withoutFile.fc x ++ impl_withoutFile.fl r).take ((j + 1) * 3) = impl_withoutFile.fc x ++ impl_withoutFile.fl (r.take j)
   rw [← ih j, show (j + 1) * 3 = (impl_withoutFile.fc x).length + j * 3 from by show (j + 1) * 3 = 3 + j * 3; omega, List.take_append, List.take_of_length_le (by omega), show (impl_withoutFile.fc x).length + j * 3 - (impl_withoutFile.fc x).length = j * 3 by omega]
theorem impl_withoutFile.fl_drop (xs : List (S66)) : ∀ j, (impl_withoutFile.fl xs).drop (j * 3) = impl_withoutFile.fl (xs.drop j) := by
 induction xs with
 | nil => intro j; simp [impl_withoutFile.fl]
 | cons x r ih =>
  intro j
  cases j with
  | zero => simp
  | succ j =>
   show (impl_withoutFile.fc x ++ impl_withoutFile.fl r).drop ((j + 1) * 3) = impl_withoutFile.fl (r.drop j)
   rw [← ih j, show (j + 1) * 3 = (impl_withoutFile.fc x).length + j * 3 from by show (j + 1) * 3 = 3 + j * 3; omega, List.drop_append, List.drop_eq_nil_of_le (by omega), show (impl_withoutFile.fc x).length + j * 3 - (impl_withoutFile.fc x).length = j * 3 by omega, List.nil_append]
theorem impl_withoutFile.fl_of : ∀ (xs : List (S66)) (inner : List Value) (w : World) (base : Nat) (ok : Nat → Prop), Reps (k66.M w base ok) 3 xs inner → inner = impl_withoutFile.fl xs
 | [], inner, w, base, ok, h => List.eq_nil_of_length_eq_zero (by have := h.1; simpa using this)
 | x :: r, inner, w, base, ok, h => by
  have h0 := h.2 0 x rfl
  rw [Nat.zero_mul, List.drop_zero] at h0
  obtain ⟨c0, c1, e, h1, c2, c3, e2, h2, h3⟩ := h0
  have h1' : c0 = [Value.string x.f0] := h1
  have h2' : c2 = [Value.string x.f1] := h2
  have h3' : c3 = [Value.int .i64 x.f2] := h3
  have e0 : inner.take 3 = impl_withoutFile.fc x := by rw [e, e2, h1', h2', h3']; rfl
  have hr : Reps (k66.M w base ok) 3 r (inner.drop 3) := ⟨by have := h.1; rw [List.length_cons] at this; rw [List.length_drop, this]; omega, fun j p hj => by
   have := h.2 (j + 1) p hj
   rw [show (j + 1) * 3 = 3 + j * 3 by omega, ← List.drop_drop] at this
   exact this⟩
  have := impl_withoutFile.fl_of r _ w base ok hr
  rw [← List.take_append_drop 3 inner, e0, this]
  rfl
theorem impl_withoutFile.of_R {w : World} {base : Nat} {ok : Nat → Prop} {v : Value} {xs : List (S66)} (h : Kd.R k66 66 w base ok v xs) : w.ownsRow base 66 3 v xs.length (impl_withoutFile.fl xs) := by
 obtain ⟨_, inner, ho, hr⟩ := h
 have e := impl_withoutFile.fl_of xs inner w base _ hr
 subst e
 exact ho
theorem impl_withoutFile.to_R {w : World} {base : Nat} {v : Value} {xs : List (S66)} (h : w.ownsRow base 66 3 v xs.length (impl_withoutFile.fl xs)) : Kd.R k66 66 w base (fun _ => True) v xs :=
 ⟨fun _ _ => trivial, impl_withoutFile.fl xs, h, impl_withoutFile.fl_len xs, fun j p hj => by
  obtain ⟨hlt, e⟩ := List.getElem?_eq_some_iff.1 hj
  have : ((impl_withoutFile.fl xs).drop (j * 3)).take 3 = impl_withoutFile.fc p := by rw [impl_withoutFile.fl_seg xs j hlt, e]
  change k66.M _ _ _ p (((impl_withoutFile.fl xs).drop (j * 3)).take 3)
  rw [this]
  exact ⟨[.string p.f0], [.string p.f1, .int .i64 p.f2], rfl, rfl, [.string p.f1], [.int .i64 p.f2], rfl, rfl, rfl⟩⟩
/-- The function that tells which file is struck. -/
theorem impl_withoutFile.clo (nm : ByteArray) (B : Nat) (x : S66) (W : World) (hc : W.heap[B]? = some (.cells #[.string nm] 9 (0, 0))) :
  Calls Try.prog 64 #[.agg #[.string x.f0, .string x.f1, .int .i64 x.f2], .pointer (some ⟨B, 0, none⟩)] W fun e w' => e = .returned (.bool (x.f0.toList == nm.toList)) ∧ Below W.heap.size W w' := by
 have hBW : B < W.heap.size := blk_lt hc
 have hne : B ≠ W.heap.size := by omega
 have h0 : W.cell? ⟨B, 0, none⟩ = some (.string nm) := blk_cell hc 0
 clear hc
 go_enter Try.func64, Try.ntmps64
 go_wp2
 all_goals (go_ret; exact ⟨by first | rfl | simp_all, below_alloc (Below.refl _ _) _⟩)
theorem impl_withoutFile.pred (n : ByteArray) (B : Nat) (w : World) (hc : w.heap[B]? = some (.cells #[.string n] 9 (0, 0))) :
  PredBelow Try.prog 64 #[.pointer (some ⟨B, 0, none⟩)] (fun x => .agg (impl_withoutFile.fc x).toArray) (fun y => y.f0.toList == n.toList) w := fun W x hb => (impl_withoutFile.clo n B x W (blk_below hc hb)).mono fun e w' h => ⟨h.1, hb.trans (h.2.mono hb.size)⟩
theorem impl_withoutFile.idx (p : S66 → Bool) : ∀ (l : List (S66)) (i : Nat), (Lib.idxByFrom (fun _ y => p y) z66 l i = -1 ∧ ∀ y ∈ l, p y = false) ∨ ∃ k, ∃ h : k < l.length, Lib.idxByFrom (fun _ y => p y) z66 l i = ((i + k : Nat) : Int) ∧ p l[k] = true ∧ ∀ y ∈ l.take k, p y = false
 | [], _ => .inl ⟨rfl, fun y hy => by simp at hy⟩
 | y :: r, i => by
  cases h : p y with
  | true => exact .inr ⟨0, by simp, by simp [Lib.idxByFrom, h], by simpa using h, fun y hy => by simp at hy⟩
  | false =>
   rcases impl_withoutFile.idx p r (i + 1) with ⟨e, ha⟩ | ⟨k, hk, e, ht, ha⟩
   ·exact .inl ⟨by simp [Lib.idxByFrom, h, e], fun z hz => by rcases List.mem_cons.mp hz with rfl | hz; exact h; exact ha z hz⟩
   ·refine .inr ⟨k + 1, by simpa using hk, ?_, by simpa using ht, fun z hz => by rw [List.take_succ_cons] at hz; rcases List.mem_cons.mp hz with rfl | hz; exact h; exact ha z hz⟩
    simp only [Lib.idxByFrom, h]
    rw [show (if false = true then (i : Int) else Lib.idxByFrom (fun _ y => p y) z66 r (i + 1)) = Lib.idxByFrom (fun _ y => p y) z66 r (i + 1) from rfl, e]
    congr 1
    omega

/-- The row while files are struck from it: what is kept of the first j stands ahead, the others stand where they stood. -/
structure impl_withoutFile.Mid (w0 W : World) (base g B sz : Nat) (nm : ByteArray) (xs : List (S66)) (i j : Nat) (cur : Array Value) : Prop where
 row : W.heap[g]? = some (.cells cur 66 (0, 0))
 sz_ : cur.size = sz
 len : i = ((xs.take j).filter (impl_withoutFile.keep nm)).length
 ahead : cur.toList.take (i * 3) = impl_withoutFile.fl ((xs.take j).filter (impl_withoutFile.keep nm))
 rest : (cur.toList.drop (j * 3)).take ((xs.length - j) * 3) = impl_withoutFile.fl (xs.drop j)
 name_ : W.heap[B]? = some (.cells #[.string nm] 9 (0, 0))
 bel : Below base w0 W
 base_ : base ≤ g
 ne : B ≠ g
theorem impl_withoutFile.Mid.grow {w0 W W' : World} {base g B sz : Nat} {nm : ByteArray} {xs : List (S66)} {i j : Nat} {cur : Array Value} (h : impl_withoutFile.Mid w0 W base g B sz nm xs i j cur) (hb : Below W.heap.size W W') (hw : base ≤ W.heap.size) : impl_withoutFile.Mid w0 W' base g B sz nm xs i j cur :=
 ⟨blk_below h.row hb, h.sz_, h.len, h.ahead, h.rest, blk_below h.name_ hb, h.bel.trans (hb.mono hw), h.base_, h.ne⟩
theorem impl_withoutFile.Mid.lt {w0 W : World} {base g B sz : Nat} {nm : ByteArray} {xs : List (S66)} {i j : Nat} {cur : Array Value} (h : impl_withoutFile.Mid w0 W base g B sz nm xs i j cur) : base ≤ W.heap.size := Nat.le_trans h.base_ (Nat.le_of_lt (blk_lt h.row))
theorem impl_withoutFile.take_one (xs : List (S66)) (j : Nat) (h : j < xs.length) (p : S66 → Bool) : (xs.take (j + 1)).filter p = (xs.take j).filter p ++ (if p xs[j] = true then [xs[j]] else []) := by
 rw [List.take_succ_eq_append_getElem h, List.filter_append]
 by_cases c : p xs[j] = true
 ·rw [if_pos c, List.filter_cons, if_pos c]; rfl
 ·rw [if_neg c, List.filter_cons, if_neg c]; rfl
theorem impl_withoutFile.Mid.skip {w0 W : World} {base g B sz : Nat} {nm : ByteArray} {xs : List (S66)} {i j : Nat} {cur : Array Value} (h : impl_withoutFile.Mid w0 W base g B sz nm xs i j cur) (hj : j < xs.length) (hk : impl_withoutFile.keep nm xs[j] = false) : impl_withoutFile.Mid w0 W base g B sz nm xs i (j + 1) cur := by
 have e : (xs.take (j + 1)).filter (impl_withoutFile.keep nm) = (xs.take j).filter (impl_withoutFile.keep nm) := by rw [impl_withoutFile.take_one xs j hj, hk]; simp
 refine ⟨h.row, h.sz_, by rw [e]; exact h.len, by rw [e]; exact h.ahead, ?_, h.name_, h.bel, h.base_, h.ne⟩
 have := congrArg (List.drop 3) h.rest
 rw [List.drop_take, List.drop_drop, show j * 3 + 3 = (j + 1) * 3 by omega, show (xs.length - j) * 3 - 3 = (xs.length - (j + 1)) * 3 by omega] at this
 rw [this]
 have e2 := impl_withoutFile.fl_drop (xs.drop j) 1
 rw [Nat.one_mul, List.drop_drop] at e2
 exact e2
/-- The three cells of the file at j. -/
theorem impl_withoutFile.Mid.cells {w0 W : World} {base g B sz : Nat} {nm : ByteArray} {xs : List (S66)} {i j : Nat} {cur : Array Value} (h : impl_withoutFile.Mid w0 W base g B sz nm xs i j cur) (hj : j < xs.length) :
  cur[j * 3]? = some (.string xs[j].f0) ∧ cur[j * 3 + 1]? = some (.string xs[j].f1) ∧ cur[j * 3 + 2]? = some (.int .i64 xs[j].f2) := by
 have key : ∀ t, t < 3 → cur[j * 3 + t]? = (impl_withoutFile.fc xs[j])[t]? := fun t ht => by
  have e : ((cur.toList.drop (j * 3)).take ((xs.length - j) * 3))[t]? = (impl_withoutFile.fl (xs.drop j))[t]? := by rw [h.rest]
  rw [List.getElem?_take, if_pos (by omega), List.getElem?_drop, Array.getElem?_toList] at e
  rw [e]
  have e2 := impl_withoutFile.fl_at (xs.drop j) 0 (by rw [List.length_drop]; omega) t ht
  rw [Nat.zero_mul, Nat.zero_add] at e2
  rw [e2, List.getElem_drop]
  rfl
 exact ⟨key 0 (by decide), key 1 (by decide), key 2 (by decide)⟩
theorem impl_withoutFile.set3_take (l : List Value) (i : Nat) (a b c : Value) (h : i * 3 + 3 ≤ l.length) : (((l.set (i * 3) a).set (i * 3 + 1) b).set (i * 3 + 2) c).take ((i + 1) * 3) = l.take (i * 3) ++ [a, b, c] := by
 apply List.ext_getElem?
 intro k
 simp only [List.getElem?_take, List.getElem?_set, List.getElem?_append, List.length_take, List.length_set]
 rw [Nat.min_eq_left (by omega)]
 by_cases h1 : k < i * 3
 ·simp [h1, show k < (i + 1) * 3 by omega, show ¬ i * 3 + 2 = k by omega, show ¬ i * 3 + 1 = k by omega, show ¬ i * 3 = k by omega]
 ·by_cases h2 : k = i * 3
  ·subst h2; simp [show i * 3 < (i + 1) * 3 by omega, show i * 3 < l.length by omega]
  ·by_cases h3 : k = i * 3 + 1
   ·subst h3; simp [show i * 3 + 1 < (i + 1) * 3 by omega, show i * 3 + 1 < l.length by omega, show ¬ i * 3 + 1 < i * 3 by omega]
   ·by_cases h4 : k = i * 3 + 2
    ·subst h4; simp [show i * 3 + 2 < (i + 1) * 3 by omega, show i * 3 + 2 < l.length by omega, show ¬ i * 3 + 2 < i * 3 by omega]
    ·rw [if_neg (show ¬ k < (i + 1) * 3 by omega), if_neg h1]
     obtain ⟨m, rfl⟩ : ∃ m, k = i * 3 + 3 + m := ⟨k - (i * 3 + 3), by omega⟩
     rw [show i * 3 + 3 + m - i * 3 = m + 3 by omega]
     rfl
theorem impl_withoutFile.set3_drop (l : List Value) (i j : Nat) (a b c : Value) (h : i < j) : (((l.set (i * 3) a).set (i * 3 + 1) b).set (i * 3 + 2) c).drop (j * 3) = l.drop (j * 3) := by
 apply List.ext_getElem?
 intro k
 simp only [List.getElem?_drop, List.getElem?_set]
 rw [if_neg (by omega), if_neg (by omega), if_neg (by omega)]
theorem impl_withoutFile.Mid.keep_ {w0 W : World} {base g B sz : Nat} {nm : ByteArray} {xs : List (S66)} {i j : Nat} {cur : Array Value} (h : impl_withoutFile.Mid w0 W base g B sz nm xs i j cur) (hj : j < xs.length) (hij : i < j) (hsz : xs.length * 3 ≤ sz) (hk : impl_withoutFile.keep nm xs[j] = true) :
  impl_withoutFile.Mid w0 (((W.setCell ⟨g, i * 3, none⟩ (.string xs[j].f0)).setCell ⟨g, i * 3 + 1, none⟩ (.string xs[j].f1)).setCell ⟨g, i * 3 + 2, none⟩ (.int .i64 xs[j].f2)) base g B sz nm xs (i + 1) (j + 1) (((cur.setIfInBounds (i * 3) (.string xs[j].f0)).setIfInBounds (i * 3 + 1) (.string xs[j].f1)).setIfInBounds (i * 3 + 2) (.int .i64 xs[j].f2)) := by
 have e : (xs.take (j + 1)).filter (impl_withoutFile.keep nm) = (xs.take j).filter (impl_withoutFile.keep nm) ++ [xs[j]] := by rw [impl_withoutFile.take_one xs j hj, if_pos hk]
 have hl : cur.toList.length = sz := by rw [Array.length_toList]; exact h.sz_
 refine ⟨blk_set (blk_set (blk_set h.row _ _) _ _) _ _, by simp [h.sz_], by rw [e, List.length_append, ← h.len]; rfl, ?_, ?_, blk_far (blk_far (blk_far h.name_ h.ne _) h.ne _) h.ne _, ((h.bel.setCell h.base_ _).setCell h.base_ _).setCell h.base_ _, h.base_, h.ne⟩
 ·simp only [Array.toList_setIfInBounds]
  rw [impl_withoutFile.set3_take _ _ _ _ _ (by omega), h.ahead, e, impl_withoutFile.fl_app]
  rfl
 ·simp only [Array.toList_setIfInBounds]
  rw [impl_withoutFile.set3_drop _ _ _ _ _ _ (by omega)]
  have := congrArg (List.drop 3) h.rest
  rw [List.drop_take, List.drop_drop, show j * 3 + 3 = (j + 1) * 3 by omega, show (xs.length - j) * 3 - 3 = (xs.length - (j + 1)) * 3 by omega] at this
  rw [this]
  have e2 := impl_withoutFile.fl_drop (xs.drop j) 1
  rw [Nat.one_mul, List.drop_drop] at e2
  exact e2
theorem impl_withoutFile.Mid.start {w0 W : World} {base g B sz : Nat} {nm : ByteArray} {xs : List (S66)} {cur : Array Value} (h : impl_withoutFile.Mid w0 W base g B sz nm xs 0 0 cur) (k : Nat) (hk : k < xs.length) (ht : impl_withoutFile.keep nm xs[k] = false) (hall : ∀ y ∈ xs.take k, impl_withoutFile.keep nm y = true) : impl_withoutFile.Mid w0 W base g B sz nm xs k (k + 1) cur := by
 have hr := h.rest
 rw [Nat.zero_mul, List.drop_zero, Nat.sub_zero, List.drop_zero] at hr
 have hf : (xs.take (k + 1)).filter (impl_withoutFile.keep nm) = xs.take k := by
  rw [impl_withoutFile.take_one xs k hk, ht, List.filter_eq_self.mpr hall]; simp
 refine ⟨h.row, h.sz_, by rw [hf, List.length_take]; omega, ?_, ?_, h.name_, h.bel, h.base_, h.ne⟩
 ·rw [hf, ← impl_withoutFile.fl_take, ← hr, List.take_take, Nat.min_eq_left (by omega)]
 ·rw [← impl_withoutFile.fl_drop, ← hr, List.drop_take]
  congr 1
  omega
theorem impl_withoutFile.Mid.old {w0 W : World} {base g B sz : Nat} {nm : ByteArray} {xs : List (S66)} {i j : Nat} {cur : Array Value} (h : impl_withoutFile.Mid w0 W base g B sz nm xs i j cur) (t : Nat) (ht : t < sz) : ∃ v, W.cell? ⟨g, t, none⟩ = some v :=
 ⟨cur[t]'(by rw [h.sz_]; exact ht), by rw [blk_cell h.row, Array.getElem?_eq_getElem]⟩

set_option maxHeartbeats 4000000 in
set_option maxRecDepth 100000 in
theorem impl_withoutFile.del (w0 : World) (base g B cap : Nat) (nm : ByteArray) (xs : List (S66)) (cur : Array Value) (w : World) (hM : impl_withoutFile.Mid w0 w base g B (cap * 3) nm xs 0 0 cur) (hpos : 0 < xs.length) (hcap : xs.length ≤ cap) (hlim : xs.length < 1000000) :
  Calls Try.prog 63 #[.slice (some ⟨g, 0, none⟩) xs.length cap, .func (.func 64) #[] #[.pointer (some ⟨B, 0, none⟩)]] w
   fun e w' => e = .returned (.slice (some ⟨g, 0, none⟩) (xs.filter (impl_withoutFile.keep nm)).length cap) ∧ Below base w0 w' ∧ ∃ cur', w'.heap[g]? = some (.cells cur' 66 (0, 0)) ∧ cur'.size = cap * 3 ∧ cur'.toList.take ((xs.filter (impl_withoutFile.keep nm)).length * 3) = impl_withoutFile.fl (xs.filter (impl_withoutFile.keep nm)) := by
 have eg : ∀ args W, (callFunc 64 args).run Try.prog W = .ok (.enter 64 args) W := enters_of Try.func64 (by kernel_rfl) rfl
 have hgw : g < w.heap.size := blk_lt hM.row
 have hIF := AnyQ.slices_IndexFunc Try.l60 3 Try.isAgg66 Try.sizeOf66 impl_withoutFile.fc (fun _ => rfl) (fun y => y.f0.toList == nm.toList) 64 #[.pointer (some ⟨B, 0, none⟩)] eg g 0 xs.length cap xs w
  (impl_withoutFile.pred nm B w hM.name_) (Nat.le_refl _) (by omega) hgw (fun j hj i v hi => by
   obtain ⟨k0, k1, k2⟩ := (show cur[j * 3]? = some (.string xs[j].f0) ∧ cur[j * 3 + 1]? = some (.string xs[j].f1) ∧ cur[j * 3 + 2]? = some (.int .i64 xs[j].f2) from by
    have hr := hM.rest
    rw [Nat.zero_mul, List.drop_zero, Nat.sub_zero, List.drop_zero] at hr
    have key : ∀ t, t < 3 → cur[j * 3 + t]? = (impl_withoutFile.fc xs[j])[t]? := fun t ht => by
     have e : (cur.toList.take (xs.length * 3))[j * 3 + t]? = (impl_withoutFile.fl xs)[j * 3 + t]? := by rw [hr]
     rw [List.getElem?_take, if_pos (by omega), Array.getElem?_toList] at e
     rw [e]
     exact impl_withoutFile.fl_at xs j hj t ht
    exact ⟨key 0 (by decide), key 1 (by decide), key 2 (by decide)⟩)
   rw [getElem!_pos xs j hj] at hi
   have hc : ∀ t, w.cell? ⟨g, 0 + j * 3 + t, none⟩ = cur[j * 3 + t]? := fun t => by rw [Nat.zero_add]; exact blk_cell hM.row _
   match i, hi with
   | 0, hi => simp [impl_withoutFile.fc] at hi; rw [← hi]; exact (hc 0).trans k0
   | 1, hi => simp [impl_withoutFile.fc] at hi; rw [← hi]; exact (hc 1).trans k1
   | 2, hi => simp [impl_withoutFile.fc] at hi; rw [← hi]; exact (hc 2).trans k2
   | i + 3, hi => simp [impl_withoutFile.fc] at hi)
 rw [List.take_length] at hIF
 have HM := Aside0.mk hM
 have e0 : Lib.idxBy (fun (_ : S66) y => y.f0.toList == nm.toList) xs z66 = Lib.idxByFrom (fun (_ : S66) y => y.f0.toList == nm.toList) z66 xs 0 := rfl
 rcases impl_withoutFile.idx (fun y => y.f0.toList == nm.toList) xs 0 with ⟨e1, hall⟩ | ⟨k0, hk0, e1, ht, hall⟩
 ·-- no file is struck
  have hf : xs.filter (impl_withoutFile.keep nm) = xs := List.filter_eq_self.mpr (fun y hy => by unfold impl_withoutFile.keep; rw [hall y hy]; rfl)
  rw [hf]
  have hIF' : Calls Try.prog 60 #[.slice (some ⟨g, 0, none⟩) xs.length cap, .func (.func 64) #[] #[.pointer (some ⟨B, 0, none⟩)]] w fun e w' => e = .returned (.int .i64 (-1)) ∧ Below w.heap.size w w' := by rw [← e1]; exact hIF
  clear hIF hM hall hf e0 e1
  go_enter Try.func63, Try.ntmps63
  go_wp2_with (go_at_call 60; refine hIF'.mono ?_; rintro e w' ⟨rfl, hb⟩)
  go_ret
  have M2 := HM.out.grow hb HM.out.lt
  refine ⟨rfl, M2.bel, cur, M2.row, M2.sz_, ?_⟩
  have hr := M2.rest
  rw [Nat.zero_mul, List.drop_zero, Nat.sub_zero, List.drop_zero] at hr
  exact hr
 ·have hIF' : Calls Try.prog 60 #[.slice (some ⟨g, 0, none⟩) xs.length cap, .func (.func 64) #[] #[.pointer (some ⟨B, 0, none⟩)]] w fun e w' => e = .returned (.int .i64 (k0 : Int)) ∧ Below w.heap.size w w' := by
   have e2 : Lib.idxByFrom (fun (_ : S66) y => y.f0.toList == nm.toList) z66 xs 0 = (k0 : Int) := by rw [e1]; congr 1; omega
   rw [← e2]; exact hIF
  have hs1 : impl_withoutFile.Mid w0 w base g B (cap * 3) nm xs k0 (k0 + 1) cur := hM.start k0 hk0 (by unfold impl_withoutFile.keep; rw [ht]; rfl) (fun y hy => by unfold impl_withoutFile.keep; rw [hall y hy]; rfl)
  have HS := Aside0.mk hs1
  have hne1 : ((k0 : Int) == -1) = false := beq_eq_false_iff_ne.2 (by omega)
  clear hIF hM HM hall ht e0 e1 hs1
  go_enter Try.func63, Try.ntmps63
  go_wp2_with (go_at_call 60; refine hIF'.mono ?_; rintro e w1 ⟨rfl, hb⟩)
  have HS1 := Aside0.mk (HS.out.grow hb HS.out.lt)
  clear HS hb hIF'
  go_loopg [5, 6, 7] xs.length (fun gg s5 s6 _ wr => ∃ (i j : Nat) (cur' : Array Value), s5 = .int .i64 i ∧ s6 = .int .i64 j ∧ i < j ∧ j ≤ xs.length ∧ xs.length - j ≤ gg ∧ Aside0 (impl_withoutFile.Mid w0 wr base g B (cap * 3) nm xs i j cur'))
  case atStart => exact ⟨k0, k0 + 1, cur, rfl, by go_num, by omega, by omega, by omega, HS1⟩
  case round =>
   obtain ⟨i, j, cur', rfl, rfl, hij, hjn, hgg, MI⟩ := hrel
   clear HS1 hne1
   by_cases hlt : j < xs.length
   ·have hltz : (j : Int) < (xs.length : Int) := by omega
    obtain ⟨q0, q1, q2⟩ := MI.out.cells hlt
    have c0 : wr.cell? ⟨g, j * 3, none⟩ = some (.string xs[j].f0) := (blk_cell MI.out.row _).trans q0
    have c1 : wr.cell? ⟨g, j * 3 + 1, none⟩ = some (.string xs[j].f1) := (blk_cell MI.out.row _).trans q1
    have c2 : wr.cell? ⟨g, j * 3 + 2, none⟩ = some (.int .i64 xs[j].f2) := (blk_cell MI.out.row _).trans q2
    clear q0 q1 q2
    have hclo : ∀ W, Below wr.heap.size wr W → Calls Try.prog 64 #[.agg #[.string xs[j].f0, .string xs[j].f1, .int .i64 xs[j].f2], .pointer (some ⟨B, 0, none⟩)] W fun e w' => e = .returned (.bool (xs[j].f0.toList == nm.toList)) ∧ Below W.heap.size W w' := fun W hb => impl_withoutFile.clo nm B xs[j] W (blk_below MI.out.name_ hb)
    have i0 : i < xs.length := by omega
    obtain ⟨y, hy⟩ : ∃ y, y = xs[j] := ⟨_, rfl⟩
    rw [← hy] at c0 c1 c2 hclo
    have Y := Aside0.mk hy
    clear hy
    have HC := Aside0.mk hclo
    clear hclo
    cases hq : (y.f0.toList == nm.toList) with
    | true =>
     rw [hq] at HC
     go_wp2_with (first | ((with_reducible refine gate_dst (N := 7) rfl ?_); refine box_event rfl (N := 7) rfl (cs := #[.string (⟨#[]⟩ : ByteArray), .string (⟨#[]⟩ : ByteArray), .int .i64 0]) (t := 66) zrun ?_; intro gb hg w_b hbox hb; have YB := Aside0.mk hbox; have ZB := Aside0.mk hb; have GB := Aside0.mk hg; have d0 := blk_cell hbox 0; have d1 := blk_cell hbox 1; have d2 := blk_cell hbox 2; simp only [List.getElem?_toArray, List.getElem?_cons_zero, List.getElem?_cons_succ] at d0 d1 d2; have f0 := blk_frozen hbox 0; have f1 := blk_frozen hbox 1; have f2 := blk_frozen hbox 2; clear hbox hb hg) | (go_at_call 64; refine (HC.out _ (((ZB.out.setCell (Nat.le_of_eq GB.out.symm) _).setCell (Nat.le_of_eq GB.out.symm) _).setCell (Nat.le_of_eq GB.out.symm) _)).mono ?_; rintro e w2 ⟨rfl, hb2⟩; have BW := Aside0.mk (below_step (((ZB.out.setCell (Nat.le_of_eq GB.out.symm) (.string y.f0)).setCell (Nat.le_of_eq GB.out.symm) (.string y.f1)).setCell (Nat.le_of_eq GB.out.symm) (.int .i64 y.f2)) hb2); clear hb2))
     go_roundg (xs.length - (j + 1))
     case measure => omega
     case rel => exact ⟨i, j + 1, cur', rfl, by go_num, by omega, by omega, Nat.le_refl _, ⟨(MI.out.grow BW.out MI.out.lt).skip hlt (by unfold impl_withoutFile.keep; rw [← Y.out, hq]; rfl)⟩⟩
    | false =>
     rw [hq] at HC
     have hisz : i * 3 + 2 < cap * 3 := by omega
     have HI := Aside0.mk hisz
     clear hisz
     go_wp2_with (first | ((with_reducible refine gate_dst (N := 7) rfl ?_); refine box_event rfl (N := 7) rfl (cs := #[.string (⟨#[]⟩ : ByteArray), .string (⟨#[]⟩ : ByteArray), .int .i64 0]) (t := 66) zrun ?_; intro gb hg w_b hbox hb; have YB := Aside0.mk hbox; have ZB := Aside0.mk hb; have GB := Aside0.mk hg; have d0 := blk_cell hbox 0; have d1 := blk_cell hbox 1; have d2 := blk_cell hbox 2; simp only [List.getElem?_toArray, List.getElem?_cons_zero, List.getElem?_cons_succ] at d0 d1 d2; have f0 := blk_frozen hbox 0; have f1 := blk_frozen hbox 1; have f2 := blk_frozen hbox 2; clear hbox hb hg) | (go_at_call 64; refine (HC.out _ (((ZB.out.setCell (Nat.le_of_eq GB.out.symm) _).setCell (Nat.le_of_eq GB.out.symm) _).setCell (Nat.le_of_eq GB.out.symm) _)).mono ?_; rintro e w2 ⟨rfl, hb2⟩; have BW := Aside0.mk (below_step (((ZB.out.setCell (Nat.le_of_eq GB.out.symm) (.string y.f0)).setCell (Nat.le_of_eq GB.out.symm) (.string y.f1)).setCell (Nat.le_of_eq GB.out.symm) (.int .i64 y.f2)) hb2); have YB2 : Aside0 (w2.heap[gb]? = some (.cells #[.string y.f0, .string y.f1, .int .i64 y.f2] 66 (0, 0))) := ⟨blk_below (blk_put (blk_put (blk_put YB.out 0 (.string y.f0) rfl) 1 (.string y.f1) rfl) 2 (.int .i64 y.f2) rfl) hb2⟩; clear hb2 d0 d1 d2 f0 f1 f2; have d0 := blk_cell YB2.out 0; have d1 := blk_cell YB2.out 1; have d2 := blk_cell YB2.out 2; simp only [List.getElem?_toArray, List.getElem?_cons_zero, List.getElem?_cons_succ] at d0 d1 d2; have MI2 := Aside0.mk (MI.out.grow BW.out MI.out.lt); obtain ⟨v0, o0⟩ := MI2.out.old (i * 3) (by have := HI.out; omega); obtain ⟨v1, o1⟩ := MI2.out.old (i * 3 + 1) (by have := HI.out; omega); obtain ⟨v2, o2⟩ := MI2.out.old (i * 3 + 2) HI.out; have f0 := blk_frozen MI2.out.row (i * 3); have f1 := blk_frozen MI2.out.row (i * 3 + 1); have f2 := blk_frozen MI2.out.row (i * 3 + 2)))
     go_roundg (xs.length - (j + 1))
     case measure => omega
     case rel =>
      have K := MI2.out.keep_ hlt hij (by omega) (by unfold impl_withoutFile.keep; rw [← Y.out, hq]; rfl)
      rw [← Y.out] at K
      exact ⟨i + 1, j + 1, _, by go_num, by go_num, by omega, by omega, Nat.le_refl _, ⟨K⟩⟩
   ·obtain rfl : j = xs.length := by omega
    have hltz : ¬ (xs.length : Int) < (xs.length : Int) := by omega
    have hM := MI.out
    have hcl : ∀ ty, (Builtin.clear_ #[29] ty #[.slice (some ⟨g, i * 3, none⟩) (xs.length - i) (cap - i)]).run Try.prog wr = .ok (.tuple #[]) (wr.setRow g (cur'.toList.take (i * 3) ++ (Builtin.zeroCells (Value.agg #[.string ⟨#[]⟩, .string ⟨#[]⟩, .int .i64 0]).cells (xs.length - i)).toList ++ cur'.toList.drop (i * 3 + (xs.length - i) * 3)).toArray) := fun ty =>
     run_clear_wide wr 29 66 ty _ Try.underlying29 Try.zeroValue66 (by intro u hu; simp [Value.cells] at hu; rcases hu with rfl | rfl | rfl <;> rfl) (by decide) g (i * 3) (xs.length - i) (cap - i) (by omega) cur' 66 hM.row (by have := hM.sz_; show i * 3 + (xs.length - i) * 3 ≤ _; omega)
    have hcap1 : ¬ cap = i := by omega
    have hle1 : i ≤ xs.length := by omega
    have hle2 : i ≤ cap := by omega
    clear hM
    go_wp2
    go_ret
    have M := MI.out
    have ef : xs.filter (impl_withoutFile.keep nm) = (xs.take xs.length).filter (impl_withoutFile.keep nm) := by rw [List.take_length]
    have hl := M.len
    rw [List.take_length] at hl
    refine ⟨by rw [← hl]; rfl, Go.below_setRow M.bel M.base_ _, _, setRow_heap wr g _ _ _ _ M.row, ?_, ?_⟩
    ·have := M.sz_
     have hz : ((Builtin.zeroCells #[Value.string ⟨#[]⟩, Value.string ⟨#[]⟩, Value.int .i64 0] (xs.length - i)).toList).length = (xs.length - i) * 3 := zeroCells_length _ _
     simp only [List.size_toArray, List.length_append, List.length_take, List.length_drop, Array.length_toList, hz]
     omega
    ·rw [← hl, List.take_append_of_le_length (by rw [List.length_take, Array.length_toList, M.sz_]; omega), List.take_take, Nat.min_self, M.ahead, ← ef]

theorem impl_withoutFile.none_ (A : Option Addr) (c : Nat) (fv : Value) (w : World) : Calls Try.prog 60 #[.slice A 0 c, fv] w fun e w' => e = .returned (.int .i64 (-1)) ∧ Below w.heap.size w w' := by
 go_enter Try.func60, Try.ntmps60
 go_wp2
 go_loopg [8] 0 (fun gg s8 wr => s8 = .int .i64 0 ∧ wr = w)
 case atStart => exact ⟨rfl, rfl⟩
 case round =>
  obtain ⟨rfl, rfl⟩ := hrel
  go_wp2
  go_ret
  exact ⟨rfl, Below.refl _ _⟩
theorem impl_withoutFile.del0 (A : Option Addr) (c : Nat) (fv : Value) (w : World) : Calls Try.prog 63 #[.slice A 0 c, fv] w fun e w' => e = .returned (.slice A 0 c) ∧ Below w.heap.size w w' := by
 go_enter Try.func63, Try.ntmps63
 go_wp2_with (go_at_call 60; refine (impl_withoutFile.none_ _ _ _ _).mono ?_; rintro e w' ⟨rfl, hb⟩)
 go_ret
 exact ⟨rfl, hb⟩
/-- DeleteFunc on a row of the call's own, in one statement. -/
theorem impl_withoutFile.del_any (base B : Nat) (v : Value) (nm : ByteArray) (xs : List (S66)) (w0 w : World) (hR : Kd.R k66 66 w base (fun _ => True) v xs) (hn : w.heap[B]? = some (.cells #[.string nm] 9 (0, 0))) (hB : B < base) (hb : Below base w0 w) (hlim : xs.length < 1000000) (hbw : base ≤ w.heap.size) :
  Calls Try.prog 63 #[v, .func (.func 64) #[] #[.pointer (some ⟨B, 0, none⟩)]] w fun e w' => ∃ v', e = .returned v' ∧ Kd.R k66 66 w' base (fun _ => True) v' (xs.filter (impl_withoutFile.keep nm)) ∧ Below base w0 w' := by
 cases hl : xs with
 | nil =>
  rw [hl] at hR
  obtain ⟨A, c, rfl⟩ := Kd.R_slice hR
  refine (impl_withoutFile.del0 A c _ w).mono ?_
  rintro e w' ⟨rfl, hb'⟩
  exact ⟨_, rfl, Kd.R_below hR hb', hb.trans (hb'.mono hbw)⟩
 | cons x r =>
  rw [← hl]
  have hpos : 0 < xs.length := by rw [hl]; simp
  clear hl
  obtain ⟨hlen, ⟨_, h0⟩ | ⟨g, cap, cur, rfl, hg, hh, hnc, hcm, hsz, htk⟩⟩ := impl_withoutFile.of_R hR
  ·omega
  ·refine (impl_withoutFile.del w0 base g B cap nm xs cur w ⟨hh, hsz, rfl, by simp [impl_withoutFile.fl], by rw [Nat.zero_mul, List.drop_zero, Nat.sub_zero, List.drop_zero]; exact htk, hn, hb, hg, by omega⟩ hpos hnc hlim).mono ?_
   rintro e w' ⟨rfl, hb', cur', hh', hsz', htk'⟩
   have hlf := List.length_filter_le (impl_withoutFile.keep nm) xs
   exact ⟨_, rfl, impl_withoutFile.to_R ⟨impl_withoutFile.fl_len _, Or.inr ⟨g, cap, cur', rfl, hg, hh', by omega, hcm, hsz', htk'⟩⟩, hb'⟩
theorem impl_withoutFile.field_ (A : Option Addr) (n c : Nat) (W : World) : (Instr.field 31 (.agg #[.slice A n c]) 0).run Try.prog W = .ok (.slice A n c) W := by
 simp [Instr.field, run_underlying Try.underlying31, part, asAgg, Try.isAgg29]
set_option maxHeartbeats 4000000 in
set_option maxRecDepth 100000 in
theorem impl_withoutFile.calls (A0_0 : Option Addr) (c0_0 : Nat) (l0_0 : List (S66)) (a1 : ByteArray) (r : List (S66)) (w : World) (hr0_0 : Kd.C k66 w A0_0 l0_0.length l0_0) (hc0_0 : l0_0.length ≤ c0_0) (h : impl_withoutFile.f l0_0 a1 = some r) :
  Calls Try.prog 42 #[.agg #[.slice A0_0 l0_0.length c0_0], .string a1] w fun e w' => ∃ v0_ : Value, e = .returned (.agg #[v0_]) ∧ Kd.R k66 66 w' w.heap.size (fun _ => True) v0_ r ∧ Below w.heap.size w w' := by
 unfold impl_withoutFile.f at h
 by_cases hlim : l0_0.length < 1000000
 ·rw [if_pos hlim] at h
  obtain rfl := Option.some.inj h
  clear h
  have hcf : impl_copyDisk.f l0_0 = some l0_0 := by
   unfold impl_copyDisk.f
   rw [Option.bind_some, if_pos (by simp; omega)]
   rfl
  have HC := Aside0.mk hcf
  have HR := Aside0.mk hr0_0
  clear hcf hr0_0
  have hfield : ∀ (A : Option Addr) (n c : Nat) (W : World), (Instr.field 31 (.agg #[.slice A n c]) 0).run Try.prog W = .ok (.slice A n c) W := fun A n c W => impl_withoutFile.field_ A n c W
  go_enter Try.func42, Try.ntmps42
  go_wp2_with (first
   | ((with_reducible refine gate_dst (N := 2) rfl ?_); refine box_event rfl (N := 2) rfl (cs := #[.slice A0_0 l0_0.length c0_0]) (t := 31) zrun ?_; intro gd hg w_d hbox hb; have YD := Aside0.mk hbox; have ZD := Aside0.mk hb; have GD := Aside0.mk hg; clear hbox hb hg)
   | ((with_reducible refine gate_dst (N := 3) rfl ?_); refine box_event rfl (N := 3) rfl (cs := #[.string a1]) (t := 9) zrun ?_; intro gn hg w_n hbox hb; have YN := Aside0.mk hbox; have ZN := Aside0.mk hb; have GN := Aside0.mk hg; clear hbox hb hg)
   | ((with_reducible refine gate_dst (N := 4) rfl ?_); refine box_event rfl (N := 4) rfl (cs := #[.slice none 0 0]) (t := 31) zrun ?_; intro gr hg w_r hbox hb; have GR := Aside0.mk hg; have YR := Aside0.mk hbox; have YD2 := Aside0.mk (blk_below (blk_below YD.out ZN.out) hb); have YN2 := Aside0.mk (blk_below YN.out hb); have ZR := Aside0.mk (below_step (below_step ZD.out ZN.out) hb); have d0 := blk_cell YD2.out 0; simp only [List.getElem?_toArray, List.getElem?_cons_zero] at d0; clear hbox hb hg)
   | (go_at_call 46; refine (impl_copyDisk.calls A0_0 c0_0 l0_0 l0_0 _ (Kd.C_below HR.out ZR.out) hc0_0 HC.out).mono ?_; rintro e_ w1 ⟨v0, rfl, hR, hb⟩; obtain ⟨A1_, c1_, ev⟩ := Kd.R_slice hR; subst ev; have R1 := Aside0.mk hR; have B1 := Aside0.mk hb; clear hR hb d0)
   | (go_at_call 63; refine (impl_withoutFile.del_any w_r.heap.size gn _ a1 l0_0 w_r w1 R1.out (blk_below YN2.out B1.out) (blk_lt YN2.out) B1.out hlim B1.out.size).mono ?_; rintro e_ w2 ⟨v1, rfl, hR, hb⟩; obtain ⟨A2_, c2_, ev⟩ := Kd.R_slice hR; subst ev; have R2 := Aside0.mk hR; have B2 := Aside0.mk hb; clear hR; have r0 := blk_cell (blk_below YR.out hb) 0; simp only [List.getElem?_toArray, List.getElem?_cons_zero] at r0; have rf0 := blk_frozen (blk_below YR.out hb) 0; clear hb))
  have hgr : w.heap.size ≤ gr := by rw [GR.out]; exact Nat.le_trans (below_step ZD.out ZN.out).size (Nat.le_refl _)
  refine bodyPost_ret (results_cell_row rfl _ _ gr 31 #[.slice A2_ (l0_0.filter (impl_withoutFile.keep a1)).length c2_] (0, 0) _ rfl (blk_put (blk_below YR.out B2.out) 0 _ rfl) Try.underlying31 rfl (by kernel_rfl)) rfl ?_
  exact ⟨_, rfl, Kd.R_mono (Kd.R_far (Kd.R_lower (Kd.R_types R2.out (blk_below YR.out B2.out) (by decide)) ZR.out.size) (fun _ q => q.2) _) (fun _ _ => trivial), below_set (below_step ZR.out B2.out) hgr⟩
 ·rw [if_neg hlim] at h
  cases h

-- NOT PRINTED: function 75 (impl_File_75)

end Go.Proofs.Ytklbkkoojkmjbaa.QFnActs
