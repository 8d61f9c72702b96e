/- Written by the kit's print.py, called by our own print2.sh with one import more; not by print.sh. -/
import Derived.Test.YtklbkkoojkmjbaaQFnActsx0
namespace Go.Proofs.Ytklbkkoojkmjbaa.QFnActs
open Go.RowKit Go.Proofs.YtklbkkoojkmjbaaW.PrintWords Go.Proofs.YtklbkkoojkmjbaaW.PrintLast Go.Proofs.YtklbkkoojkmjbaaW.PrintMore
attribute [local go_sem] max2_int min2_int max_two min_two max_three min_three max_four min_four   -- for this text's walks alone
open Go.Proofs.Ytklbkkoojkmjbaa.Short
set_option linter.unusedVariables false
set_option linter.unusedSimpArgs false

attribute [local go_sem high] gtr_str
/-! ### spec_l01In: function 56 -/
def spec_l01In.f (a0 : Int) (a1 : Int) (a2 : Int) : Option (Bool) := if a0 ≥ a1 then (some (decide (a0 ≤ a2))) else (some false)
set_option maxHeartbeats 8000000 in
set_option maxRecDepth 100000 in
theorem spec_l01In.calls (a0 : Int) (a1 : Int) (a2 : Int) (r : Bool) (w : World) (h : spec_l01In.f a0 a1 a2 = some r) :
  Calls Try.prog 56 #[.int .i64 a0, .int .i64 a1, .int .i64 a2] w fun e w' => e = .returned (.bool r) ∧ Drawn0 w w' := by
 have H : (if a0 ≥ a1 then (some (decide (a0 ≤ a2))) else (some false)) = some r := h
 clear h
 by_cases c4 : a0 ≥ a1
 ·rw [if_pos c4] at H
  have c4b0 : decide (a1 ≤ a0) = true := decide_eq_true c4
  have c4b1 : decide (a0 < a1) = false := decide_eq_false (by omega)
  clear c4
  obtain rfl := Option.some.inj H
  go_enter Try.func56, Try.ntmps56
  go_wp2
  go_ret
  exact ⟨by first | rfl | (simp; done) | (simp [*]; done), by repeat (first | exact Drawn0.refl _ | apply Drawn0.step)⟩
 ·rw [if_neg c4] at H
  have c4b0 : decide (a1 ≤ a0) = false := decide_eq_false c4
  have c4b1 : decide (a0 < a1) = true := decide_eq_true (by omega)
  clear c4
  obtain rfl := Option.some.inj H
  go_enter Try.func56, Try.ntmps56
  go_wp2
  go_ret
  exact ⟨by first | rfl | (simp; done) | (simp [*]; done), by repeat (first | exact Drawn0.refl _ | apply Drawn0.step)⟩

/-! ### spec_l03Name: function 33 -/
def spec_l03Name.f (a0 : ByteArray) : Option (Bool) := (spec_l01In.f (a0.size : Int) 1 8).bind fun t154 => (some t154)
set_option maxHeartbeats 8000000 in
set_option maxRecDepth 100000 in
theorem spec_l03Name.calls (a0 : ByteArray) (r : Bool) (w : World) (h : spec_l03Name.f a0 = some r) :
  Calls Try.prog 33 #[.string a0] w fun e w' => e = .returned (.bool r) ∧ Drawn0 w w' := by
 have H : ((spec_l01In.f (a0.size : Int) 1 8).bind fun t154 => (some t154)) = some r := h
 clear h
 replace H := Option.bind_eq_some_iff.mp H
 obtain ⟨t154, A20, H⟩ := H
 try dsimp only at H
 have A2 := Aside0.mk A20
 clear A20
 obtain rfl := Option.some.inj H
 go_enter Try.func33, Try.ntmps33
 go_wp2_with (first | ((with_reducible refine gate_callee (f := 56) rfl ?_); refine goesL_ (some 5) rfl rfl Try.func56 (by kernel_rfl) rfl #[.int .i64 (a0.size : Int), .int .i64 1, .int .i64 8] rfl zr ?_; (with_reducible refine (spec_l01In.calls (a0.size : Int) 1 8 t154 _ A2.out).mono ?_); rintro e w' ⟨rfl, ⟨nd, rfl⟩⟩; refine ⟨_, rfl, ?_⟩))
 go_ret
 exact ⟨by first | rfl | (simp; done) | (simp [*]; done), by repeat (first | exact Drawn0.refl _ | apply Drawn0.step)⟩

/-! ### spec_DiskOk: function 32, by hand -/ -- rounds making
def spec_DiskOk.l0 : Nat → Int → List (S66) → Option (Bool)
 | 0, _, _ => none
 | k + 1, x3, x109000 => if x3 < (x109000.length : Int) then (if 0 ≤ x3 then ((spec_l03Name.f ((rd_T66 x109000 x3).f0)).bind fun t111 => (if t111 = true then (if (((rd_T66 x109000 x3).f1).size : Int) > 20000 then (some false) else ((spec_l01In.f ((rd_T66 x109000 x3).f2) 0 (((rd_T66 x109000 x3).f1).size : Int)).bind fun t112 => (if t112 = true then (if x3 > 0 then (if 0 ≤ (wrap64 (x3 - 1)) then (if (wrap64 (x3 - 1)) < (x109000.length : Int) then (if ((Op.bytesLess (((rd_T66 x109000 (wrap64 (x3 - 1))).f0).toList) (((rd_T66 x109000 x3).f0).toList)) = true) then (spec_DiskOk.l0 k (wrap64 (x3 + 1)) x109000) else (some false)) else (none)) else (none)) else (spec_DiskOk.l0 k (wrap64 (x3 + 1)) x109000)) else (some false)))) else (some false))) else (none)) else (some true)
def spec_DiskOk.f (k : Nat) (l0_0 : List (S66)) : Option (Bool) := if (l0_0.length : Int) > 30 then (some false) else (spec_DiskOk.l0 k 0 l0_0)
theorem spec_DiskOk.mono_l : ∀ k, (∀ y0 y1, LeO (spec_DiskOk.l0 k y0 y1) (spec_DiskOk.l0 (k + 1) y0 y1))
 | 0 => fun _ _ r h => by simp [spec_DiskOk.l0] at h
 | k + 1 => by
  have ih0 := spec_DiskOk.mono_l k
  ·intro y0 y1
   unfold spec_DiskOk.l0
   repeat' first
   | (with_reducible exact ih0 _ _)
   | (with_reducible exact LeO.refl _)
   | (with_reducible exact LeO.none _)
   | (with_reducible refine LeO.ite ?_ ?_)
   | (with_reducible refine LeO.bind ?_ (fun _ => ?_))
   | exact ih0 _ _
   | exact LeO.none _
   | refine LeO.ite ?_ ?_
   | refine LeO.bind ?_ (fun _ => ?_)
theorem spec_DiskOk.mono : ∀ a0 k, LeO (spec_DiskOk.f k a0) (spec_DiskOk.f (k + 1) a0) := by
 intro a0 k
 have ih0 := spec_DiskOk.mono_l k
 unfold spec_DiskOk.f
 repeat' first
   | (with_reducible exact ih0 _ _)
   | (with_reducible exact LeO.refl _)
   | (with_reducible exact LeO.none _)
   | (with_reducible refine LeO.ite ?_ ?_)
   | (with_reducible refine LeO.bind ?_ (fun _ => ?_))
   | exact ih0 _ _
   | exact LeO.none _
   | refine LeO.ite ?_ ?_
   | refine LeO.bind ?_ (fun _ => ?_)
set_option maxHeartbeats 8000000 in
set_option maxRecDepth 100000 in
theorem spec_DiskOk.calls (k : Nat) (A0_0 : Option Addr) (c0_0 : Nat) (l0_0 : List (S66)) (r : Bool) (w : World) (hr0_0 : Kd.C k66 w A0_0 l0_0.length l0_0) (hc0_0 : l0_0.length ≤ c0_0) (h : spec_DiskOk.f k l0_0 = some r) :
  Calls Try.prog 32 #[.agg #[.slice A0_0 l0_0.length c0_0]] w fun e w' => e = .returned (.bool r) ∧ Below w.heap.size w w' := by
 have HR := Aside0.mk hr0_0
 have HX := Aside0.mk h
 clear hr0_0 hc0_0 h
 by_cases c30 : (l0_0.length : Int) > 30
 ·have HX := HX.out
  unfold spec_DiskOk.f at HX
  rw [if_pos c30] at HX
  obtain rfl := Option.some.inj HX
  have y1 : decide (30 < (l0_0.length : Int)) = true := decide_eq_true c30
  have y2 : decide (30 < l0_0.length) = true := decide_eq_true (by omega)
  clear c30 HX
  go_enter Try.func32, Try.ntmps32
  go_wp2_with ((with_reducible refine gate_dst (N := 1) rfl ?_); refine box_event rfl (N := 1) rfl (cs := #[.slice A0_0 l0_0.length c0_0]) (t := 31) zrun ?_; intro gd hg w2 hbox hb; have BK := Aside0.mk hbox; have HB := Aside0.mk hb; have c0 := blk_cell hbox 0; simp only [List.getElem?_toArray, List.getElem?_cons_zero] at c0; clear hbox hb hg)
  go_ret
  exact ⟨rfl, HB.out⟩
 have H' : Aside0 (spec_DiskOk.l0 k 0 l0_0 = some r) := ⟨by
  have HX := HX.out
  unfold spec_DiskOk.f at HX
  rw [if_neg c30] at HX
  exact HX⟩
 have y1 : decide (30 < (l0_0.length : Int)) = false := decide_eq_false c30
 have y2 : decide (30 < l0_0.length) = false := decide_eq_false (by omega)
 clear c30 HX
 go_enter Try.func32, Try.ntmps32
 go_wp2_with ((with_reducible refine gate_dst (N := 1) rfl ?_); refine box_event rfl (N := 1) rfl (cs := #[.slice A0_0 l0_0.length c0_0]) (t := 31) zrun ?_; intro gd hg w2 hbox hb; have BK := Aside0.mk hbox; have HB := Aside0.mk hb; have c0 := blk_cell hbox 0; simp only [List.getElem?_toArray, List.getElem?_cons_zero] at c0; clear hbox hb hg)
 go_loopg [3] k (fun kq v8 w' => ∃ x : Int, v8 = .int .i64 x ∧ Aside0 (spec_DiskOk.l0 kq x l0_0 = some r) ∧ Aside0 (kq ≤ k) ∧ Aside0 (w'.heap[gd]? = some (.cells #[.slice A0_0 l0_0.length c0_0] 31 (0, 0))) ∧ Aside0 (Below w.heap.size w w'))
 case atStart => exact ⟨0, rfl, H', ⟨Nat.le_refl _⟩, BK, HB⟩
 case round =>
  clear H' BK HB c0 y1 y2
  obtain ⟨x, rfl, HA, HK1, BK, HB⟩ := hrel
  have c0 := blk_cell BK.out 0
  simp only [List.getElem?_toArray, List.getElem?_cons_zero] at c0
  cases gk with
  | zero => exact absurd HA.out (by simp [spec_DiskOk.l0])
  | succ k1 =>
   have H := HA.out
   clear HA
   simp only [spec_DiskOk.l0] at H
   by_cases c1 : x < (l0_0.length : Int)
   ·rw [if_pos c1] at H
    by_cases c2 : 0 ≤ x
    ·rw [if_pos c2] at H
     have x1 : decide (x < (l0_0.length : Int)) = true := decide_eq_true c1
     have x2 : decide ((l0_0.length : Int) ≤ x) = false := decide_eq_false (by omega)
     obtain ⟨ad, e, t0, t1, t2⟩ := at_T66 HR.out x c2 c1
     have ea := Aside0.mk e
     replace t0 := (HB.out.cell (World.block_lt_of_cell? w _ t0)).trans t0
     replace t1 := (HB.out.cell (World.block_lt_of_cell? w _ t1)).trans t1
     replace t2 := (HB.out.cell (World.block_lt_of_cell? w _ t2)).trans t2
     cases e
     have p0 := eq_true c2
     have q0 := eq_true c1
     have C1 := Aside0.mk c1
     have C2 := Aside0.mk c2
     clear c1 c2 ea
     obtain ⟨f, hf⟩ : ∃ f, f = rd_T66 l0_0 x := ⟨_, rfl⟩
     rw [← hf] at H t0 t1 t2
     have HF := Aside0.mk hf
     clear hf
     have HH := Aside0.mk H
     clear H
     go_wp2_with ((with_reducible refine gate_dst (N := 4) rfl ?_); refine box_event rfl (N := 4) rfl (cs := #[.string (⟨#[]⟩ : ByteArray), .string (⟨#[]⟩ : ByteArray), .int .i64 0]) (t := 66) zrun ?_; intro gb hg w_b hbox hb; have YB := Aside0.mk hbox; have ZB := Aside0.mk hb; have GB := Aside0.mk hg; have d0 := blk_cell hbox 0; have d1 := blk_cell hbox 1; have d2 := blk_cell hbox 2; simp only [List.getElem?_toArray, List.getElem?_cons_zero, List.getElem?_cons_succ] at d0 d1 d2; have f0 := blk_frozen hbox 0; have f1 := blk_frozen hbox 1; have f2 := blk_frozen hbox 2; clear hbox hb hg)
     have hgd : gd ≠ gb := by have := blk_lt BK.out; have := GB.out; omega
     have B3 : Aside0 ((((w_b.setCell ⟨gb, 0, none⟩ (.string f.f0)).setCell ⟨gb, 1, none⟩ (.string f.f1)).setCell ⟨gb, 2, none⟩ (.int .i64 f.f2)).heap[gb]? = some (.cells #[.string f.f0, .string f.f1, .int .i64 f.f2] 66 (0, 0))) := ⟨blk_put (blk_put (blk_put YB.out 0 (.string f.f0) rfl) 1 (.string f.f1) rfl) 2 (.int .i64 f.f2) rfl⟩
     have D3 : Aside0 ((((w_b.setCell ⟨gb, 0, none⟩ (.string f.f0)).setCell ⟨gb, 1, none⟩ (.string f.f1)).setCell ⟨gb, 2, none⟩ (.int .i64 f.f2)).heap[gd]? = some (.cells #[.slice (some ad) l0_0.length c0_0] 31 (0, 0))) := ⟨blk_far (blk_far (blk_far (blk_below BK.out ZB.out) hgd _) hgd _) hgd _⟩
     have hgb : w.heap.size ≤ gb := by rw [GB.out]; exact HB.out.size
     have H3 : Aside0 (Below w.heap.size w (((w_b.setCell ⟨gb, 0, none⟩ (.string f.f0)).setCell ⟨gb, 1, none⟩ (.string f.f1)).setCell ⟨gb, 2, none⟩ (.int .i64 f.f2))) := ⟨below_set (below_set (below_set (below_step HB.out ZB.out) hgb) hgb) hgb⟩
     clear BK HB YB ZB GB c0 d0 d1 d2 f0 f1 f2 hgd hgb t0 t1 t2
     generalize (((w_b.setCell ⟨gb, 0, none⟩ (.string f.f0)).setCell ⟨gb, 1, none⟩ (.string f.f1)).setCell ⟨gb, 2, none⟩ (.int .i64 f.f2)) = W3 at B3 D3 H3 ⊢
     have d0 := blk_cell B3.out 0
     have d1 := blk_cell B3.out 1
     have d2 := blk_cell B3.out 2
     have g0 := blk_cell D3.out 0
     simp only [List.getElem?_toArray, List.getElem?_cons_zero, List.getElem?_cons_succ] at d0 d1 d2 g0
     have H := HH.out
     clear HH
     obtain ⟨b1, h1, H⟩ := Option.bind_eq_some_iff.mp H
     have A1 := Aside0.mk h1
     clear h1
     cases b1 with
     | false =>
      obtain rfl := Option.some.inj H
      clear H
      go_quiet (first | (go_at_call 33; (with_reducible refine (spec_l03Name.calls f.f0 false _ A1.out).mono ?_); rintro e w' ⟨rfl, ⟨nd, rfl⟩⟩; (try first | exact ⟨rfl, _, World.drewN_drewN _ _ _⟩ | exact ⟨rfl, _, Eq.trans (World.drewN_drewN _ _ _) (congrArg (World.drewN _) (Nat.add_assoc _ _ _))⟩)))
      go_wp2
      go_ret
      exact ⟨rfl, pw_below_drewN H3.out _⟩
     | true =>
      rw [if_pos rfl] at H
      by_cases c3 : (f.f1.size : Int) > 20000
      ·rw [if_pos c3] at H
       have y1 : decide (20000 < (f.f1.size : Int)) = true := decide_eq_true c3
       have y2 : decide (20000 < f.f1.size) = true := decide_eq_true (by omega)
       clear c3
       obtain rfl := Option.some.inj H
       clear H
       go_quiet (first | (go_at_call 33; (with_reducible refine (spec_l03Name.calls f.f0 true _ A1.out).mono ?_); rintro e w' ⟨rfl, ⟨nd, rfl⟩⟩; (try first | exact ⟨rfl, _, World.drewN_drewN _ _ _⟩ | exact ⟨rfl, _, Eq.trans (World.drewN_drewN _ _ _) (congrArg (World.drewN _) (Nat.add_assoc _ _ _))⟩)))
       go_wp2
       go_ret
       exact ⟨rfl, pw_below_drewN H3.out _⟩
      ·rw [if_neg c3] at H
       have y1 : decide (20000 < (f.f1.size : Int)) = false := decide_eq_false c3
       have y2 : decide (20000 < f.f1.size) = false := decide_eq_false (by omega)
       clear c3
       obtain ⟨b2, h2, H⟩ := Option.bind_eq_some_iff.mp H
       have A2 := Aside0.mk h2
       clear h2
       cases b2 with
       | false =>
        obtain rfl := Option.some.inj H
        clear H
        go_quiet (first | (go_at_call 33; (with_reducible refine (spec_l03Name.calls f.f0 true _ A1.out).mono ?_); rintro e w' ⟨rfl, ⟨nd, rfl⟩⟩; (try first | exact ⟨rfl, _, World.drewN_drewN _ _ _⟩ | exact ⟨rfl, _, Eq.trans (World.drewN_drewN _ _ _) (congrArg (World.drewN _) (Nat.add_assoc _ _ _))⟩)) | (go_at_call 56; (with_reducible refine (spec_l01In.calls f.f2 0 (f.f1.size : Int) false _ A2.out).mono ?_); rintro e w' ⟨rfl, ⟨nd, rfl⟩⟩; (try first | exact ⟨rfl, _, World.drewN_drewN _ _ _⟩ | exact ⟨rfl, _, Eq.trans (World.drewN_drewN _ _ _) (congrArg (World.drewN _) (Nat.add_assoc _ _ _))⟩)))
        go_wp2
        go_ret
        exact ⟨rfl, pw_below_drewN H3.out _⟩
       | true =>
        rw [if_pos rfl] at H
        by_cases c4 : x > 0
        ·rw [if_pos c4] at H
         have z1 : decide (0 < x) = true := decide_eq_true c4
         by_cases c5 : 0 ≤ wrap64 (x - 1)
         ·rw [if_pos c5] at H
          by_cases c6 : wrap64 (x - 1) < (l0_0.length : Int)
          ·rw [if_pos c6] at H
           obtain ⟨ad', e', t0, _, _⟩ := at_T66 HR.out (wrap64 (x - 1)) c5 c6
           obtain rfl : ad = ad' := by injection e'
           replace t0 := (H3.out.cell (World.block_lt_of_cell? w _ t0)).trans t0
           have p1 := eq_true c5
           have p2 := eq_true c6
           clear c4 c5 c6 e'
           by_cases c7 : Op.bytesLess (rd_T66 l0_0 (wrap64 (x - 1))).f0.toList f.f0.toList = true
           ·rw [if_pos c7] at H
            have HA := Aside0.mk H
            clear H
            go_quiet (first | (go_at_call 33; (with_reducible refine (spec_l03Name.calls f.f0 true _ A1.out).mono ?_); rintro e w' ⟨rfl, ⟨nd, rfl⟩⟩; (try first | exact ⟨rfl, _, World.drewN_drewN _ _ _⟩ | exact ⟨rfl, _, Eq.trans (World.drewN_drewN _ _ _) (congrArg (World.drewN _) (Nat.add_assoc _ _ _))⟩)) | (go_at_call 56; (with_reducible refine (spec_l01In.calls f.f2 0 (f.f1.size : Int) true _ A2.out).mono ?_); rintro e w' ⟨rfl, ⟨nd, rfl⟩⟩; (try first | exact ⟨rfl, _, World.drewN_drewN _ _ _⟩ | exact ⟨rfl, _, Eq.trans (World.drewN_drewN _ _ _) (congrArg (World.drewN _) (Nat.add_assoc _ _ _))⟩)))
            go_wp2
            go_roundg k1
            case measure => have := HK1.out; omega
            case rel => exact ⟨wrap64 (x + 1), (by first | rfl | (simp; done) | (simp [*]; done)), HA, ⟨by have := HK1.out; omega⟩, D3, ⟨pw_below_drewN H3.out _⟩⟩
           ·rw [if_neg c7] at H
            have c7' : Op.bytesLess (rd_T66 l0_0 (wrap64 (x - 1))).f0.toList f.f0.toList = false := by simpa using c7
            clear c7
            obtain rfl := Option.some.inj H
            clear H
            go_quiet (first | (go_at_call 33; (with_reducible refine (spec_l03Name.calls f.f0 true _ A1.out).mono ?_); rintro e w' ⟨rfl, ⟨nd, rfl⟩⟩; (try first | exact ⟨rfl, _, World.drewN_drewN _ _ _⟩ | exact ⟨rfl, _, Eq.trans (World.drewN_drewN _ _ _) (congrArg (World.drewN _) (Nat.add_assoc _ _ _))⟩)) | (go_at_call 56; (with_reducible refine (spec_l01In.calls f.f2 0 (f.f1.size : Int) true _ A2.out).mono ?_); rintro e w' ⟨rfl, ⟨nd, rfl⟩⟩; (try first | exact ⟨rfl, _, World.drewN_drewN _ _ _⟩ | exact ⟨rfl, _, Eq.trans (World.drewN_drewN _ _ _) (congrArg (World.drewN _) (Nat.add_assoc _ _ _))⟩)))
            go_wp2
            go_ret
            exact ⟨rfl, pw_below_drewN H3.out _⟩
          ·rw [if_neg c6] at H
           exact absurd H (by simp)
         ·rw [if_neg c5] at H
          exact absurd H (by simp)
        ·rw [if_neg c4] at H
         have z1 : decide (0 < x) = false := decide_eq_false c4
         clear c4
         have HA := Aside0.mk H
         clear H
         go_quiet (first | (go_at_call 33; (with_reducible refine (spec_l03Name.calls f.f0 true _ A1.out).mono ?_); rintro e w' ⟨rfl, ⟨nd, rfl⟩⟩; (try first | exact ⟨rfl, _, World.drewN_drewN _ _ _⟩ | exact ⟨rfl, _, Eq.trans (World.drewN_drewN _ _ _) (congrArg (World.drewN _) (Nat.add_assoc _ _ _))⟩)) | (go_at_call 56; (with_reducible refine (spec_l01In.calls f.f2 0 (f.f1.size : Int) true _ A2.out).mono ?_); rintro e w' ⟨rfl, ⟨nd, rfl⟩⟩; (try first | exact ⟨rfl, _, World.drewN_drewN _ _ _⟩ | exact ⟨rfl, _, Eq.trans (World.drewN_drewN _ _ _) (congrArg (World.drewN _) (Nat.add_assoc _ _ _))⟩)))
         go_wp2
         go_roundg k1
         case measure => have := HK1.out; omega
         case rel => exact ⟨wrap64 (x + 1), (by first | rfl | (simp; done) | (simp [*]; done)), HA, ⟨by have := HK1.out; omega⟩, D3, ⟨pw_below_drewN H3.out _⟩⟩
    ·rw [if_neg c2] at H
     exact absurd H (by simp)
   ·rw [if_neg c1] at H
    have x1 : decide (x < (l0_0.length : Int)) = false := decide_eq_false c1
    have x2 : decide ((l0_0.length : Int) ≤ x) = true := decide_eq_true (by omega)
    clear c1
    obtain rfl := Option.some.inj H
    clear H
    go_wp2
    go_ret
    exact ⟨by first | rfl | (simp; done), HB.out⟩

/-! ### spec_l03At: function 34 -/
def spec_l03At.l0 : Nat → ByteArray → Int → List (S66) → Option (Int)
 | 0, _, _, _ => none
 | k + 1, x1, x5, x156000 => if x5 < (x156000.length : Int) then (if 0 ≤ x5 then (if ((rd_T66 x156000 x5).f0).toList = x1.toList then (some x5) else (spec_l03At.l0 k x1 (wrap64 (x5 + 1)) x156000)) else (none)) else (some (-1))
def spec_l03At.f (k : Nat) (l0_0 : List (S66)) (a1 : ByteArray) : Option (Int) := spec_l03At.l0 k a1 0 l0_0
theorem spec_l03At.mono_l : ∀ k, (∀ y0 y1 y2, LeO (spec_l03At.l0 k y0 y1 y2) (spec_l03At.l0 (k + 1) y0 y1 y2))
 | 0 => fun _ _ _ r h => by simp [spec_l03At.l0] at h
 | k + 1 => by
  have ih0 := spec_l03At.mono_l k
  ·intro y0 y1 y2
   unfold spec_l03At.l0
   repeat' first
   | (with_reducible exact ih0 _ _ _)
   | (with_reducible exact LeO.refl _)
   | (with_reducible exact LeO.none _)
   | (with_reducible refine LeO.ite ?_ ?_)
   | (with_reducible refine LeO.bind ?_ (fun _ => ?_))
   | exact ih0 _ _ _
   | exact LeO.none _
   | refine LeO.ite ?_ ?_
   | refine LeO.bind ?_ (fun _ => ?_)
theorem spec_l03At.mono : ∀ a0 a1 k, LeO (spec_l03At.f k a0 a1) (spec_l03At.f (k + 1) a0 a1) := by
 intro a0 a1 k
 have ih0 := spec_l03At.mono_l k
 unfold spec_l03At.f
 repeat' first
   | (with_reducible exact ih0 _ _ _)
   | (with_reducible exact LeO.refl _)
   | (with_reducible exact LeO.none _)
   | (with_reducible refine LeO.ite ?_ ?_)
   | (with_reducible refine LeO.bind ?_ (fun _ => ?_))
   | exact ih0 _ _ _
   | exact LeO.none _
   | refine LeO.ite ?_ ?_
   | refine LeO.bind ?_ (fun _ => ?_)
set_option maxHeartbeats 8000000 in
set_option maxRecDepth 100000 in
theorem spec_l03At.calls (k : Nat) (A0_0 : Option Addr) (c0_0 : Nat) (l0_0 : List (S66)) (a1 : ByteArray) (r : Int) (w : World) (hr0_0 : Kd.C k66 w A0_0 l0_0.length l0_0) (hc0_0 : l0_0.length ≤ c0_0) (h : spec_l03At.f k l0_0 a1 = some r) :
  Calls Try.prog 34 #[.agg #[.slice A0_0 l0_0.length c0_0], .string a1] w fun e w' => e = .returned (.int .i64 r) ∧ Below w.heap.size w w' := by
 have hu31 := Try.underlying31
 have HR0_0 := Aside0.mk hr0_0
 have HC0_0 := Aside0.mk hc0_0
 clear hr0_0 hc0_0
 have HB := Aside0.mk (Below.refl w.heap.size w)
 have H : (spec_l03At.l0 k a1 0 l0_0) = some r := h
 clear h
 have H' := Aside0.mk H
 clear H
 go_enter Try.func34, Try.ntmps34
 go_wp2_with (first | ((with_reducible refine gate_dst (N := 2) rfl ?_); refine box_event rfl (N := 2) rfl (cs := #[.slice A0_0 l0_0.length c0_0]) (t := 31) zrun ?_; intro gb155 hg w3 hbox hb; have BK155 := am (hbox); have GE155 := zge hg (zb0 HB.out); replace HB := zs0 hb HB; clear hb hbox hg))
 go_loopg [5] k (fun kq v5 w' => ∃ (x5_1 : Int), v5 = .int .i64 x5_1 ∧ Aside0 (spec_l03At.l0 kq a1 x5_1 l0_0 = some r) ∧ Aside0 (kq ≤ k) ∧ Aside0 (w'.heap[gb155]? = some (.cells #[(.slice A0_0 l0_0.length c0_0)] 31 (0, 0))) ∧ Aside0 (Below w.heap.size w w'))
 case atStart => exact ⟨(0), (by first | rfl | (simp; done) | (simp [*]; done)), H', ⟨Nat.le_refl _⟩, ⟨kx BK155.out⟩, ⟨zb1 HB.out GE155.out⟩⟩
 case round =>
  clear H'
  obtain ⟨x5_1, rfl, HA, HK1, BK155, HB⟩ := hrel
  cases gk with
  | zero => exact absurd HA.out (by simp [spec_l03At.l0])
  | succ k1 =>
   have H := HA.out
   clear HA
   simp only [spec_l03At.l0] at H
   by_cases c4 : x5_1 < (l0_0.length : Int)
   ·rw [if_pos c4] at H
    have c4b0 : decide (x5_1 < (l0_0.length : Int)) = true := decide_eq_true c4
    have c4b1 : decide ((l0_0.length : Int) ≤ x5_1) = false := decide_eq_false (by omega)
    clear c4
    by_cases c5 : 0 ≤ x5_1
    ·rw [if_pos c5] at H
     have c5b0 : decide (0 ≤ x5_1) = true := decide_eq_true c5
     clear c5
     by_cases c6 : ((rd_T66 l0_0 x5_1).f0).toList = a1.toList
     ·rw [if_pos c6] at H
      have c6b0 : (((rd_T66 l0_0 x5_1).f0).toList == a1.toList) = true := beq_iff_eq.mpr c6
      have c6b1 : (((rd_T66 l0_0 x5_1).f0).toList != a1.toList) = false := bne_eq_false_iff_eq.mpr c6
      clear c6
      obtain rfl := Option.some.inj H
      obtain ⟨hcz7_0, hfz7_0⟩ := zc1 BK155.out
      have p156 : 0 ≤ (x5_1 : Int) := zpq
      have q156 : x5_1 < (l0_0.length : Int) := zpq
      obtain ⟨ad156, e156, hx156_0, hx156_1, hx156_2⟩ := at_T66 HR0_0.out x5_1 p156 q156
      cases e156
      replace hx156_0 := (HB.out.cell (World.block_lt_of_cell? w _ hx156_0)).trans hx156_0
      replace hx156_1 := (HB.out.cell (World.block_lt_of_cell? w _ hx156_1)).trans hx156_1
      replace hx156_2 := (HB.out.cell (World.block_lt_of_cell? w _ hx156_2)).trans hx156_2
      replace p156 := eq_true p156
      replace q156 := eq_true q156
      go_wp2
      go_ret
      exact ⟨by first | rfl | (simp [errW_none, errW_some] <;> rfl) | (simp [*, errW_none, errW_some] <;> rfl), zb1 HB.out GE155.out⟩
     ·rw [if_neg c6] at H
      have c6b0 : (((rd_T66 l0_0 x5_1).f0).toList == a1.toList) = false := beq_eq_false_iff_ne.mpr c6
      have c6b1 : (((rd_T66 l0_0 x5_1).f0).toList != a1.toList) = true := bne_iff_ne.mpr c6
      have H' := Aside0.mk H
      clear H
      obtain ⟨hcz8_0, hfz8_0⟩ := zc1 BK155.out
      have p156 : 0 ≤ (x5_1 : Int) := zpq
      have q156 : x5_1 < (l0_0.length : Int) := zpq
      obtain ⟨ad156, e156, hx156_0, hx156_1, hx156_2⟩ := at_T66 HR0_0.out x5_1 p156 q156
      cases e156
      replace hx156_0 := (HB.out.cell (World.block_lt_of_cell? w _ hx156_0)).trans hx156_0
      replace hx156_1 := (HB.out.cell (World.block_lt_of_cell? w _ hx156_1)).trans hx156_1
      replace hx156_2 := (HB.out.cell (World.block_lt_of_cell? w _ hx156_2)).trans hx156_2
      replace p156 := eq_true p156
      replace q156 := eq_true q156
      go_wp2
      go_roundg k1
      case measure => have := HK1.out; omega
      case rel => exact ⟨(wrap64 (x5_1 + 1)), (by first | rfl | (simp; done) | (simp [*]; done)), H', ⟨by have := HK1.out; omega⟩, ⟨kx BK155.out⟩, ⟨zb1 HB.out GE155.out⟩⟩
    ·rw [if_neg c5] at H
     exact absurd H (by simp)
   ·rw [if_neg c4] at H
    have c4b0 : decide (x5_1 < (l0_0.length : Int)) = false := decide_eq_false c4
    have c4b1 : decide ((l0_0.length : Int) ≤ x5_1) = true := decide_eq_true (by omega)
    clear c4
    obtain rfl := Option.some.inj H
    obtain ⟨hcz9_0, hfz9_0⟩ := zc1 BK155.out
    go_wp2
    go_ret
    exact ⟨by first | rfl | (simp [errW_none, errW_some] <;> rfl) | (simp [*, errW_none, errW_some] <;> rfl), zb1 HB.out GE155.out⟩

end Go.Proofs.Ytklbkkoojkmjbaa.QFnActs
