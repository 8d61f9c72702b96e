/- Written by the kit's print.py, called by our own print2.sh with one import more; not by print.sh. -/
import Derived.Test.YtogifkjkbfdocaaQFnExactReadJournalx0
import Derived.Test.YtogifkjkbfdocaaQFnExactReadJournalx3
import Derived.Test.YtogifkjkbfdocaaQFnExactReadJournalx5
namespace Go.Proofs.Ytogifkjkbfdocaa.QFnExactReadJournal
open Go.RowKit Go.Proofs.YtogifkjkbfdocaaW.PrintWords Go.Proofs.YtogifkjkbfdocaaW.PrintLast Go.Proofs.YtogifkjkbfdocaaW.PrintMore
attribute [local go_sem] max2_int min2_int max_two min_two max_three min_three max_four min_four   -- for this text's walks alone
open Go.Proofs.Ytogifkjkbfdocaa.Short
set_option linter.unusedVariables false
set_option linter.unusedSimpArgs false

/-! ### spec_ReadEntry: function 29, by hand -/ -- rounds making
/-- What stands while ReadEntry goes on: the cursor in block g, the entry to be answered (nothing yet) in b1. -/
structure spec_ReadEntry.Inv0 (w W : World) (b1 g : Nat) (t : ByteArray) (a : Int) (bad : Bool) : Prop where
 st : IsS50 w W g t a bad
 r1 : W.heap[b1]? = some (.cells #[.int .i64 0, .int .i64 0, .string ⟨#[]⟩] 56 (0, 0))
 bl : Below w.heap.size w W
 g1 : w.heap.size ≤ b1
 n1 : b1 ≠ g
/-- And the entry that is read, in b3. -/
structure spec_ReadEntry.Inv (w W : World) (b1 g b3 : Nat) (t : ByteArray) (a : Int) (bad : Bool) (x y : Int) (z : ByteArray) : Prop where
 in0 : spec_ReadEntry.Inv0 w W b1 g t a bad
 e3 : W.heap[b3]? = some (.cells #[.int .i64 x, .int .i64 y, .string z] 56 (0, 0))
 g3 : w.heap.size ≤ b3
 n3 : b3 ≠ g
 n13 : b1 ≠ b3
theorem spec_ReadEntry.Inv0.call {w W W' : World} {b1 g : Nat} {t t' : ByteArray} {a a' : Int} {bad bad' : Bool} (h : spec_ReadEntry.Inv0 w W b1 g t a bad) (hs : IsS50 w W' g t' a' bad') (hb : Below w.heap.size w W') (hk : KeepBut W W' g none) : spec_ReadEntry.Inv0 w W' b1 g t' a' bad' := ⟨hs, hk.blk h.r1 h.n1 (by simp), hb, h.g1, h.n1⟩
theorem spec_ReadEntry.Inv0.below {w W W' : World} {b1 g : Nat} {t : ByteArray} {a : Int} {bad : Bool} (h : spec_ReadEntry.Inv0 w W b1 g t a bad) (hb : Below W.heap.size W W') : spec_ReadEntry.Inv0 w W' b1 g t a bad := ⟨h.st.below hb, blk_below h.r1 hb, below_step h.bl hb, h.g1, h.n1⟩
theorem spec_ReadEntry.Inv.call {w W W' : World} {b1 g b3 : Nat} {t t' : ByteArray} {a a' : Int} {bad bad' : Bool} {x y : Int} {z : ByteArray} (h : spec_ReadEntry.Inv w W b1 g b3 t a bad x y z) (hs : IsS50 w W' g t' a' bad') (hb : Below w.heap.size w W') (hk : KeepBut W W' g none) : spec_ReadEntry.Inv w W' b1 g b3 t' a' bad' x y z := ⟨h.in0.call hs hb hk, hk.blk h.e3 h.n3 (by simp), h.g3, h.n3, h.n13⟩
theorem spec_ReadEntry.Inv.below {w W W' : World} {b1 g b3 : Nat} {t : ByteArray} {a : Int} {bad : Bool} {x y : Int} {z : ByteArray} (h : spec_ReadEntry.Inv w W b1 g b3 t a bad x y z) (hb : Below W.heap.size W W') : spec_ReadEntry.Inv w W' b1 g b3 t a bad x y z := ⟨h.in0.below hb, blk_below h.e3 hb, h.g3, h.n3, h.n13⟩
theorem spec_ReadEntry.Inv.set0 {w W : World} {b1 g b3 : Nat} {t : ByteArray} {a : Int} {bad : Bool} {x y : Int} {z : ByteArray} (h : spec_ReadEntry.Inv w W b1 g b3 t a bad x y z) (v : Int) : spec_ReadEntry.Inv w (W.setCell ⟨b3, 0, none⟩ (.int .i64 v)) b1 g b3 t a bad v y z := ⟨⟨h.in0.st.far (Ne.symm h.n3) _, blk_far h.in0.r1 h.n13 _, below_set h.in0.bl h.g3, h.in0.g1, h.in0.n1⟩, blk_put h.e3 0 _ rfl, h.g3, h.n3, h.n13⟩
theorem spec_ReadEntry.Inv.set1 {w W : World} {b1 g b3 : Nat} {t : ByteArray} {a : Int} {bad : Bool} {x y : Int} {z : ByteArray} (h : spec_ReadEntry.Inv w W b1 g b3 t a bad x y z) (v : Int) : spec_ReadEntry.Inv w (W.setCell ⟨b3, 1, none⟩ (.int .i64 v)) b1 g b3 t a bad x v z := ⟨⟨h.in0.st.far (Ne.symm h.n3) _, blk_far h.in0.r1 h.n13 _, below_set h.in0.bl h.g3, h.in0.g1, h.in0.n1⟩, blk_put h.e3 1 _ rfl, h.g3, h.n3, h.n13⟩
theorem spec_ReadEntry.Inv.set2 {w W : World} {b1 g b3 : Nat} {t : ByteArray} {a : Int} {bad : Bool} {x y : Int} {z : ByteArray} (h : spec_ReadEntry.Inv w W b1 g b3 t a bad x y z) (v : ByteArray) : spec_ReadEntry.Inv w (W.setCell ⟨b3, 2, none⟩ (.string v)) b1 g b3 t a bad x y v := ⟨⟨h.in0.st.far (Ne.symm h.n3) _, blk_far h.in0.r1 h.n13 _, below_set h.in0.bl h.g3, h.in0.g1, h.in0.n1⟩, blk_put h.e3 2 _ rfl, h.g3, h.n3, h.n13⟩
def spec_ReadEntry.f (k : Nat) (a0 : ByteArray) : Option (Int × Int × Int × ByteArray × Bool) :=
 (spec_l05Take.f a0 0 false 1).bind fun p1 => (spec_l05Var.f k p1.2.1 p1.2.2.1 p1.2.2.2).bind fun p2 => (spec_l05Var.f k p2.2.1 p2.2.2.1 p2.2.2.2).bind fun p3 => (spec_l05Take.f p3.2.1 p3.2.2.1 p3.2.2.2 1).bind fun p4 =>
 (if p4.2.2.2 = true then some (0, 0, 0, (⟨#[]⟩ : ByteArray), false) else (if (0 : Int) < (p4.1.size : Int) then (if 0 ≤ p4.2.2.1 then (if p4.2.2.1 ≤ (a0.size : Int) then ((spec_EntryText.f k p2.1 p3.1 (bt p4.1 0) (a0.extract (p4.2.2.1 : Int).toNat a0.size)).bind fun q1 =>
  (if q1.2 = true then (if q1.1.toList = a0.toList then some (p2.1, p3.1, bt p4.1 0, a0.extract (p4.2.2.1 : Int).toNat a0.size, true) else some (0, 0, 0, (⟨#[]⟩ : ByteArray), false)) else some (0, 0, 0, (⟨#[]⟩ : ByteArray), false))) else none) else none) else none))
theorem spec_ReadEntry.mono : ∀ a0 k, LeO (spec_ReadEntry.f k a0) (spec_ReadEntry.f (k + 1) a0) := by
 intro a0 k
 unfold spec_ReadEntry.f
 repeat' first
   | (with_reducible exact spec_l05Var.mono _ _ _ _)
   | (with_reducible exact spec_EntryText.mono _ _ _ _ _)
   | (with_reducible exact LeO.refl _)
   | (with_reducible exact LeO.none _)
   | (with_reducible refine LeO.ite ?_ ?_)
   | (with_reducible refine LeO.bind ?_ (fun _ => ?_))
set_option maxHeartbeats 4000000 in
set_option maxRecDepth 100000 in
theorem spec_ReadEntry.calls (k : Nat) (a0 : ByteArray) (r1 : Int) (r2 : Int) (r3 : Int) (r4 : ByteArray) (r5 : Bool) (w : World) (h : spec_ReadEntry.f k a0 = some (r1, r2, r3, r4, r5)) :
  Calls Try.prog 29 #[.string a0] w fun e w' => e = .returned (.tuple #[.int .i64 r1, .agg #[.int .i64 r2, .int .i64 r3, .string r4], .bool r5]) ∧ Below w.heap.size w w' := by
 unfold spec_ReadEntry.f at h
 obtain ⟨⟨x1, t1, a1, b1⟩, h1, h⟩ := Option.bind_eq_some_iff.mp h
 obtain ⟨⟨x2, t2, a2, b2⟩, h2, h⟩ := Option.bind_eq_some_iff.mp h
 obtain ⟨⟨x3, t3, a3, b3⟩, h3, h⟩ := Option.bind_eq_some_iff.mp h
 obtain ⟨⟨x4, t4, a4, b4⟩, h4, h⟩ := Option.bind_eq_some_iff.mp h
 simp only at h1 h2 h3 h4 h
 have A1 := Aside0.mk h1
 have A2 := Aside0.mk h2
 have A3 := Aside0.mk h3
 have A4 := Aside0.mk h4
 have H := Aside0.mk h
 clear h1 h2 h3 h4 h
 have no_ : (some (0, 0, 0, (⟨#[]⟩ : ByteArray), false) = some (r1, r2, r3, r4, r5)) → r1 = 0 ∧ r2 = 0 ∧ r3 = 0 ∧ r4 = ⟨#[]⟩ ∧ r5 = false := fun h => by simp only [Option.some.injEq, Prod.mk.injEq] at h; exact ⟨h.1.symm, h.2.1.symm, h.2.2.1.symm, h.2.2.2.1.symm, h.2.2.2.2.symm⟩
 have NO := Aside0.mk no_
 clear no_
 go_enter Try.func29, Try.ntmps29
 go_wp2_with (first | ((with_reducible refine gate_dst (N := 3) rfl ?_); refine box_event rfl (N := 3) rfl (cs := #[.int .i64 0, .int .i64 0, .string (⟨#[]⟩ : ByteArray)]) (t := 56) zrun ?_; intro r hg w_r hbox hb; have Yr := Aside0.mk hbox; have Zr := Aside0.mk hb; have Gr := Aside0.mk hg; clear hbox hb hg) | ((with_reducible refine gate_dst (N := 13) rfl ?_); refine box_event rfl (N := 13) rfl (cs := #[.string a0, .int .i64 0, .bool false]) (t := 50) zrun ?_; intro g hg w_g hbox hb; have Yg := Aside0.mk hbox; have Zg := Aside0.mk hb; have Gg := Aside0.mk hg; clear hbox hb hg))
 have J := Aside0.mk (show spec_ReadEntry.Inv0 w w_g r g a0 0 false from ⟨⟨Yg.out, by rw [Gg.out]; exact Zr.out.size⟩, blk_below Yr.out Zg.out, below_step (below_step (Below.refl _ _) Zr.out) Zg.out, Nat.le_of_eq Gr.out.symm, by rw [Gg.out]; exact Nat.ne_of_lt (blk_lt Yr.out)⟩)
 clear Yr Zr Gr Yg Zg Gg
 refine (spec_l05Take.calls g a0 0 false 1 x1 t1 a1 b1 w _ J.out.st J.out.bl A1.out).mono ?_
 rintro e_ w4 ⟨rfl, hs, hb, hk⟩
 have J1 := Aside0.mk (J.out.call hs hb hk)
 clear hs hb hk J A1
 go_wp2_with fail
 refine (spec_l05Var.calls k g t1 a1 b1 x2 t2 a2 b2 w _ J1.out.st J1.out.bl A2.out).mono ?_
 rintro e_ w5 ⟨rfl, hs, hb, hk⟩
 have J2 := Aside0.mk (J1.out.call hs hb hk)
 clear hs hb hk J1 A2
 go_wp2_with (first | ((with_reducible refine gate_dst (N := 7) rfl ?_); refine box_event rfl (N := 7) rfl (cs := #[.int .i64 0, .int .i64 0, .string (⟨#[]⟩ : ByteArray)]) (t := 56) zrun ?_; intro e hg w_e hbox hb; have Ye := Aside0.mk hbox; have Ze := Aside0.mk hb; have Ge := Aside0.mk hg; clear hbox hb hg; have K0 := Aside0.mk (show spec_ReadEntry.Inv w w_e r g e t2 a2 b2 0 0 ⟨#[]⟩ from ⟨J2.out.below Ze.out, Ye.out, by rw [Ge.out]; exact Nat.le_trans J2.out.g1 (Nat.le_of_lt (blk_lt J2.out.r1)), by rw [Ge.out]; exact Nat.ne_of_gt (blk_lt J2.out.st.1), by rw [Ge.out]; exact Nat.ne_of_lt (blk_lt J2.out.r1)⟩); clear Ye Ze Ge J2; have c0 := blk_cell K0.out.e3 0; have c1 := blk_cell K0.out.e3 1; have c2 := blk_cell K0.out.e3 2; simp only [List.getElem?_toArray, List.getElem?_cons_zero, List.getElem?_cons_succ] at c0 c1 c2; have f0 := blk_frozen K0.out.e3 0; have f1 := blk_frozen K0.out.e3 1; have f2 := blk_frozen K0.out.e3 2))
 have K := Aside0.mk (((K0.out.set0 0).set1 0).set2 ⟨#[]⟩)
 clear K0 c0 c1 c2 f0 f1 f2
 refine (spec_l05Var.calls k g t2 a2 b2 x3 t3 a3 b3 w _ K.out.in0.st K.out.in0.bl A3.out).mono ?_
 rintro e_ w6 ⟨rfl, hs, hb, hk⟩
 have K1 := Aside0.mk (K.out.call hs hb hk)
 clear hs hb hk K A3
 have c0 := blk_cell K1.out.e3 0
 simp only [List.getElem?_toArray, List.getElem?_cons_zero, List.getElem?_cons_succ] at c0
 have f0 := blk_frozen K1.out.e3 0
 go_wp2_with fail
 have K2 := Aside0.mk (K1.out.set0 x3)
 clear K1 c0 f0
 refine (spec_l05Take.calls g t3 a3 b3 1 x4 t4 a4 b4 w _ K2.out.in0.st K2.out.in0.bl A4.out).mono ?_
 rintro e_ w7 ⟨rfl, hs, hb, hk⟩
 have K3 := Aside0.mk (K2.out.call hs hb hk)
 clear hs hb hk K2 A4
 have ng := K3.out.n3
 have ng2 := Ne.symm ng
 have s0 := blk_cell K3.out.in0.st.1 1
 have s2 := blk_cell K3.out.in0.st.1 2
 simp only [List.getElem?_toArray, List.getElem?_cons_zero, List.getElem?_cons_succ] at s0 s2
 have c0 := blk_cell K3.out.e3 0
 have c1 := blk_cell K3.out.e3 1
 have c2 := blk_cell K3.out.e3 2
 simp only [List.getElem?_toArray, List.getElem?_cons_zero, List.getElem?_cons_succ] at c0 c1 c2
 have f0 := blk_frozen K3.out.e3 0
 have f1 := blk_frozen K3.out.e3 1
 have f2 := blk_frozen K3.out.e3 2
 have d0 := blk_cell K3.out.in0.r1 0
 have d1 := blk_cell K3.out.in0.r1 1
 have d2 := blk_cell K3.out.in0.r1 2
 simp only [List.getElem?_toArray, List.getElem?_cons_zero, List.getElem?_cons_succ] at d0 d1 d2
 have g0 := blk_frozen K3.out.in0.r1 0
 have g1 := blk_frozen K3.out.in0.r1 1
 have g2 := blk_frozen K3.out.in0.r1 2
 cases b4 with
 | true =>
  obtain ⟨rfl, rfl, rfl, rfl, rfl⟩ := NO.out (by have h := H.out; simpa using h)
  clear H NO
  go_wp2
  refine bodyPost_ret (results_list (rs := [.tmp 2, .cell 3 56, .tmp 4]) rfl (by simp) (.tmp (.cell r 56 #[.int .i64 0, .int .i64 0, .string (⟨#[]⟩ : ByteArray)] (0, 0) _ rfl (blk_put (blk_put (blk_put K3.out.in0.r1 0 _ rfl) 1 _ rfl) 2 _ rfl) Try.underlying56 rfl (by kernel_rfl) (.tmp .nil)))) rfl ?_
  exact ⟨rfl, below_set (below_set (below_set K3.out.in0.bl K3.out.in0.g1) K3.out.in0.g1) K3.out.in0.g1⟩
 | false =>
  have H1 := H.out
  simp only [Bool.false_eq_true, if_false] at H1
  by_cases i0 : (0 : Int) < (x4.size : Int)
  ·rw [if_pos i0] at H1
   by_cases i1 : 0 ≤ a4
   ·rw [if_pos i1] at H1
    by_cases i2 : a4 ≤ (a0.size : Int)
    ·rw [if_pos i2] at H1
     obtain ⟨⟨u1, u2⟩, hq1, H2⟩ := Option.bind_eq_some_iff.mp H1
     simp only at H2
     have Q1_ := hq1
     clear H H1 hq1
     have hz : 0 < x4.size := by omega
     have eb : (wrap64 (((x4[0]'hz).toNat : Nat) : Int)) = bt x4 0 := by have e_ : (((x4[0]'hz).toNat : Nat) : Int) = bt x4 0 := bt_at x4 0 hz; have h_ := bt_range x4 0; rw [e_]; unfold wrap64; omega
     rw [← eb] at Q1_ H2
     have Q1 := Aside0.mk Q1_
     clear Q1_ eb
     have i0a := eq_true i0
     have i0b : decide ((0 : Int) < (x4.size : Int)) = true := decide_eq_true i0
     have i0c : (0 < x4.size) = True := eq_true (by omega)
     have i1a := eq_true i1
     have i1b : decide (0 ≤ a4) = true := decide_eq_true i1
     have i2a := eq_true i2
     have i2b : decide (a4 ≤ (a0.size : Int)) = true := decide_eq_true i2
     clear i0 i1 i2
     cases u2 with
     | false =>
      obtain ⟨rfl, rfl, rfl, rfl, rfl⟩ := NO.out (by simpa using H2)
      clear H2 NO
      go_wp2_with (go_at_call 49; refine (spec_EntryText.calls k x2 x3 (wrap64 (((x4[0]'hz).toNat : Nat) : Int)) (a0.extract (a4 : Int).toNat a0.size) u1 false _ Q1.out).mono ?_; rintro e_ w8 ⟨rfl, hb⟩; have K4 := Aside0.mk (((K3.out.set1 (wrap64 (((x4[0]'hz).toNat : Nat) : Int))).set2 (a0.extract (a4 : Int).toNat a0.size)).below hb); clear hb s0 s2 c0 c1 c2 f0 f1 f2 d0 d1 d2 g0 g1 g2; have d0 := blk_cell K4.out.in0.r1 0; have d1 := blk_cell K4.out.in0.r1 1; have d2 := blk_cell K4.out.in0.r1 2; simp only [List.getElem?_toArray, List.getElem?_cons_zero, List.getElem?_cons_succ] at d0 d1 d2; have g0 := blk_frozen K4.out.in0.r1 0; have g1 := blk_frozen K4.out.in0.r1 1; have g2 := blk_frozen K4.out.in0.r1 2)
      refine bodyPost_ret (results_list (rs := [.tmp 2, .cell 3 56, .tmp 4]) rfl (by simp) (.tmp (.cell r 56 #[.int .i64 0, .int .i64 0, .string (⟨#[]⟩ : ByteArray)] (0, 0) _ rfl (blk_put (blk_put (blk_put K4.out.in0.r1 0 _ rfl) 1 _ rfl) 2 _ rfl) Try.underlying56 rfl (by kernel_rfl) (.tmp .nil)))) rfl ?_
      exact ⟨rfl, below_set (below_set (below_set K4.out.in0.bl K3.out.in0.g1) K3.out.in0.g1) K3.out.in0.g1⟩
     | true =>
      by_cases i3 : u1.toList = a0.toList
      ·simp only [if_true, if_pos i3, Option.some.injEq, Prod.mk.injEq] at H2
       obtain ⟨rfl, rfl, rfl, rfl, rfl⟩ := H2
       clear NO
       have i3a : (u1.toList == a0.toList) = true := by simpa using i3
       have i3b : (u1.toList != a0.toList) = false := by simpa using i3
       clear i3
       go_wp2_with (go_at_call 49; refine (spec_EntryText.calls k x2 x3 (wrap64 (((x4[0]'hz).toNat : Nat) : Int)) (a0.extract (a4 : Int).toNat a0.size) u1 true _ Q1.out).mono ?_; rintro e_ w8 ⟨rfl, hb⟩; have K4 := Aside0.mk (((K3.out.set1 (wrap64 (((x4[0]'hz).toNat : Nat) : Int))).set2 (a0.extract (a4 : Int).toNat a0.size)).below hb); clear hb s0 s2 c0 c1 c2 f0 f1 f2 d0 d1 d2 g0 g1 g2; have d0 := blk_cell K4.out.in0.r1 0; have d1 := blk_cell K4.out.in0.r1 1; have d2 := blk_cell K4.out.in0.r1 2; simp only [List.getElem?_toArray, List.getElem?_cons_zero, List.getElem?_cons_succ] at d0 d1 d2; have g0 := blk_frozen K4.out.in0.r1 0; have g1 := blk_frozen K4.out.in0.r1 1; have g2 := blk_frozen K4.out.in0.r1 2; have c0 := blk_cell K4.out.e3 0; have c1 := blk_cell K4.out.e3 1; have c2 := blk_cell K4.out.e3 2; simp only [List.getElem?_toArray, List.getElem?_cons_zero, List.getElem?_cons_succ] at c0 c1 c2)
       go_region
       go_wp2
       refine bodyPost_ret (results_list (rs := [.tmp 2, .cell 3 56, .tmp 4]) rfl (by simp) (.tmp (.cell r 56 #[.int .i64 x3, (.int .i64 (wrap64 (((x4[0]'hz).toNat : Nat) : Int))), .string (a0.extract (a4 : Int).toNat a0.size)] (0, 0) _ rfl (blk_put (blk_put (blk_put K4.out.in0.r1 0 _ rfl) 1 _ rfl) 2 _ rfl) Try.underlying56 rfl (by kernel_rfl) (.tmp .nil)))) rfl ?_
       exact ⟨rfl, below_drew1 (below_set (below_set (below_set K4.out.in0.bl K3.out.in0.g1) K3.out.in0.g1) K3.out.in0.g1)⟩
      ·simp only [if_true, if_neg i3] at H2
       obtain ⟨rfl, rfl, rfl, rfl, rfl⟩ := NO.out H2
       clear H2 NO
       have i3a : (u1.toList == a0.toList) = false := by simpa using i3
       have i3b : (u1.toList != a0.toList) = true := by simpa using i3
       clear i3
       go_wp2_with (go_at_call 49; refine (spec_EntryText.calls k x2 x3 (wrap64 (((x4[0]'hz).toNat : Nat) : Int)) (a0.extract (a4 : Int).toNat a0.size) u1 true _ Q1.out).mono ?_; rintro e_ w8 ⟨rfl, hb⟩; have K4 := Aside0.mk (((K3.out.set1 (wrap64 (((x4[0]'hz).toNat : Nat) : Int))).set2 (a0.extract (a4 : Int).toNat a0.size)).below hb); clear hb s0 s2 c0 c1 c2 f0 f1 f2 d0 d1 d2 g0 g1 g2; have d0 := blk_cell K4.out.in0.r1 0; have d1 := blk_cell K4.out.in0.r1 1; have d2 := blk_cell K4.out.in0.r1 2; simp only [List.getElem?_toArray, List.getElem?_cons_zero, List.getElem?_cons_succ] at d0 d1 d2; have g0 := blk_frozen K4.out.in0.r1 0; have g1 := blk_frozen K4.out.in0.r1 1; have g2 := blk_frozen K4.out.in0.r1 2)
       refine bodyPost_ret (results_list (rs := [.tmp 2, .cell 3 56, .tmp 4]) rfl (by simp) (.tmp (.cell r 56 #[.int .i64 0, .int .i64 0, .string (⟨#[]⟩ : ByteArray)] (0, 0) _ rfl (blk_put (blk_put (blk_put K4.out.in0.r1 0 _ rfl) 1 _ rfl) 2 _ rfl) Try.underlying56 rfl (by kernel_rfl) (.tmp .nil)))) rfl ?_
       exact ⟨rfl, below_set (below_set (below_set K4.out.in0.bl K3.out.in0.g1) K3.out.in0.g1) K3.out.in0.g1⟩
    ·rw [if_neg i2] at H1
     exact absurd H1 (by simp)
   ·rw [if_neg i1] at H1
    exact absurd H1 (by simp)
  ·rw [if_neg i0] at H1
   exact absurd H1 (by simp)

/-! ### spec_l06Last: function 50 -/
def spec_l06Last.f (a0_0 : Int) (a0_1 : Int) (l0_2 : List (S56)) : Option (Int) := some (wrap64 (a0_0 + (l0_2.length : Int)))
set_option maxHeartbeats 8000000 in
set_option maxRecDepth 100000 in
theorem spec_l06Last.calls (a0_0 : Int) (a0_1 : Int) (A0_2 : Option Addr) (c0_2 : Nat) (l0_2 : List (S56)) (r : Int) (w : World) (hr0_2 : Kd.C k56 w A0_2 l0_2.length l0_2) (hc0_2 : l0_2.length ≤ c0_2) (h : spec_l06Last.f a0_0 a0_1 l0_2 = some r) :
  Calls Try.prog 50 #[.agg #[.int .i64 a0_0, .int .i64 a0_1, .slice A0_2 l0_2.length c0_2]] w fun e w' => e = .returned (.int .i64 r) ∧ Below w.heap.size w w' := by
 have hu24 := Try.underlying24
 have HR0_2 := Aside0.mk hr0_2
 have HC0_2 := Aside0.mk hc0_2
 clear hr0_2 hc0_2
 have HB := Aside0.mk (Below.refl w.heap.size w)
 have H : (some (wrap64 (a0_0 + (l0_2.length : Int)))) = some r := h
 clear h
 obtain rfl := Option.some.inj H
 go_enter Try.func50, Try.ntmps50
 go_wp2_with (first | ((with_reducible refine gate_dst (N := 1) rfl ?_); refine box_event rfl (N := 1) rfl (cs := #[.int .i64 a0_0, .int .i64 a0_1, .slice A0_2 l0_2.length c0_2]) (t := 24) zrun ?_; intro gb178 hg w2 hbox hb; have BK178 := am (hbox); have GE178 := zge hg (zb0 HB.out); replace HB := zs0 hb HB; clear hb hbox hg; obtain ⟨hcz3_0, hcz3_1, hcz3_2, hfz3_0, hfz3_1, hfz3_2⟩ := zc3 BK178.out))
 go_ret
 exact ⟨by first | rfl | (simp [errW_none, errW_some] <;> rfl) | (simp [*, errW_none, errW_some] <;> rfl), zb1 HB.out GE178.out⟩

end Go.Proofs.Ytogifkjkbfdocaa.QFnExactReadJournal
