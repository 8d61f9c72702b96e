/- Written by the kit's print.py, called by our own print2.sh with one import more; not by print.sh. -/
import Derived.Test.YtogifkjkbfdocaaQFnExactReadJournalx0
import Derived.Test.YtogifkjkbfdocaaQFnExactReadJournalx8
import Derived.Test.YtogifkjkbfdocaaQFnExactReadJournalx10
import Derived.Test.YtogifkjkbfdocaaQFnExactReadJournalx11
namespace Go.Proofs.Ytogifkjkbfdocaa.QFnExactReadJournal
open Go.RowKit Go.Proofs.YtogifkjkbfdocaaW.PrintWords Go.Proofs.YtogifkjkbfdocaaW.PrintLast Go.Proofs.YtogifkjkbfdocaaW.PrintMore
attribute [local go_sem] max2_int min2_int max_two min_two max_three min_three max_four min_four   -- for this text's walks alone
open Go.Proofs.Ytogifkjkbfdocaa.Short
set_option linter.unusedVariables false
set_option linter.unusedSimpArgs false

/-! ### impl_ReadEntry: function 42, by hand -/ -- rounds making
/-- What stands while ReadEntry goes on: the scan in block g, the entry to be answered (nothing yet) in b1, the entry in b3. -/
structure impl_ReadEntry.Inv (w W : World) (b1 g b3 : Nat) (t : ByteArray) (a : Int) (bad : Bool) (x y : Int) (z : ByteArray) : Prop where
 st : IsS67 w W g t a bad
 r1 : W.heap[b1]? = some (.cells #[.int .i64 0, .int .i64 0, .string ⟨#[]⟩] 56 (0, 0))
 e3 : W.heap[b3]? = some (.cells #[.int .i64 x, .int .i64 y, .string z] 56 (0, 0))
 bl : Below w.heap.size w W
 g1 : w.heap.size ≤ b1
 g3 : w.heap.size ≤ b3
 n1 : b1 ≠ g
 n3 : b3 ≠ g
 n13 : b1 ≠ b3
theorem impl_ReadEntry.Inv.call {w W W' : World} {b1 g b3 : Nat} {t t' : ByteArray} {a a' : Int} {bad bad' : Bool} {x y : Int} {z : ByteArray} (h : impl_ReadEntry.Inv w W b1 g b3 t a bad x y z) (hs : IsS67 w W' g t' a' bad') (hb : Below w.heap.size w W') (hk : KeepBut W W' g none) :
  impl_ReadEntry.Inv w W' b1 g b3 t' a' bad' x y z := ⟨hs, hk.blk h.r1 h.n1 (by simp), hk.blk h.e3 h.n3 (by simp), hb, h.g1, h.g3, h.n1, h.n3, h.n13⟩
theorem impl_ReadEntry.Inv.below {w W W' : World} {b1 g b3 : Nat} {t : ByteArray} {a : Int} {bad : Bool} {x y : Int} {z : ByteArray} (h : impl_ReadEntry.Inv w W b1 g b3 t a bad x y z) (hb : Below W.heap.size W W') :
  impl_ReadEntry.Inv w W' b1 g b3 t a bad x y z := ⟨h.st.below hb, blk_below h.r1 hb, blk_below h.e3 hb, below_step h.bl hb, h.g1, h.g3, h.n1, h.n3, h.n13⟩
theorem impl_ReadEntry.Inv.set0 {w W : World} {b1 g b3 : Nat} {t : ByteArray} {a : Int} {bad : Bool} {x y : Int} {z : ByteArray} (h : impl_ReadEntry.Inv w W b1 g b3 t a bad x y z) (v : Int) :
  impl_ReadEntry.Inv w (W.setCell ⟨b3, 0, none⟩ (.int .i64 v)) b1 g b3 t a bad v y z := ⟨h.st.far (Ne.symm h.n3) _, blk_far h.r1 h.n13 _, blk_put h.e3 0 _ rfl, below_set h.bl h.g3, h.g1, h.g3, h.n1, h.n3, h.n13⟩
theorem impl_ReadEntry.Inv.set1 {w W : World} {b1 g b3 : Nat} {t : ByteArray} {a : Int} {bad : Bool} {x y : Int} {z : ByteArray} (h : impl_ReadEntry.Inv w W b1 g b3 t a bad x y z) (v : Int) :
  impl_ReadEntry.Inv w (W.setCell ⟨b3, 1, none⟩ (.int .i64 v)) b1 g b3 t a bad x v z := ⟨h.st.far (Ne.symm h.n3) _, blk_far h.r1 h.n13 _, blk_put h.e3 1 _ rfl, below_set h.bl h.g3, h.g1, h.g3, h.n1, h.n3, h.n13⟩
theorem impl_ReadEntry.Inv.set2 {w W : World} {b1 g b3 : Nat} {t : ByteArray} {a : Int} {bad : Bool} {x y : Int} {z : ByteArray} (h : impl_ReadEntry.Inv w W b1 g b3 t a bad x y z) (v : ByteArray) :
  impl_ReadEntry.Inv w (W.setCell ⟨b3, 2, none⟩ (.string v)) b1 g b3 t a bad x y v := ⟨h.st.far (Ne.symm h.n3) _, blk_far h.r1 h.n13 _, blk_put h.e3 2 _ rfl, below_set h.bl h.g3, h.g1, h.g3, h.n1, h.n3, h.n13⟩
def impl_ReadEntry.f (k : Nat) (a0 : ByteArray) : Option (Int × Int × Int × ByteArray × Bool) :=
 (impl_scan_one.f a0 0 false).bind fun p1 => (impl_scan_number.f k p1.2.1 p1.2.2.1 p1.2.2.2).bind fun p2 => (impl_scan_number.f k p2.2.1 p2.2.2.1 p2.2.2.2).bind fun p3 => (impl_scan_one.f p3.2.1 p3.2.2.1 p3.2.2.2).bind fun p4 =>
 (impl_scan_rest.f p4.2.1 p4.2.2.1 p4.2.2.2).bind fun p5 => (impl_scan_done.f p5.2.1 p5.2.2.1 p5.2.2.2).bind fun p6 => (if p6.1 = true then (if p1.1 = 69 then ((impl_EntryOk.f k p3.1 p4.1 p5.1).bind fun q1 => (if q1 = true then ((impl_within.f p2.1 1 1000000).bind fun q2 =>
  (if q2 = true then some (p2.1, p3.1, p4.1, p5.1, true) else some (0, 0, 0, (⟨#[]⟩ : ByteArray), false))) else some (0, 0, 0, (⟨#[]⟩ : ByteArray), false))) else some (0, 0, 0, (⟨#[]⟩ : ByteArray), false)) else some (0, 0, 0, (⟨#[]⟩ : ByteArray), false))
theorem impl_ReadEntry.mono : ∀ a0 k, LeO (impl_ReadEntry.f k a0) (impl_ReadEntry.f (k + 1) a0) := by
 intro a0 k
 unfold impl_ReadEntry.f
 repeat' first
   | (with_reducible exact impl_scan_number.mono _ _ _ _)
   | (with_reducible exact impl_EntryOk.mono _ _ _ _)
   | (with_reducible exact LeO.refl _)
   | (with_reducible exact LeO.none _)
   | (with_reducible refine LeO.ite ?_ ?_)
   | (with_reducible refine LeO.bind ?_ (fun _ => ?_))

set_option maxHeartbeats 4000000 in
set_option maxRecDepth 100000 in
theorem impl_ReadEntry.calls (k : Nat) (a0 : ByteArray) (r1 : Int) (r2 : Int) (r3 : Int) (r4 : ByteArray) (r5 : Bool) (w : World) (h : impl_ReadEntry.f k a0 = some (r1, r2, r3, r4, r5)) :
  Calls Try.prog 42 #[.string a0] w fun e w' => e = .returned (.tuple #[.int .i64 r1, .agg #[.int .i64 r2, .int .i64 r3, .string r4], .bool r5]) ∧ Below w.heap.size w w' := by
 unfold impl_ReadEntry.f at h
 obtain ⟨⟨x1, t1, a1, b1⟩, h1, h⟩ := Option.bind_eq_some_iff.mp h
 obtain ⟨⟨x2, t2, a2, b2⟩, h2, h⟩ := Option.bind_eq_some_iff.mp h
 obtain ⟨⟨x3, t3, a3, b3⟩, h3, h⟩ := Option.bind_eq_some_iff.mp h
 obtain ⟨⟨x4, t4, a4, b4⟩, h4, h⟩ := Option.bind_eq_some_iff.mp h
 obtain ⟨⟨x5, t5, a5, b5⟩, h5, h⟩ := Option.bind_eq_some_iff.mp h
 obtain ⟨⟨x6, t6, a6, b6⟩, h6, h⟩ := Option.bind_eq_some_iff.mp h
 simp only at h1 h2 h3 h4 h5 h6 h
 have A1 := Aside0.mk h1
 have A2 := Aside0.mk h2
 have A3 := Aside0.mk h3
 have A4 := Aside0.mk h4
 have A5 := Aside0.mk h5
 have A6 := Aside0.mk h6
 have H := Aside0.mk h
 clear h1 h2 h3 h4 h5 h6 h
 go_enter Try.func42, Try.ntmps42
 go_wp2_with (first | ((with_reducible refine gate_dst (N := 3) rfl ?_); refine box_event rfl (N := 3) rfl (cs := #[.int .i64 0, .int .i64 0, .string (⟨#[]⟩ : ByteArray)]) (t := 56) zrun ?_; intro r hg w_r hbox hb; have Yr := Aside0.mk hbox; have Zr := Aside0.mk hb; have Gr := Aside0.mk hg; clear hbox hb hg) | ((with_reducible refine gate_dst (N := 11) rfl ?_); refine box_event rfl (N := 11) rfl (cs := #[.string a0, .int .i64 0, .bool false]) (t := 67) zrun ?_; intro g hg w_g hbox hb; have Yg := Aside0.mk hbox; have Zg := Aside0.mk hb; have Gg := Aside0.mk hg; clear hbox hb hg) | ((with_reducible refine gate_dst (N := 6) rfl ?_); refine box_event rfl (N := 6) rfl (cs := #[.int .i64 0, .int .i64 0, .string (⟨#[]⟩ : ByteArray)]) (t := 56) zrun ?_; intro e hg w_e hbox hb; have Ye := Aside0.mk hbox; have Ze := Aside0.mk hb; have Ge := Aside0.mk hg; clear hbox hb hg; have J0 := Aside0.mk (show impl_ReadEntry.Inv w w_e r g e a0 0 false 0 0 ⟨#[]⟩ from ⟨⟨blk_below Yg.out Ze.out, by rw [Gg.out]; exact Zr.out.size⟩, blk_below (blk_below Yr.out Zg.out) Ze.out, Ye.out, below_step (below_step (below_step (Below.refl _ _) Zr.out) Zg.out) Ze.out, Nat.le_of_eq Gr.out.symm, by rw [Ge.out]; exact Nat.le_trans Zr.out.size Zg.out.size, by rw [Gg.out]; exact Nat.ne_of_lt (blk_lt Yr.out), by rw [Ge.out]; exact Nat.ne_of_gt (blk_lt Yg.out), by rw [Ge.out]; exact Nat.ne_of_lt (Nat.lt_of_lt_of_le (blk_lt Yr.out) Zg.out.size)⟩); clear Yr Zr Gr Yg Zg Gg Ye Ze Ge; have c0 := blk_cell J0.out.e3 0; have c1 := blk_cell J0.out.e3 1; have c2 := blk_cell J0.out.e3 2; simp only [List.getElem?_toArray, List.getElem?_cons_zero, List.getElem?_cons_succ] at c0 c1 c2; have f0 := blk_frozen J0.out.e3 0; have f1 := blk_frozen J0.out.e3 1; have f2 := blk_frozen J0.out.e3 2))
 have J := Aside0.mk (((J0.out.set0 0).set1 0).set2 ⟨#[]⟩)
 clear J0 c0 c1 c2 f0 f1 f2
 refine (impl_scan_one.calls g a0 0 false x1 t1 a1 b1 w _ J.out.st J.out.bl A1.out).mono ?_
 rintro e_ w4 ⟨rfl, hs, hb, hk⟩
 have J1 := Aside0.mk (J.out.call hs hb hk)
 clear hs hb hk J A1
 go_wp2_with fail
 refine (impl_scan_number.calls k g t1 a1 b1 x2 t2 a2 b2 w _ J1.out.st J1.out.bl A2.out).mono ?_
 rintro e_ w5 ⟨rfl, hs, hb, hk⟩
 have J2 := Aside0.mk (J1.out.call hs hb hk)
 clear hs hb hk J1 A2
 go_wp2_with fail
 refine (impl_scan_number.calls k g t2 a2 b2 x3 t3 a3 b3 w _ J2.out.st J2.out.bl A3.out).mono ?_
 rintro e_ w6 ⟨rfl, hs, hb, hk⟩
 have J3 := Aside0.mk (J2.out.call hs hb hk)
 clear hs hb hk J2 A3
 have c0 := blk_cell J3.out.e3 0
 have f0 := blk_frozen J3.out.e3 0
 simp only [List.getElem?_toArray, List.getElem?_cons_zero, List.getElem?_cons_succ] at c0
 go_wp2_with fail
 have J3b := Aside0.mk (J3.out.set0 x3)
 clear J3 c0 f0
 refine (impl_scan_one.calls g t3 a3 b3 x4 t4 a4 b4 w _ J3b.out.st J3b.out.bl A4.out).mono ?_
 rintro e_ w7 ⟨rfl, hs, hb, hk⟩
 have J4 := Aside0.mk (J3b.out.call hs hb hk)
 clear hs hb hk J3b A4
 have c1 := blk_cell J4.out.e3 1
 simp only [List.getElem?_toArray, List.getElem?_cons_zero, List.getElem?_cons_succ] at c1
 have f1 := blk_frozen J4.out.e3 1
 go_wp2_with fail
 have J4b := Aside0.mk (J4.out.set1 x4)
 clear J4 c1 f1
 refine (impl_scan_rest.calls g t4 a4 b4 x5 t5 a5 b5 w _ J4b.out.st J4b.out.bl A5.out).mono ?_
 rintro e_ w8 ⟨rfl, hs, hb, hk⟩
 have J5 := Aside0.mk (J4b.out.call hs hb hk)
 clear hs hb hk J4b A5
 have c2 := blk_cell J5.out.e3 2
 simp only [List.getElem?_toArray, List.getElem?_cons_zero, List.getElem?_cons_succ] at c2
 have f2 := blk_frozen J5.out.e3 2
 go_wp2_with fail
 have J5b := Aside0.mk (J5.out.set2 x5)
 clear J5 c2 f2
 refine (impl_scan_done.calls g t5 a5 b5 x6 t6 a6 b6 w _ J5b.out.st J5b.out.bl A6.out).mono ?_
 rintro e_ w9 ⟨rfl, hs, hb, hk⟩
 have J6 := Aside0.mk (J5b.out.call hs hb hk)
 clear hs hb hk J5b A6
 have no_ : (some (0, 0, 0, (⟨#[]⟩ : ByteArray), false) = some (r1, r2, r3, r4, r5)) → r1 = 0 ∧ r2 = 0 ∧ r3 = 0 ∧ r4 = ⟨#[]⟩ ∧ r5 = false := fun h => by simp only [Option.some.injEq, Prod.mk.injEq] at h; exact ⟨h.1.symm, h.2.1.symm, h.2.2.1.symm, h.2.2.2.1.symm, h.2.2.2.2.symm⟩
 have NO := Aside0.mk no_
 clear no_
 have c0 := blk_cell J6.out.e3 0
 have c1 := blk_cell J6.out.e3 1
 have c2 := blk_cell J6.out.e3 2
 simp only [List.getElem?_toArray, List.getElem?_cons_zero, List.getElem?_cons_succ] at c0 c1 c2
 have d0 := blk_cell J6.out.r1 0
 have d1 := blk_cell J6.out.r1 1
 have d2 := blk_cell J6.out.r1 2
 simp only [List.getElem?_toArray, List.getElem?_cons_zero, List.getElem?_cons_succ] at d0 d1 d2
 have f0 := blk_frozen J6.out.r1 0
 have f1 := blk_frozen J6.out.r1 1
 have f2 := blk_frozen J6.out.r1 2
 cases x6 with
 | false =>
  obtain ⟨rfl, rfl, rfl, rfl, rfl⟩ := NO.out (by have h := H.out; simpa using h)
  clear H NO
  go_wp2
  refine bodyPost_ret (results_list (rs := [.tmp 2, .cell 3 56, .tmp 4]) rfl (by simp) (.tmp (.cell r 56 #[.int .i64 0, .int .i64 0, .string (⟨#[]⟩ : ByteArray)] (0, 0) _ rfl (blk_put (blk_put (blk_put J6.out.r1 0 _ rfl) 1 _ rfl) 2 _ rfl) Try.underlying56 rfl (by kernel_rfl) (.tmp .nil)))) rfl ?_
  exact ⟨rfl, below_set (below_set (below_set J6.out.bl J6.out.g1) J6.out.g1) J6.out.g1⟩
 | true =>
  by_cases c1 : x1 = 69
  ·subst c1
   have H1 := H.out
   simp only [if_true] at H1
   obtain ⟨q1, hq1, H2⟩ := Option.bind_eq_some_iff.mp H1
   have Q1 := Aside0.mk hq1
   clear H H1 hq1
   cases q1 with
   | false =>
    obtain ⟨rfl, rfl, rfl, rfl, rfl⟩ := NO.out (by simpa using H2)
    clear NO H2
    go_wp2_with (go_at_call 38; refine (impl_EntryOk.calls k x3 x4 x5 false _ Q1.out).mono ?_; rintro e_ w10 ⟨rfl, hb⟩; have J7 := Aside0.mk (J6.out.below hb); clear hb d0 d1 d2 f0 f1 f2; have d0 := blk_cell J7.out.r1 0; have d1 := blk_cell J7.out.r1 1; have d2 := blk_cell J7.out.r1 2; simp only [List.getElem?_toArray, List.getElem?_cons_zero, List.getElem?_cons_succ] at d0 d1 d2; have f0 := blk_frozen J7.out.r1 0; have f1 := blk_frozen J7.out.r1 1; have f2 := blk_frozen J7.out.r1 2)
    refine bodyPost_ret (results_list (rs := [.tmp 2, .cell 3 56, .tmp 4]) rfl (by simp) (.tmp (.cell r 56 #[.int .i64 0, .int .i64 0, .string (⟨#[]⟩ : ByteArray)] (0, 0) _ rfl (blk_put (blk_put (blk_put J7.out.r1 0 _ rfl) 1 _ rfl) 2 _ rfl) Try.underlying56 rfl (by kernel_rfl) (.tmp .nil)))) rfl ?_
    exact ⟨rfl, below_set (below_set (below_set J7.out.bl J6.out.g1) J6.out.g1) J6.out.g1⟩
   | true =>
    simp only [if_true] at H2
    obtain ⟨q2, hq2, H3⟩ := Option.bind_eq_some_iff.mp H2
    have Q2 := Aside0.mk hq2
    clear H2 hq2
    cases q2 with
    | false =>
     obtain ⟨rfl, rfl, rfl, rfl, rfl⟩ := NO.out (by simpa using H3)
     clear NO H3
     go_wp2_with (first | (go_at_call 38; refine (impl_EntryOk.calls k x3 x4 x5 true _ Q1.out).mono ?_; rintro e_ w10 ⟨rfl, hb⟩; have J7 := Aside0.mk (J6.out.below hb); clear hb d0 d1 d2 f0 f1 f2 c0 c1 c2; have c0 := blk_cell J7.out.e3 0; have c1 := blk_cell J7.out.e3 1; have c2 := blk_cell J7.out.e3 2; simp only [List.getElem?_toArray, List.getElem?_cons_zero, List.getElem?_cons_succ] at c0 c1 c2; have d0 := blk_cell J7.out.r1 0; have d1 := blk_cell J7.out.r1 1; have d2 := blk_cell J7.out.r1 2; simp only [List.getElem?_toArray, List.getElem?_cons_zero, List.getElem?_cons_succ] at d0 d1 d2; have f0 := blk_frozen J7.out.r1 0; have f1 := blk_frozen J7.out.r1 1; have f2 := blk_frozen J7.out.r1 2) | (go_at_call 16; refine (impl_within.calls x2 1 1000000 false _ Q2.out).mono ?_; rintro e_ w11 ⟨rfl, nq, hq⟩; have J8 := Aside0.mk (J7.out.below (show Below w10.heap.size w10 w11 from by first | (rw [hq]; exact pw_below_drewN (Below.refl _ _) nq) | (rw [← hq]; exact pw_below_drewN (Below.refl _ _) nq))); clear hq d0 d1 d2 f0 f1 f2 c0 c1 c2; have c0 := blk_cell J8.out.e3 0; have c1 := blk_cell J8.out.e3 1; have c2 := blk_cell J8.out.e3 2; simp only [List.getElem?_toArray, List.getElem?_cons_zero, List.getElem?_cons_succ] at c0 c1 c2; have d0 := blk_cell J8.out.r1 0; have d1 := blk_cell J8.out.r1 1; have d2 := blk_cell J8.out.r1 2; simp only [List.getElem?_toArray, List.getElem?_cons_zero, List.getElem?_cons_succ] at d0 d1 d2; have f0 := blk_frozen J8.out.r1 0; have f1 := blk_frozen J8.out.r1 1; have f2 := blk_frozen J8.out.r1 2))
     refine bodyPost_ret (results_list (rs := [.tmp 2, .cell 3 56, .tmp 4]) rfl (by simp) (.tmp (.cell r 56 #[.int .i64 0, .int .i64 0, .string (⟨#[]⟩ : ByteArray)] (0, 0) _ rfl (blk_put (blk_put (blk_put J8.out.r1 0 _ rfl) 1 _ rfl) 2 _ rfl) Try.underlying56 rfl (by kernel_rfl) (.tmp .nil)))) rfl ?_
     exact ⟨rfl, below_set (below_set (below_set J8.out.bl J6.out.g1) J6.out.g1) J6.out.g1⟩
    | true =>
     simp only [if_true, Option.some.injEq, Prod.mk.injEq] at H3
     obtain ⟨rfl, rfl, rfl, rfl, rfl⟩ := H3
     clear NO
     go_wp2_with (first | (go_at_call 38; refine (impl_EntryOk.calls k x3 x4 x5 true _ Q1.out).mono ?_; rintro e_ w10 ⟨rfl, hb⟩; have J7 := Aside0.mk (J6.out.below hb); clear hb d0 d1 d2 f0 f1 f2 c0 c1 c2; have c0 := blk_cell J7.out.e3 0; have c1 := blk_cell J7.out.e3 1; have c2 := blk_cell J7.out.e3 2; simp only [List.getElem?_toArray, List.getElem?_cons_zero, List.getElem?_cons_succ] at c0 c1 c2; have d0 := blk_cell J7.out.r1 0; have d1 := blk_cell J7.out.r1 1; have d2 := blk_cell J7.out.r1 2; simp only [List.getElem?_toArray, List.getElem?_cons_zero, List.getElem?_cons_succ] at d0 d1 d2; have f0 := blk_frozen J7.out.r1 0; have f1 := blk_frozen J7.out.r1 1; have f2 := blk_frozen J7.out.r1 2) | (go_at_call 16; refine (impl_within.calls x2 1 1000000 true _ Q2.out).mono ?_; rintro e_ w11 ⟨rfl, nq, hq⟩; have J8 := Aside0.mk (J7.out.below (show Below w10.heap.size w10 w11 from by first | (rw [hq]; exact pw_below_drewN (Below.refl _ _) nq) | (rw [← hq]; exact pw_below_drewN (Below.refl _ _) nq))); clear hq d0 d1 d2 f0 f1 f2 c0 c1 c2; have c0 := blk_cell J8.out.e3 0; have c1 := blk_cell J8.out.e3 1; have c2 := blk_cell J8.out.e3 2; simp only [List.getElem?_toArray, List.getElem?_cons_zero, List.getElem?_cons_succ] at c0 c1 c2; have d0 := blk_cell J8.out.r1 0; have d1 := blk_cell J8.out.r1 1; have d2 := blk_cell J8.out.r1 2; simp only [List.getElem?_toArray, List.getElem?_cons_zero, List.getElem?_cons_succ] at d0 d1 d2; have f0 := blk_frozen J8.out.r1 0; have f1 := blk_frozen J8.out.r1 1; have f2 := blk_frozen J8.out.r1 2))
     go_region
     go_wp2
     refine bodyPost_ret (results_list (rs := [.tmp 2, .cell 3 56, .tmp 4]) rfl (by simp) (.tmp (.cell r 56 #[.int .i64 x3, .int .i64 x4, .string x5] (0, 0) _ rfl (blk_put (blk_put (blk_put J8.out.r1 0 _ rfl) 1 _ rfl) 2 _ rfl) Try.underlying56 rfl (by kernel_rfl) (.tmp .nil)))) rfl ?_
     exact ⟨rfl, below_drew1 (below_set (below_set (below_set J8.out.bl J6.out.g1) J6.out.g1) J6.out.g1)⟩
  ·have c1b : (x1 == 69) = false := by simpa using c1
   have c1c : (x1 != 69) = true := by simpa using c1
   obtain ⟨rfl, rfl, rfl, rfl, rfl⟩ := NO.out (by have h := H.out; simpa [c1] using h)
   clear H NO c1
   go_wp2
   refine bodyPost_ret (results_list (rs := [.tmp 2, .cell 3 56, .tmp 4]) rfl (by simp) (.tmp (.cell r 56 #[.int .i64 0, .int .i64 0, .string (⟨#[]⟩ : ByteArray)] (0, 0) _ rfl (blk_put (blk_put (blk_put J6.out.r1 0 _ rfl) 1 _ rfl) 2 _ rfl) Try.underlying56 rfl (by kernel_rfl) (.tmp .nil)))) rfl ?_
   exact ⟨rfl, below_set (below_set (below_set J6.out.bl J6.out.g1) J6.out.g1) J6.out.g1⟩

/-! ### impl_LogLast: function 55 -/
def impl_LogLast.f (a0_0 : Int) (a0_1 : Int) (l0_2 : List (S56)) : Option (Int × Int) := if (l0_2.length : Int) = 0 then (some (a0_0, a0_1)) else (if 0 ≤ (wrap64 ((l0_2.length : Int) - 1)) then (if (wrap64 ((l0_2.length : Int) - 1)) < (l0_2.length : Int) then (some (wrap64 (a0_0 + (l0_2.length : Int)), (rd_T56 l0_2 (wrap64 ((l0_2.length : Int) - 1))).f0)) else (none)) else (none))
set_option maxHeartbeats 8000000 in
set_option maxRecDepth 100000 in
theorem impl_LogLast.calls (a0_0 : Int) (a0_1 : Int) (A0_2 : Option Addr) (c0_2 : Nat) (l0_2 : List (S56)) (r1 : Int) (r2 : Int) (w : World) (hr0_2 : Kd.C k56 w A0_2 l0_2.length l0_2) (hc0_2 : l0_2.length ≤ c0_2) (h : impl_LogLast.f a0_0 a0_1 l0_2 = some (r1, r2)) :
  Calls Try.prog 55 #[.agg #[.int .i64 a0_0, .int .i64 a0_1, .slice A0_2 l0_2.length c0_2]] w fun e w' => e = .returned (.tuple #[.int .i64 r1, .int .i64 r2]) ∧ Below w.heap.size w w' := by
 have hu24 := Try.underlying24
 have HR0_2 := Aside0.mk hr0_2
 have HC0_2 := Aside0.mk hc0_2
 clear hr0_2 hc0_2
 have HB := Aside0.mk (Below.refl w.heap.size w)
 have H : (if (l0_2.length : Int) = 0 then (some (a0_0, a0_1)) else (if 0 ≤ (wrap64 ((l0_2.length : Int) - 1)) then (if (wrap64 ((l0_2.length : Int) - 1)) < (l0_2.length : Int) then (some (wrap64 (a0_0 + (l0_2.length : Int)), (rd_T56 l0_2 (wrap64 ((l0_2.length : Int) - 1))).f0)) else (none)) else (none))) = some (r1, r2) := h
 clear h
 by_cases c2 : (l0_2.length : Int) = 0
 ·rw [if_pos c2] at H
  have c2b0 : ((l0_2.length : Int) == 0) = true := beq_iff_eq.mpr c2
  have c2b1 : ((l0_2.length : Int) != 0) = false := bne_eq_false_iff_eq.mpr c2
  clear c2
  simp only [Option.some.injEq, Prod.mk.injEq] at H
  obtain ⟨rfl, rfl⟩ := H
  go_enter Try.func55, Try.ntmps55
  go_wp2_with (first | ((with_reducible refine gate_dst (N := 1) rfl ?_); refine box_event rfl (N := 1) rfl (cs := #[.int .i64 a0_0, .int .i64 a0_1, .slice A0_2 l0_2.length c0_2]) (t := 24) zrun ?_; intro gb253 hg w3 hbox hb; have BK253 := am (hbox); have GW253 := zge hg (zb0 HB.out); have GE253 := zge hg (zb0 HB.out); replace HB := zs0 hb HB; clear hb hbox hg; obtain ⟨hcz4_0, hcz4_1, hcz4_2, hfz4_0, hfz4_1, hfz4_2⟩ := zc3 BK253.out))
  repeat (go_quiet (first | ((with_reducible refine gate_dst (N := 1) rfl ?_); refine box_event rfl (N := 1) rfl (cs := #[.int .i64 a0_0, .int .i64 a0_1, .slice A0_2 l0_2.length c0_2]) (t := 24) zrun ?_; intro gb253 hg w3 hbox hb; have BK253 := am (hbox); have GW253 := zge hg (zb0 HB.out); have GE253 := zge hg (zb0 HB.out); replace HB := zs0 hb HB; clear hb hbox hg; obtain ⟨hcz4_0, hcz4_1, hcz4_2, hfz4_0, hfz4_1, hfz4_2⟩ := zc3 BK253.out)); try go_wp2_with (first | ((with_reducible refine gate_dst (N := 1) rfl ?_); refine box_event rfl (N := 1) rfl (cs := #[.int .i64 a0_0, .int .i64 a0_1, .slice A0_2 l0_2.length c0_2]) (t := 24) zrun ?_; intro gb253 hg w3 hbox hb; have BK253 := am (hbox); have GW253 := zge hg (zb0 HB.out); have GE253 := zge hg (zb0 HB.out); replace HB := zs0 hb HB; clear hb hbox hg; obtain ⟨hcz4_0, hcz4_1, hcz4_2, hfz4_0, hfz4_1, hfz4_2⟩ := zc3 BK253.out)))
  go_ret2
  exact ⟨by first | rfl | (simp [errW_none, errW_some] <;> rfl) | (simp [*, errW_none, errW_some] <;> rfl), zb1 HB.out GE253.out⟩
 ·rw [if_neg c2] at H
  have c2b0 : ((l0_2.length : Int) == 0) = false := beq_eq_false_iff_ne.mpr c2
  have c2b1 : ((l0_2.length : Int) != 0) = true := bne_iff_ne.mpr c2
  have c2b2 : ¬ (l0_2 = []) := fun h_ => c2 (by rw [h_]; rfl)
  obtain ⟨ji5, hji5⟩ : ∃ j_ : Int, (wrap64 ((l0_2.length : Int) - 1)) = j_ := ⟨_, rfl⟩
  replace H : (if 0 ≤ (ji5) then (if (ji5) < (l0_2.length : Int) then (some (wrap64 (a0_0 + (l0_2.length : Int)), (rd_T56 l0_2 (ji5)).f0)) else (none)) else (none)) = some (r1, r2) := by first | (rw [hji5] at H; exact H) | (simp only [hji5] at H ⊢; exact H)
  have hji5w : (IntKind.i64.wrap ((l0_2.length : Int) - 1)) = ji5 := (i64_w _).trans hji5
  by_cases c6 : 0 ≤ (ji5)
  ·rw [if_pos c6] at H
   have c6b0 : decide (0 ≤ (ji5)) = true := decide_eq_true c6
   clear c6
   by_cases c7 : (ji5) < (l0_2.length : Int)
   ·rw [if_pos c7] at H
    have c7b0 : decide ((ji5) < (l0_2.length : Int)) = true := decide_eq_true c7
    have c7b1 : decide ((l0_2.length : Int) ≤ (ji5)) = false := decide_eq_false (by omega)
    clear c7
    simp only [Option.some.injEq, Prod.mk.injEq] at H
    obtain ⟨rfl, rfl⟩ := H
    go_enter Try.func55, Try.ntmps55
    go_wp2_with (first | ((with_reducible refine gate_dst (N := 1) rfl ?_); refine box_event rfl (N := 1) rfl (cs := #[.int .i64 a0_0, .int .i64 a0_1, .slice A0_2 l0_2.length c0_2]) (t := 24) zrun ?_; intro gb253 hg w8 hbox hb; have BK253 := am (hbox); have GW253 := zge hg (zb0 HB.out); have GE253 := zge hg (zb0 HB.out); replace HB := zs0 hb HB; clear hb hbox hg; obtain ⟨hcz9_0, hcz9_1, hcz9_2, hfz9_0, hfz9_1, hfz9_2⟩ := zc3 BK253.out; have p254 : 0 ≤ ((ji5) : Int) := of_decide_eq_true (by first | (with_reducible assumption) | assumption); have q254 : (ji5) < (l0_2.length : Int) := of_decide_eq_true (by first | (with_reducible assumption) | assumption); obtain ⟨ad254, e254, hx254_0, hx254_1, hx254_2⟩ := at_T56 HR0_2.out (ji5) p254 q254; cases e254; replace hx254_0 := (HB.out.cell (World.block_lt_of_cell? w _ hx254_0)).trans hx254_0; replace hx254_1 := (HB.out.cell (World.block_lt_of_cell? w _ hx254_1)).trans hx254_1; replace hx254_2 := (HB.out.cell (World.block_lt_of_cell? w _ hx254_2)).trans hx254_2; replace p254 := eq_true p254; replace q254 := eq_true q254))
    repeat (go_quiet (first | ((with_reducible refine gate_dst (N := 1) rfl ?_); refine box_event rfl (N := 1) rfl (cs := #[.int .i64 a0_0, .int .i64 a0_1, .slice A0_2 l0_2.length c0_2]) (t := 24) zrun ?_; intro gb253 hg w8 hbox hb; have BK253 := am (hbox); have GW253 := zge hg (zb0 HB.out); have GE253 := zge hg (zb0 HB.out); replace HB := zs0 hb HB; clear hb hbox hg; obtain ⟨hcz9_0, hcz9_1, hcz9_2, hfz9_0, hfz9_1, hfz9_2⟩ := zc3 BK253.out; have p254 : 0 ≤ ((ji5) : Int) := of_decide_eq_true (by first | (with_reducible assumption) | assumption); have q254 : (ji5) < (l0_2.length : Int) := of_decide_eq_true (by first | (with_reducible assumption) | assumption); obtain ⟨ad254, e254, hx254_0, hx254_1, hx254_2⟩ := at_T56 HR0_2.out (ji5) p254 q254; cases e254; replace hx254_0 := (HB.out.cell (World.block_lt_of_cell? w _ hx254_0)).trans hx254_0; replace hx254_1 := (HB.out.cell (World.block_lt_of_cell? w _ hx254_1)).trans hx254_1; replace hx254_2 := (HB.out.cell (World.block_lt_of_cell? w _ hx254_2)).trans hx254_2; replace p254 := eq_true p254; replace q254 := eq_true q254)); try go_wp2_with (first | ((with_reducible refine gate_dst (N := 1) rfl ?_); refine box_event rfl (N := 1) rfl (cs := #[.int .i64 a0_0, .int .i64 a0_1, .slice A0_2 l0_2.length c0_2]) (t := 24) zrun ?_; intro gb253 hg w8 hbox hb; have BK253 := am (hbox); have GW253 := zge hg (zb0 HB.out); have GE253 := zge hg (zb0 HB.out); replace HB := zs0 hb HB; clear hb hbox hg; obtain ⟨hcz9_0, hcz9_1, hcz9_2, hfz9_0, hfz9_1, hfz9_2⟩ := zc3 BK253.out; have p254 : 0 ≤ ((ji5) : Int) := of_decide_eq_true (by first | (with_reducible assumption) | assumption); have q254 : (ji5) < (l0_2.length : Int) := of_decide_eq_true (by first | (with_reducible assumption) | assumption); obtain ⟨ad254, e254, hx254_0, hx254_1, hx254_2⟩ := at_T56 HR0_2.out (ji5) p254 q254; cases e254; replace hx254_0 := (HB.out.cell (World.block_lt_of_cell? w _ hx254_0)).trans hx254_0; replace hx254_1 := (HB.out.cell (World.block_lt_of_cell? w _ hx254_1)).trans hx254_1; replace hx254_2 := (HB.out.cell (World.block_lt_of_cell? w _ hx254_2)).trans hx254_2; replace p254 := eq_true p254; replace q254 := eq_true q254)))
    go_ret2
    exact ⟨by first | rfl | (simp [errW_none, errW_some] <;> rfl) | (simp only [← hji5]; first | rfl | (simp [errW_none, errW_some] <;> rfl)) | (simp [*, errW_none, errW_some] <;> rfl), zb1 HB.out GE253.out⟩
   ·rw [if_neg c7] at H
    exact absurd H (by simp)
  ·rw [if_neg c6] at H
   exact absurd H (by simp)

/-! ### impl_copyLog: function 56 -/
def impl_copyLog.f (a0_0 : Int) (a0_1 : Int) (l0_2 : List (S56)) : Option (Int × Int × (List (S56))) := (some (([] : List (S56)) : List (S56))).bind fun y257 => (if y257.length + l0_2.length < 4398046511104 then (some (a0_0, a0_1, (y257 ++ l0_2))) else (none))
def impl_copyLog.T1 : Bool × List (List Nat × List Nat) := (true, [([], []), ([0], [0]), ([], []), ([2], [2]), ([], []), ([], []), ([5], [5]), ([4, 6], [4, 6]), ([1, 3, 7], [1, 3, 7]), ([8, 7, 0, 1, 2, 3, 4, 5, 6, 7, 8], [8])])
def impl_copyLog.B1 : List Nat := [0, 1, 0, 4, 0, 0, 32, 112, 255, 511]
theorem impl_copyLog.tab1 : rtab .any (opsOf Try.f56 1) = impl_copyLog.T1 := by kernel_rfl
theorem impl_copyLog.bits1 : waitsOk impl_copyLog.T1.2 impl_copyLog.B1 = true := by kernel_rfl
set_option maxHeartbeats 8000000 in
set_option maxRecDepth 100000 in
theorem impl_copyLog.calls (a0_0 : Int) (a0_1 : Int) (A0_2 : Option Addr) (c0_2 : Nat) (l0_2 : List (S56)) (r1 : Int) (r2 : Int) (r3 : List (S56)) (w : World) (hr0_2 : Kd.C k56 w A0_2 l0_2.length l0_2) (hc0_2 : l0_2.length ≤ c0_2) (h : impl_copyLog.f a0_0 a0_1 l0_2 = some (r1, r2, r3)) :
  Calls Try.prog 56 #[.agg #[.int .i64 a0_0, .int .i64 a0_1, .slice A0_2 l0_2.length c0_2]] w fun e w' => ∃ v2_ : Value, e = .returned (.agg #[.int .i64 r1, .int .i64 r2, v2_]) ∧ Kd.R k56 56 w' w.heap.size (fun _ => True) v2_ r3 ∧ Below w.heap.size w w' := by
 have hu24 := Try.underlying24
 have HR0_2 := Aside0.mk hr0_2
 have HC0_2 := Aside0.mk hc0_2
 clear hr0_2 hc0_2
 have HB := Aside0.mk (Below.refl w.heap.size w)
 have H : ((some (([] : List (S56)) : List (S56))).bind fun y257 => (if y257.length + l0_2.length < 4398046511104 then (some (a0_0, a0_1, (y257 ++ l0_2))) else (none))) = some (r1, r2, r3) := h
 clear h
 obtain ⟨y257, hy257⟩ : ∃ y_ : List (S56), y_ = (([] : List (S56))) := ⟨_, rfl⟩
 replace H : (if y257.length + l0_2.length < 4398046511104 then (some (a0_0, a0_1, (y257 ++ l0_2))) else (none)) = some (r1, r2, r3) := by first | (rw [hy257]; with_reducible exact H) | (have H2_ := (Option.bind_some _ _).symm.trans H; rw [hy257]; with_reducible exact H2_) | (have H2_ := (Option.bind_some _ _).symm.trans H; with_reducible exact H2_) | with_reducible exact H | (rw [hy257]; exact H) | exact H
 have Ny257 := Aside0.mk hy257
 clear hy257
 by_cases c2 : y257.length + l0_2.length < 4398046511104
 ·rw [if_pos c2] at H
  have LMc2 := Aside0.mk c2
  clear c2
  obtain ⟨y260, hy260⟩ : ∃ y_ : List (S56), y_ = (y257 ++ l0_2) := ⟨_, rfl⟩
  replace H : (some (a0_0, a0_1, y260)) = some (r1, r2, r3) := by first | (rw [hy260]; with_reducible exact H) | (have H2_ := (Option.bind_some _ _).symm.trans H; rw [hy260]; with_reducible exact H2_) | (have H2_ := (Option.bind_some _ _).symm.trans H; with_reducible exact H2_) | with_reducible exact H | (rw [hy260]; exact H) | exact H
  have Ny260 := Aside0.mk hy260
  clear hy260
  simp only [Option.some.injEq, Prod.mk.injEq] at H
  obtain ⟨rfl, rfl, rfl⟩ := H
  go_enter Try.func56, Try.ntmps56
  try go_wp2_with (first | ((with_reducible refine gate_dst (N := 1) rfl ?_); refine box_event rfl (N := 1) rfl (cs := #[.int .i64 a0_0, .int .i64 a0_1, .slice A0_2 l0_2.length c0_2]) (t := 24) zrun ?_; intro gb255 hg w3 hbox hb; have BK255 := am (hbox); have GE255 := zge hg (zb0 HB.out); replace HB := zs0 hb HB; clear hb hbox hg) | ((with_reducible refine gate_dst (N := 2) rfl ?_); refine box_event rfl (N := 2) rfl (cs := #[.int .i64 0, .int .i64 0, .slice none 0 0]) (t := 24) zrun ?_; intro gb256 hg w4 hbox hb; have BK256 := am (hbox); have GE256 := zge hg (zb1 HB.out GE255.out); obtain ⟨NB255_256, NB256_255⟩ := zne hg BK255; replace BK255 := zk hb BK255; replace HB := zs1 hb HB GE255; clear hb hbox hg))
  replace BK255 := am (blk_drew BK255.out)
  replace BK256 := am (blk_drew BK256.out)
  replace HB := am (below_drew1 HB.out)
  refine start_ (n := 10) (S := fun w' => w'.cell? ⟨gb255, 0, none⟩ = some (.int .i64 a0_0) ∧ w'.cell? ⟨gb255, 1, none⟩ = some (.int .i64 a0_1) ∧ w'.cell? ⟨gb255, 2, none⟩ = some (.slice A0_2 l0_2.length c0_2)) (ds := []) #[false, false, false, false, false, false, false, false, false, false] (by kernel_rfl) rfl rfl ⟨ct BK255.out 0, ct BK255.out 1, ct BK255.out 2⟩ (fun hHeld => ?_); refine with_tabW impl_copyLog.tab1 impl_copyLog.bits1 (fun HT_ HW_ => ?_)
  generalize w4.drew = w5 at BK255 BK256 HB hHeld ⊢
  refine zpu 0 3 #[true, false, false, false, false, false, false, false, false, false] HT_ ?_
  refine zpu 2 5 #[true, false, true, false, false, false, false, false, false, false] HT_ ?_
  refine zpu 5 8 #[true, false, true, false, false, true, false, false, false, false] HT_ ?_
  refine ztk3 1 4 #[true, true, true, false, false, true, false, false, false, false] HT_ HW_ hHeld ?_
  refine ztk3 3 6 #[true, true, true, true, false, true, false, false, false, false] HT_ HW_ hHeld ?_
  refine ztk3 6 9 #[true, true, true, true, false, true, true, false, false, false] HT_ HW_ hHeld ?_
  refine zon 4 #[true, true, true, true, true, true, true, false, false, false] HT_ (fun K hK => ?_)
  refine Kd.R_lit_step k56 _ 56 ?hg (N := 7) ?hd (xs := ([] : List (S56))) (inner := []) (ok := fun _ => True) (okp := fun _ => True) ?hr ?hp (fun _ hk => hk) trivial (Below.refl _ _) (Nat.le_refl _) (by simp) ?_; (case hd => rfl); (case hg => rfl); (case hr => first | (go_simp; done) | (go_simp; rfl)); (case hp => exact (Reps.none _ _))
  intro v258 w6 ho7 hb hg_ hnew_
  clear hg_ hnew_
  (first | rw [← Ny257.out] at ho7 | (simp only [Int.reduceToNat] at ho7; rw [← Ny257.out] at ho7))
  have HO259 := am (Kd.R_lower ho7 (below_size (zb2 HB.out GE255.out GE256.out)))
  replace BK255 := zk hb BK255
  replace BK256 := zk hb BK256
  replace HB := zs2 hb HB GE255 GE256
  clear hb ho7
  refine hK.out _ _ ⟨ct BK255.out 0, ct BK255.out 1, ct BK255.out 2⟩ (fun hHeld => ?_)
  clear hK K
  refine znm 7 ?_
  refine zon 7 #[true, true, true, true, true, true, true, true, false, false] HT_ (fun K hK => ?_)
  refine Kd.R_append_rows_step k56 (w0 := w) w.heap.size (by rfl) (.tmp 7) (.tmp 9) 22 56 (.agg #[(.int .i64 0), (.int .i64 0), (.string ⟨#[]⟩)]) 32 rfl Try.underlying22 info56 rfl (by decide) (by omega) v258 y257 l0_2 _ _ _ (fun _ => True) (fun _ => False) rfl rfl ?aO ?aR (fun _ _ h => h) (fun _ h => h.elim) ?aF ?aB ?aS ?aL ?_
  (case aR => repeat (first | exact (Kd.C_below HR0_2.out HB.out) | (with_reducible refine Kd.C_alloc ?_ _) | (with_reducible refine Kd.C_drewN ?_ _) | (with_reducible refine Kd.C_drew ?_)))
  (case aB => exact (zb2 HB.out GE255.out GE256.out))
  (case aF => exact (fun _ _ => trivial))
  (case aO => exact (rx HO259.out))
  (case aS => exact (below_size (zb2 HB.out GE255.out GE256.out)))
  (case aL => have := LMc2.out; omega)
  intro v261 w8 ho hb hg hat
  rw [← Ny260.out] at ho
  have HO262 := am (ho)
  replace BK255 := am (blk_grown (g := gb255) (o := .cells #[.int .i64 a0_0, .int .i64 a0_1, .slice A0_2 l0_2.length c0_2] 24 (0, 0)) (kx BK255.out) hg (Kd.R_ne HO259.out BK255.out (by decide)))
  replace BK256 := am (blk_grown (g := gb256) (o := .cells #[.int .i64 0, .int .i64 0, .slice none 0 0] 24 (0, 0)) (kx BK256.out) hg (Kd.R_ne HO259.out BK256.out (by decide)))
  replace HB := am (hb)
  clear HO259 ho hb hg hat
  obtain ⟨Ao9, co9, eo9⟩ := Kd.R_slice HO262.out
  (first | subst eo9 | (injection eo9 with f1_ f2_ f3_; have f4_ := f1_.symm; have f5_ := f3_.symm; clear f1_ f2_ f3_; subst f4_; subst f5_))
  refine hK.out _ _ ⟨ct BK255.out 0, ct BK255.out 1, ct BK255.out 2⟩ (fun hHeld => ?_)
  clear hK K
  refine znm 10 ?_
  refine zpu 8 11 #[true, true, true, true, true, true, true, true, true, false] HT_ ?_
  refine zon 9 #[true, true, true, true, true, true, true, true, true, true] HT_ (fun K hK => ?_)
  have hs10 : w8.cell? ⟨gb256, 0, none⟩ = some (.int .i64 0) := ct BK256.out 0
  have hfs10 := blk_frozen BK256.out 0
  have hns10_0 := NB255_256.out
  have hms10_0 := NB256_255.out
  have hs11 : w8.cell? ⟨gb256, 1, none⟩ = some (.int .i64 0) := ct BK256.out 1
  have hfs11 := blk_frozen BK256.out 1
  have hns11_0 := NB255_256.out
  have hms11_0 := NB256_255.out
  have hs12 : w8.cell? ⟨gb256, 2, none⟩ = some (.slice none 0 0) := ct BK256.out 2
  have hfs12 := blk_frozen BK256.out 2
  have hns12_0 := NB255_256.out
  have hms12_0 := NB256_255.out
  refine skip_ (w1 := ?_) (by rfl) rfl ?_ ?_
  rotate_left
  ·go_simp
   rfl
  refine hK.out _ _ ⟨((cell_far (p := ⟨gb256, _, none⟩) NB255_256.out _).trans (((cell_far (p := ⟨gb256, _, none⟩) NB255_256.out _).trans (((cell_far (p := ⟨gb256, _, none⟩) NB255_256.out _).trans (hHeld.1)))))), ((cell_far (p := ⟨gb256, _, none⟩) NB255_256.out _).trans (((cell_far (p := ⟨gb256, _, none⟩) NB255_256.out _).trans (((cell_far (p := ⟨gb256, _, none⟩) NB255_256.out _).trans (hHeld.2.1)))))), ((cell_far (p := ⟨gb256, _, none⟩) NB255_256.out _).trans (((cell_far (p := ⟨gb256, _, none⟩) NB255_256.out _).trans (((cell_far (p := ⟨gb256, _, none⟩) NB255_256.out _).trans (hHeld.2.2))))))⟩ (fun hHeld => ?_)
  clear hK K
  refine zdn HT_ ?_
  try go_wp2
  refine bodyPost_ret (results_cell_row rfl _ _ gb256 24 #[.int .i64 a0_0, .int .i64 a0_1, .slice Ao9 y260.length co9] (0, 0) _ rfl (by (with_reducible repeat (first | refine blk_drewN ?_ _ | refine blk_drew ?_ | refine blk_alloc ?_ _)); refine blk_put (cs := #[.int .i64 a0_0, .int .i64 a0_1, .slice none 0 0]) ?_ 2 _ rfl; (with_reducible repeat (first | refine blk_drewN ?_ _ | refine blk_drew ?_ | refine blk_alloc ?_ _)); refine blk_put (cs := #[.int .i64 a0_0, .int .i64 0, .slice none 0 0]) ?_ 1 _ rfl; (with_reducible repeat (first | refine blk_drewN ?_ _ | refine blk_drew ?_ | refine blk_alloc ?_ _)); refine blk_put (cs := #[.int .i64 0, .int .i64 0, .slice none 0 0]) ?_ 0 _ rfl; (with_reducible repeat (first | refine blk_drewN ?_ _ | refine blk_drew ?_ | refine blk_alloc ?_ _)); exact BK256.out) Try.underlying24 rfl (by kernel_rfl)) rfl ?_
  exact ⟨_, by first | rfl | (simp [errW_none, errW_some] <;> rfl) | (simp [*, errW_none, errW_some] <;> rfl), rx (Kd.R_mono (Kd.R_far (p := ⟨gb256, 2, none⟩) (Kd.R_far (p := ⟨gb256, 1, none⟩) (Kd.R_far (p := ⟨gb256, 0, none⟩) (Kd.R_types HO262.out BK256.out (by decide)) (fun _ hk => hk.2) (.int .i64 a0_0)) (fun _ hk => hk.2) (.int .i64 a0_1)) (fun _ hk => hk.2) (.slice Ao9 y260.length co9)) (fun _ hk => trivial)), zb2 HB.out GE255.out GE256.out⟩
 ·rw [if_neg c2] at H
  exact absurd H (by simp)

end Go.Proofs.Ytogifkjkbfdocaa.QFnExactReadJournal
