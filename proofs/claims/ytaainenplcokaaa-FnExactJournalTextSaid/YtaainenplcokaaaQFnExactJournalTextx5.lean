/- Written by the kit's print.py, called by our own print2.sh with one import more; not by print.sh. -/
import Derived.Test.YtaainenplcokaaaQFnExactJournalTextx0
import Derived.Test.YtaainenplcokaaaQFnExactJournalTextx3
import Derived.Test.YtaainenplcokaaaQFnExactJournalTextx4
namespace Go.Proofs.Ytaainenplcokaaa.QFnExactJournalText
open Go.RowKit Go.Proofs.YtaainenplcokaaaW.PrintWords Go.Proofs.YtaainenplcokaaaW.PrintLast Go.Proofs.YtaainenplcokaaaW.PrintMore
attribute [local go_sem] max2_int min2_int max_two min_two max_three min_three max_four min_four   -- for this text's walks alone
set_option linter.unusedVariables false
set_option linter.unusedSimpArgs false

/-! ### spec_l07Frames: function 137, by hand -/ -- rounds making
def spec_l07Frames.l0 : Nat → List Int → Int → Int → Int → List (S67) → Option (ByteArray)
  | 0, _, _, _, _, _ => none
  | k + 1, x5, x6, y0, y1, y2 => if x6 < (y2.length : Int) then (if 0 ≤ x6 then ((spec_EntryText.f k (wrap64 ((wrap64 (y0 + 1)) + x6)) ((rd_T67 y2 x6).f0) ((rd_T67 y2 x6).f1) ((rd_T67 y2 x6).f2)).bind fun b1 => ((spec_Frame.f k b1.1).bind fun b2 => (if x5.length + b2.1.size ≤ 140737488355328 then (spec_l07Frames.l0 k (x5 ++ bytesOf b2.1) (wrap64 (x6 + 1)) y0 y1 y2) else (none)))) else (none)) else (some (strOfNums x5))
def spec_l07Frames.f (k : Nat) (a0_0 : Int) (a0_1 : Int) (l0_2 : List (S67)) (a1 : Int) : Option (ByteArray) := spec_l07Frames.l0 k ([] : List Int) a1 a0_0 a0_1 l0_2
theorem spec_l07Frames.mono_l : ∀ k, (∀ y0 y1 y2 y3 y4, LeO (spec_l07Frames.l0 k y0 y1 y2 y3 y4) (spec_l07Frames.l0 (k + 1) y0 y1 y2 y3 y4))
  | 0 => fun _ _ _ _ _ r h => by simp [spec_l07Frames.l0] at h
  | k + 1 => by
    have ih0 := spec_l07Frames.mono_l k
    · intro y0 y1 y2 y3 y4
      unfold spec_l07Frames.l0
      repeat' first
      | (with_reducible exact ih0 _ _ _ _ _)
      | (with_reducible exact spec_EntryText.mono _ _ _ _ _)
      | (with_reducible exact spec_Frame.mono _ _)
      | (with_reducible exact LeO.refl _)
      | (with_reducible exact LeO.none _)
      | (with_reducible refine LeO.ite ?_ ?_)
      | (with_reducible refine LeO.bind ?_ (fun _ => ?_))
theorem spec_l07Frames.mono : ∀ a0 a1 a2 a3 k, LeO (spec_l07Frames.f k a0 a1 a2 a3) (spec_l07Frames.f (k + 1) a0 a1 a2 a3) := by
  intro a0 a1 a2 a3 k
  exact spec_l07Frames.mono_l k _ _ _ _ _
theorem spec_l07Frames.new_cell (w : World) (t : ByteArray) (j : Nat) (h1 : j < t.size) : (Lib.bytesWorld w 5 t).cell? ⟨w.heap.size, j, none⟩ = some (.int .u8 ((bytesOf t).getD j 0)) := by
  rw [Lib.bytesWorld_cell w 5 t j h1]
  have : j < t.data.size := h1
  simp [bytesOf, List.getD_eq_getElem?_getD]
  rw [Array.getElem?_eq_getElem this]; rfl
theorem spec_l07Frames.new_below (w : World) (t : ByteArray) : Below w.heap.size w (Lib.bytesWorld w 5 t) :=
  ⟨rfl, rfl, rfl, by rw [Lib.bytesWorld_size]; omega, fun i hi => Lib.bytesWorld_at_old w 5 t i hi⟩
theorem spec_l07Frames.new_reads (w : World) (t : ByteArray) (ht : t.size ≤ 9223372036854775807) : Kd.C (Kd.int .u8) (Lib.bytesWorld w 5 t) (some ⟨w.heap.size, 0, none⟩) t.size (bytesOf t) :=
  Kd.C_of_reads (d := (0 : Int)) (h1 := fun _ => rfl) ⟨bytesOf_length t, ht, fun _ => ⟨_, rfl, fun j hj => by rw [add_plain]; exact spec_l07Frames.new_cell w t j hj⟩⟩
def spec_l07Frames.T5 : Bool × List (List Nat × List Nat) := (true, [([], []), ([0], [0]), ([1], [1]), ([], []), ([2, 3], [2, 3]), ([], []), ([5], [5]), ([], []), ([6, 7], [6, 7]), ([8], [8]), ([4, 9], [4, 9]), ([10], [10]), ([11], [11]), ([11], [11]), ([12, 10, 0, 1, 2, 3, 4, 5, 6, 7, 8, 9, 10, 11, 12], [12]), ([13, 14, 0, 1, 2, 3, 4, 5, 6, 7, 8, 9, 10, 11, 12, 13, 14], [13])])
def spec_l07Frames.B5 : List Nat := [0, 1, 3, 0, 15, 0, 32, 0, 224, 480, 1023, 2047, 4095, 4095, 8191, 32767]
theorem spec_l07Frames.tab5 : rtab .any (opsOf Try.f137 5) = spec_l07Frames.T5 := by kernel_rfl
theorem spec_l07Frames.bits5 : waitsOk spec_l07Frames.T5.2 spec_l07Frames.B5 = true := by kernel_rfl
set_option maxHeartbeats 8000000 in
set_option maxRecDepth 100000 in
theorem spec_l07Frames.calls (k : Nat) (a0_0 : Int) (a0_1 : Int) (A0_2 : Option Addr) (c0_2 : Nat) (l0_2 : List (S67)) (a1 : Int) (r : ByteArray) (w : World) (hr0_2 : Kd.C k67 w A0_2 l0_2.length l0_2) (hc0_2 : l0_2.length ≤ c0_2) (h : spec_l07Frames.f k a0_0 a0_1 l0_2 a1 = some r) :
    Calls Try.prog 137 #[.agg #[.int .i64 a0_0, .int .i64 a0_1, .slice A0_2 l0_2.length c0_2], .int .i64 a1] w fun e w' => e = .returned (.string r) ∧ Below w.heap.size w w' := by
  have hu82 := Try.underlying82
  have hu67 := Try.underlying67
  have HR := Aside0.mk hr0_2
  have HC := Aside0.mk hc0_2
  clear hr0_2 hc0_2
  have H' := Aside0.mk (show spec_l07Frames.l0 k ([] : List Int) a1 a0_0 a0_1 l0_2 = some r from h)
  clear h
  go_enter Try.func137, Try.ntmps137
  go_wp2_with (first
    | ((with_reducible refine gate_dst (N := 2) rfl ?_); refine box_event ?hg (N := 2) ?hd (cs := #[.int .i64 a0_0, .int .i64 a0_1, .slice A0_2 l0_2.length c0_2]) (t := 82) ?hr ?_; (case hd => rfl); (case hg => rfl); (case hr => first | (go_simp; done) | (go_simp; rfl)); intro g hg w3 hbox hb; have HB := Aside0.mk hb; have BK := Aside0.mk hbox; have GE := Aside0.mk (show w.heap.size ≤ g by rw [hg]; exact Nat.le_refl _); clear hg hb hbox)
    | ((with_reducible refine gate_dst (N := 11) rfl ?_); refine Kd.R_lit (Kd.int .u8) _ 5 ?hg (N := 11) ?hd (xs := ([] : List Int)) (inner := []) (ok := fun _ => True) (okp := fun _ => True) ?hr ?hp (fun _ hk => hk) trivial (Below.refl _ _) (Nat.le_refl _) (by simp) ?_; (case hd => rfl); (case hg => rfl); (case hr => first | (go_simp; done) | (go_simp; rfl)); (case hp => exact (Reps.none _ _)); intro v5 w5 ho hb hg_ hnew_; have HO5 := Aside0.mk (Kd.R_lower ho (below_size HB.out)); have BK5 := Aside0.mk (blk_below BK.out hb); have HB5 := Aside0.mk (below_step HB.out hb); clear hg_ hnew_ hb ho))
  go_loopg [5, 6] k (fun kq v5 v6 w' => ∃ (x5 : List Int) (x6 : Int), v6 = .int .i64 x6 ∧ Aside0 (spec_l07Frames.l0 kq x5 x6 a0_0 a0_1 l0_2 = some r) ∧ Aside0 (kq ≤ k) ∧ Aside0 (Kd.R (Kd.int .u8) 5 w' w.heap.size (fun _ => True) v5 x5) ∧ Aside0 (w'.heap[g]? = some (.cells #[.int .i64 a0_0, .int .i64 a0_1, .slice A0_2 l0_2.length c0_2] 82 (0, 0))) ∧ Aside0 (Below w.heap.size w w'))
  case atStart => exact ⟨[], a1, rfl, H', ⟨Nat.le_refl _⟩, HO5, BK5, HB5⟩
  case round =>
    clear H' HB HB5 BK BK5 HO5
    obtain ⟨x5, x6, rfl, HA, HK, HO, BK, HB⟩ := hrel
    obtain ⟨A5, c5, e5⟩ := Kd.R_slice HO.out
    subst e5
    cases gk with
    | zero => exact absurd HA.out (by simp [spec_l07Frames.l0])
    | succ k1 =>
      have H := HA.out
      clear HA
      simp only [spec_l07Frames.l0] at H
      have b0 : wr.cell? ⟨g, 0, none⟩ = some (.int .i64 a0_0) := (blk_cell BK.out 0).trans rfl
      have b1 : wr.cell? ⟨g, 1, none⟩ = some (.int .i64 a0_1) := (blk_cell BK.out 1).trans rfl
      have b2 : wr.cell? ⟨g, 2, none⟩ = some (.slice A0_2 l0_2.length c0_2) := (blk_cell BK.out 2).trans rfl
      by_cases c4 : x6 < (l0_2.length : Int)
      · rw [if_pos c4] at H
        have c4b0 : decide (x6 < (l0_2.length : Int)) = true := decide_eq_true c4
        by_cases c5' : 0 ≤ x6
        · rw [if_pos c5'] at H
          obtain ⟨⟨t1, o1⟩, h1, H⟩ := Option.bind_eq_some_iff.mp H
          obtain ⟨⟨t2, o2⟩, h2, H⟩ := Option.bind_eq_some_iff.mp H
          simp only at h2 H
          by_cases c6 : x5.length + t2.size ≤ 140737488355328
          · rw [if_pos c6] at H
            have A1 := Aside0.mk h1
            have A2 := Aside0.mk h2
            have LM := Aside0.mk c6
            have H' := Aside0.mk H
            obtain ⟨ad, e_ad, x0, x1, x2⟩ := at_T67 HR.out x6 c5' c4
            cases e_ad
            have X0 := Aside0.mk x0
            have X1 := Aside0.mk x1
            have X2 := Aside0.mk x2
            replace x0 := (HB.out.cell (World.block_lt_of_cell? w _ x0)).trans x0
            replace x1 := (HB.out.cell (World.block_lt_of_cell? w _ x1)).trans x1
            replace x2 := (HB.out.cell (World.block_lt_of_cell? w _ x2)).trans x2
            have p6 := eq_true c5'
            have q6 := eq_true c4
            clear H h1 h2 c6 c4 c5'
            go_wp2
            refine start_ (n := 16) (S := fun w' => w'.cell? ⟨g, 0, none⟩ = some (.int .i64 a0_0) ∧ w'.cell? ⟨g, 2, none⟩ = some (.slice (some ad) l0_2.length c0_2) ∧ w'.cell? (ad.add (x6.toNat * 3)) = some (.int .i64 ((rd_T67 l0_2 x6).f0)) ∧ w'.cell? ⟨(ad.add (x6.toNat * 3)).block, (ad.add (x6.toNat * 3)).off + 1, none⟩ = some (.int .i64 ((rd_T67 l0_2 x6).f1)) ∧ w'.cell? ⟨(ad.add (x6.toNat * 3)).block, (ad.add (x6.toNat * 3)).off + 2, none⟩ = some (.string ((rd_T67 l0_2 x6).f2))) (ds := []) #[false, false, false, false, false, false, false, false, false, false, false, false, false, false, false, false] (by kernel_rfl) rfl rfl ⟨b0, b2, x0, x1, x2⟩ (fun hHeld => ?_); refine with_tabW spec_l07Frames.tab5 spec_l07Frames.bits5 (fun HT_ HW_ => ?_)
            clear b0 b1 b2 x0 x1 x2
            have HO0 := Aside0.mk (Kd.R_drew HO.out)
            have BK0 := Aside0.mk (blk_drew BK.out)
            have HB0 := Aside0.mk (below_drew1 HB.out)
            clear HO BK HB
            generalize wr.drew = w10 at HO0 BK0 HB0 hHeld ⊢
            refine pure_ (i := 0) (N := some 21) (v := ?_) (a' := ?_) #[true, false, false, false, false, false, false, false, false, false, false, false, false, false, false, false] rfl rfl (any_of HT_.out (by kernel_rfl)) (fun _ _ _ h => h) (Or.inl ⟨by rfl, ?_⟩) ?_ ?_
            rotate_left
            · intro w'
              go_simp
              with_reducible rfl
            rotate_left
            · simp only [Act.put, List.setIfInBounds_toArray, List.set_cons_zero, List.set_cons_succ, i64_w, i32_w]
              rfl
            refine pure_ (i := 3) (N := some 24) (v := ?_) (a' := ?_) #[true, false, false, true, false, false, false, false, false, false, false, false, false, false, false, false] rfl rfl (any_of HT_.out (by kernel_rfl)) (fun _ _ _ h => h) (Or.inl ⟨by rfl, ?_⟩) ?_ ?_
            rotate_left
            · intro w'
              go_simp
              with_reducible rfl
            rotate_left
            · simp only [Act.put, List.setIfInBounds_toArray, List.set_cons_zero, List.set_cons_succ, i64_w, i32_w]
              rfl
            refine pure_ (i := 5) (N := some 26) (v := ?_) (a' := ?_) #[true, false, false, true, false, true, false, false, false, false, false, false, false, false, false, false] rfl rfl (any_of HT_.out (by kernel_rfl)) (fun _ _ _ h => h) (Or.inl ⟨by rfl, ?_⟩) ?_ ?_
            rotate_left
            · intro w'
              go_simp
              with_reducible rfl
            rotate_left
            · simp only [Act.put, List.setIfInBounds_toArray, List.set_cons_zero, List.set_cons_succ, i64_w, i32_w]
              rfl
            refine pure_ (i := 7) (N := some 28) (v := ?_) (a' := ?_) #[true, false, false, true, false, true, false, true, false, false, false, false, false, false, false, false] rfl rfl (any_of HT_.out (by kernel_rfl)) (fun _ _ _ h => h) (Or.inl ⟨by rfl, ?_⟩) ?_ ?_
            rotate_left
            · intro w'
              go_simp
              with_reducible rfl
            rotate_left
            · simp only [Act.put, List.setIfInBounds_toArray, List.set_cons_zero, List.set_cons_succ, i64_w, i32_w]
              rfl
            refine take_ (i := 1) (N := some 22) (v := ?_) (a' := ?_) #[true, true, false, true, false, true, false, true, false, false, false, false, false, false, false, false] rfl rfl (take_ofW HT_.out HW_.out (by kernel_rfl)) (fun _ _ _ h => h) (Or.inl ⟨by rfl, ?_⟩) hHeld ?_ ?_
            rotate_left
            · rintro w' ⟨s0, s1, s2, s3, s4⟩
              go_simp
              with_reducible rfl
            rotate_left
            · simp only [Act.put, List.setIfInBounds_toArray, List.set_cons_zero, List.set_cons_succ, i64_w, i32_w]
              rfl
            refine pure_ (i := 2) (N := some 23) (v := ?_) (a' := ?_) #[true, true, true, true, false, true, false, true, false, false, false, false, false, false, false, false] rfl rfl (any_of HT_.out (by kernel_rfl)) (fun _ _ _ h => h) (Or.inl ⟨by rfl, ?_⟩) ?_ ?_
            rotate_left
            · intro w'
              go_simp
              with_reducible rfl
            rotate_left
            · simp only [Act.put, List.setIfInBounds_toArray, List.set_cons_zero, List.set_cons_succ, i64_w, i32_w]
              rfl
            refine pure_ (i := 4) (N := some 25) (v := ?_) (a' := ?_) #[true, true, true, true, true, true, false, true, false, false, false, false, false, false, false, false] rfl rfl (any_of HT_.out (by kernel_rfl)) (fun _ _ _ h => h) (Or.inl ⟨by rfl, ?_⟩) ?_ ?_
            rotate_left
            · intro w'
              go_simp
              with_reducible rfl
            rotate_left
            · simp only [Act.put, List.setIfInBounds_toArray, List.set_cons_zero, List.set_cons_succ, i64_w, i32_w]
              rfl
            refine take_ (i := 6) (N := some 27) (v := ?_) (a' := ?_) #[true, true, true, true, true, true, true, true, false, false, false, false, false, false, false, false] rfl rfl (take_ofW HT_.out HW_.out (by kernel_rfl)) (fun _ _ _ h => h) (Or.inl ⟨by rfl, ?_⟩) hHeld ?_ ?_
            rotate_left
            · rintro w' ⟨s0, s1, s2, s3, s4⟩
              go_simp
              with_reducible rfl
            rotate_left
            · simp only [Act.put, List.setIfInBounds_toArray, List.set_cons_zero, List.set_cons_succ, i64_w, i32_w]
              rfl
            refine pure_ (i := 8) (N := some 29) (v := ?_) (a' := ?_) #[true, true, true, true, true, true, true, true, true, false, false, false, false, false, false, false] rfl rfl (any_of HT_.out (by kernel_rfl)) (fun _ _ _ h => h) (Or.inl ⟨by rfl, ?_⟩) ?_ ?_
            rotate_left
            · intro w'
              go_simp
              with_reducible rfl
            rotate_left
            · simp only [Act.put, List.setIfInBounds_toArray, List.set_cons_zero, List.set_cons_succ, i64_w, i32_w]
              rfl
            refine take_ (i := 9) (N := some 30) (v := ?_) (a' := ?_) #[true, true, true, true, true, true, true, true, true, true, false, false, false, false, false, false] rfl rfl (take_ofW HT_.out HW_.out (by kernel_rfl)) (fun _ _ _ h => h) (Or.inl ⟨by rfl, ?_⟩) hHeld ?_ ?_
            rotate_left
            · rintro w' ⟨s0, s1, s2, s3, s4⟩
              go_simp
              with_reducible rfl
            rotate_left
            · simp only [Act.put, List.setIfInBounds_toArray, List.set_cons_zero, List.set_cons_succ, i64_w, i32_w]
              rfl
            refine one_ (i := 10) (N := some 31) #[true, true, true, true, true, true, true, true, true, true, true, false, false, false, false, false] rfl rfl (one_of HT_.out (by kernel_rfl)) (by decide) (fun K hK => ?_)
            refine goes_ Try.func102 (by kernel_rfl) rfl #[.int .i64 (wrap64 ((wrap64 (a0_0 + 1)) + x6)), .agg #[.int .i64 ((rd_T67 l0_2 x6).f0), .int .i64 ((rd_T67 l0_2 x6).f1), .string ((rd_T67 l0_2 x6).f2)]] (by rfl) rfl rfl (by (try simp only [List.map_toArray, List.map_cons, List.map_nil]); first | done | rfl) ?_
            with_reducible refine (spec_EntryText.calls k1 (wrap64 ((wrap64 (a0_0 + 1)) + x6)) ((rd_T67 l0_2 x6).f0) ((rd_T67 l0_2 x6).f1) ((rd_T67 l0_2 x6).f2) t1 o1 _ A1.out).mono ?_
            rintro e w11 ⟨rfl, hb⟩
            refine ⟨_, rfl, ?_⟩
            have HO1 := Aside0.mk (Kd.R_below HO0.out hb)
            have BK1 := Aside0.mk (blk_below BK0.out hb)
            have HB1 := Aside0.mk (below_step HB0.out hb)
            clear hb HO0 BK0 HB0
            refine hK.out _ _ ⟨(blk_cell BK1.out 0).trans rfl, (blk_cell BK1.out 2).trans rfl, (HB1.out.cell (World.block_lt_of_cell? w _ X0.out)).trans X0.out, (HB1.out.cell (World.block_lt_of_cell? w _ X1.out)).trans X1.out, (HB1.out.cell (World.block_lt_of_cell? w _ X2.out)).trans X2.out⟩ (fun hHeld => ?_)
            clear hK K
            refine norm_ (a' := ?_) ?_ ?_
            rotate_left
            · show Act.put _ (some 31) _ = _
              simp only [Act.put, List.setIfInBounds_toArray, List.set_cons_zero, List.set_cons_succ, i64_w, i32_w]
              rfl
            refine pure_ (i := 11) (N := some 20) (v := ?_) (a' := ?_) #[true, true, true, true, true, true, true, true, true, true, true, true, false, false, false, false] rfl rfl (any_of HT_.out (by kernel_rfl)) (fun _ _ _ h => h) (Or.inl ⟨by rfl, ?_⟩) ?_ ?_
            rotate_left
            · intro w'
              go_simp
              with_reducible rfl
            rotate_left
            · simp only [Act.put, List.setIfInBounds_toArray, List.set_cons_zero, List.set_cons_succ, i64_w, i32_w]
              rfl
            refine pure_ (i := 12) (N := some 32) (v := ?_) (a' := ?_) #[true, true, true, true, true, true, true, true, true, true, true, true, true, false, false, false] rfl rfl (any_of HT_.out (by kernel_rfl)) (fun _ _ _ h => h) (Or.inl ⟨by rfl, ?_⟩) ?_ ?_
            rotate_left
            · intro w'
              go_simp
              with_reducible rfl
            rotate_left
            · simp only [Act.put, List.setIfInBounds_toArray, List.set_cons_zero, List.set_cons_succ, i64_w, i32_w]
              rfl
            refine pure_ (i := 13) (N := some 33) (v := ?_) (a' := ?_) #[true, true, true, true, true, true, true, true, true, true, true, true, true, true, false, false] rfl rfl (any_of HT_.out (by kernel_rfl)) (fun _ _ _ h => h) (Or.inl ⟨by rfl, ?_⟩) ?_ ?_
            rotate_left
            · intro w'
              go_simp
              with_reducible rfl
            rotate_left
            · simp only [Act.put, List.setIfInBounds_toArray, List.set_cons_zero, List.set_cons_succ, i64_w, i32_w]
              rfl
            refine pure_ (i := 14) (N := some 7) (v := ?_) (a' := ?_) #[true, true, true, true, true, true, true, true, true, true, true, true, true, true, true, false] rfl rfl (any_of HT_.out (by kernel_rfl)) (fun _ _ _ h => h) (Or.inl ⟨by rfl, ?_⟩) ?_ ?_
            rotate_left
            · intro w'
              go_simp
              with_reducible rfl
            rotate_left
            · simp only [Act.put, List.setIfInBounds_toArray, List.set_cons_zero, List.set_cons_succ, i64_w, i32_w]
              rfl
            refine pure_ (i := 15) (N := some 8) (v := ?_) (a' := ?_) #[true, true, true, true, true, true, true, true, true, true, true, true, true, true, true, true] rfl rfl (any_of HT_.out (by kernel_rfl)) (fun _ _ _ h => h) (Or.inl ⟨by rfl, ?_⟩) ?_ ?_
            rotate_left
            · intro w'
              go_simp
              with_reducible rfl
            rotate_left
            · simp only [Act.put, List.setIfInBounds_toArray, List.set_cons_zero, List.set_cons_succ, i64_w, i32_w]
              rfl
            refine done_ (done_of HT_.out (by kernel_rfl)) ?_
            clear HT_ HW_ hHeld
            go_wp2_with (first
              | (go_at_call 134; refine (spec_Frame.calls k1 t1 t2 o2 _ A2.out).mono ?_; rintro e_ w12 ⟨rfl, hb⟩; have HO2 := Aside0.mk (Kd.R_below HO1.out hb); have BK2 := Aside0.mk (blk_below BK1.out hb); have HB2 := Aside0.mk (below_step HB1.out hb); clear hb; have hcv := Lib.run_convert_string_bytes (P := Try.prog) w12 9 22 5 t2 Try.underlying9 Try.underlying22 Try.underlying5)
              | ((with_reducible refine gate_builtin (b := .append) (xs := #[.tmp 39, .tmp 41]) rfl ?_); at_builtin; refine Kd.R_append_rows (Kd.int .u8) (w0 := w) w.heap.size rfl (.tmp 39) (.tmp 41) 22 5 (.int .u8 0) 1 rfl Try.underlying22 info5 rfl (by decide) (by omega) (.slice A5 x5.length c5) x5 (bytesOf t2) _ _ _ (fun _ => True) (fun _ => False) rfl rfl ?aO ?aR (fun _ _ h => h) (fun _ h => h.elim) ?aF ?aB ?aS ?aL ?_; (case aO => exact Kd.R_below HO2.out (spec_l07Frames.new_below w12 t2)); (case aR => exact spec_l07Frames.new_reads w12 t2 (by have := LM.out; omega)); (case aF => exact fun _ _ => trivial); (case aB => exact below_step HB2.out (spec_l07Frames.new_below w12 t2)); (case aS => exact (below_step HB2.out (spec_l07Frames.new_below w12 t2)).size); (case aL => have := LM.out; omega); intro v1 w13 ho hb hg hat; have HO3 := Aside0.mk ho; have BK3 := Aside0.mk (blk_grown (blk_below BK2.out (spec_l07Frames.new_below w12 t2)) hg (Kd.R_ne (Kd.R_below HO2.out (spec_l07Frames.new_below w12 t2)) (blk_below BK2.out (spec_l07Frames.new_below w12 t2)) (by decide))); have HB3 := Aside0.mk hb; clear ho hb hg hat hcv))
            go_roundg k1
            case measure => have := HK.out; omega
            case rel => exact ⟨x5 ++ bytesOf t2, wrap64 (x6 + 1), rfl, H', ⟨by have := HK.out; omega⟩, HO3, BK3, HB3⟩
          · rw [if_neg c6] at H
            exact absurd H (by simp)
        · rw [if_neg c5'] at H
          exact absurd H (by simp)
      · rw [if_neg c4] at H
        have c4b0 : decide (x6 < (l0_2.length : Int)) = false := decide_eq_false c4
        clear c4
        obtain rfl := Option.some.inj H
        have hcv := own_string (P := Try.prog) Try.underlying22 Try.underlying5 Try.underlying9 (Kd.own_of_R HO.out)
        go_wp2
        go_ret
        exact ⟨rfl, HB.out⟩

end Go.Proofs.Ytaainenplcokaaa.QFnExactJournalText
