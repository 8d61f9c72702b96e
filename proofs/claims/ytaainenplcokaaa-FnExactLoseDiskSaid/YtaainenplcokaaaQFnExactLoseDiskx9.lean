/- Written by the kit's print.py, called by our own print2.sh with one import more; not by print.sh. -/
import Derived.Test.YtaainenplcokaaaQFnExactLoseDiskx0
import Derived.Test.YtaainenplcokaaaQFnExactLoseDiskx1
import Derived.Test.YtaainenplcokaaaQFnExactLoseDiskx2
import Derived.Test.YtaainenplcokaaaQFnExactLoseDiskx4
import Derived.Test.YtaainenplcokaaaQFnExactLoseDiskx6
import Derived.Test.YtaainenplcokaaaQFnExactLoseDiskx7
import Derived.Test.YtaainenplcokaaaQFnExactLoseDiskx8
namespace Go.Proofs.Ytaainenplcokaaa.QFnExactLoseDisk
open Go.RowKit Go.Proofs.YtaainenplcokaaaW.PrintWords Go.Proofs.YtaainenplcokaaaW.PrintLast Go.Proofs.YtaainenplcokaaaW.PrintMore
attribute [local go_sem] max2_int min2_int max_two min_two max_three min_three max_four min_four   -- for this text's walks alone
set_option linter.unusedVariables false
set_option linter.unusedSimpArgs false

/-! ### laws_FnExactLoseDisk: function 9 -/
mutual
def laws_FnExactLoseDisk.j0 : Nat → List Int → Bool → List Int → Bool → Bool → List (S179) → List (S49) → List (S49) → List (S49) → Option (Bool)
  | 0, _, _, _, _, _, _, _, _, _ => none
  | k + 1, x1, x7, x9, x11, x51, x207000, x219000, x223000, x231000 => if x51 = true then (some false) else ((laws_toDisk.f k x207000).bind fun t232 => ((laws_eqDisk.f k x223000 t232).bind fun t235 => (if t235 = true then ((laws_toIntS.f k x1).bind fun t236 => ((laws_eqIntS.f k x9 t236).bind fun t239 => (if t239 = true then ((laws_markDisk.f k x223000 1).bind fun bt240 => ((laws_markIntS.f k x9 bt240.1).bind fun bt242 => (if bt242.1 < 0 then (laws_FnExactLoseDisk.j1 k x1 x7 true x207000 x219000 x231000) else ((laws_eqDisk.f k x231000 x219000).bind fun t244 => (if t244 = true then (laws_FnExactLoseDisk.j1 k x1 x7 (x11 != x7) x207000 x219000 x231000) else (laws_FnExactLoseDisk.j1 k x1 x7 true x207000 x219000 x231000)))))) else (some false)))) else (some false))))
def laws_FnExactLoseDisk.j1 : Nat → List Int → Bool → Bool → List (S179) → List (S49) → List (S49) → Option (Bool)
  | 0, _, _, _, _, _, _ => none
  | k + 1, x1, x7, x80, x207000, x219000, x231000 => if x80 = true then (some false) else ((laws_markDisk.f k x231000 1).bind fun bt245 => ((laws_heldDisk.f k bt245.2 1).bind fun t247 => (if t247 < 0 then (some false) else (if t247 = bt245.1 then ((laws_toDisk.f k x207000).bind fun t248 => ((laws_toIntS.f k x1).bind fun t251 => ((impl_LoseDisk.f k t248 t251).bind fun bt254 => ((laws_eqDisk.f k bt254.1 x219000).bind fun t259 => (if t259 = true then (laws_FnExactLoseDisk.j2 k bt245.1 (bt254.2 != x7) bt245.2) else (laws_FnExactLoseDisk.j2 k bt245.1 true bt245.2)))))) else (some false)))))
def laws_FnExactLoseDisk.j2 : Nat → Int → Bool → List (S49) → Option (Bool)
  | 0, _, _, _ => none
  | k + 1, x13, x108, x231000 => if x108 = true then (some false) else ((laws_heldDisk.f k x231000 1).bind fun t260 => (if t260 < 0 then (some false) else (if t260 = x13 then (some true) else (some false))))
end
def laws_FnExactLoseDisk.f (k : Nat) (l0_0 : List (S179)) (l1 : List Int) : Option (Bool) := if (l1.length : Int) > 1048576 then (some true) else ((laws_szDisk.f k l0_0 1048576).bind fun t207 => (if t207 < 0 then (some true) else ((laws_toDisk.f k l0_0).bind fun t208 => ((laws_toIntS.f k l1).bind fun t211 => ((spec_LoseDisk.f k t208 t211).bind fun bt214 => ((laws_toDisk.f k l0_0).bind fun t219 => ((laws_toIntS.f k l1).bind fun t223 => ((impl_LoseDisk.f k t219 t223).bind fun bt226 => ((laws_eqDisk.f k bt226.1 bt214.1).bind fun t231 => (if t231 = true then (laws_FnExactLoseDisk.j0 k l1 bt214.2 t223 bt226.2 (bt226.2 != bt214.2) l0_0 bt214.1 t219 bt226.1) else (laws_FnExactLoseDisk.j0 k l1 bt214.2 t223 bt226.2 true l0_0 bt214.1 t219 bt226.1)))))))))))
theorem laws_FnExactLoseDisk.mono_l : ∀ k, (∀ y0 y1 y2 y3 y4 y5 y6 y7 y8, LeO (laws_FnExactLoseDisk.j0 k y0 y1 y2 y3 y4 y5 y6 y7 y8) (laws_FnExactLoseDisk.j0 (k + 1) y0 y1 y2 y3 y4 y5 y6 y7 y8)) ∧ (∀ y0 y1 y2 y3 y4 y5, LeO (laws_FnExactLoseDisk.j1 k y0 y1 y2 y3 y4 y5) (laws_FnExactLoseDisk.j1 (k + 1) y0 y1 y2 y3 y4 y5)) ∧ (∀ y0 y1 y2, LeO (laws_FnExactLoseDisk.j2 k y0 y1 y2) (laws_FnExactLoseDisk.j2 (k + 1) y0 y1 y2))
  | 0 => ⟨fun _ _ _ _ _ _ _ _ _ r h => by simp [laws_FnExactLoseDisk.j0] at h, fun _ _ _ _ _ _ r h => by simp [laws_FnExactLoseDisk.j1] at h, fun _ _ _ r h => by simp [laws_FnExactLoseDisk.j2] at h⟩
  | k + 1 => by
    obtain ⟨ih0, ih1, ih2⟩ := laws_FnExactLoseDisk.mono_l k
    refine ⟨?_, ?_, ?_⟩
    · intro y0 y1 y2 y3 y4 y5 y6 y7 y8
      unfold laws_FnExactLoseDisk.j0
      repeat' first
      | (with_reducible exact ih0 _ _ _ _ _ _ _ _ _)
      | (with_reducible exact ih1 _ _ _ _ _ _)
      | (with_reducible exact ih2 _ _ _)
      | (with_reducible exact impl_LoseDisk.mono _ _ _)
      | (with_reducible exact laws_eqDisk.mono _ _ _)
      | (with_reducible exact laws_eqIntS.mono _ _ _)
      | (with_reducible exact laws_heldDisk.mono _ _ _)
      | (with_reducible exact laws_markDisk.mono _ _ _)
      | (with_reducible exact laws_markIntS.mono _ _ _)
      | (with_reducible exact laws_szDisk.mono _ _ _)
      | (with_reducible exact laws_toDisk.mono _ _)
      | (with_reducible exact laws_toIntS.mono _ _)
      | (with_reducible exact spec_LoseDisk.mono _ _ _)
      | (with_reducible exact LeO.refl _)
      | (with_reducible exact LeO.none _)
      | (with_reducible refine LeO.ite ?_ ?_)
      | (with_reducible refine LeO.bind ?_ (fun _ => ?_))
      | exact ih0 _ _ _ _ _ _ _ _ _
      | exact ih1 _ _ _ _ _ _
      | exact ih2 _ _ _
      | exact impl_LoseDisk.mono _ _ _
      | exact laws_eqDisk.mono _ _ _
      | exact laws_eqIntS.mono _ _ _
      | exact laws_heldDisk.mono _ _ _
      | exact laws_markDisk.mono _ _ _
      | exact laws_markIntS.mono _ _ _
      | exact laws_szDisk.mono _ _ _
      | exact laws_toDisk.mono _ _
      | exact laws_toIntS.mono _ _
      | exact spec_LoseDisk.mono _ _ _
      | exact LeO.none _
      | refine LeO.ite ?_ ?_
      | refine LeO.bind ?_ (fun _ => ?_)
    · intro y0 y1 y2 y3 y4 y5
      unfold laws_FnExactLoseDisk.j1
      repeat' first
      | (with_reducible exact ih0 _ _ _ _ _ _ _ _ _)
      | (with_reducible exact ih1 _ _ _ _ _ _)
      | (with_reducible exact ih2 _ _ _)
      | (with_reducible exact impl_LoseDisk.mono _ _ _)
      | (with_reducible exact laws_eqDisk.mono _ _ _)
      | (with_reducible exact laws_eqIntS.mono _ _ _)
      | (with_reducible exact laws_heldDisk.mono _ _ _)
      | (with_reducible exact laws_markDisk.mono _ _ _)
      | (with_reducible exact laws_markIntS.mono _ _ _)
      | (with_reducible exact laws_szDisk.mono _ _ _)
      | (with_reducible exact laws_toDisk.mono _ _)
      | (with_reducible exact laws_toIntS.mono _ _)
      | (with_reducible exact spec_LoseDisk.mono _ _ _)
      | (with_reducible exact LeO.refl _)
      | (with_reducible exact LeO.none _)
      | (with_reducible refine LeO.ite ?_ ?_)
      | (with_reducible refine LeO.bind ?_ (fun _ => ?_))
      | exact ih0 _ _ _ _ _ _ _ _ _
      | exact ih1 _ _ _ _ _ _
      | exact ih2 _ _ _
      | exact impl_LoseDisk.mono _ _ _
      | exact laws_eqDisk.mono _ _ _
      | exact laws_eqIntS.mono _ _ _
      | exact laws_heldDisk.mono _ _ _
      | exact laws_markDisk.mono _ _ _
      | exact laws_markIntS.mono _ _ _
      | exact laws_szDisk.mono _ _ _
      | exact laws_toDisk.mono _ _
      | exact laws_toIntS.mono _ _
      | exact spec_LoseDisk.mono _ _ _
      | exact LeO.none _
      | refine LeO.ite ?_ ?_
      | refine LeO.bind ?_ (fun _ => ?_)
    · intro y0 y1 y2
      unfold laws_FnExactLoseDisk.j2
      repeat' first
      | (with_reducible exact ih0 _ _ _ _ _ _ _ _ _)
      | (with_reducible exact ih1 _ _ _ _ _ _)
      | (with_reducible exact ih2 _ _ _)
      | (with_reducible exact impl_LoseDisk.mono _ _ _)
      | (with_reducible exact laws_eqDisk.mono _ _ _)
      | (with_reducible exact laws_eqIntS.mono _ _ _)
      | (with_reducible exact laws_heldDisk.mono _ _ _)
      | (with_reducible exact laws_markDisk.mono _ _ _)
      | (with_reducible exact laws_markIntS.mono _ _ _)
      | (with_reducible exact laws_szDisk.mono _ _ _)
      | (with_reducible exact laws_toDisk.mono _ _)
      | (with_reducible exact laws_toIntS.mono _ _)
      | (with_reducible exact spec_LoseDisk.mono _ _ _)
      | (with_reducible exact LeO.refl _)
      | (with_reducible exact LeO.none _)
      | (with_reducible refine LeO.ite ?_ ?_)
      | (with_reducible refine LeO.bind ?_ (fun _ => ?_))
      | exact ih0 _ _ _ _ _ _ _ _ _
      | exact ih1 _ _ _ _ _ _
      | exact ih2 _ _ _
      | exact impl_LoseDisk.mono _ _ _
      | exact laws_eqDisk.mono _ _ _
      | exact laws_eqIntS.mono _ _ _
      | exact laws_heldDisk.mono _ _ _
      | exact laws_markDisk.mono _ _ _
      | exact laws_markIntS.mono _ _ _
      | exact laws_szDisk.mono _ _ _
      | exact laws_toDisk.mono _ _
      | exact laws_toIntS.mono _ _
      | exact spec_LoseDisk.mono _ _ _
      | exact LeO.none _
      | refine LeO.ite ?_ ?_
      | refine LeO.bind ?_ (fun _ => ?_)
theorem laws_FnExactLoseDisk.mono : ∀ a0 a1 k, LeO (laws_FnExactLoseDisk.f k a0 a1) (laws_FnExactLoseDisk.f (k + 1) a0 a1) := by
  intro a0 a1 k
  obtain ⟨ih0, ih1, ih2⟩ := laws_FnExactLoseDisk.mono_l k
  unfold laws_FnExactLoseDisk.f
  repeat' first
      | (with_reducible exact ih0 _ _ _ _ _ _ _ _ _)
      | (with_reducible exact ih1 _ _ _ _ _ _)
      | (with_reducible exact ih2 _ _ _)
      | (with_reducible exact impl_LoseDisk.mono _ _ _)
      | (with_reducible exact laws_eqDisk.mono _ _ _)
      | (with_reducible exact laws_eqIntS.mono _ _ _)
      | (with_reducible exact laws_heldDisk.mono _ _ _)
      | (with_reducible exact laws_markDisk.mono _ _ _)
      | (with_reducible exact laws_markIntS.mono _ _ _)
      | (with_reducible exact laws_szDisk.mono _ _ _)
      | (with_reducible exact laws_toDisk.mono _ _)
      | (with_reducible exact laws_toIntS.mono _ _)
      | (with_reducible exact spec_LoseDisk.mono _ _ _)
      | (with_reducible exact LeO.refl _)
      | (with_reducible exact LeO.none _)
      | (with_reducible refine LeO.ite ?_ ?_)
      | (with_reducible refine LeO.bind ?_ (fun _ => ?_))
      | exact ih0 _ _ _ _ _ _ _ _ _
      | exact ih1 _ _ _ _ _ _
      | exact ih2 _ _ _
      | exact impl_LoseDisk.mono _ _ _
      | exact laws_eqDisk.mono _ _ _
      | exact laws_eqIntS.mono _ _ _
      | exact laws_heldDisk.mono _ _ _
      | exact laws_markDisk.mono _ _ _
      | exact laws_markIntS.mono _ _ _
      | exact laws_szDisk.mono _ _ _
      | exact laws_toDisk.mono _ _
      | exact laws_toIntS.mono _ _
      | exact spec_LoseDisk.mono _ _ _
      | exact LeO.none _
      | refine LeO.ite ?_ ?_
      | refine LeO.bind ?_ (fun _ => ?_)
set_option maxHeartbeats 8000000 in
set_option maxRecDepth 100000 in
theorem laws_FnExactLoseDisk.calls (k : Nat) (A0_0 : Option Addr) (c0_0 : Nat) (l0_0 : List (S179)) (A1 : Option Addr) (c1 : Nat) (l1 : List Int) (r : Bool) (w : World) (hr0_0 : Kd.C k179 w A0_0 l0_0.length l0_0) (hc0_0 : l0_0.length ≤ c0_0) (hr1 : Kd.C (Kd.int .i64) w A1 l1.length l1) (hc1 : l1.length ≤ c1) (h : laws_FnExactLoseDisk.f k l0_0 l1 = some r) (hrt : r = true := by rfl) :
    Calls Try.prog 9 #[.agg #[.slice A0_0 l0_0.length c0_0], .slice A1 l1.length c1] w fun e w' => e = .returned (.bool r) ∧ Below w.heap.size w w' := by
  have hu34 := Try.underlying34
  have hu39 := Try.underlying39
  have HR0_0 := Aside0.mk hr0_0
  have HC0_0 := Aside0.mk hc0_0
  clear hr0_0 hc0_0
  have HR1 := Aside0.mk hr1
  have HC1 := Aside0.mk hc1
  clear hr1 hc1
  have HB := Aside0.mk (Below.refl w.heap.size w)
  have HLT := Aside0.mk hrt
  clear hrt
  have H : (if (l1.length : Int) > 1048576 then (some true) else ((laws_szDisk.f k l0_0 1048576).bind fun t207 => (if t207 < 0 then (some true) else ((laws_toDisk.f k l0_0).bind fun t208 => ((laws_toIntS.f k l1).bind fun t211 => ((spec_LoseDisk.f k t208 t211).bind fun bt214 => ((laws_toDisk.f k l0_0).bind fun t219 => ((laws_toIntS.f k l1).bind fun t223 => ((impl_LoseDisk.f k t219 t223).bind fun bt226 => ((laws_eqDisk.f k bt226.1 bt214.1).bind fun t231 => (if t231 = true then (laws_FnExactLoseDisk.j0 k l1 bt214.2 t223 bt226.2 (bt226.2 != bt214.2) l0_0 bt214.1 t219 bt226.1) else (laws_FnExactLoseDisk.j0 k l1 bt214.2 t223 bt226.2 true l0_0 bt214.1 t219 bt226.1)))))))))))) = some r := h
  clear h
  by_cases c3 : (l1.length : Int) > 1048576
  · rw [if_pos c3] at H
    have c3b0 : decide (1048576 < (l1.length : Int)) = true := decide_eq_true c3
    have c3b1 : decide (1048576 < l1.length) = true := decide_eq_true (by omega)
    clear c3
    obtain rfl := Option.some.inj H
    go_enter Try.func9, Try.ntmps9
    go_wp2_with (first | ((with_reducible refine gate_dst (N := 2) rfl ?_); refine box_event ?hg (N := 2) ?hd (cs := #[.slice A0_0 l0_0.length c0_0]) (t := 34) ?hr ?_; (case hd => rfl); (case hg => rfl); (case hr => first | (go_simp; done) | (go_simp; rfl)); intro gb206 hg w4 hbox hb; have n0_ := Aside0.mk (below_step (by repeat (first | (with_reducible first | exact HB.out | apply below_alloc | apply pw_below_drewN | apply below_drew1) | exact HB.out)) hb); have n1_ := Aside0.mk (hbox); have n2_ := Aside0.mk ((by rw [hg]; exact (below_size (by repeat (first | (with_reducible first | exact HB.out | apply below_alloc | apply pw_below_drewN | apply below_drew1) | exact HB.out))) : w.heap.size ≤ gb206)); have n3_ := Aside0.mk ((by rw [hg]; exact (below_size (by repeat (first | (with_reducible first | exact HB.out | apply below_alloc | apply pw_below_drewN | apply below_drew1) | exact HB.out))) : w.heap.size ≤ gb206)); clear HB; have HB := n0_; have BK206 := n1_; have GW206 := n2_; have GE206 := n3_; clear n0_ n1_ n2_ n3_; clear hb hbox hg))
    go_ret
    exact ⟨by first | rfl | (simp [errW_none, errW_some] <;> rfl) | (simp [*, errW_none, errW_some] <;> rfl), by repeat (first | (with_reducible first | exact HB.out | apply below_alloc | apply pw_below_drewN | apply below_drew1 | refine below_set ?_ GE206.out) | exact HB.out)⟩
  · rw [if_neg c3] at H
    have c3b0 : decide (1048576 < (l1.length : Int)) = false := decide_eq_false c3
    have c3b1 : decide (1048576 < l1.length) = false := decide_eq_false (by omega)
    clear c3
    replace H := Option.bind_eq_some_iff.mp H
    obtain ⟨t207, A50, H⟩ := H
    replace H : (if t207 < 0 then (some true) else ((laws_toDisk.f k l0_0).bind fun t208 => ((laws_toIntS.f k l1).bind fun t211 => ((spec_LoseDisk.f k t208 t211).bind fun bt214 => ((laws_toDisk.f k l0_0).bind fun t219 => ((laws_toIntS.f k l1).bind fun t223 => ((impl_LoseDisk.f k t219 t223).bind fun bt226 => ((laws_eqDisk.f k bt226.1 bt214.1).bind fun t231 => (if t231 = true then (laws_FnExactLoseDisk.j0 k l1 bt214.2 t223 bt226.2 (bt226.2 != bt214.2) l0_0 bt214.1 t219 bt226.1) else (laws_FnExactLoseDisk.j0 k l1 bt214.2 t223 bt226.2 true l0_0 bt214.1 t219 bt226.1)))))))))) = some r := H
    have A5 := Aside0.mk A50
    clear A50
    by_cases c6 : t207 < 0
    · rw [if_pos c6] at H
      have c6b0 : decide (t207 < 0) = true := decide_eq_true c6
      clear c6
      obtain rfl := Option.some.inj H
      go_enter Try.func9, Try.ntmps9
      go_wp2_with (first | ((with_reducible refine gate_dst (N := 2) rfl ?_); refine box_event ?hg (N := 2) ?hd (cs := #[.slice A0_0 l0_0.length c0_0]) (t := 34) ?hr ?_; (case hd => rfl); (case hg => rfl); (case hr => first | (go_simp; done) | (go_simp; rfl)); intro gb206 hg w7 hbox hb; have n0_ := Aside0.mk (below_step (by repeat (first | (with_reducible first | exact HB.out | apply below_alloc | apply pw_below_drewN | apply below_drew1) | exact HB.out)) hb); have n1_ := Aside0.mk (hbox); have n2_ := Aside0.mk ((by rw [hg]; exact (below_size (by repeat (first | (with_reducible first | exact HB.out | apply below_alloc | apply pw_below_drewN | apply below_drew1) | exact HB.out))) : w.heap.size ≤ gb206)); have n3_ := Aside0.mk ((by rw [hg]; exact (below_size (by repeat (first | (with_reducible first | exact HB.out | apply below_alloc | apply pw_below_drewN | apply below_drew1) | exact HB.out))) : w.heap.size ≤ gb206)); clear HB; have HB := n0_; have BK206 := n1_; have GW206 := n2_; have GE206 := n3_; clear n0_ n1_ n2_ n3_; clear hb hbox hg; have hcz8_0 : w7.cell? ⟨gb206, 0, none⟩ = some (.slice A0_0 l0_0.length c0_0) := (blk_cell BK206.out 0).trans rfl; have hfz8_0 := blk_frozen BK206.out 0) | ((with_reducible refine gate_callee (f := 22) rfl ?_); refine goesL_ (some 22) rfl rfl Try.func22 (by kernel_rfl) rfl #[.agg #[.slice A0_0 l0_0.length c0_0], .int .i64 1048576] rfl (by (try simp only [List.map_toArray, List.map_cons, List.map_nil]); first | done | rfl | (simp only [List.length_drop, List.length_take]; rfl)) ?_; (with_reducible refine (laws_szDisk.calls k _ _ l0_0 1048576 t207 _ ?side1 ?side2 A5.out).mono ?_); (case side1 => repeat (first | exact (Kd.C_below HR0_0.out HB.out) | (with_reducible refine Kd.C_alloc ?_ _) | (with_reducible refine Kd.C_drewN ?_ _) | (with_reducible refine Kd.C_drew ?_))); (case side2 => exact HC0_0.out); rintro e w9 ⟨rfl, hb⟩; refine ⟨_, rfl, ?_⟩; have n0_ := Aside0.mk (blk_below (g := gb206) (o := .cells #[.slice A0_0 l0_0.length c0_0] 34 (0, 0)) (by (with_reducible repeat (first | refine blk_drewN ?_ _ | refine blk_drew ?_ | refine blk_alloc ?_ _)); exact BK206.out) hb); have n1_ := Aside0.mk (below_step (by repeat (first | (with_reducible first | exact HB.out | apply below_alloc | apply pw_below_drewN | apply below_drew1 | refine below_set ?_ GE206.out) | exact HB.out)) hb); clear BK206; clear HB; have BK206 := n0_; have HB := n1_; clear n0_ n1_; (try clear hb); (try clear hb2); (try clear hk); (try clear hi)))
      go_ret
      exact ⟨by first | rfl | (simp [errW_none, errW_some] <;> rfl) | (simp [*, errW_none, errW_some] <;> rfl), by repeat (first | (with_reducible first | exact HB.out | apply below_alloc | apply pw_below_drewN | apply below_drew1 | refine below_set ?_ GE206.out) | exact HB.out)⟩
    · rw [if_neg c6] at H
      have c6b0 : decide (t207 < 0) = false := decide_eq_false c6
      clear c6
      replace H := Option.bind_eq_some_iff.mp H
      obtain ⟨t208, A100, H⟩ := H
      replace H : ((laws_toIntS.f k l1).bind fun t211 => ((spec_LoseDisk.f k t208 t211).bind fun bt214 => ((laws_toDisk.f k l0_0).bind fun t219 => ((laws_toIntS.f k l1).bind fun t223 => ((impl_LoseDisk.f k t219 t223).bind fun bt226 => ((laws_eqDisk.f k bt226.1 bt214.1).bind fun t231 => (if t231 = true then (laws_FnExactLoseDisk.j0 k l1 bt214.2 t223 bt226.2 (bt226.2 != bt214.2) l0_0 bt214.1 t219 bt226.1) else (laws_FnExactLoseDisk.j0 k l1 bt214.2 t223 bt226.2 true l0_0 bt214.1 t219 bt226.1)))))))) = some r := H
      have A10 := Aside0.mk A100
      clear A100
      replace H := Option.bind_eq_some_iff.mp H
      obtain ⟨t211, A110, H⟩ := H
      replace H : ((spec_LoseDisk.f k t208 t211).bind fun bt214 => ((laws_toDisk.f k l0_0).bind fun t219 => ((laws_toIntS.f k l1).bind fun t223 => ((impl_LoseDisk.f k t219 t223).bind fun bt226 => ((laws_eqDisk.f k bt226.1 bt214.1).bind fun t231 => (if t231 = true then (laws_FnExactLoseDisk.j0 k l1 bt214.2 t223 bt226.2 (bt226.2 != bt214.2) l0_0 bt214.1 t219 bt226.1) else (laws_FnExactLoseDisk.j0 k l1 bt214.2 t223 bt226.2 true l0_0 bt214.1 t219 bt226.1))))))) = some r := H
      have A11 := Aside0.mk A110
      clear A110
      replace H := Option.bind_eq_some_iff.mp H
      obtain ⟨⟨t214, t217⟩, A120, H⟩ := H
      replace H : ((laws_toDisk.f k l0_0).bind fun t219 => ((laws_toIntS.f k l1).bind fun t223 => ((impl_LoseDisk.f k t219 t223).bind fun bt226 => ((laws_eqDisk.f k bt226.1 t214).bind fun t231 => (if t231 = true then (laws_FnExactLoseDisk.j0 k l1 t217 t223 bt226.2 (bt226.2 != t217) l0_0 t214 t219 bt226.1) else (laws_FnExactLoseDisk.j0 k l1 t217 t223 bt226.2 true l0_0 t214 t219 bt226.1)))))) = some r := H
      have A12 := Aside0.mk A120
      clear A120
      replace H := Option.bind_eq_some_iff.mp H
      obtain ⟨t219, A130, H⟩ := H
      replace H : ((laws_toIntS.f k l1).bind fun t223 => ((impl_LoseDisk.f k t219 t223).bind fun bt226 => ((laws_eqDisk.f k bt226.1 t214).bind fun t231 => (if t231 = true then (laws_FnExactLoseDisk.j0 k l1 t217 t223 bt226.2 (bt226.2 != t217) l0_0 t214 t219 bt226.1) else (laws_FnExactLoseDisk.j0 k l1 t217 t223 bt226.2 true l0_0 t214 t219 bt226.1))))) = some r := H
      have A13 := Aside0.mk A130
      clear A130
      replace H := Option.bind_eq_some_iff.mp H
      obtain ⟨t223, A140, H⟩ := H
      replace H : ((impl_LoseDisk.f k t219 t223).bind fun bt226 => ((laws_eqDisk.f k bt226.1 t214).bind fun t231 => (if t231 = true then (laws_FnExactLoseDisk.j0 k l1 t217 t223 bt226.2 (bt226.2 != t217) l0_0 t214 t219 bt226.1) else (laws_FnExactLoseDisk.j0 k l1 t217 t223 bt226.2 true l0_0 t214 t219 bt226.1)))) = some r := H
      have A14 := Aside0.mk A140
      clear A140
      replace H := Option.bind_eq_some_iff.mp H
      obtain ⟨⟨t226, t229⟩, A150, H⟩ := H
      replace H : ((laws_eqDisk.f k t226 t214).bind fun t231 => (if t231 = true then (laws_FnExactLoseDisk.j0 k l1 t217 t223 t229 (t229 != t217) l0_0 t214 t219 t226) else (laws_FnExactLoseDisk.j0 k l1 t217 t223 t229 true l0_0 t214 t219 t226))) = some r := H
      have A15 := Aside0.mk A150
      clear A150
      have HC16 := Aside0.mk H
      clear H
      go_enter Try.func9, Try.ntmps9
      go_upto_region 11 with (first | ((with_reducible refine gate_dst (N := 2) rfl ?_); refine box_event ?hg (N := 2) ?hd (cs := #[.slice A0_0 l0_0.length c0_0]) (t := 34) ?hr ?_; (case hd => rfl); (case hg => rfl); (case hr => first | (go_simp; done) | (go_simp; rfl)); intro gb206 hg w17 hbox hb; have n0_ := Aside0.mk (below_step (by repeat (first | (with_reducible first | exact HB.out | apply below_alloc | apply pw_below_drewN | apply below_drew1) | exact HB.out)) hb); have n1_ := Aside0.mk (hbox); have n2_ := Aside0.mk ((by rw [hg]; exact (below_size (by repeat (first | (with_reducible first | exact HB.out | apply below_alloc | apply pw_below_drewN | apply below_drew1) | exact HB.out))) : w.heap.size ≤ gb206)); have n3_ := Aside0.mk ((by rw [hg]; exact (below_size (by repeat (first | (with_reducible first | exact HB.out | apply below_alloc | apply pw_below_drewN | apply below_drew1) | exact HB.out))) : w.heap.size ≤ gb206)); clear HB; have HB := n0_; have BK206 := n1_; have GW206 := n2_; have GE206 := n3_; clear n0_ n1_ n2_ n3_; clear hb hbox hg; have hcz18_0 : w17.cell? ⟨gb206, 0, none⟩ = some (.slice A0_0 l0_0.length c0_0) := (blk_cell BK206.out 0).trans rfl; have hfz18_0 := blk_frozen BK206.out 0) | ((with_reducible refine gate_callee (f := 22) rfl ?_); refine goesL_ (some 22) rfl rfl Try.func22 (by kernel_rfl) rfl #[.agg #[.slice A0_0 l0_0.length c0_0], .int .i64 1048576] rfl (by (try simp only [List.map_toArray, List.map_cons, List.map_nil]); first | done | rfl | (simp only [List.length_drop, List.length_take]; rfl)) ?_; (with_reducible refine (laws_szDisk.calls k _ _ l0_0 1048576 t207 _ ?side1 ?side2 A5.out).mono ?_); (case side1 => repeat (first | exact (Kd.C_below HR0_0.out HB.out) | (with_reducible refine Kd.C_alloc ?_ _) | (with_reducible refine Kd.C_drewN ?_ _) | (with_reducible refine Kd.C_drew ?_))); (case side2 => exact HC0_0.out); rintro e w19 ⟨rfl, hb⟩; refine ⟨_, rfl, ?_⟩; have n0_ := Aside0.mk (blk_below (g := gb206) (o := .cells #[.slice A0_0 l0_0.length c0_0] 34 (0, 0)) (by (with_reducible repeat (first | refine blk_drewN ?_ _ | refine blk_drew ?_ | refine blk_alloc ?_ _)); exact BK206.out) hb); have n1_ := Aside0.mk (below_step (by repeat (first | (with_reducible first | exact HB.out | apply below_alloc | apply pw_below_drewN | apply below_drew1 | refine below_set ?_ GE206.out) | exact HB.out)) hb); clear BK206; clear HB; have BK206 := n0_; have HB := n1_; clear n0_ n1_; (try clear hb); (try clear hb2); (try clear hk); (try clear hi); have hcz20_0 : w19.cell? ⟨gb206, 0, none⟩ = some (.slice A0_0 l0_0.length c0_0) := (blk_cell BK206.out 0).trans rfl; have hfz20_0 := blk_frozen BK206.out 0) | ((with_reducible refine gate_callee (f := 24) rfl ?_); refine goesL_ (some 27) rfl rfl Try.func24 (by kernel_rfl) rfl #[.agg #[.slice A0_0 l0_0.length c0_0]] rfl (by (try simp only [List.map_toArray, List.map_cons, List.map_nil]); first | done | rfl | (simp only [List.length_drop, List.length_take]; rfl)) ?_; (with_reducible refine (laws_toDisk.calls k _ _ l0_0 t208 _ ?side1 ?side2 A10.out).mono ?_); (case side1 => repeat (first | exact (Kd.C_below HR0_0.out HB.out) | (with_reducible refine Kd.C_alloc ?_ _) | (with_reducible refine Kd.C_drewN ?_ _) | (with_reducible refine Kd.C_drew ?_))); (case side2 => exact HC0_0.out); rintro e w21 ⟨v209, rfl, ho0, hb⟩; refine ⟨_, rfl, ?_⟩; have n0_ := Aside0.mk (Kd.R_lower ho0 (below_size (by repeat (first | (with_reducible first | exact HB.out | apply below_alloc | apply pw_below_drewN | apply below_drew1 | refine below_set ?_ GE206.out) | exact HB.out)))); have n1_ := Aside0.mk (blk_below (g := gb206) (o := .cells #[.slice A0_0 l0_0.length c0_0] 34 (0, 0)) (by (with_reducible repeat (first | refine blk_drewN ?_ _ | refine blk_drew ?_ | refine blk_alloc ?_ _)); exact BK206.out) hb); have n2_ := Aside0.mk (below_step (by repeat (first | (with_reducible first | exact HB.out | apply below_alloc | apply pw_below_drewN | apply below_drew1 | refine below_set ?_ GE206.out) | exact HB.out)) hb); clear BK206; clear HB; have HO210 := n0_; have BK206 := n1_; have HB := n2_; clear n0_ n1_ n2_; (try clear hb); (try clear hb2); (try clear hk); (try clear hi); (try clear ho0)) | ((with_reducible refine gate_callee (f := 48) rfl ?_); refine goesL_ (some 29) rfl rfl Try.func48 (by kernel_rfl) rfl #[.slice A1 l1.length c1] rfl (by (try simp only [List.map_toArray, List.map_cons, List.map_nil]); first | done | rfl | (simp only [List.length_drop, List.length_take]; rfl)) ?_; (with_reducible refine (laws_toIntS.calls k _ _ l1 t211 _ ?side1 ?side2 A11.out).mono ?_); (case side1 => repeat (first | exact (Kd.C_below HR1.out HB.out) | (with_reducible refine Kd.C_alloc ?_ _) | (with_reducible refine Kd.C_drewN ?_ _) | (with_reducible refine Kd.C_drew ?_))); (case side2 => exact HC1.out); rintro e w22 ⟨v212, rfl, ho0, hb⟩; refine ⟨_, rfl, ?_⟩; have n0_ := Aside0.mk (Kd.R_below (by (with_reducible repeat (first | apply Kd.R_alloc | apply Kd.R_drewN | apply Kd.R_drew)); exact HO210.out) hb); have n1_ := Aside0.mk (Kd.R_lower ho0 (below_size (by repeat (first | (with_reducible first | exact HB.out | apply below_alloc | apply pw_below_drewN | apply below_drew1 | refine below_set ?_ GE206.out) | exact HB.out)))); have n2_ := Aside0.mk (blk_below (g := gb206) (o := .cells #[.slice A0_0 l0_0.length c0_0] 34 (0, 0)) (by (with_reducible repeat (first | refine blk_drewN ?_ _ | refine blk_drew ?_ | refine blk_alloc ?_ _)); exact BK206.out) hb); have n3_ := Aside0.mk (below_step (by repeat (first | (with_reducible first | exact HB.out | apply below_alloc | apply pw_below_drewN | apply below_drew1 | refine below_set ?_ GE206.out) | exact HB.out)) hb); clear HO210; clear BK206; clear HB; have HO210 := n0_; have HO213 := n1_; have BK206 := n2_; have HB := n3_; clear n0_ n1_ n2_ n3_; (try clear hb); (try clear hb2); (try clear hk); (try clear hi); (try clear ho0); obtain ⟨Ao23, co23, eo23⟩ := Kd.R_slice HO210.out; subst eo23; obtain ⟨Ao24, co24, eo24⟩ := Kd.R_slice HO213.out; subst eo24) | ((with_reducible refine gate_callee (f := 47) rfl ?_); refine goesL_ (some 30) rfl rfl Try.func47 (by kernel_rfl) rfl #[.agg #[.slice Ao23 t208.length co23], .slice Ao24 t211.length co24] rfl (by (try simp only [List.map_toArray, List.map_cons, List.map_nil]); first | done | rfl | (simp only [List.length_drop, List.length_take]; rfl)) ?_; (with_reducible refine (spec_LoseDisk.calls k _ _ t208 _ _ t211 t214 t217 _ ?side1 ?side2 ?side3 ?side4 A12.out).mono ?_); (case side1 => repeat (first | exact (Kd.R_reads' HO210.out).2.2 | (with_reducible refine Kd.C_alloc ?_ _) | (with_reducible refine Kd.C_drewN ?_ _) | (with_reducible refine Kd.C_drew ?_))); (case side2 => exact (Kd.R_reads' HO210.out).2.1); (case side3 => repeat (first | exact (Kd.R_reads' HO213.out).2.2 | (with_reducible refine Kd.C_alloc ?_ _) | (with_reducible refine Kd.C_drewN ?_ _) | (with_reducible refine Kd.C_drew ?_))); (case side4 => exact (Kd.R_reads' HO213.out).2.1); rintro e w25 ⟨v215, rfl, ho0, hb⟩; refine ⟨_, rfl, ?_⟩; have n0_ := Aside0.mk (Kd.R_elder' (by (with_reducible repeat (first | apply Kd.R_alloc | apply Kd.R_drewN | apply Kd.R_drew)); exact HO210.out) (Kd.R_base ho0) hb); have n1_ := Aside0.mk (Kd.R_below (by (with_reducible repeat (first | apply Kd.R_alloc | apply Kd.R_drewN | apply Kd.R_drew)); exact HO213.out) hb); have n2_ := Aside0.mk (Kd.R_lower (Kd.R_new' ho0 (Kd.R_lt (by (with_reducible repeat (first | apply Kd.R_alloc | apply Kd.R_drewN | apply Kd.R_drew)); exact HO210.out))) (below_size (by repeat (first | (with_reducible first | exact HB.out | apply below_alloc | apply pw_below_drewN | apply below_drew1 | refine below_set ?_ GE206.out) | exact HB.out)))); have n3_ := Aside0.mk (blk_below (g := gb206) (o := .cells #[.slice A0_0 l0_0.length c0_0] 34 (0, 0)) (by (with_reducible repeat (first | refine blk_drewN ?_ _ | refine blk_drew ?_ | refine blk_alloc ?_ _)); exact BK206.out) hb); have n4_ := Aside0.mk (below_step (by repeat (first | (with_reducible first | exact HB.out | apply below_alloc | apply pw_below_drewN | apply below_drew1 | refine below_set ?_ GE206.out) | exact HB.out)) hb); clear HO210; clear HO213; clear BK206; clear HB; have HO210 := n0_; have HO213 := n1_; have HO216 := n2_; have BK206 := n3_; have HB := n4_; clear n0_ n1_ n2_ n3_ n4_; (try clear hb); (try clear hb2); (try clear hk); (try clear hi); (try clear ho0)) | ((with_reducible refine gate_dst (N := 6) rfl ?_); refine box_event ?hg (N := 6) ?hd (cs := #[.slice none 0 0]) (t := 39) ?hr ?_; (case hd => rfl); (case hg => rfl); (case hr => first | (go_simp; done) | (go_simp; rfl)); intro gb218 hg w26 hbox hb; have n0_ := Aside0.mk (Kd.R_below (by (with_reducible repeat (first | apply Kd.R_alloc | apply Kd.R_drewN | apply Kd.R_drew)); exact HO210.out) hb); have n1_ := Aside0.mk (Kd.R_below (by (with_reducible repeat (first | apply Kd.R_alloc | apply Kd.R_drewN | apply Kd.R_drew)); exact HO213.out) hb); have n2_ := Aside0.mk (Kd.R_below (by (with_reducible repeat (first | apply Kd.R_alloc | apply Kd.R_drewN | apply Kd.R_drew)); exact HO216.out) hb); have n3_ := Aside0.mk (blk_below (g := gb206) (o := .cells #[.slice A0_0 l0_0.length c0_0] 34 (0, 0)) (by (with_reducible repeat (first | refine blk_drewN ?_ _ | refine blk_drew ?_ | refine blk_alloc ?_ _)); exact BK206.out) hb); have n4_ := Aside0.mk (below_step (by repeat (first | (with_reducible first | exact HB.out | apply below_alloc | apply pw_below_drewN | apply below_drew1 | refine below_set ?_ GE206.out) | exact HB.out)) hb); have n5_ := Aside0.mk (hbox); have n6_ := Aside0.mk ((by rw [hg]; exact (below_size (by repeat (first | (with_reducible first | exact HB.out | apply below_alloc | apply pw_below_drewN | apply below_drew1 | refine below_set ?_ GE206.out) | exact HB.out))) : w.heap.size ≤ gb218)); have n7_ := Aside0.mk ((by rw [hg]; exact (below_size (by repeat (first | (with_reducible first | exact HB.out | apply below_alloc | apply pw_below_drewN | apply below_drew1 | refine below_set ?_ GE206.out) | exact HB.out))) : w.heap.size ≤ gb218)); have n8_ := Aside0.mk ((by rw [hg]; exact Nat.ne_of_lt (blk_lt (g := gb206) (o := .cells #[.slice A0_0 l0_0.length c0_0] 34 (0, 0)) (by (with_reducible repeat (first | refine blk_drewN ?_ _ | refine blk_drew ?_ | refine blk_alloc ?_ _)); exact BK206.out)) : gb206 ≠ gb218)); have n9_ := Aside0.mk ((by rw [hg]; exact Nat.ne_of_gt (blk_lt (g := gb206) (o := .cells #[.slice A0_0 l0_0.length c0_0] 34 (0, 0)) (by (with_reducible repeat (first | refine blk_drewN ?_ _ | refine blk_drew ?_ | refine blk_alloc ?_ _)); exact BK206.out)) : gb218 ≠ gb206)); clear HO210; clear HO213; clear HO216; clear BK206; clear HB; have HO210 := n0_; have HO213 := n1_; have HO216 := n2_; have BK206 := n3_; have HB := n4_; have BK218 := n5_; have GW218 := n6_; have GE218 := n7_; have NB206_218 := n8_; have NB218_206 := n9_; clear n0_ n1_ n2_ n3_ n4_ n5_ n6_ n7_ n8_ n9_; clear hb hbox hg; obtain ⟨Ao27, co27, eo27⟩ := Kd.R_slice HO216.out; subst eo27; have hnb28 := NB218_206.out; have hnc28 := NB206_218.out; have hcz29_0 : w26.cell? ⟨gb218, 0, none⟩ = some (.slice none 0 0) := (blk_cell BK218.out 0).trans rfl; have hfz29_0 := blk_frozen BK218.out 0; have hcz30_0 : w26.cell? ⟨gb206, 0, none⟩ = some (.slice A0_0 l0_0.length c0_0) := (blk_cell BK206.out 0).trans rfl; have hfz30_0 := blk_frozen BK206.out 0) | ((with_reducible refine gate_callee (f := 24) rfl ?_); refine goesL_ (some 34) rfl rfl Try.func24 (by kernel_rfl) rfl #[.agg #[.slice A0_0 l0_0.length c0_0]] rfl (by (try simp only [List.map_toArray, List.map_cons, List.map_nil]); first | done | rfl | (simp only [List.length_drop, List.length_take]; rfl)) ?_; (with_reducible refine (laws_toDisk.calls k _ _ l0_0 t219 _ ?side1 ?side2 A13.out).mono ?_); (case side1 => exact Kd.C_below HR0_0.out (by repeat (first | (with_reducible first | exact HB.out | apply below_alloc | apply pw_below_drewN | apply below_drew1 | refine below_set ?_ GE206.out | refine below_set ?_ GE218.out) | exact HB.out))); (case side2 => exact HC0_0.out); rintro e w31 ⟨v220, rfl, ho0, hb⟩; refine ⟨_, rfl, ?_⟩; have n0_ := Aside0.mk (Kd.R_elder' (by (with_reducible repeat (first | apply Kd.R_alloc | apply Kd.R_drewN | apply Kd.R_drew)); exact (Kd.R_mono (Kd.R_far (p := ⟨gb218, 0, none⟩) (Kd.R_types HO210.out BK218.out (by decide)) (fun _ hk => hk.2) (.slice Ao27 t214.length co27)) (fun _ h_ => h_.1))) (Kd.R_base ho0) hb); have n1_ := Aside0.mk (Kd.R_below (by (with_reducible repeat (first | apply Kd.R_alloc | apply Kd.R_drewN | apply Kd.R_drew)); exact (Kd.R_mono (Kd.R_far (p := ⟨gb218, 0, none⟩) (Kd.R_types HO213.out BK218.out (by decide)) (fun _ hk => hk.2) (.slice Ao27 t214.length co27)) (fun _ h_ => h_.1))) hb); have n2_ := Aside0.mk (Kd.R_elder' (by (with_reducible repeat (first | apply Kd.R_alloc | apply Kd.R_drewN | apply Kd.R_drew)); exact (Kd.R_mono (Kd.R_far (p := ⟨gb218, 0, none⟩) (Kd.R_types HO216.out BK218.out (by decide)) (fun _ hk => hk.2) (.slice Ao27 t214.length co27)) (fun _ h_ => h_.1))) (Kd.R_base ho0) hb); have n3_ := Aside0.mk (Kd.R_lower (Kd.R_new' (Kd.R_new' ho0 (Kd.R_lt (by (with_reducible repeat (first | apply Kd.R_alloc | apply Kd.R_drewN | apply Kd.R_drew)); exact (Kd.R_mono (Kd.R_far (p := ⟨gb218, 0, none⟩) (Kd.R_types HO210.out BK218.out (by decide)) (fun _ hk => hk.2) (.slice Ao27 t214.length co27)) (fun _ h_ => h_.1))))) (Kd.R_lt (by (with_reducible repeat (first | apply Kd.R_alloc | apply Kd.R_drewN | apply Kd.R_drew)); exact (Kd.R_mono (Kd.R_far (p := ⟨gb218, 0, none⟩) (Kd.R_types HO216.out BK218.out (by decide)) (fun _ hk => hk.2) (.slice Ao27 t214.length co27)) (fun _ h_ => h_.1))))) (below_size (by repeat (first | (with_reducible first | exact HB.out | apply below_alloc | apply pw_below_drewN | apply below_drew1 | refine below_set ?_ GE206.out | refine below_set ?_ GE218.out) | exact HB.out)))); have n4_ := Aside0.mk (blk_below (g := gb206) (o := .cells #[.slice A0_0 l0_0.length c0_0] 34 (0, 0)) (by (with_reducible repeat (first | refine blk_drewN ?_ _ | refine blk_drew ?_ | refine blk_alloc ?_ _)); refine blk_far ?_ NB206_218.out _; (with_reducible repeat (first | refine blk_drewN ?_ _ | refine blk_drew ?_ | refine blk_alloc ?_ _)); exact BK206.out) hb); have n5_ := Aside0.mk (blk_below (g := gb218) (o := .cells #[.slice Ao27 t214.length co27] 39 (0, 0)) (by (with_reducible repeat (first | refine blk_drewN ?_ _ | refine blk_drew ?_ | refine blk_alloc ?_ _)); refine blk_put (cs := #[.slice none 0 0]) ?_ 0 _ rfl; (with_reducible repeat (first | refine blk_drewN ?_ _ | refine blk_drew ?_ | refine blk_alloc ?_ _)); exact BK218.out) hb); have n6_ := Aside0.mk (below_step (by repeat (first | (with_reducible first | exact HB.out | apply below_alloc | apply pw_below_drewN | apply below_drew1 | refine below_set ?_ GE206.out | refine below_set ?_ GE218.out) | exact HB.out)) hb); clear HO210; clear HO213; clear HO216; clear BK206; clear BK218; clear HB; have HO210 := n0_; have HO213 := n1_; have HO216 := n2_; have HO221 := n3_; have BK206 := n4_; have BK218 := n5_; have HB := n6_; clear n0_ n1_ n2_ n3_ n4_ n5_ n6_; (try clear hb); (try clear hb2); (try clear hk); (try clear hi); (try clear ho0)) | ((with_reducible refine gate_dst (N := 8) rfl ?_); refine box_event ?hg (N := 8) ?hd (cs := #[.slice none 0 0]) (t := 39) ?hr ?_; (case hd => rfl); (case hg => rfl); (case hr => first | (go_simp; done) | (go_simp; rfl)); intro gb222 hg w32 hbox hb; have n0_ := Aside0.mk (Kd.R_below (by (with_reducible repeat (first | apply Kd.R_alloc | apply Kd.R_drewN | apply Kd.R_drew)); exact HO210.out) hb); have n1_ := Aside0.mk (Kd.R_below (by (with_reducible repeat (first | apply Kd.R_alloc | apply Kd.R_drewN | apply Kd.R_drew)); exact HO213.out) hb); have n2_ := Aside0.mk (Kd.R_below (by (with_reducible repeat (first | apply Kd.R_alloc | apply Kd.R_drewN | apply Kd.R_drew)); exact HO216.out) hb); have n3_ := Aside0.mk (Kd.R_below (by (with_reducible repeat (first | apply Kd.R_alloc | apply Kd.R_drewN | apply Kd.R_drew)); exact HO221.out) hb); have n4_ := Aside0.mk (blk_below (g := gb206) (o := .cells #[.slice A0_0 l0_0.length c0_0] 34 (0, 0)) (by (with_reducible repeat (first | refine blk_drewN ?_ _ | refine blk_drew ?_ | refine blk_alloc ?_ _)); exact BK206.out) hb); have n5_ := Aside0.mk (blk_below (g := gb218) (o := .cells #[.slice Ao27 t214.length co27] 39 (0, 0)) (by (with_reducible repeat (first | refine blk_drewN ?_ _ | refine blk_drew ?_ | refine blk_alloc ?_ _)); exact BK218.out) hb); have n6_ := Aside0.mk (below_step (by repeat (first | (with_reducible first | exact HB.out | apply below_alloc | apply pw_below_drewN | apply below_drew1 | refine below_set ?_ GE206.out | refine below_set ?_ GE218.out) | exact HB.out)) hb); have n7_ := Aside0.mk (hbox); have n8_ := Aside0.mk ((by rw [hg]; exact (below_size (by repeat (first | (with_reducible first | exact HB.out | apply below_alloc | apply pw_below_drewN | apply below_drew1 | refine below_set ?_ GE206.out | refine below_set ?_ GE218.out) | exact HB.out))) : w.heap.size ≤ gb222)); have n9_ := Aside0.mk ((by rw [hg]; exact (below_size (by repeat (first | (with_reducible first | exact HB.out | apply below_alloc | apply pw_below_drewN | apply below_drew1 | refine below_set ?_ GE206.out | refine below_set ?_ GE218.out) | exact HB.out))) : w.heap.size ≤ gb222)); have n10_ := Aside0.mk ((by rw [hg]; exact Nat.ne_of_lt (blk_lt (g := gb206) (o := .cells #[.slice A0_0 l0_0.length c0_0] 34 (0, 0)) (by (with_reducible repeat (first | refine blk_drewN ?_ _ | refine blk_drew ?_ | refine blk_alloc ?_ _)); exact BK206.out)) : gb206 ≠ gb222)); have n11_ := Aside0.mk ((by rw [hg]; exact Nat.ne_of_gt (blk_lt (g := gb206) (o := .cells #[.slice A0_0 l0_0.length c0_0] 34 (0, 0)) (by (with_reducible repeat (first | refine blk_drewN ?_ _ | refine blk_drew ?_ | refine blk_alloc ?_ _)); exact BK206.out)) : gb222 ≠ gb206)); have n12_ := Aside0.mk ((by rw [hg]; exact Nat.ne_of_lt (blk_lt (g := gb218) (o := .cells #[.slice Ao27 t214.length co27] 39 (0, 0)) (by (with_reducible repeat (first | refine blk_drewN ?_ _ | refine blk_drew ?_ | refine blk_alloc ?_ _)); exact BK218.out)) : gb218 ≠ gb222)); have n13_ := Aside0.mk ((by rw [hg]; exact Nat.ne_of_gt (blk_lt (g := gb218) (o := .cells #[.slice Ao27 t214.length co27] 39 (0, 0)) (by (with_reducible repeat (first | refine blk_drewN ?_ _ | refine blk_drew ?_ | refine blk_alloc ?_ _)); exact BK218.out)) : gb222 ≠ gb218)); clear HO210; clear HO213; clear HO216; clear HO221; clear BK206; clear BK218; clear HB; have HO210 := n0_; have HO213 := n1_; have HO216 := n2_; have HO221 := n3_; have BK206 := n4_; have BK218 := n5_; have HB := n6_; have BK222 := n7_; have GW222 := n8_; have GE222 := n9_; have NB206_222 := n10_; have NB222_206 := n11_; have NB218_222 := n12_; have NB222_218 := n13_; clear n0_ n1_ n2_ n3_ n4_ n5_ n6_ n7_ n8_ n9_ n10_ n11_ n12_ n13_; clear hb hbox hg; obtain ⟨Ao33, co33, eo33⟩ := Kd.R_slice HO221.out; subst eo33; have hnb34 := NB222_206.out; have hnc34 := NB206_222.out; have hnb35 := NB222_218.out; have hnc35 := NB218_222.out; have hcz36_0 : w32.cell? ⟨gb222, 0, none⟩ = some (.slice none 0 0) := (blk_cell BK222.out 0).trans rfl; have hfz36_0 := blk_frozen BK222.out 0) | ((with_reducible refine gate_callee (f := 48) rfl ?_); refine goesL_ (some 36) rfl rfl Try.func48 (by kernel_rfl) rfl #[.slice A1 l1.length c1] rfl (by (try simp only [List.map_toArray, List.map_cons, List.map_nil]); first | done | rfl | (simp only [List.length_drop, List.length_take]; rfl)) ?_; (with_reducible refine (laws_toIntS.calls k _ _ l1 t223 _ ?side1 ?side2 A14.out).mono ?_); (case side1 => exact Kd.C_below HR1.out (by repeat (first | (with_reducible first | exact HB.out | apply below_alloc | apply pw_below_drewN | apply below_drew1 | refine below_set ?_ GE206.out | refine below_set ?_ GE218.out | refine below_set ?_ GE222.out) | exact HB.out))); (case side2 => exact HC1.out); rintro e w37 ⟨v224, rfl, ho0, hb⟩; refine ⟨_, rfl, ?_⟩; have n0_ := Aside0.mk (Kd.R_below (by (with_reducible repeat (first | apply Kd.R_alloc | apply Kd.R_drewN | apply Kd.R_drew)); exact (Kd.R_mono (Kd.R_far (p := ⟨gb222, 0, none⟩) (Kd.R_types HO210.out BK222.out (by decide)) (fun _ hk => hk.2) (.slice Ao33 t219.length co33)) (fun _ h_ => h_.1))) hb); have n1_ := Aside0.mk (Kd.R_elder' (by (with_reducible repeat (first | apply Kd.R_alloc | apply Kd.R_drewN | apply Kd.R_drew)); exact (Kd.R_mono (Kd.R_far (p := ⟨gb222, 0, none⟩) (Kd.R_types HO213.out BK222.out (by decide)) (fun _ hk => hk.2) (.slice Ao33 t219.length co33)) (fun _ h_ => h_.1))) (Kd.R_base ho0) hb); have n2_ := Aside0.mk (Kd.R_below (by (with_reducible repeat (first | apply Kd.R_alloc | apply Kd.R_drewN | apply Kd.R_drew)); exact (Kd.R_mono (Kd.R_far (p := ⟨gb222, 0, none⟩) (Kd.R_types HO216.out BK222.out (by decide)) (fun _ hk => hk.2) (.slice Ao33 t219.length co33)) (fun _ h_ => h_.1))) hb); have n3_ := Aside0.mk (Kd.R_below (by (with_reducible repeat (first | apply Kd.R_alloc | apply Kd.R_drewN | apply Kd.R_drew)); exact (Kd.R_mono (Kd.R_far (p := ⟨gb222, 0, none⟩) (Kd.R_types HO221.out BK222.out (by decide)) (fun _ hk => hk.2) (.slice Ao33 t219.length co33)) (fun _ h_ => h_.1))) hb); have n4_ := Aside0.mk (Kd.R_lower (Kd.R_new' ho0 (Kd.R_lt (by (with_reducible repeat (first | apply Kd.R_alloc | apply Kd.R_drewN | apply Kd.R_drew)); exact (Kd.R_mono (Kd.R_far (p := ⟨gb222, 0, none⟩) (Kd.R_types HO213.out BK222.out (by decide)) (fun _ hk => hk.2) (.slice Ao33 t219.length co33)) (fun _ h_ => h_.1))))) (below_size (by repeat (first | (with_reducible first | exact HB.out | apply below_alloc | apply pw_below_drewN | apply below_drew1 | refine below_set ?_ GE206.out | refine below_set ?_ GE218.out | refine below_set ?_ GE222.out) | exact HB.out)))); have n5_ := Aside0.mk (blk_below (g := gb206) (o := .cells #[.slice A0_0 l0_0.length c0_0] 34 (0, 0)) (by (with_reducible repeat (first | refine blk_drewN ?_ _ | refine blk_drew ?_ | refine blk_alloc ?_ _)); refine blk_far ?_ NB206_222.out _; (with_reducible repeat (first | refine blk_drewN ?_ _ | refine blk_drew ?_ | refine blk_alloc ?_ _)); exact BK206.out) hb); have n6_ := Aside0.mk (blk_below (g := gb218) (o := .cells #[.slice Ao27 t214.length co27] 39 (0, 0)) (by (with_reducible repeat (first | refine blk_drewN ?_ _ | refine blk_drew ?_ | refine blk_alloc ?_ _)); refine blk_far ?_ NB218_222.out _; (with_reducible repeat (first | refine blk_drewN ?_ _ | refine blk_drew ?_ | refine blk_alloc ?_ _)); exact BK218.out) hb); have n7_ := Aside0.mk (blk_below (g := gb222) (o := .cells #[.slice Ao33 t219.length co33] 39 (0, 0)) (by (with_reducible repeat (first | refine blk_drewN ?_ _ | refine blk_drew ?_ | refine blk_alloc ?_ _)); refine blk_put (cs := #[.slice none 0 0]) ?_ 0 _ rfl; (with_reducible repeat (first | refine blk_drewN ?_ _ | refine blk_drew ?_ | refine blk_alloc ?_ _)); exact BK222.out) hb); have n8_ := Aside0.mk (below_step (by repeat (first | (with_reducible first | exact HB.out | apply below_alloc | apply pw_below_drewN | apply below_drew1 | refine below_set ?_ GE206.out | refine below_set ?_ GE218.out | refine below_set ?_ GE222.out) | exact HB.out)) hb); clear HO210; clear HO213; clear HO216; clear HO221; clear BK206; clear BK218; clear BK222; clear HB; have HO210 := n0_; have HO213 := n1_; have HO216 := n2_; have HO221 := n3_; have HO225 := n4_; have BK206 := n5_; have BK218 := n6_; have BK222 := n7_; have HB := n8_; clear n0_ n1_ n2_ n3_ n4_ n5_ n6_ n7_ n8_; (try clear hb); (try clear hb2); (try clear hk); (try clear hi); (try clear ho0); have hcz38_0 : w37.cell? ⟨gb222, 0, none⟩ = some (.slice Ao33 t219.length co33) := (blk_cell BK222.out 0).trans rfl; have hfz38_0 := blk_frozen BK222.out 0; obtain ⟨Ao39, co39, eo39⟩ := Kd.R_slice HO225.out; subst eo39) | ((with_reducible refine gate_callee (f := 29) rfl ?_); refine goesL_ (some 40) rfl rfl Try.func29 (by kernel_rfl) rfl #[.agg #[.slice Ao33 t219.length co33], .slice Ao39 t223.length co39] rfl (by (try simp only [List.map_toArray, List.map_cons, List.map_nil]); first | done | rfl | (simp only [List.length_drop, List.length_take]; rfl)) ?_; (with_reducible refine (impl_LoseDisk.calls k _ _ t219 _ _ t223 t226 t229 _ ?side1 ?side2 ?side3 ?side4 A15.out).mono ?_); (case side1 => repeat (first | exact (Kd.R_reads' HO221.out).2.2 | (with_reducible refine Kd.C_alloc ?_ _) | (with_reducible refine Kd.C_drewN ?_ _) | (with_reducible refine Kd.C_drew ?_))); (case side2 => exact (Kd.R_reads' HO221.out).2.1); (case side3 => repeat (first | exact (Kd.R_reads' HO225.out).2.2 | (with_reducible refine Kd.C_alloc ?_ _) | (with_reducible refine Kd.C_drewN ?_ _) | (with_reducible refine Kd.C_drew ?_))); (case side4 => exact (Kd.R_reads' HO225.out).2.1); rintro e w40 ⟨v227, rfl, ho0, hb⟩; refine ⟨_, rfl, ?_⟩; have n0_ := Aside0.mk (Kd.R_elder' (by (with_reducible repeat (first | apply Kd.R_alloc | apply Kd.R_drewN | apply Kd.R_drew)); exact HO210.out) (Kd.R_base ho0) hb); have n1_ := Aside0.mk (Kd.R_below (by (with_reducible repeat (first | apply Kd.R_alloc | apply Kd.R_drewN | apply Kd.R_drew)); exact HO213.out) hb); have n2_ := Aside0.mk (Kd.R_elder' (by (with_reducible repeat (first | apply Kd.R_alloc | apply Kd.R_drewN | apply Kd.R_drew)); exact HO216.out) (Kd.R_base ho0) hb); have n3_ := Aside0.mk (Kd.R_elder' (by (with_reducible repeat (first | apply Kd.R_alloc | apply Kd.R_drewN | apply Kd.R_drew)); exact HO221.out) (Kd.R_base ho0) hb); have n4_ := Aside0.mk (Kd.R_below (by (with_reducible repeat (first | apply Kd.R_alloc | apply Kd.R_drewN | apply Kd.R_drew)); exact HO225.out) hb); have n5_ := Aside0.mk (Kd.R_lower (Kd.R_new' (Kd.R_new' (Kd.R_new' ho0 (Kd.R_lt (by (with_reducible repeat (first | apply Kd.R_alloc | apply Kd.R_drewN | apply Kd.R_drew)); exact HO210.out))) (Kd.R_lt (by (with_reducible repeat (first | apply Kd.R_alloc | apply Kd.R_drewN | apply Kd.R_drew)); exact HO216.out))) (Kd.R_lt (by (with_reducible repeat (first | apply Kd.R_alloc | apply Kd.R_drewN | apply Kd.R_drew)); exact HO221.out))) (below_size (by repeat (first | (with_reducible first | exact HB.out | apply below_alloc | apply pw_below_drewN | apply below_drew1 | refine below_set ?_ GE206.out | refine below_set ?_ GE218.out | refine below_set ?_ GE222.out) | exact HB.out)))); have n6_ := Aside0.mk (blk_below (g := gb206) (o := .cells #[.slice A0_0 l0_0.length c0_0] 34 (0, 0)) (by (with_reducible repeat (first | refine blk_drewN ?_ _ | refine blk_drew ?_ | refine blk_alloc ?_ _)); exact BK206.out) hb); have n7_ := Aside0.mk (blk_below (g := gb218) (o := .cells #[.slice Ao27 t214.length co27] 39 (0, 0)) (by (with_reducible repeat (first | refine blk_drewN ?_ _ | refine blk_drew ?_ | refine blk_alloc ?_ _)); exact BK218.out) hb); have n8_ := Aside0.mk (blk_below (g := gb222) (o := .cells #[.slice Ao33 t219.length co33] 39 (0, 0)) (by (with_reducible repeat (first | refine blk_drewN ?_ _ | refine blk_drew ?_ | refine blk_alloc ?_ _)); exact BK222.out) hb); have n9_ := Aside0.mk (below_step (by repeat (first | (with_reducible first | exact HB.out | apply below_alloc | apply pw_below_drewN | apply below_drew1 | refine below_set ?_ GE206.out | refine below_set ?_ GE218.out | refine below_set ?_ GE222.out) | exact HB.out)) hb); clear HO210; clear HO213; clear HO216; clear HO221; clear HO225; clear BK206; clear BK218; clear BK222; clear HB; have HO210 := n0_; have HO213 := n1_; have HO216 := n2_; have HO221 := n3_; have HO225 := n4_; have HO228 := n5_; have BK206 := n6_; have BK218 := n7_; have BK222 := n8_; have HB := n9_; clear n0_ n1_ n2_ n3_ n4_ n5_ n6_ n7_ n8_ n9_; (try clear hb); (try clear hb2); (try clear hk); (try clear hi); (try clear ho0)) | ((with_reducible refine gate_dst (N := 10) rfl ?_); refine box_event ?hg (N := 10) ?hd (cs := #[.slice none 0 0]) (t := 39) ?hr ?_; (case hd => rfl); (case hg => rfl); (case hr => first | (go_simp; done) | (go_simp; rfl)); intro gb230 hg w41 hbox hb; have n0_ := Aside0.mk (Kd.R_below (by (with_reducible repeat (first | apply Kd.R_alloc | apply Kd.R_drewN | apply Kd.R_drew)); exact HO210.out) hb); have n1_ := Aside0.mk (Kd.R_below (by (with_reducible repeat (first | apply Kd.R_alloc | apply Kd.R_drewN | apply Kd.R_drew)); exact HO213.out) hb); have n2_ := Aside0.mk (Kd.R_below (by (with_reducible repeat (first | apply Kd.R_alloc | apply Kd.R_drewN | apply Kd.R_drew)); exact HO216.out) hb); have n3_ := Aside0.mk (Kd.R_below (by (with_reducible repeat (first | apply Kd.R_alloc | apply Kd.R_drewN | apply Kd.R_drew)); exact HO221.out) hb); have n4_ := Aside0.mk (Kd.R_below (by (with_reducible repeat (first | apply Kd.R_alloc | apply Kd.R_drewN | apply Kd.R_drew)); exact HO225.out) hb); have n5_ := Aside0.mk (Kd.R_below (by (with_reducible repeat (first | apply Kd.R_alloc | apply Kd.R_drewN | apply Kd.R_drew)); exact HO228.out) hb); have n6_ := Aside0.mk (blk_below (g := gb206) (o := .cells #[.slice A0_0 l0_0.length c0_0] 34 (0, 0)) (by (with_reducible repeat (first | refine blk_drewN ?_ _ | refine blk_drew ?_ | refine blk_alloc ?_ _)); exact BK206.out) hb); have n7_ := Aside0.mk (blk_below (g := gb218) (o := .cells #[.slice Ao27 t214.length co27] 39 (0, 0)) (by (with_reducible repeat (first | refine blk_drewN ?_ _ | refine blk_drew ?_ | refine blk_alloc ?_ _)); exact BK218.out) hb); have n8_ := Aside0.mk (blk_below (g := gb222) (o := .cells #[.slice Ao33 t219.length co33] 39 (0, 0)) (by (with_reducible repeat (first | refine blk_drewN ?_ _ | refine blk_drew ?_ | refine blk_alloc ?_ _)); exact BK222.out) hb); have n9_ := Aside0.mk (below_step (by repeat (first | (with_reducible first | exact HB.out | apply below_alloc | apply pw_below_drewN | apply below_drew1 | refine below_set ?_ GE206.out | refine below_set ?_ GE218.out | refine below_set ?_ GE222.out) | exact HB.out)) hb); have n10_ := Aside0.mk (hbox); have n11_ := Aside0.mk ((by rw [hg]; exact (below_size (by repeat (first | (with_reducible first | exact HB.out | apply below_alloc | apply pw_below_drewN | apply below_drew1 | refine below_set ?_ GE206.out | refine below_set ?_ GE218.out | refine below_set ?_ GE222.out) | exact HB.out))) : w.heap.size ≤ gb230)); have n12_ := Aside0.mk ((by rw [hg]; exact (below_size (by repeat (first | (with_reducible first | exact HB.out | apply below_alloc | apply pw_below_drewN | apply below_drew1 | refine below_set ?_ GE206.out | refine below_set ?_ GE218.out | refine below_set ?_ GE222.out) | exact HB.out))) : w.heap.size ≤ gb230)); have n13_ := Aside0.mk ((by rw [hg]; exact Nat.ne_of_lt (blk_lt (g := gb206) (o := .cells #[.slice A0_0 l0_0.length c0_0] 34 (0, 0)) (by (with_reducible repeat (first | refine blk_drewN ?_ _ | refine blk_drew ?_ | refine blk_alloc ?_ _)); exact BK206.out)) : gb206 ≠ gb230)); have n14_ := Aside0.mk ((by rw [hg]; exact Nat.ne_of_gt (blk_lt (g := gb206) (o := .cells #[.slice A0_0 l0_0.length c0_0] 34 (0, 0)) (by (with_reducible repeat (first | refine blk_drewN ?_ _ | refine blk_drew ?_ | refine blk_alloc ?_ _)); exact BK206.out)) : gb230 ≠ gb206)); have n15_ := Aside0.mk ((by rw [hg]; exact Nat.ne_of_lt (blk_lt (g := gb218) (o := .cells #[.slice Ao27 t214.length co27] 39 (0, 0)) (by (with_reducible repeat (first | refine blk_drewN ?_ _ | refine blk_drew ?_ | refine blk_alloc ?_ _)); exact BK218.out)) : gb218 ≠ gb230)); have n16_ := Aside0.mk ((by rw [hg]; exact Nat.ne_of_gt (blk_lt (g := gb218) (o := .cells #[.slice Ao27 t214.length co27] 39 (0, 0)) (by (with_reducible repeat (first | refine blk_drewN ?_ _ | refine blk_drew ?_ | refine blk_alloc ?_ _)); exact BK218.out)) : gb230 ≠ gb218)); have n17_ := Aside0.mk ((by rw [hg]; exact Nat.ne_of_lt (blk_lt (g := gb222) (o := .cells #[.slice Ao33 t219.length co33] 39 (0, 0)) (by (with_reducible repeat (first | refine blk_drewN ?_ _ | refine blk_drew ?_ | refine blk_alloc ?_ _)); exact BK222.out)) : gb222 ≠ gb230)); have n18_ := Aside0.mk ((by rw [hg]; exact Nat.ne_of_gt (blk_lt (g := gb222) (o := .cells #[.slice Ao33 t219.length co33] 39 (0, 0)) (by (with_reducible repeat (first | refine blk_drewN ?_ _ | refine blk_drew ?_ | refine blk_alloc ?_ _)); exact BK222.out)) : gb230 ≠ gb222)); clear HO210; clear HO213; clear HO216; clear HO221; clear HO225; clear HO228; clear BK206; clear BK218; clear BK222; clear HB; have HO210 := n0_; have HO213 := n1_; have HO216 := n2_; have HO221 := n3_; have HO225 := n4_; have HO228 := n5_; have BK206 := n6_; have BK218 := n7_; have BK222 := n8_; have HB := n9_; have BK230 := n10_; have GW230 := n11_; have GE230 := n12_; have NB206_230 := n13_; have NB230_206 := n14_; have NB218_230 := n15_; have NB230_218 := n16_; have NB222_230 := n17_; have NB230_222 := n18_; clear n0_ n1_ n2_ n3_ n4_ n5_ n6_ n7_ n8_ n9_ n10_ n11_ n12_ n13_ n14_ n15_ n16_ n17_ n18_; clear hb hbox hg; obtain ⟨Ao42, co42, eo42⟩ := Kd.R_slice HO228.out; subst eo42; have hnb43 := NB230_206.out; have hnc43 := NB206_230.out; have hnb44 := NB230_218.out; have hnc44 := NB218_230.out; have hnb45 := NB230_222.out; have hnc45 := NB222_230.out; have hcz46_0 : w41.cell? ⟨gb230, 0, none⟩ = some (.slice none 0 0) := (blk_cell BK230.out 0).trans rfl; have hfz46_0 := blk_frozen BK230.out 0))
      (try simp only [Act.put, List.setIfInBounds_toArray, List.set_cons_zero, List.set_cons_succ])
      go_cut [51] (fun v51 wc => ∃ (kq : Nat) (x51_15 : Bool), v51 = .bool x51_15 ∧ Aside0 (laws_FnExactLoseDisk.j0 kq l1 t217 t223 t229 x51_15 l0_0 t214 t219 t226 = some r) ∧ Aside0 (kq ≤ k) ∧ Aside0 (Kd.R (Kd.int .i64) 3 wc w.heap.size (fun _ => True) (.slice Ao39 t223.length co39) t223) ∧ Aside0 (Kd.R k49 49 wc w.heap.size (fun k_ => some k_ ≠ ((.slice Ao33 t219.length co33) : Value).ownBlock ∧ some k_ ≠ ((.slice Ao42 t226.length co42) : Value).ownBlock) (.slice Ao27 t214.length co27) t214) ∧ Aside0 (Kd.R k49 49 wc w.heap.size (fun k_ => some k_ ≠ ((.slice Ao27 t214.length co27) : Value).ownBlock ∧ some k_ ≠ ((.slice Ao42 t226.length co42) : Value).ownBlock) (.slice Ao33 t219.length co33) t219) ∧ Aside0 (Kd.R k49 49 wc w.heap.size (fun k_ => some k_ ≠ ((.slice Ao27 t214.length co27) : Value).ownBlock ∧ some k_ ≠ ((.slice Ao33 t219.length co33) : Value).ownBlock) (.slice Ao42 t226.length co42) t226) ∧ Aside0 (wc.heap[gb206]? = some (.cells #[(.slice A0_0 l0_0.length c0_0)] 34 (0, 0))) ∧ Aside0 (wc.heap[gb218]? = some (.cells #[(.slice Ao27 t214.length co27)] 39 (0, 0))) ∧ Aside0 (wc.heap[gb222]? = some (.cells #[(.slice Ao33 t219.length co33)] 39 (0, 0))) ∧ Aside0 (wc.heap[gb230]? = some (.cells #[(.slice Ao42 t226.length co42)] 39 (0, 0))) ∧ Aside0 (Below w.heap.size w wc))
      case first =>
        have H := HC16.out
        clear HC16
        replace H := Option.bind_eq_some_iff.mp H
        obtain ⟨t231, A470, H⟩ := H
        replace H : (if t231 = true then (laws_FnExactLoseDisk.j0 k l1 t217 t223 t229 (t229 != t217) l0_0 t214 t219 t226) else (laws_FnExactLoseDisk.j0 k l1 t217 t223 t229 true l0_0 t214 t219 t226)) = some r := H
        have A47 := Aside0.mk A470
        clear A470
        by_cases c48 : t231 = true
        · subst c48
          have H1 : (laws_FnExactLoseDisk.j0 k l1 t217 t223 t229 (t229 != t217) l0_0 t214 t219 t226) = some r := by rw [if_pos rfl] at H; exact H
          clear H
          have H := H1
          clear H1
          have H' := Aside0.mk H
          clear H
          have hnb49 := NB230_206.out
          have hnc49 := NB206_230.out
          have hnb50 := NB230_218.out
          have hnc50 := NB218_230.out
          have hnb51 := NB230_222.out
          have hnc51 := NB222_230.out
          have hcz52_0 : w41.cell? ⟨gb230, 0, none⟩ = some (.slice none 0 0) := (blk_cell BK230.out 0).trans rfl
          have hfz52_0 := blk_frozen BK230.out 0
          have hnb53 := NB218_206.out
          have hnc53 := NB206_218.out
          have hnb54 := NB218_222.out
          have hnc54 := NB222_218.out
          have hcz55_0 : w41.cell? ⟨gb218, 0, none⟩ = some (.slice Ao27 t214.length co27) := (blk_cell BK218.out 0).trans rfl
          have hfz55_0 := blk_frozen BK218.out 0
          go_wp2_with (first | ((with_reducible refine gate_callee (f := 26) rfl ?_); refine goesL_ (some 45) rfl rfl Try.func26 (by kernel_rfl) rfl #[.agg #[.slice Ao42 t226.length co42], .agg #[.slice Ao27 t214.length co27]] rfl (by (try simp only [List.map_toArray, List.map_cons, List.map_nil]); first | done | rfl | (simp only [List.length_drop, List.length_take]; rfl)) ?_; (with_reducible refine (laws_eqDisk.calls k _ _ t226 _ _ t214 true _ ?side1 ?side2 ?side3 ?side4 A47.out).mono ?_); (case side1 => refine (Kd.R_reads' (e := 49) (base := w.heap.size) (ok := fun k_ => (((True ∧ some k_ ≠ (.slice Ao23 t208.length co23 : Value).ownBlock) ∧ some k_ ≠ (.slice Ao27 t214.length co27 : Value).ownBlock) ∧ some k_ ≠ (.slice Ao33 t219.length co33 : Value).ownBlock)) (n := t226.length) (c := co42) ?_).2.2; exact (by (with_reducible repeat (first | apply Kd.R_alloc | apply Kd.R_drewN | apply Kd.R_drew)); exact (Kd.R_mono (Kd.R_far (p := ⟨gb230, 0, none⟩) (Kd.R_types HO228.out BK230.out (by decide)) (fun _ hk => hk.2) (.slice Ao42 t226.length co42)) (fun _ h_ => h_.1)))); (case side2 => exact (Kd.R_reads' HO228.out).2.1); (case side3 => refine (Kd.R_reads' (e := 49) (base := w.heap.size) (ok := fun k_ => (((True ∧ some k_ ≠ (.slice Ao23 t208.length co23 : Value).ownBlock) ∧ some k_ ≠ (.slice Ao33 t219.length co33 : Value).ownBlock) ∧ some k_ ≠ (.slice Ao42 t226.length co42 : Value).ownBlock)) (n := t214.length) (c := co27) ?_).2.2; exact (by (with_reducible repeat (first | apply Kd.R_alloc | apply Kd.R_drewN | apply Kd.R_drew)); exact (Kd.R_mono (Kd.R_far (p := ⟨gb230, 0, none⟩) (Kd.R_types HO216.out BK230.out (by decide)) (fun _ hk => hk.2) (.slice Ao42 t226.length co42)) (fun _ h_ => h_.1)))); (case side4 => exact (Kd.R_reads' HO216.out).2.1); rintro e w56 ⟨rfl, hb⟩; refine ⟨_, rfl, ?_⟩; have n0_ := Aside0.mk (Kd.R_below (by (with_reducible repeat (first | apply Kd.R_alloc | apply Kd.R_drewN | apply Kd.R_drew)); exact (Kd.R_mono (Kd.R_far (p := ⟨gb230, 0, none⟩) (Kd.R_types HO210.out BK230.out (by decide)) (fun _ hk => hk.2) (.slice Ao42 t226.length co42)) (fun _ h_ => h_.1))) hb); have n1_ := Aside0.mk (Kd.R_below (by (with_reducible repeat (first | apply Kd.R_alloc | apply Kd.R_drewN | apply Kd.R_drew)); exact (Kd.R_mono (Kd.R_far (p := ⟨gb230, 0, none⟩) (Kd.R_types HO213.out BK230.out (by decide)) (fun _ hk => hk.2) (.slice Ao42 t226.length co42)) (fun _ h_ => h_.1))) hb); have n2_ := Aside0.mk (Kd.R_below (by (with_reducible repeat (first | apply Kd.R_alloc | apply Kd.R_drewN | apply Kd.R_drew)); exact (Kd.R_mono (Kd.R_far (p := ⟨gb230, 0, none⟩) (Kd.R_types HO216.out BK230.out (by decide)) (fun _ hk => hk.2) (.slice Ao42 t226.length co42)) (fun _ h_ => h_.1))) hb); have n3_ := Aside0.mk (Kd.R_below (by (with_reducible repeat (first | apply Kd.R_alloc | apply Kd.R_drewN | apply Kd.R_drew)); exact (Kd.R_mono (Kd.R_far (p := ⟨gb230, 0, none⟩) (Kd.R_types HO221.out BK230.out (by decide)) (fun _ hk => hk.2) (.slice Ao42 t226.length co42)) (fun _ h_ => h_.1))) hb); have n4_ := Aside0.mk (Kd.R_below (by (with_reducible repeat (first | apply Kd.R_alloc | apply Kd.R_drewN | apply Kd.R_drew)); exact (Kd.R_mono (Kd.R_far (p := ⟨gb230, 0, none⟩) (Kd.R_types HO225.out BK230.out (by decide)) (fun _ hk => hk.2) (.slice Ao42 t226.length co42)) (fun _ h_ => h_.1))) hb); have n5_ := Aside0.mk (Kd.R_below (by (with_reducible repeat (first | apply Kd.R_alloc | apply Kd.R_drewN | apply Kd.R_drew)); exact (Kd.R_mono (Kd.R_far (p := ⟨gb230, 0, none⟩) (Kd.R_types HO228.out BK230.out (by decide)) (fun _ hk => hk.2) (.slice Ao42 t226.length co42)) (fun _ h_ => h_.1))) hb); have n6_ := Aside0.mk (blk_below (g := gb206) (o := .cells #[.slice A0_0 l0_0.length c0_0] 34 (0, 0)) (by (with_reducible repeat (first | refine blk_drewN ?_ _ | refine blk_drew ?_ | refine blk_alloc ?_ _)); refine blk_far ?_ NB206_230.out _; (with_reducible repeat (first | refine blk_drewN ?_ _ | refine blk_drew ?_ | refine blk_alloc ?_ _)); exact BK206.out) hb); have n7_ := Aside0.mk (blk_below (g := gb218) (o := .cells #[.slice Ao27 t214.length co27] 39 (0, 0)) (by (with_reducible repeat (first | refine blk_drewN ?_ _ | refine blk_drew ?_ | refine blk_alloc ?_ _)); refine blk_far ?_ NB218_230.out _; (with_reducible repeat (first | refine blk_drewN ?_ _ | refine blk_drew ?_ | refine blk_alloc ?_ _)); exact BK218.out) hb); have n8_ := Aside0.mk (blk_below (g := gb222) (o := .cells #[.slice Ao33 t219.length co33] 39 (0, 0)) (by (with_reducible repeat (first | refine blk_drewN ?_ _ | refine blk_drew ?_ | refine blk_alloc ?_ _)); refine blk_far ?_ NB222_230.out _; (with_reducible repeat (first | refine blk_drewN ?_ _ | refine blk_drew ?_ | refine blk_alloc ?_ _)); exact BK222.out) hb); have n9_ := Aside0.mk (blk_below (g := gb230) (o := .cells #[.slice Ao42 t226.length co42] 39 (0, 0)) (by (with_reducible repeat (first | refine blk_drewN ?_ _ | refine blk_drew ?_ | refine blk_alloc ?_ _)); refine blk_put (cs := #[.slice none 0 0]) ?_ 0 _ rfl; (with_reducible repeat (first | refine blk_drewN ?_ _ | refine blk_drew ?_ | refine blk_alloc ?_ _)); exact BK230.out) hb); have n10_ := Aside0.mk (below_step (by repeat (first | (with_reducible first | exact HB.out | apply below_alloc | apply pw_below_drewN | apply below_drew1 | refine below_set ?_ GE206.out | refine below_set ?_ GE218.out | refine below_set ?_ GE222.out | refine below_set ?_ GE230.out) | exact HB.out)) hb); clear HO210; clear HO213; clear HO216; clear HO221; clear HO225; clear HO228; clear BK206; clear BK218; clear BK222; clear BK230; clear HB; have HO210 := n0_; have HO213 := n1_; have HO216 := n2_; have HO221 := n3_; have HO225 := n4_; have HO228 := n5_; have BK206 := n6_; have BK218 := n7_; have BK222 := n8_; have BK230 := n9_; have HB := n10_; clear n0_ n1_ n2_ n3_ n4_ n5_ n6_ n7_ n8_ n9_ n10_; (try clear hb); (try clear hb2); (try clear hk); (try clear hi)))
          go_meet
          case rel => exact ⟨_, ((t229 != t217)), (by first | rfl | (simp; done) | (simp [*]; done)), H', ⟨by first | omega | exact Nat.le_refl _⟩, ⟨by (with_reducible repeat (first | apply Kd.R_alloc | apply Kd.R_drewN | apply Kd.R_drew)); exact Kd.R_mono HO225.out (fun _ hk => trivial)⟩, ⟨by (with_reducible repeat (first | apply Kd.R_alloc | apply Kd.R_drewN | apply Kd.R_drew)); exact Kd.R_mono HO216.out (fun _ hk => ⟨hk.1.2, hk.2⟩)⟩, ⟨by (with_reducible repeat (first | apply Kd.R_alloc | apply Kd.R_drewN | apply Kd.R_drew)); exact Kd.R_mono HO221.out (fun _ hk => ⟨hk.1.2, hk.2⟩)⟩, ⟨by (with_reducible repeat (first | apply Kd.R_alloc | apply Kd.R_drewN | apply Kd.R_drew)); exact Kd.R_mono HO228.out (fun _ hk => ⟨hk.1.2, hk.2⟩)⟩, ⟨by (with_reducible repeat (first | refine blk_drewN ?_ _ | refine blk_drew ?_ | refine blk_alloc ?_ _)); exact BK206.out⟩, ⟨by (with_reducible repeat (first | refine blk_drewN ?_ _ | refine blk_drew ?_ | refine blk_alloc ?_ _)); exact BK218.out⟩, ⟨by (with_reducible repeat (first | refine blk_drewN ?_ _ | refine blk_drew ?_ | refine blk_alloc ?_ _)); exact BK222.out⟩, ⟨by (with_reducible repeat (first | refine blk_drewN ?_ _ | refine blk_drew ?_ | refine blk_alloc ?_ _)); exact BK230.out⟩, ⟨by repeat (first | (with_reducible first | exact HB.out | apply below_alloc | apply pw_below_drewN | apply below_drew1 | refine below_set ?_ GE206.out | refine below_set ?_ GE218.out | refine below_set ?_ GE222.out | refine below_set ?_ GE230.out) | exact HB.out)⟩⟩
        · replace c48 := Bool.eq_false_iff.mpr c48
          subst c48
          have H1 : (laws_FnExactLoseDisk.j0 k l1 t217 t223 t229 true l0_0 t214 t219 t226) = some r := by rw [if_neg (show ¬ (false = true) by decide)] at H; exact H
          clear H
          have H := H1
          clear H1
          have H' := Aside0.mk H
          clear H
          have hnb57 := NB230_206.out
          have hnc57 := NB206_230.out
          have hnb58 := NB230_218.out
          have hnc58 := NB218_230.out
          have hnb59 := NB230_222.out
          have hnc59 := NB222_230.out
          have hcz60_0 : w41.cell? ⟨gb230, 0, none⟩ = some (.slice none 0 0) := (blk_cell BK230.out 0).trans rfl
          have hfz60_0 := blk_frozen BK230.out 0
          have hnb61 := NB218_206.out
          have hnc61 := NB206_218.out
          have hnb62 := NB218_222.out
          have hnc62 := NB222_218.out
          have hcz63_0 : w41.cell? ⟨gb218, 0, none⟩ = some (.slice Ao27 t214.length co27) := (blk_cell BK218.out 0).trans rfl
          have hfz63_0 := blk_frozen BK218.out 0
          go_wp2_with (first | ((with_reducible refine gate_callee (f := 26) rfl ?_); refine goesL_ (some 45) rfl rfl Try.func26 (by kernel_rfl) rfl #[.agg #[.slice Ao42 t226.length co42], .agg #[.slice Ao27 t214.length co27]] rfl (by (try simp only [List.map_toArray, List.map_cons, List.map_nil]); first | done | rfl | (simp only [List.length_drop, List.length_take]; rfl)) ?_; (with_reducible refine (laws_eqDisk.calls k _ _ t226 _ _ t214 false _ ?side1 ?side2 ?side3 ?side4 A47.out).mono ?_); (case side1 => refine (Kd.R_reads' (e := 49) (base := w.heap.size) (ok := fun k_ => (((True ∧ some k_ ≠ (.slice Ao23 t208.length co23 : Value).ownBlock) ∧ some k_ ≠ (.slice Ao27 t214.length co27 : Value).ownBlock) ∧ some k_ ≠ (.slice Ao33 t219.length co33 : Value).ownBlock)) (n := t226.length) (c := co42) ?_).2.2; exact (by (with_reducible repeat (first | apply Kd.R_alloc | apply Kd.R_drewN | apply Kd.R_drew)); exact (Kd.R_mono (Kd.R_far (p := ⟨gb230, 0, none⟩) (Kd.R_types HO228.out BK230.out (by decide)) (fun _ hk => hk.2) (.slice Ao42 t226.length co42)) (fun _ h_ => h_.1)))); (case side2 => exact (Kd.R_reads' HO228.out).2.1); (case side3 => refine (Kd.R_reads' (e := 49) (base := w.heap.size) (ok := fun k_ => (((True ∧ some k_ ≠ (.slice Ao23 t208.length co23 : Value).ownBlock) ∧ some k_ ≠ (.slice Ao33 t219.length co33 : Value).ownBlock) ∧ some k_ ≠ (.slice Ao42 t226.length co42 : Value).ownBlock)) (n := t214.length) (c := co27) ?_).2.2; exact (by (with_reducible repeat (first | apply Kd.R_alloc | apply Kd.R_drewN | apply Kd.R_drew)); exact (Kd.R_mono (Kd.R_far (p := ⟨gb230, 0, none⟩) (Kd.R_types HO216.out BK230.out (by decide)) (fun _ hk => hk.2) (.slice Ao42 t226.length co42)) (fun _ h_ => h_.1)))); (case side4 => exact (Kd.R_reads' HO216.out).2.1); rintro e w64 ⟨rfl, hb⟩; refine ⟨_, rfl, ?_⟩; have n0_ := Aside0.mk (Kd.R_below (by (with_reducible repeat (first | apply Kd.R_alloc | apply Kd.R_drewN | apply Kd.R_drew)); exact (Kd.R_mono (Kd.R_far (p := ⟨gb230, 0, none⟩) (Kd.R_types HO210.out BK230.out (by decide)) (fun _ hk => hk.2) (.slice Ao42 t226.length co42)) (fun _ h_ => h_.1))) hb); have n1_ := Aside0.mk (Kd.R_below (by (with_reducible repeat (first | apply Kd.R_alloc | apply Kd.R_drewN | apply Kd.R_drew)); exact (Kd.R_mono (Kd.R_far (p := ⟨gb230, 0, none⟩) (Kd.R_types HO213.out BK230.out (by decide)) (fun _ hk => hk.2) (.slice Ao42 t226.length co42)) (fun _ h_ => h_.1))) hb); have n2_ := Aside0.mk (Kd.R_below (by (with_reducible repeat (first | apply Kd.R_alloc | apply Kd.R_drewN | apply Kd.R_drew)); exact (Kd.R_mono (Kd.R_far (p := ⟨gb230, 0, none⟩) (Kd.R_types HO216.out BK230.out (by decide)) (fun _ hk => hk.2) (.slice Ao42 t226.length co42)) (fun _ h_ => h_.1))) hb); have n3_ := Aside0.mk (Kd.R_below (by (with_reducible repeat (first | apply Kd.R_alloc | apply Kd.R_drewN | apply Kd.R_drew)); exact (Kd.R_mono (Kd.R_far (p := ⟨gb230, 0, none⟩) (Kd.R_types HO221.out BK230.out (by decide)) (fun _ hk => hk.2) (.slice Ao42 t226.length co42)) (fun _ h_ => h_.1))) hb); have n4_ := Aside0.mk (Kd.R_below (by (with_reducible repeat (first | apply Kd.R_alloc | apply Kd.R_drewN | apply Kd.R_drew)); exact (Kd.R_mono (Kd.R_far (p := ⟨gb230, 0, none⟩) (Kd.R_types HO225.out BK230.out (by decide)) (fun _ hk => hk.2) (.slice Ao42 t226.length co42)) (fun _ h_ => h_.1))) hb); have n5_ := Aside0.mk (Kd.R_below (by (with_reducible repeat (first | apply Kd.R_alloc | apply Kd.R_drewN | apply Kd.R_drew)); exact (Kd.R_mono (Kd.R_far (p := ⟨gb230, 0, none⟩) (Kd.R_types HO228.out BK230.out (by decide)) (fun _ hk => hk.2) (.slice Ao42 t226.length co42)) (fun _ h_ => h_.1))) hb); have n6_ := Aside0.mk (blk_below (g := gb206) (o := .cells #[.slice A0_0 l0_0.length c0_0] 34 (0, 0)) (by (with_reducible repeat (first | refine blk_drewN ?_ _ | refine blk_drew ?_ | refine blk_alloc ?_ _)); refine blk_far ?_ NB206_230.out _; (with_reducible repeat (first | refine blk_drewN ?_ _ | refine blk_drew ?_ | refine blk_alloc ?_ _)); exact BK206.out) hb); have n7_ := Aside0.mk (blk_below (g := gb218) (o := .cells #[.slice Ao27 t214.length co27] 39 (0, 0)) (by (with_reducible repeat (first | refine blk_drewN ?_ _ | refine blk_drew ?_ | refine blk_alloc ?_ _)); refine blk_far ?_ NB218_230.out _; (with_reducible repeat (first | refine blk_drewN ?_ _ | refine blk_drew ?_ | refine blk_alloc ?_ _)); exact BK218.out) hb); have n8_ := Aside0.mk (blk_below (g := gb222) (o := .cells #[.slice Ao33 t219.length co33] 39 (0, 0)) (by (with_reducible repeat (first | refine blk_drewN ?_ _ | refine blk_drew ?_ | refine blk_alloc ?_ _)); refine blk_far ?_ NB222_230.out _; (with_reducible repeat (first | refine blk_drewN ?_ _ | refine blk_drew ?_ | refine blk_alloc ?_ _)); exact BK222.out) hb); have n9_ := Aside0.mk (blk_below (g := gb230) (o := .cells #[.slice Ao42 t226.length co42] 39 (0, 0)) (by (with_reducible repeat (first | refine blk_drewN ?_ _ | refine blk_drew ?_ | refine blk_alloc ?_ _)); refine blk_put (cs := #[.slice none 0 0]) ?_ 0 _ rfl; (with_reducible repeat (first | refine blk_drewN ?_ _ | refine blk_drew ?_ | refine blk_alloc ?_ _)); exact BK230.out) hb); have n10_ := Aside0.mk (below_step (by repeat (first | (with_reducible first | exact HB.out | apply below_alloc | apply pw_below_drewN | apply below_drew1 | refine below_set ?_ GE206.out | refine below_set ?_ GE218.out | refine below_set ?_ GE222.out | refine below_set ?_ GE230.out) | exact HB.out)) hb); clear HO210; clear HO213; clear HO216; clear HO221; clear HO225; clear HO228; clear BK206; clear BK218; clear BK222; clear BK230; clear HB; have HO210 := n0_; have HO213 := n1_; have HO216 := n2_; have HO221 := n3_; have HO225 := n4_; have HO228 := n5_; have BK206 := n6_; have BK218 := n7_; have BK222 := n8_; have BK230 := n9_; have HB := n10_; clear n0_ n1_ n2_ n3_ n4_ n5_ n6_ n7_ n8_ n9_ n10_; (try clear hb); (try clear hb2); (try clear hk); (try clear hi)))
          go_meet
          case rel => exact ⟨_, (true), (by first | rfl | (simp; done) | (simp [*]; done)), H', ⟨by first | omega | exact Nat.le_refl _⟩, ⟨by (with_reducible repeat (first | apply Kd.R_alloc | apply Kd.R_drewN | apply Kd.R_drew)); exact Kd.R_mono HO225.out (fun _ hk => trivial)⟩, ⟨by (with_reducible repeat (first | apply Kd.R_alloc | apply Kd.R_drewN | apply Kd.R_drew)); exact Kd.R_mono HO216.out (fun _ hk => ⟨hk.1.2, hk.2⟩)⟩, ⟨by (with_reducible repeat (first | apply Kd.R_alloc | apply Kd.R_drewN | apply Kd.R_drew)); exact Kd.R_mono HO221.out (fun _ hk => ⟨hk.1.2, hk.2⟩)⟩, ⟨by (with_reducible repeat (first | apply Kd.R_alloc | apply Kd.R_drewN | apply Kd.R_drew)); exact Kd.R_mono HO228.out (fun _ hk => ⟨hk.1.2, hk.2⟩)⟩, ⟨by (with_reducible repeat (first | refine blk_drewN ?_ _ | refine blk_drew ?_ | refine blk_alloc ?_ _)); exact BK206.out⟩, ⟨by (with_reducible repeat (first | refine blk_drewN ?_ _ | refine blk_drew ?_ | refine blk_alloc ?_ _)); exact BK218.out⟩, ⟨by (with_reducible repeat (first | refine blk_drewN ?_ _ | refine blk_drew ?_ | refine blk_alloc ?_ _)); exact BK222.out⟩, ⟨by (with_reducible repeat (first | refine blk_drewN ?_ _ | refine blk_drew ?_ | refine blk_alloc ?_ _)); exact BK230.out⟩, ⟨by repeat (first | (with_reducible first | exact HB.out | apply below_alloc | apply pw_below_drewN | apply below_drew1 | refine below_set ?_ GE206.out | refine below_set ?_ GE218.out | refine below_set ?_ GE222.out | refine below_set ?_ GE230.out) | exact HB.out)⟩⟩
      case rest =>
        clear HC16
        try clear c1
        try clear c2
        try clear p2
        try clear c3
        try clear c3b0
        try clear c3b1
        try clear c4
        try clear c5
        try clear c6
        try clear c6b0
        try clear c9
        try clear c22
        try clear c24
        try clear c26
        try clear c28
        try clear c29
        try clear c34
        try clear c35
        try clear c43
        try clear c44
        try clear c45
        try clear c47
        try clear c48
        try clear c49
        try clear c50
        try clear c51
        try clear c53
        try clear c54
        try clear c57
        try clear c58
        try clear c59
        try clear c61
        try clear c62
        try clear hcz18_0
        try clear hcz20_0
        try clear hcz29_0
        try clear hcz30_0
        try clear hcz36_0
        try clear hcz38_0
        try clear hcz46_0
        try clear hcz52_0
        try clear hcz55_0
        try clear hcz60_0
        try clear hcz63_0
        try clear hcz8_0
        try clear hfz18_0
        try clear hfz20_0
        try clear hfz29_0
        try clear hfz30_0
        try clear hfz36_0
        try clear hfz38_0
        try clear hfz46_0
        try clear hfz52_0
        try clear hfz55_0
        try clear hfz60_0
        try clear hfz63_0
        try clear hfz8_0
        obtain ⟨kq, x51_15, rfl, HA, HJ15, HO_9, HO_219000, HO_223000, HO_231000, BK206, BK218, BK222, BK230, HB⟩ := hcut
        cases kq with
        | zero => exact absurd HA.out (by simp [laws_FnExactLoseDisk.j0])
        | succ kj15 =>
          have H := HA.out
          clear HA
          simp only [laws_FnExactLoseDisk.j0] at H
          by_cases c65 : x51_15 = true
          · subst c65
            have H1 : (some false) = some r := by rw [if_pos rfl] at H; exact H
            clear H
            have H := H1
            clear H1
            exact absurd ((Option.some.inj H).trans HLT.out) (by decide)
          · replace c65 := Bool.eq_false_iff.mpr c65
            subst c65
            have H1 : ((laws_toDisk.f kj15 l0_0).bind fun t232 => ((laws_eqDisk.f kj15 t219 t232).bind fun t235 => (if t235 = true then ((laws_toIntS.f kj15 l1).bind fun t236 => ((laws_eqIntS.f kj15 t223 t236).bind fun t239 => (if t239 = true then ((laws_markDisk.f kj15 t219 1).bind fun bt240 => ((laws_markIntS.f kj15 t223 bt240.1).bind fun bt242 => (if bt242.1 < 0 then (laws_FnExactLoseDisk.j1 kj15 l1 t217 true l0_0 t214 t226) else ((laws_eqDisk.f kj15 t226 t214).bind fun t244 => (if t244 = true then (laws_FnExactLoseDisk.j1 kj15 l1 t217 (t229 != t217) l0_0 t214 t226) else (laws_FnExactLoseDisk.j1 kj15 l1 t217 true l0_0 t214 t226)))))) else (some false)))) else (some false)))) = some r := by rw [if_neg (show ¬ (false = true) by decide)] at H; exact H
            clear H
            have H := H1
            clear H1
            replace H := Option.bind_eq_some_iff.mp H
            obtain ⟨t232, A660, H⟩ := H
            replace H : ((laws_eqDisk.f kj15 t219 t232).bind fun t235 => (if t235 = true then ((laws_toIntS.f kj15 l1).bind fun t236 => ((laws_eqIntS.f kj15 t223 t236).bind fun t239 => (if t239 = true then ((laws_markDisk.f kj15 t219 1).bind fun bt240 => ((laws_markIntS.f kj15 t223 bt240.1).bind fun bt242 => (if bt242.1 < 0 then (laws_FnExactLoseDisk.j1 kj15 l1 t217 true l0_0 t214 t226) else ((laws_eqDisk.f kj15 t226 t214).bind fun t244 => (if t244 = true then (laws_FnExactLoseDisk.j1 kj15 l1 t217 (t229 != t217) l0_0 t214 t226) else (laws_FnExactLoseDisk.j1 kj15 l1 t217 true l0_0 t214 t226)))))) else (some false)))) else (some false))) = some r := H
            have A66 := Aside0.mk A660
            clear A660
            replace H := Option.bind_eq_some_iff.mp H
            obtain ⟨t235, A670, H⟩ := H
            replace H : (if t235 = true then ((laws_toIntS.f kj15 l1).bind fun t236 => ((laws_eqIntS.f kj15 t223 t236).bind fun t239 => (if t239 = true then ((laws_markDisk.f kj15 t219 1).bind fun bt240 => ((laws_markIntS.f kj15 t223 bt240.1).bind fun bt242 => (if bt242.1 < 0 then (laws_FnExactLoseDisk.j1 kj15 l1 t217 true l0_0 t214 t226) else ((laws_eqDisk.f kj15 t226 t214).bind fun t244 => (if t244 = true then (laws_FnExactLoseDisk.j1 kj15 l1 t217 (t229 != t217) l0_0 t214 t226) else (laws_FnExactLoseDisk.j1 kj15 l1 t217 true l0_0 t214 t226)))))) else (some false)))) else (some false)) = some r := H
            have A67 := Aside0.mk A670
            clear A670
            by_cases c68 : t235 = true
            · subst c68
              have H1 : ((laws_toIntS.f kj15 l1).bind fun t236 => ((laws_eqIntS.f kj15 t223 t236).bind fun t239 => (if t239 = true then ((laws_markDisk.f kj15 t219 1).bind fun bt240 => ((laws_markIntS.f kj15 t223 bt240.1).bind fun bt242 => (if bt242.1 < 0 then (laws_FnExactLoseDisk.j1 kj15 l1 t217 true l0_0 t214 t226) else ((laws_eqDisk.f kj15 t226 t214).bind fun t244 => (if t244 = true then (laws_FnExactLoseDisk.j1 kj15 l1 t217 (t229 != t217) l0_0 t214 t226) else (laws_FnExactLoseDisk.j1 kj15 l1 t217 true l0_0 t214 t226)))))) else (some false)))) = some r := by rw [if_pos rfl] at H; exact H
              clear H
              have H := H1
              clear H1
              replace H := Option.bind_eq_some_iff.mp H
              obtain ⟨t236, A690, H⟩ := H
              replace H : ((laws_eqIntS.f kj15 t223 t236).bind fun t239 => (if t239 = true then ((laws_markDisk.f kj15 t219 1).bind fun bt240 => ((laws_markIntS.f kj15 t223 bt240.1).bind fun bt242 => (if bt242.1 < 0 then (laws_FnExactLoseDisk.j1 kj15 l1 t217 true l0_0 t214 t226) else ((laws_eqDisk.f kj15 t226 t214).bind fun t244 => (if t244 = true then (laws_FnExactLoseDisk.j1 kj15 l1 t217 (t229 != t217) l0_0 t214 t226) else (laws_FnExactLoseDisk.j1 kj15 l1 t217 true l0_0 t214 t226)))))) else (some false))) = some r := H
              have A69 := Aside0.mk A690
              clear A690
              replace H := Option.bind_eq_some_iff.mp H
              obtain ⟨t239, A700, H⟩ := H
              replace H : (if t239 = true then ((laws_markDisk.f kj15 t219 1).bind fun bt240 => ((laws_markIntS.f kj15 t223 bt240.1).bind fun bt242 => (if bt242.1 < 0 then (laws_FnExactLoseDisk.j1 kj15 l1 t217 true l0_0 t214 t226) else ((laws_eqDisk.f kj15 t226 t214).bind fun t244 => (if t244 = true then (laws_FnExactLoseDisk.j1 kj15 l1 t217 (t229 != t217) l0_0 t214 t226) else (laws_FnExactLoseDisk.j1 kj15 l1 t217 true l0_0 t214 t226)))))) else (some false)) = some r := H
              have A70 := Aside0.mk A700
              clear A700
              by_cases c71 : t239 = true
              · subst c71
                have H1 : ((laws_markDisk.f kj15 t219 1).bind fun bt240 => ((laws_markIntS.f kj15 t223 bt240.1).bind fun bt242 => (if bt242.1 < 0 then (laws_FnExactLoseDisk.j1 kj15 l1 t217 true l0_0 t214 t226) else ((laws_eqDisk.f kj15 t226 t214).bind fun t244 => (if t244 = true then (laws_FnExactLoseDisk.j1 kj15 l1 t217 (t229 != t217) l0_0 t214 t226) else (laws_FnExactLoseDisk.j1 kj15 l1 t217 true l0_0 t214 t226)))))) = some r := by rw [if_pos rfl] at H; exact H
                clear H
                have H := H1
                clear H1
                replace H := Option.bind_eq_some_iff.mp H
                obtain ⟨⟨t240, t241⟩, A720, H⟩ := H
                replace H : ((laws_markIntS.f kj15 t223 t240).bind fun bt242 => (if bt242.1 < 0 then (laws_FnExactLoseDisk.j1 kj15 l1 t217 true l0_0 t214 t226) else ((laws_eqDisk.f kj15 t226 t214).bind fun t244 => (if t244 = true then (laws_FnExactLoseDisk.j1 kj15 l1 t217 (t229 != t217) l0_0 t214 t226) else (laws_FnExactLoseDisk.j1 kj15 l1 t217 true l0_0 t214 t226))))) = some r := H
                have A72 := Aside0.mk A720
                clear A720
                replace H := Option.bind_eq_some_iff.mp H
                obtain ⟨⟨t242, t243⟩, A730, H⟩ := H
                replace H : (if t242 < 0 then (laws_FnExactLoseDisk.j1 kj15 l1 t217 true l0_0 t214 t226) else ((laws_eqDisk.f kj15 t226 t214).bind fun t244 => (if t244 = true then (laws_FnExactLoseDisk.j1 kj15 l1 t217 (t229 != t217) l0_0 t214 t226) else (laws_FnExactLoseDisk.j1 kj15 l1 t217 true l0_0 t214 t226)))) = some r := H
                have A73 := Aside0.mk A730
                clear A730
                have HC74 := Aside0.mk H
                clear H
                try go_wp2
                have n0_ := Aside0.mk (Kd.R_drew HO_9.out)
                have n1_ := Aside0.mk (Kd.R_drew HO_219000.out)
                have n2_ := Aside0.mk (Kd.R_drew HO_223000.out)
                have n3_ := Aside0.mk (Kd.R_drew HO_231000.out)
                have n4_ := Aside0.mk (blk_drew BK206.out)
                have n5_ := Aside0.mk (blk_drew BK218.out)
                have n6_ := Aside0.mk (blk_drew BK222.out)
                have n7_ := Aside0.mk (blk_drew BK230.out)
                have n8_ := Aside0.mk (below_drew1 HB.out)
                clear HO_9
                clear HO_219000
                clear HO_223000
                clear HO_231000
                clear BK206
                clear BK218
                clear BK222
                clear BK230
                clear HB
                have HO_9 := n0_
                have HO_219000 := n1_
                have HO_223000 := n2_
                have HO_231000 := n3_
                have BK206 := n4_
                have BK218 := n5_
                have BK222 := n6_
                have BK230 := n7_
                have HB := n8_
                clear n0_ n1_ n2_ n3_ n4_ n5_ n6_ n7_ n8_
                refine start_ (n := 5) (S := fun w' => w'.cell? ⟨gb222, 0, none⟩ = some (.slice Ao33 t219.length co33) ∧ w'.cell? ⟨gb206, 0, none⟩ = some (.slice A0_0 l0_0.length c0_0)) (ds := []) #[false, false, false, false, false] (by kernel_rfl) rfl rfl ⟨(blk_cell BK222.out 0).trans rfl, (blk_cell BK206.out 0).trans rfl⟩ (fun hHeld => ?_)
                generalize wc.drew = w75 at HO_9 HO_219000 HO_223000 HO_231000 BK206 BK218 BK222 BK230 HB hHeld ⊢
                refine take_ (i := 0) (N := some 52) (v := ?_) (a' := ?_) #[true, false, false, false, false] rfl rfl (by kernel_rfl) (fun _ _ _ h => h) (Or.inl ⟨by rfl, ?_⟩) hHeld ?_ ?_
                rotate_left
                · rintro w' ⟨s0, s1⟩
                  go_simp
                  with_reducible rfl
                rotate_left
                · simp only [Act.put, List.setIfInBounds_toArray, List.set_cons_zero, List.set_cons_succ, i64_w, i32_w]
                  rfl
                refine take_ (i := 1) (N := some 53) (v := ?_) (a' := ?_) #[true, true, false, false, false] rfl rfl (by kernel_rfl) (fun _ _ _ h => h) (Or.inl ⟨by rfl, ?_⟩) hHeld ?_ ?_
                rotate_left
                · rintro w' ⟨s0, s1⟩
                  go_simp
                  with_reducible rfl
                rotate_left
                · simp only [Act.put, List.setIfInBounds_toArray, List.set_cons_zero, List.set_cons_succ, i64_w, i32_w]
                  rfl
                refine one_ (i := 2) (N := some 54) #[true, true, true, false, false] rfl rfl (by kernel_rfl) (by decide) (fun K hK => ?_)
                refine goes_ Try.func24 (by kernel_rfl) rfl #[.agg #[.slice A0_0 l0_0.length c0_0]] (by rfl) rfl rfl (by (try simp only [List.map_toArray, List.map_cons, List.map_nil]); first | done | rfl | (simp only [List.length_drop, List.length_take]; rfl)) ?_
                with_reducible refine (laws_toDisk.calls kj15 _ _ l0_0 t232 _ ?side1 ?side2 A66.out).mono ?_
                (case side1 => repeat (first | exact (Kd.C_below HR0_0.out HB.out) | (with_reducible refine Kd.C_alloc ?_ _) | (with_reducible refine Kd.C_drewN ?_ _) | (with_reducible refine Kd.C_drew ?_)))
                (case side2 => exact HC0_0.out)
                rintro e w76 ⟨v233, rfl, ho0, hb⟩
                refine ⟨_, rfl, ?_⟩
                have n0_ := Aside0.mk (Kd.R_below (by (with_reducible repeat (first | apply Kd.R_alloc | apply Kd.R_drewN | apply Kd.R_drew)); exact HO_9.out) hb)
                have n1_ := Aside0.mk (Kd.R_elder' (by (with_reducible repeat (first | apply Kd.R_alloc | apply Kd.R_drewN | apply Kd.R_drew)); exact HO_219000.out) (Kd.R_base ho0) hb)
                have n2_ := Aside0.mk (Kd.R_elder' (by (with_reducible repeat (first | apply Kd.R_alloc | apply Kd.R_drewN | apply Kd.R_drew)); exact HO_223000.out) (Kd.R_base ho0) hb)
                have n3_ := Aside0.mk (Kd.R_elder' (by (with_reducible repeat (first | apply Kd.R_alloc | apply Kd.R_drewN | apply Kd.R_drew)); exact HO_231000.out) (Kd.R_base ho0) hb)
                have n4_ := Aside0.mk (Kd.R_lower (Kd.R_new' (Kd.R_new' (Kd.R_new' ho0 (Kd.R_lt (by (with_reducible repeat (first | apply Kd.R_alloc | apply Kd.R_drewN | apply Kd.R_drew)); exact HO_219000.out))) (Kd.R_lt (by (with_reducible repeat (first | apply Kd.R_alloc | apply Kd.R_drewN | apply Kd.R_drew)); exact HO_223000.out))) (Kd.R_lt (by (with_reducible repeat (first | apply Kd.R_alloc | apply Kd.R_drewN | apply Kd.R_drew)); exact HO_231000.out))) (below_size (by repeat (first | (with_reducible first | exact HB.out | apply below_alloc | apply pw_below_drewN | apply below_drew1 | refine below_set ?_ GE206.out | refine below_set ?_ GE218.out | refine below_set ?_ GE222.out | refine below_set ?_ GE230.out) | exact HB.out))))
                have n5_ := Aside0.mk (blk_below (g := gb206) (o := .cells #[.slice A0_0 l0_0.length c0_0] 34 (0, 0)) (by (with_reducible repeat (first | refine blk_drewN ?_ _ | refine blk_drew ?_ | refine blk_alloc ?_ _)); exact BK206.out) hb)
                have n6_ := Aside0.mk (blk_below (g := gb218) (o := .cells #[.slice Ao27 t214.length co27] 39 (0, 0)) (by (with_reducible repeat (first | refine blk_drewN ?_ _ | refine blk_drew ?_ | refine blk_alloc ?_ _)); exact BK218.out) hb)
                have n7_ := Aside0.mk (blk_below (g := gb222) (o := .cells #[.slice Ao33 t219.length co33] 39 (0, 0)) (by (with_reducible repeat (first | refine blk_drewN ?_ _ | refine blk_drew ?_ | refine blk_alloc ?_ _)); exact BK222.out) hb)
                have n8_ := Aside0.mk (blk_below (g := gb230) (o := .cells #[.slice Ao42 t226.length co42] 39 (0, 0)) (by (with_reducible repeat (first | refine blk_drewN ?_ _ | refine blk_drew ?_ | refine blk_alloc ?_ _)); exact BK230.out) hb)
                have n9_ := Aside0.mk (below_step (by repeat (first | (with_reducible first | exact HB.out | apply below_alloc | apply pw_below_drewN | apply below_drew1 | refine below_set ?_ GE206.out | refine below_set ?_ GE218.out | refine below_set ?_ GE222.out | refine below_set ?_ GE230.out) | exact HB.out)) hb)
                clear HO_9
                clear HO_219000
                clear HO_223000
                clear HO_231000
                clear BK206
                clear BK218
                clear BK222
                clear BK230
                clear HB
                have HO_9 := n0_
                have HO_219000 := n1_
                have HO_223000 := n2_
                have HO_231000 := n3_
                have HO234 := n4_
                have BK206 := n5_
                have BK218 := n6_
                have BK222 := n7_
                have BK230 := n8_
                have HB := n9_
                clear n0_ n1_ n2_ n3_ n4_ n5_ n6_ n7_ n8_ n9_
                (try clear hb)
                (try clear hb2)
                (try clear hk)
                (try clear hi)
                (try clear ho0)
                obtain ⟨Ao77, co77, eo77⟩ := Kd.R_slice HO234.out
                (first | subst eo77 | (injection eo77 with f1_ f2_ f3_; have f4_ := f1_.symm; have f5_ := f3_.symm; clear f1_ f2_ f3_; subst f4_; subst f5_))
                refine hK.out _ _ ⟨(blk_cell BK222.out 0).trans rfl, (blk_cell BK206.out 0).trans rfl⟩ (fun hHeld => ?_)
                clear hK K
                refine norm_ (a' := ?_) ?_ ?_
                rotate_left
                · show Act.put _ (some 54) _ = _
                  simp only [Act.put, List.setIfInBounds_toArray, List.set_cons_zero, List.set_cons_succ, i64_w, i32_w]
                  rfl
                refine one_ (i := 3) (N := some 55) #[true, true, true, true, false] rfl rfl (by kernel_rfl) (by decide) (fun K hK => ?_)
                refine goes_ Try.func26 (by kernel_rfl) rfl #[.agg #[.slice Ao33 t219.length co33], .agg #[.slice Ao77 t232.length co77]] (by rfl) rfl rfl (by (try simp only [List.map_toArray, List.map_cons, List.map_nil]); first | done | rfl | (simp only [List.length_drop, List.length_take]; rfl)) ?_
                with_reducible refine (laws_eqDisk.calls kj15 _ _ t219 _ _ t232 true _ ?side1 ?side2 ?side3 ?side4 A67.out).mono ?_
                (case side1 => repeat (first | exact (Kd.R_reads' HO_223000.out).2.2 | (with_reducible refine Kd.C_alloc ?_ _) | (with_reducible refine Kd.C_drewN ?_ _) | (with_reducible refine Kd.C_drew ?_)))
                (case side2 => exact (Kd.R_reads' HO_223000.out).2.1)
                (case side3 => repeat (first | exact (Kd.R_reads' HO234.out).2.2 | (with_reducible refine Kd.C_alloc ?_ _) | (with_reducible refine Kd.C_drewN ?_ _) | (with_reducible refine Kd.C_drew ?_)))
                (case side4 => exact (Kd.R_reads' HO234.out).2.1)
                rintro e w78 ⟨rfl, hb⟩
                refine ⟨_, rfl, ?_⟩
                have n0_ := Aside0.mk (Kd.R_below (by (with_reducible repeat (first | apply Kd.R_alloc | apply Kd.R_drewN | apply Kd.R_drew)); exact HO_9.out) hb)
                have n1_ := Aside0.mk (Kd.R_below (by (with_reducible repeat (first | apply Kd.R_alloc | apply Kd.R_drewN | apply Kd.R_drew)); exact HO_219000.out) hb)
                have n2_ := Aside0.mk (Kd.R_below (by (with_reducible repeat (first | apply Kd.R_alloc | apply Kd.R_drewN | apply Kd.R_drew)); exact HO_223000.out) hb)
                have n3_ := Aside0.mk (Kd.R_below (by (with_reducible repeat (first | apply Kd.R_alloc | apply Kd.R_drewN | apply Kd.R_drew)); exact HO_231000.out) hb)
                have n4_ := Aside0.mk (Kd.R_below (by (with_reducible repeat (first | apply Kd.R_alloc | apply Kd.R_drewN | apply Kd.R_drew)); exact HO234.out) hb)
                have n5_ := Aside0.mk (blk_below (g := gb206) (o := .cells #[.slice A0_0 l0_0.length c0_0] 34 (0, 0)) (by (with_reducible repeat (first | refine blk_drewN ?_ _ | refine blk_drew ?_ | refine blk_alloc ?_ _)); exact BK206.out) hb)
                have n6_ := Aside0.mk (blk_below (g := gb218) (o := .cells #[.slice Ao27 t214.length co27] 39 (0, 0)) (by (with_reducible repeat (first | refine blk_drewN ?_ _ | refine blk_drew ?_ | refine blk_alloc ?_ _)); exact BK218.out) hb)
                have n7_ := Aside0.mk (blk_below (g := gb222) (o := .cells #[.slice Ao33 t219.length co33] 39 (0, 0)) (by (with_reducible repeat (first | refine blk_drewN ?_ _ | refine blk_drew ?_ | refine blk_alloc ?_ _)); exact BK222.out) hb)
                have n8_ := Aside0.mk (blk_below (g := gb230) (o := .cells #[.slice Ao42 t226.length co42] 39 (0, 0)) (by (with_reducible repeat (first | refine blk_drewN ?_ _ | refine blk_drew ?_ | refine blk_alloc ?_ _)); exact BK230.out) hb)
                have n9_ := Aside0.mk (below_step (by repeat (first | (with_reducible first | exact HB.out | apply below_alloc | apply pw_below_drewN | apply below_drew1 | refine below_set ?_ GE206.out | refine below_set ?_ GE218.out | refine below_set ?_ GE222.out | refine below_set ?_ GE230.out) | exact HB.out)) hb)
                clear HO_9
                clear HO_219000
                clear HO_223000
                clear HO_231000
                clear HO234
                clear BK206
                clear BK218
                clear BK222
                clear BK230
                clear HB
                have HO_9 := n0_
                have HO_219000 := n1_
                have HO_223000 := n2_
                have HO_231000 := n3_
                have HO234 := n4_
                have BK206 := n5_
                have BK218 := n6_
                have BK222 := n7_
                have BK230 := n8_
                have HB := n9_
                clear n0_ n1_ n2_ n3_ n4_ n5_ n6_ n7_ n8_ n9_
                (try clear hb)
                (try clear hb2)
                (try clear hk)
                (try clear hi)
                refine hK.out _ _ ⟨(blk_cell BK222.out 0).trans rfl, (blk_cell BK206.out 0).trans rfl⟩ (fun hHeld => ?_)
                clear hK K
                refine norm_ (a' := ?_) ?_ ?_
                rotate_left
                · show Act.put _ (some 55) _ = _
                  simp only [Act.put, List.setIfInBounds_toArray, List.set_cons_zero, List.set_cons_succ, i64_w, i32_w]
                  rfl
                refine pure_ (i := 4) (N := some 56) (v := ?_) (a' := ?_) #[true, true, true, true, true] rfl rfl (by kernel_rfl) (fun _ _ _ h => h) (Or.inl ⟨by rfl, ?_⟩) ?_ ?_
                rotate_left
                · intro w'
                  go_simp
                  with_reducible rfl
                rotate_left
                · simp only [Act.put, List.setIfInBounds_toArray, List.set_cons_zero, List.set_cons_succ, i64_w, i32_w]
                  rfl
                refine done_ (by kernel_rfl) ?_
                go_upto_region 20 with (first | ((with_reducible refine gate_callee (f := 48) rfl ?_); refine goesL_ (some 59) rfl rfl Try.func48 (by kernel_rfl) rfl #[.slice A1 l1.length c1] rfl (by (try simp only [List.map_toArray, List.map_cons, List.map_nil]); first | done | rfl | (simp only [List.length_drop, List.length_take]; rfl)) ?_; (with_reducible refine (laws_toIntS.calls kj15 _ _ l1 t236 _ ?side1 ?side2 A69.out).mono ?_); (case side1 => repeat (first | exact (Kd.C_below HR1.out HB.out) | (with_reducible refine Kd.C_alloc ?_ _) | (with_reducible refine Kd.C_drewN ?_ _) | (with_reducible refine Kd.C_drew ?_))); (case side2 => exact HC1.out); rintro e w79 ⟨v237, rfl, ho0, hb⟩; refine ⟨_, rfl, ?_⟩; have n0_ := Aside0.mk (Kd.R_elder' (by (with_reducible repeat (first | apply Kd.R_alloc | apply Kd.R_drewN | apply Kd.R_drew)); exact HO_9.out) (Kd.R_base ho0) hb); have n1_ := Aside0.mk (Kd.R_below (by (with_reducible repeat (first | apply Kd.R_alloc | apply Kd.R_drewN | apply Kd.R_drew)); exact HO_219000.out) hb); have n2_ := Aside0.mk (Kd.R_below (by (with_reducible repeat (first | apply Kd.R_alloc | apply Kd.R_drewN | apply Kd.R_drew)); exact HO_223000.out) hb); have n3_ := Aside0.mk (Kd.R_below (by (with_reducible repeat (first | apply Kd.R_alloc | apply Kd.R_drewN | apply Kd.R_drew)); exact HO_231000.out) hb); have n4_ := Aside0.mk (Kd.R_below (by (with_reducible repeat (first | apply Kd.R_alloc | apply Kd.R_drewN | apply Kd.R_drew)); exact HO234.out) hb); have n5_ := Aside0.mk (Kd.R_lower (Kd.R_new' ho0 (Kd.R_lt (by (with_reducible repeat (first | apply Kd.R_alloc | apply Kd.R_drewN | apply Kd.R_drew)); exact HO_9.out))) (below_size (by repeat (first | (with_reducible first | exact HB.out | apply below_alloc | apply pw_below_drewN | apply below_drew1 | refine below_set ?_ GE206.out | refine below_set ?_ GE218.out | refine below_set ?_ GE222.out | refine below_set ?_ GE230.out) | exact HB.out)))); have n6_ := Aside0.mk (blk_below (g := gb206) (o := .cells #[.slice A0_0 l0_0.length c0_0] 34 (0, 0)) (by (with_reducible repeat (first | refine blk_drewN ?_ _ | refine blk_drew ?_ | refine blk_alloc ?_ _)); exact BK206.out) hb); have n7_ := Aside0.mk (blk_below (g := gb218) (o := .cells #[.slice Ao27 t214.length co27] 39 (0, 0)) (by (with_reducible repeat (first | refine blk_drewN ?_ _ | refine blk_drew ?_ | refine blk_alloc ?_ _)); exact BK218.out) hb); have n8_ := Aside0.mk (blk_below (g := gb222) (o := .cells #[.slice Ao33 t219.length co33] 39 (0, 0)) (by (with_reducible repeat (first | refine blk_drewN ?_ _ | refine blk_drew ?_ | refine blk_alloc ?_ _)); exact BK222.out) hb); have n9_ := Aside0.mk (blk_below (g := gb230) (o := .cells #[.slice Ao42 t226.length co42] 39 (0, 0)) (by (with_reducible repeat (first | refine blk_drewN ?_ _ | refine blk_drew ?_ | refine blk_alloc ?_ _)); exact BK230.out) hb); have n10_ := Aside0.mk (below_step (by repeat (first | (with_reducible first | exact HB.out | apply below_alloc | apply pw_below_drewN | apply below_drew1 | refine below_set ?_ GE206.out | refine below_set ?_ GE218.out | refine below_set ?_ GE222.out | refine below_set ?_ GE230.out) | exact HB.out)) hb); clear HO_9; clear HO_219000; clear HO_223000; clear HO_231000; clear HO234; clear BK206; clear BK218; clear BK222; clear BK230; clear HB; have HO_9 := n0_; have HO_219000 := n1_; have HO_223000 := n2_; have HO_231000 := n3_; have HO234 := n4_; have HO238 := n5_; have BK206 := n6_; have BK218 := n7_; have BK222 := n8_; have BK230 := n9_; have HB := n10_; clear n0_ n1_ n2_ n3_ n4_ n5_ n6_ n7_ n8_ n9_ n10_; (try clear hb); (try clear hb2); (try clear hk); (try clear hi); (try clear ho0); obtain ⟨Ao80, co80, eo80⟩ := Kd.R_slice HO238.out; subst eo80) | ((with_reducible refine gate_callee (f := 49) rfl ?_); refine goesL_ (some 60) rfl rfl Try.func49 (by kernel_rfl) rfl #[.slice Ao39 t223.length co39, .slice Ao80 t236.length co80] rfl (by (try simp only [List.map_toArray, List.map_cons, List.map_nil]); first | done | rfl | (simp only [List.length_drop, List.length_take]; rfl)) ?_; (with_reducible refine (laws_eqIntS.calls kj15 _ _ t223 _ _ t236 true _ ?side1 ?side2 ?side3 ?side4 A70.out).mono ?_); (case side1 => repeat (first | exact (Kd.R_reads' HO_9.out).2.2 | (with_reducible refine Kd.C_alloc ?_ _) | (with_reducible refine Kd.C_drewN ?_ _) | (with_reducible refine Kd.C_drew ?_))); (case side2 => exact (Kd.R_reads' HO_9.out).2.1); (case side3 => repeat (first | exact (Kd.R_reads' HO238.out).2.2 | (with_reducible refine Kd.C_alloc ?_ _) | (with_reducible refine Kd.C_drewN ?_ _) | (with_reducible refine Kd.C_drew ?_))); (case side4 => exact (Kd.R_reads' HO238.out).2.1); rintro e w' ⟨rfl, ⟨nd, rfl⟩⟩; refine ⟨_, rfl, ?_⟩; have hnb81 := NB222_206.out; have hnc81 := NB206_222.out; have hnb82 := NB222_218.out; have hnc82 := NB218_222.out; have hnb83 := NB222_230.out; have hnc83 := NB230_222.out; have hcz84_0 : w79.cell? ⟨gb222, 0, none⟩ = some (.slice Ao33 t219.length co33) := (blk_cell BK222.out 0).trans rfl; have hfz84_0 := blk_frozen BK222.out 0) | ((with_reducible refine gate_callee (f := 50) rfl ?_); refine goesL_ (some 64) rfl rfl Try.func50 (by kernel_rfl) rfl #[.agg #[.slice Ao33 t219.length co33], .int .i64 1] rfl (by (try simp only [List.map_toArray, List.map_cons, List.map_nil]); first | done | rfl | (simp only [List.length_drop, List.length_take]; rfl)) ?_; (with_reducible refine (laws_markDisk.calls kj15 (fun k_ => some k_ = (.slice Ao33 t219.length co33 : Value).ownBlock) (.slice Ao33 t219.length co33) t219 1 t240 t241 w _ ?side1 ?side2 A72.out).mono ?_); (case side1 => repeat (first | (with_reducible first | exact HB.out | apply below_alloc | apply pw_below_drewN | apply below_drew1 | refine below_set ?_ GE206.out | refine below_set ?_ GE218.out | refine below_set ?_ GE222.out | refine below_set ?_ GE230.out) | exact HB.out)); (case side2 => exact Kd.R_tight rfl HO_223000.out); rintro e w85 ⟨rfl, hy0, hb, hkp⟩; refine ⟨_, rfl, ?_⟩; have n0_ := Aside0.mk (Kd.R_mono (ok' := fun k_ => some k_ ≠ (.slice Ao80 t236.length co80 : Value).ownBlock) (Kd.R_keptB ((Kd.R_apart' HO_9.out (Kd.R_typed HO_223000.out) (by decide))) hkp (fun k_ hk_ hs_ => (hk_.2) hs_)) (fun k_ hk_ => hk_.1.1.2)); have n1_ := Aside0.mk (Kd.R_mono (ok' := fun k_ => some k_ ≠ (.slice Ao33 t219.length co33 : Value).ownBlock ∧ some k_ ≠ (.slice Ao42 t226.length co42 : Value).ownBlock ∧ some k_ ≠ (.slice Ao77 t232.length co77 : Value).ownBlock) (Kd.R_keptB (HO_219000.out) hkp (fun k_ hk_ hs_ => (hk_.1.1) hs_)) (fun k_ hk_ => ⟨hk_.1.1.1, hk_.1.1.2, hk_.1.2⟩)); have n2_ := Aside0.mk (Kd.R_reok rfl hy0 (fun k_ e_ => HO_223000.out.1 k_ e_)); have n3_ := Aside0.mk (Kd.R_mono (ok' := fun k_ => some k_ ≠ (.slice Ao27 t214.length co27 : Value).ownBlock ∧ some k_ ≠ (.slice Ao33 t219.length co33 : Value).ownBlock ∧ some k_ ≠ (.slice Ao77 t232.length co77 : Value).ownBlock) (Kd.R_keptB (HO_231000.out) hkp (fun k_ hk_ hs_ => (hk_.1.2) hs_)) (fun k_ hk_ => ⟨hk_.1.1.1, hk_.1.1.2, hk_.1.2⟩)); have n4_ := Aside0.mk (blk_kept (g := gb206) (by first | (with_reducible exact BK206.out) | (with_reducible exact blk_drewN BK206.out _) | (with_reducible exact blk_drew BK206.out) | ((with_reducible repeat (first | refine blk_drewN ?_ _ | refine blk_drew ?_ | refine blk_alloc ?_ _)); exact BK206.out)) hkp (fun hs_ => (fun e_ => (Kd.R_ne HO_223000.out BK206.out (by decide)) e_) hs_)); have n5_ := Aside0.mk (blk_kept (g := gb218) (by first | (with_reducible exact BK218.out) | (with_reducible exact blk_drewN BK218.out _) | (with_reducible exact blk_drew BK218.out) | ((with_reducible repeat (first | refine blk_drewN ?_ _ | refine blk_drew ?_ | refine blk_alloc ?_ _)); exact BK218.out)) hkp (fun hs_ => (fun e_ => (Kd.R_ne HO_223000.out BK218.out (by decide)) e_) hs_)); have n6_ := Aside0.mk (blk_kept (g := gb222) (by first | (with_reducible exact BK222.out) | (with_reducible exact blk_drewN BK222.out _) | (with_reducible exact blk_drew BK222.out) | ((with_reducible repeat (first | refine blk_drewN ?_ _ | refine blk_drew ?_ | refine blk_alloc ?_ _)); exact BK222.out)) hkp (fun hs_ => (fun e_ => (Kd.R_ne HO_223000.out BK222.out (by decide)) e_) hs_)); have n7_ := Aside0.mk (blk_kept (g := gb230) (by first | (with_reducible exact BK230.out) | (with_reducible exact blk_drewN BK230.out _) | (with_reducible exact blk_drew BK230.out) | ((with_reducible repeat (first | refine blk_drewN ?_ _ | refine blk_drew ?_ | refine blk_alloc ?_ _)); exact BK230.out)) hkp (fun hs_ => (fun e_ => (Kd.R_ne HO_223000.out BK230.out (by decide)) e_) hs_)); have n8_ := Aside0.mk (Kd.R_mono (ok' := fun k_ => some k_ ≠ (.slice Ao27 t214.length co27 : Value).ownBlock ∧ some k_ ≠ (.slice Ao33 t219.length co33 : Value).ownBlock ∧ some k_ ≠ (.slice Ao42 t226.length co42 : Value).ownBlock) (Kd.R_keptB (HO234.out) hkp (fun k_ hk_ hs_ => (hk_.1.2) hs_)) (fun k_ hk_ => ⟨hk_.1.1.1.2, hk_.1.1.2, hk_.1.2⟩)); have n9_ := Aside0.mk (Kd.R_mono (ok' := fun k_ => some k_ ≠ (.slice Ao39 t223.length co39 : Value).ownBlock) (Kd.R_keptB ((Kd.R_apart' HO238.out (Kd.R_typed HO_223000.out) (by decide))) hkp (fun k_ hk_ hs_ => (hk_.2) hs_)) (fun k_ hk_ => hk_.1.1.2)); have n10_ := Aside0.mk (hb); clear HO_9; clear HO_219000; clear HO_223000; clear HO_231000; clear BK206; clear BK218; clear BK222; clear BK230; clear HO234; clear HO238; clear HB; have HO_9 := n0_; have HO_219000 := n1_; have HO_223000 := n2_; have HO_231000 := n3_; have BK206 := n4_; have BK218 := n5_; have BK222 := n6_; have BK230 := n7_; have HO234 := n8_; have HO238 := n9_; have HB := n10_; clear n0_ n1_ n2_ n3_ n4_ n5_ n6_ n7_ n8_ n9_ n10_; (try clear hb); (try clear hkp); (try clear hy0)) | ((with_reducible refine gate_callee (f := 51) rfl ?_); refine goesL_ (some 67) rfl rfl Try.func51 (by kernel_rfl) rfl #[.slice Ao39 t223.length co39, .int .i64 t240] rfl (by (try simp only [List.map_toArray, List.map_cons, List.map_nil]); first | done | rfl | (simp only [List.length_drop, List.length_take]; rfl)) ?_; (with_reducible refine (laws_markIntS.calls kj15 (fun k_ => some k_ = (.slice Ao39 t223.length co39 : Value).ownBlock) (.slice Ao39 t223.length co39) t223 t240 t242 t243 w _ ?side1 ?side2 A73.out).mono ?_); (case side1 => repeat (first | (with_reducible first | exact HB.out | apply below_alloc | apply pw_below_drewN | apply below_drew1 | refine below_set ?_ GE206.out | refine below_set ?_ GE218.out | refine below_set ?_ GE222.out | refine below_set ?_ GE230.out) | exact HB.out)); (case side2 => exact Kd.R_tight rfl HO_9.out); rintro e w86 ⟨rfl, hy0, hb, hkp⟩; refine ⟨_, rfl, ?_⟩; have n0_ := Aside0.mk (Kd.R_reok rfl hy0 (fun k_ e_ => HO_9.out.1 k_ e_)); have n1_ := Aside0.mk (Kd.R_mono (ok' := fun k_ => some k_ ≠ (.slice Ao33 t219.length co33 : Value).ownBlock ∧ some k_ ≠ (.slice Ao42 t226.length co42 : Value).ownBlock ∧ some k_ ≠ (.slice Ao77 t232.length co77 : Value).ownBlock) (Kd.R_keptB ((Kd.R_apart' HO_219000.out (Kd.R_typed HO_9.out) (by decide))) hkp (fun k_ hk_ hs_ => (hk_.2) hs_)) (fun k_ hk_ => ⟨hk_.1.1.1, hk_.1.1.2.1, hk_.1.1.2.2⟩)); have n2_ := Aside0.mk (Kd.R_mono (ok' := fun k_ => some k_ ≠ (.slice Ao27 t214.length co27 : Value).ownBlock ∧ some k_ ≠ (.slice Ao42 t226.length co42 : Value).ownBlock ∧ some k_ ≠ (.slice Ao77 t232.length co77 : Value).ownBlock) (Kd.R_keptB ((Kd.R_apart' HO_223000.out (Kd.R_typed HO_9.out) (by decide))) hkp (fun k_ hk_ hs_ => (hk_.2) hs_)) (fun k_ hk_ => ⟨hk_.1.1.1.1, hk_.1.1.1.2, hk_.1.1.2⟩)); have n3_ := Aside0.mk (Kd.R_mono (ok' := fun k_ => some k_ ≠ (.slice Ao27 t214.length co27 : Value).ownBlock ∧ some k_ ≠ (.slice Ao33 t219.length co33 : Value).ownBlock ∧ some k_ ≠ (.slice Ao77 t232.length co77 : Value).ownBlock) (Kd.R_keptB ((Kd.R_apart' HO_231000.out (Kd.R_typed HO_9.out) (by decide))) hkp (fun k_ hk_ hs_ => (hk_.2) hs_)) (fun k_ hk_ => ⟨hk_.1.1.1, hk_.1.1.2.1, hk_.1.1.2.2⟩)); have n4_ := Aside0.mk (blk_kept (g := gb206) (by first | (with_reducible exact BK206.out) | (with_reducible exact blk_drewN BK206.out _) | (with_reducible exact blk_drew BK206.out) | ((with_reducible repeat (first | refine blk_drewN ?_ _ | refine blk_drew ?_ | refine blk_alloc ?_ _)); exact BK206.out)) hkp (fun hs_ => (fun e_ => (Kd.R_ne HO_9.out BK206.out (by decide)) e_) hs_)); have n5_ := Aside0.mk (blk_kept (g := gb218) (by first | (with_reducible exact BK218.out) | (with_reducible exact blk_drewN BK218.out _) | (with_reducible exact blk_drew BK218.out) | ((with_reducible repeat (first | refine blk_drewN ?_ _ | refine blk_drew ?_ | refine blk_alloc ?_ _)); exact BK218.out)) hkp (fun hs_ => (fun e_ => (Kd.R_ne HO_9.out BK218.out (by decide)) e_) hs_)); have n6_ := Aside0.mk (blk_kept (g := gb222) (by first | (with_reducible exact BK222.out) | (with_reducible exact blk_drewN BK222.out _) | (with_reducible exact blk_drew BK222.out) | ((with_reducible repeat (first | refine blk_drewN ?_ _ | refine blk_drew ?_ | refine blk_alloc ?_ _)); exact BK222.out)) hkp (fun hs_ => (fun e_ => (Kd.R_ne HO_9.out BK222.out (by decide)) e_) hs_)); have n7_ := Aside0.mk (blk_kept (g := gb230) (by first | (with_reducible exact BK230.out) | (with_reducible exact blk_drewN BK230.out _) | (with_reducible exact blk_drew BK230.out) | ((with_reducible repeat (first | refine blk_drewN ?_ _ | refine blk_drew ?_ | refine blk_alloc ?_ _)); exact BK230.out)) hkp (fun hs_ => (fun e_ => (Kd.R_ne HO_9.out BK230.out (by decide)) e_) hs_)); have n8_ := Aside0.mk (Kd.R_mono (ok' := fun k_ => some k_ ≠ (.slice Ao27 t214.length co27 : Value).ownBlock ∧ some k_ ≠ (.slice Ao33 t219.length co33 : Value).ownBlock ∧ some k_ ≠ (.slice Ao42 t226.length co42 : Value).ownBlock) (Kd.R_keptB ((Kd.R_apart' HO234.out (Kd.R_typed HO_9.out) (by decide))) hkp (fun k_ hk_ hs_ => (hk_.2) hs_)) (fun k_ hk_ => ⟨hk_.1.1.1, hk_.1.1.2.1, hk_.1.1.2.2⟩)); have n9_ := Aside0.mk (Kd.R_mono (ok' := fun k_ => some k_ ≠ (.slice Ao39 t223.length co39 : Value).ownBlock) (Kd.R_keptB (HO238.out) hkp (fun k_ hk_ hs_ => (hk_) hs_)) (fun k_ hk_ => hk_.1)); have n10_ := Aside0.mk (hb); clear HO_9; clear HO_219000; clear HO_223000; clear HO_231000; clear BK206; clear BK218; clear BK222; clear BK230; clear HO234; clear HO238; clear HB; have HO_9 := n0_; have HO_219000 := n1_; have HO_223000 := n2_; have HO_231000 := n3_; have BK206 := n4_; have BK218 := n5_; have BK222 := n6_; have BK230 := n7_; have HO234 := n8_; have HO238 := n9_; have HB := n10_; clear n0_ n1_ n2_ n3_ n4_ n5_ n6_ n7_ n8_ n9_ n10_; (try clear hb); (try clear hkp); (try clear hy0)))
                (try simp only [Act.put, List.setIfInBounds_toArray, List.set_cons_zero, List.set_cons_succ])
                go_cut [80] (fun v80 wc => ∃ (kq : Nat) (x80_73 : Bool), v80 = .bool x80_73 ∧ Aside0 (laws_FnExactLoseDisk.j1 kq l1 t217 x80_73 l0_0 t214 t226 = some r) ∧ Aside0 (kq ≤ kj15) ∧ Aside0 (Kd.R k49 49 wc w.heap.size (fun k_ => some k_ ≠ ((.slice Ao33 t219.length co33) : Value).ownBlock ∧ some k_ ≠ ((.slice Ao42 t226.length co42) : Value).ownBlock) (.slice Ao27 t214.length co27) t214) ∧ Aside0 (Kd.R k49 49 wc w.heap.size (fun k_ => some k_ ≠ ((.slice Ao27 t214.length co27) : Value).ownBlock ∧ some k_ ≠ ((.slice Ao42 t226.length co42) : Value).ownBlock) (.slice Ao33 t219.length co33) t241) ∧ Aside0 (Kd.R k49 49 wc w.heap.size (fun k_ => some k_ ≠ ((.slice Ao27 t214.length co27) : Value).ownBlock ∧ some k_ ≠ ((.slice Ao33 t219.length co33) : Value).ownBlock) (.slice Ao42 t226.length co42) t226) ∧ Aside0 (wc.heap[gb206]? = some (.cells #[(.slice A0_0 l0_0.length c0_0)] 34 (0, 0))) ∧ Aside0 (wc.heap[gb218]? = some (.cells #[(.slice Ao27 t214.length co27)] 39 (0, 0))) ∧ Aside0 (wc.heap[gb222]? = some (.cells #[(.slice Ao33 t219.length co33)] 39 (0, 0))) ∧ Aside0 (wc.heap[gb230]? = some (.cells #[(.slice Ao42 t226.length co42)] 39 (0, 0))) ∧ Aside0 (Below w.heap.size w wc))
                case first =>
                  have H := HC74.out
                  clear HC74
                  by_cases c87 : t242 < 0
                  · rw [if_pos c87] at H
                    have c87b0 : decide (t242 < 0) = true := decide_eq_true c87
                    clear c87
                    (first | rw [c87b0] | (simp only [i64_w, i32_w]; rw [c87b0]) | skip)
                    have H' := Aside0.mk H
                    clear H
                    go_wp2
                    go_meet
                    case rel => exact ⟨_, (true), (by first | rfl | (simp; done) | (simp [*]; done)), H', ⟨by have := HJ15.out; first | omega | exact Nat.le_refl _⟩, ⟨by (with_reducible repeat (first | apply Kd.R_alloc | apply Kd.R_drewN | apply Kd.R_drew)); exact Kd.R_mono HO_219000.out (fun _ hk => ⟨hk.1, hk.2.1⟩)⟩, ⟨by (with_reducible repeat (first | apply Kd.R_alloc | apply Kd.R_drewN | apply Kd.R_drew)); exact Kd.R_mono HO_223000.out (fun _ hk => ⟨hk.1, hk.2.1⟩)⟩, ⟨by (with_reducible repeat (first | apply Kd.R_alloc | apply Kd.R_drewN | apply Kd.R_drew)); exact Kd.R_mono HO_231000.out (fun _ hk => ⟨hk.1, hk.2.1⟩)⟩, ⟨by (with_reducible repeat (first | refine blk_drewN ?_ _ | refine blk_drew ?_ | refine blk_alloc ?_ _)); exact BK206.out⟩, ⟨by (with_reducible repeat (first | refine blk_drewN ?_ _ | refine blk_drew ?_ | refine blk_alloc ?_ _)); exact BK218.out⟩, ⟨by (with_reducible repeat (first | refine blk_drewN ?_ _ | refine blk_drew ?_ | refine blk_alloc ?_ _)); exact BK222.out⟩, ⟨by (with_reducible repeat (first | refine blk_drewN ?_ _ | refine blk_drew ?_ | refine blk_alloc ?_ _)); exact BK230.out⟩, ⟨by repeat (first | (with_reducible first | exact HB.out | apply below_alloc | apply pw_below_drewN | apply below_drew1 | refine below_set ?_ GE206.out | refine below_set ?_ GE218.out | refine below_set ?_ GE222.out | refine below_set ?_ GE230.out) | exact HB.out)⟩⟩
                  · rw [if_neg c87] at H
                    have c87b0 : decide (t242 < 0) = false := decide_eq_false c87
                    clear c87
                    (first | rw [c87b0] | (simp only [i64_w, i32_w]; rw [c87b0]) | skip)
                    replace H := Option.bind_eq_some_iff.mp H
                    obtain ⟨t244, A880, H⟩ := H
                    replace H : (if t244 = true then (laws_FnExactLoseDisk.j1 kj15 l1 t217 (t229 != t217) l0_0 t214 t226) else (laws_FnExactLoseDisk.j1 kj15 l1 t217 true l0_0 t214 t226)) = some r := H
                    have A88 := Aside0.mk A880
                    clear A880
                    by_cases c89 : t244 = true
                    · subst c89
                      have H1 : (laws_FnExactLoseDisk.j1 kj15 l1 t217 (t229 != t217) l0_0 t214 t226) = some r := by rw [if_pos rfl] at H; exact H
                      clear H
                      have H := H1
                      clear H1
                      have H' := Aside0.mk H
                      clear H
                      have hnb90 := NB230_206.out
                      have hnc90 := NB206_230.out
                      have hnb91 := NB230_218.out
                      have hnc91 := NB218_230.out
                      have hnb92 := NB230_222.out
                      have hnc92 := NB222_230.out
                      have hcz93_0 : w86.cell? ⟨gb230, 0, none⟩ = some (.slice Ao42 t226.length co42) := (blk_cell BK230.out 0).trans rfl
                      have hfz93_0 := blk_frozen BK230.out 0
                      have hnb94 := NB218_206.out
                      have hnc94 := NB206_218.out
                      have hnb95 := NB218_222.out
                      have hnc95 := NB222_218.out
                      have hcz96_0 : w86.cell? ⟨gb218, 0, none⟩ = some (.slice Ao27 t214.length co27) := (blk_cell BK218.out 0).trans rfl
                      have hfz96_0 := blk_frozen BK218.out 0
                      go_wp2_with (first | (go_at_call 26; (with_reducible refine (laws_eqDisk.calls kj15 _ _ t226 _ _ t214 true _ ?side1 ?side2 ?side3 ?side4 A88.out).mono ?_); (case side1 => repeat (first | exact (Kd.R_reads' HO_231000.out).2.2 | (with_reducible refine Kd.C_alloc ?_ _) | (with_reducible refine Kd.C_drewN ?_ _) | (with_reducible refine Kd.C_drew ?_))); (case side2 => exact (Kd.R_reads' HO_231000.out).2.1); (case side3 => repeat (first | exact (Kd.R_reads' HO_219000.out).2.2 | (with_reducible refine Kd.C_alloc ?_ _) | (with_reducible refine Kd.C_drewN ?_ _) | (with_reducible refine Kd.C_drew ?_))); (case side4 => exact (Kd.R_reads' HO_219000.out).2.1); rintro e w97 ⟨rfl, hb⟩; have n0_ := Aside0.mk (Kd.R_below (by (with_reducible repeat (first | apply Kd.R_alloc | apply Kd.R_drewN | apply Kd.R_drew)); exact HO_9.out) hb); have n1_ := Aside0.mk (Kd.R_below (by (with_reducible repeat (first | apply Kd.R_alloc | apply Kd.R_drewN | apply Kd.R_drew)); exact HO_219000.out) hb); have n2_ := Aside0.mk (Kd.R_below (by (with_reducible repeat (first | apply Kd.R_alloc | apply Kd.R_drewN | apply Kd.R_drew)); exact HO_223000.out) hb); have n3_ := Aside0.mk (Kd.R_below (by (with_reducible repeat (first | apply Kd.R_alloc | apply Kd.R_drewN | apply Kd.R_drew)); exact HO_231000.out) hb); have n4_ := Aside0.mk (Kd.R_below (by (with_reducible repeat (first | apply Kd.R_alloc | apply Kd.R_drewN | apply Kd.R_drew)); exact HO234.out) hb); have n5_ := Aside0.mk (Kd.R_below (by (with_reducible repeat (first | apply Kd.R_alloc | apply Kd.R_drewN | apply Kd.R_drew)); exact HO238.out) hb); have n6_ := Aside0.mk (blk_below (g := gb206) (o := .cells #[.slice A0_0 l0_0.length c0_0] 34 (0, 0)) (by (with_reducible repeat (first | refine blk_drewN ?_ _ | refine blk_drew ?_ | refine blk_alloc ?_ _)); exact BK206.out) hb); have n7_ := Aside0.mk (blk_below (g := gb218) (o := .cells #[.slice Ao27 t214.length co27] 39 (0, 0)) (by (with_reducible repeat (first | refine blk_drewN ?_ _ | refine blk_drew ?_ | refine blk_alloc ?_ _)); exact BK218.out) hb); have n8_ := Aside0.mk (blk_below (g := gb222) (o := .cells #[.slice Ao33 t219.length co33] 39 (0, 0)) (by (with_reducible repeat (first | refine blk_drewN ?_ _ | refine blk_drew ?_ | refine blk_alloc ?_ _)); exact BK222.out) hb); have n9_ := Aside0.mk (blk_below (g := gb230) (o := .cells #[.slice Ao42 t226.length co42] 39 (0, 0)) (by (with_reducible repeat (first | refine blk_drewN ?_ _ | refine blk_drew ?_ | refine blk_alloc ?_ _)); exact BK230.out) hb); have n10_ := Aside0.mk (below_step (by repeat (first | (with_reducible first | exact HB.out | apply below_alloc | apply pw_below_drewN | apply below_drew1 | refine below_set ?_ GE206.out | refine below_set ?_ GE218.out | refine below_set ?_ GE222.out | refine below_set ?_ GE230.out) | exact HB.out)) hb); clear HO_9; clear HO_219000; clear HO_223000; clear HO_231000; clear HO234; clear HO238; clear BK206; clear BK218; clear BK222; clear BK230; clear HB; have HO_9 := n0_; have HO_219000 := n1_; have HO_223000 := n2_; have HO_231000 := n3_; have HO234 := n4_; have HO238 := n5_; have BK206 := n6_; have BK218 := n7_; have BK222 := n8_; have BK230 := n9_; have HB := n10_; clear n0_ n1_ n2_ n3_ n4_ n5_ n6_ n7_ n8_ n9_ n10_; (try clear hb); (try clear hb2); (try clear hk); (try clear hi)))
                      go_meet
                      case rel => exact ⟨_, ((t229 != t217)), (by first | rfl | (simp; done) | (simp [*]; done)), H', ⟨by have := HJ15.out; first | omega | exact Nat.le_refl _⟩, ⟨by (with_reducible repeat (first | apply Kd.R_alloc | apply Kd.R_drewN | apply Kd.R_drew)); exact Kd.R_mono HO_219000.out (fun _ hk => ⟨hk.1, hk.2.1⟩)⟩, ⟨by (with_reducible repeat (first | apply Kd.R_alloc | apply Kd.R_drewN | apply Kd.R_drew)); exact Kd.R_mono HO_223000.out (fun _ hk => ⟨hk.1, hk.2.1⟩)⟩, ⟨by (with_reducible repeat (first | apply Kd.R_alloc | apply Kd.R_drewN | apply Kd.R_drew)); exact Kd.R_mono HO_231000.out (fun _ hk => ⟨hk.1, hk.2.1⟩)⟩, ⟨by (with_reducible repeat (first | refine blk_drewN ?_ _ | refine blk_drew ?_ | refine blk_alloc ?_ _)); exact BK206.out⟩, ⟨by (with_reducible repeat (first | refine blk_drewN ?_ _ | refine blk_drew ?_ | refine blk_alloc ?_ _)); exact BK218.out⟩, ⟨by (with_reducible repeat (first | refine blk_drewN ?_ _ | refine blk_drew ?_ | refine blk_alloc ?_ _)); exact BK222.out⟩, ⟨by (with_reducible repeat (first | refine blk_drewN ?_ _ | refine blk_drew ?_ | refine blk_alloc ?_ _)); exact BK230.out⟩, ⟨by repeat (first | (with_reducible first | exact HB.out | apply below_alloc | apply pw_below_drewN | apply below_drew1 | refine below_set ?_ GE206.out | refine below_set ?_ GE218.out | refine below_set ?_ GE222.out | refine below_set ?_ GE230.out) | exact HB.out)⟩⟩
                    · replace c89 := Bool.eq_false_iff.mpr c89
                      subst c89
                      have H1 : (laws_FnExactLoseDisk.j1 kj15 l1 t217 true l0_0 t214 t226) = some r := by rw [if_neg (show ¬ (false = true) by decide)] at H; exact H
                      clear H
                      have H := H1
                      clear H1
                      have H' := Aside0.mk H
                      clear H
                      have hnb98 := NB230_206.out
                      have hnc98 := NB206_230.out
                      have hnb99 := NB230_218.out
                      have hnc99 := NB218_230.out
                      have hnb100 := NB230_222.out
                      have hnc100 := NB222_230.out
                      have hcz101_0 : w86.cell? ⟨gb230, 0, none⟩ = some (.slice Ao42 t226.length co42) := (blk_cell BK230.out 0).trans rfl
                      have hfz101_0 := blk_frozen BK230.out 0
                      have hnb102 := NB218_206.out
                      have hnc102 := NB206_218.out
                      have hnb103 := NB218_222.out
                      have hnc103 := NB222_218.out
                      have hcz104_0 : w86.cell? ⟨gb218, 0, none⟩ = some (.slice Ao27 t214.length co27) := (blk_cell BK218.out 0).trans rfl
                      have hfz104_0 := blk_frozen BK218.out 0
                      go_wp2_with (first | (go_at_call 26; (with_reducible refine (laws_eqDisk.calls kj15 _ _ t226 _ _ t214 false _ ?side1 ?side2 ?side3 ?side4 A88.out).mono ?_); (case side1 => repeat (first | exact (Kd.R_reads' HO_231000.out).2.2 | (with_reducible refine Kd.C_alloc ?_ _) | (with_reducible refine Kd.C_drewN ?_ _) | (with_reducible refine Kd.C_drew ?_))); (case side2 => exact (Kd.R_reads' HO_231000.out).2.1); (case side3 => repeat (first | exact (Kd.R_reads' HO_219000.out).2.2 | (with_reducible refine Kd.C_alloc ?_ _) | (with_reducible refine Kd.C_drewN ?_ _) | (with_reducible refine Kd.C_drew ?_))); (case side4 => exact (Kd.R_reads' HO_219000.out).2.1); rintro e w105 ⟨rfl, hb⟩; have n0_ := Aside0.mk (Kd.R_below (by (with_reducible repeat (first | apply Kd.R_alloc | apply Kd.R_drewN | apply Kd.R_drew)); exact HO_9.out) hb); have n1_ := Aside0.mk (Kd.R_below (by (with_reducible repeat (first | apply Kd.R_alloc | apply Kd.R_drewN | apply Kd.R_drew)); exact HO_219000.out) hb); have n2_ := Aside0.mk (Kd.R_below (by (with_reducible repeat (first | apply Kd.R_alloc | apply Kd.R_drewN | apply Kd.R_drew)); exact HO_223000.out) hb); have n3_ := Aside0.mk (Kd.R_below (by (with_reducible repeat (first | apply Kd.R_alloc | apply Kd.R_drewN | apply Kd.R_drew)); exact HO_231000.out) hb); have n4_ := Aside0.mk (Kd.R_below (by (with_reducible repeat (first | apply Kd.R_alloc | apply Kd.R_drewN | apply Kd.R_drew)); exact HO234.out) hb); have n5_ := Aside0.mk (Kd.R_below (by (with_reducible repeat (first | apply Kd.R_alloc | apply Kd.R_drewN | apply Kd.R_drew)); exact HO238.out) hb); have n6_ := Aside0.mk (blk_below (g := gb206) (o := .cells #[.slice A0_0 l0_0.length c0_0] 34 (0, 0)) (by (with_reducible repeat (first | refine blk_drewN ?_ _ | refine blk_drew ?_ | refine blk_alloc ?_ _)); exact BK206.out) hb); have n7_ := Aside0.mk (blk_below (g := gb218) (o := .cells #[.slice Ao27 t214.length co27] 39 (0, 0)) (by (with_reducible repeat (first | refine blk_drewN ?_ _ | refine blk_drew ?_ | refine blk_alloc ?_ _)); exact BK218.out) hb); have n8_ := Aside0.mk (blk_below (g := gb222) (o := .cells #[.slice Ao33 t219.length co33] 39 (0, 0)) (by (with_reducible repeat (first | refine blk_drewN ?_ _ | refine blk_drew ?_ | refine blk_alloc ?_ _)); exact BK222.out) hb); have n9_ := Aside0.mk (blk_below (g := gb230) (o := .cells #[.slice Ao42 t226.length co42] 39 (0, 0)) (by (with_reducible repeat (first | refine blk_drewN ?_ _ | refine blk_drew ?_ | refine blk_alloc ?_ _)); exact BK230.out) hb); have n10_ := Aside0.mk (below_step (by repeat (first | (with_reducible first | exact HB.out | apply below_alloc | apply pw_below_drewN | apply below_drew1 | refine below_set ?_ GE206.out | refine below_set ?_ GE218.out | refine below_set ?_ GE222.out | refine below_set ?_ GE230.out) | exact HB.out)) hb); clear HO_9; clear HO_219000; clear HO_223000; clear HO_231000; clear HO234; clear HO238; clear BK206; clear BK218; clear BK222; clear BK230; clear HB; have HO_9 := n0_; have HO_219000 := n1_; have HO_223000 := n2_; have HO_231000 := n3_; have HO234 := n4_; have HO238 := n5_; have BK206 := n6_; have BK218 := n7_; have BK222 := n8_; have BK230 := n9_; have HB := n10_; clear n0_ n1_ n2_ n3_ n4_ n5_ n6_ n7_ n8_ n9_ n10_; (try clear hb); (try clear hb2); (try clear hk); (try clear hi)))
                      go_meet
                      case rel => exact ⟨_, (true), (by first | rfl | (simp; done) | (simp [*]; done)), H', ⟨by have := HJ15.out; first | omega | exact Nat.le_refl _⟩, ⟨by (with_reducible repeat (first | apply Kd.R_alloc | apply Kd.R_drewN | apply Kd.R_drew)); exact Kd.R_mono HO_219000.out (fun _ hk => ⟨hk.1, hk.2.1⟩)⟩, ⟨by (with_reducible repeat (first | apply Kd.R_alloc | apply Kd.R_drewN | apply Kd.R_drew)); exact Kd.R_mono HO_223000.out (fun _ hk => ⟨hk.1, hk.2.1⟩)⟩, ⟨by (with_reducible repeat (first | apply Kd.R_alloc | apply Kd.R_drewN | apply Kd.R_drew)); exact Kd.R_mono HO_231000.out (fun _ hk => ⟨hk.1, hk.2.1⟩)⟩, ⟨by (with_reducible repeat (first | refine blk_drewN ?_ _ | refine blk_drew ?_ | refine blk_alloc ?_ _)); exact BK206.out⟩, ⟨by (with_reducible repeat (first | refine blk_drewN ?_ _ | refine blk_drew ?_ | refine blk_alloc ?_ _)); exact BK218.out⟩, ⟨by (with_reducible repeat (first | refine blk_drewN ?_ _ | refine blk_drew ?_ | refine blk_alloc ?_ _)); exact BK222.out⟩, ⟨by (with_reducible repeat (first | refine blk_drewN ?_ _ | refine blk_drew ?_ | refine blk_alloc ?_ _)); exact BK230.out⟩, ⟨by repeat (first | (with_reducible first | exact HB.out | apply below_alloc | apply pw_below_drewN | apply below_drew1 | refine below_set ?_ GE206.out | refine below_set ?_ GE218.out | refine below_set ?_ GE222.out | refine below_set ?_ GE230.out) | exact HB.out)⟩⟩
                case rest =>
                  clear HC74
                  try clear c1
                  try clear c2
                  try clear p2
                  try clear c3
                  try clear c3b0
                  try clear c3b1
                  try clear c4
                  try clear c5
                  try clear c6
                  try clear c6b0
                  try clear c7
                  try clear c8
                  try clear c9
                  try clear c10
                  try clear c22
                  try clear c24
                  try clear c26
                  try clear c28
                  try clear c29
                  try clear c34
                  try clear c35
                  try clear c43
                  try clear c44
                  try clear c45
                  try clear c47
                  try clear c48
                  try clear c49
                  try clear c50
                  try clear c51
                  try clear c53
                  try clear c54
                  try clear c57
                  try clear c58
                  try clear c59
                  try clear c61
                  try clear c62
                  try clear c65
                  try clear c68
                  try clear c71
                  try clear c81
                  try clear c82
                  try clear c83
                  try clear c87
                  try clear c87b0
                  try clear c89
                  try clear c90
                  try clear c91
                  try clear c92
                  try clear c94
                  try clear c95
                  try clear c98
                  try clear c99
                  try clear c100
                  try clear c102
                  try clear c103
                  try clear hcz101_0
                  try clear hcz104_0
                  try clear hcz18_0
                  try clear hcz20_0
                  try clear hcz29_0
                  try clear hcz30_0
                  try clear hcz36_0
                  try clear hcz38_0
                  try clear hcz46_0
                  try clear hcz52_0
                  try clear hcz55_0
                  try clear hcz60_0
                  try clear hcz63_0
                  try clear hcz84_0
                  try clear hcz8_0
                  try clear hcz93_0
                  try clear hcz96_0
                  try clear hfz101_0
                  try clear hfz104_0
                  try clear hfz18_0
                  try clear hfz20_0
                  try clear hfz29_0
                  try clear hfz30_0
                  try clear hfz36_0
                  try clear hfz38_0
                  try clear hfz46_0
                  try clear hfz52_0
                  try clear hfz55_0
                  try clear hfz60_0
                  try clear hfz63_0
                  try clear hfz84_0
                  try clear hfz8_0
                  try clear hfz93_0
                  try clear hfz96_0
                  try clear p2
                  obtain ⟨kq, x80_73, rfl, HA, HJ73, HO_219000, HO_223000, HO_231000, BK206, BK218, BK222, BK230, HB⟩ := hcut
                  have hl223000_73 := (Kd.R_reads' HO_223000.out).1
                  rw [hl223000_73] at HO_223000
                  (try simp only [hl223000_73])
                  (try simp only [hl223000_73] at BK206)
                  (try simp only [hl223000_73] at BK218)
                  (try simp only [hl223000_73] at BK222)
                  (try simp only [hl223000_73] at BK230)
                  (try simp only [hl223000_73] at HO_219000)
                  (try simp only [hl223000_73] at HO_231000)
                  cases kq with
                  | zero => exact absurd HA.out (by simp [laws_FnExactLoseDisk.j1])
                  | succ kj73 =>
                    have H := HA.out
                    clear HA
                    simp only [laws_FnExactLoseDisk.j1] at H
                    by_cases c106 : x80_73 = true
                    · subst c106
                      have H1 : (some false) = some r := by rw [if_pos rfl] at H; exact H
                      clear H
                      have H := H1
                      clear H1
                      exact absurd ((Option.some.inj H).trans HLT.out) (by decide)
                    · replace c106 := Bool.eq_false_iff.mpr c106
                      subst c106
                      have H1 : ((laws_markDisk.f kj73 t226 1).bind fun bt245 => ((laws_heldDisk.f kj73 bt245.2 1).bind fun t247 => (if t247 < 0 then (some false) else (if t247 = bt245.1 then ((laws_toDisk.f kj73 l0_0).bind fun t248 => ((laws_toIntS.f kj73 l1).bind fun t251 => ((impl_LoseDisk.f kj73 t248 t251).bind fun bt254 => ((laws_eqDisk.f kj73 bt254.1 t214).bind fun t259 => (if t259 = true then (laws_FnExactLoseDisk.j2 kj73 bt245.1 (bt254.2 != t217) bt245.2) else (laws_FnExactLoseDisk.j2 kj73 bt245.1 true bt245.2)))))) else (some false))))) = some r := by rw [if_neg (show ¬ (false = true) by decide)] at H; exact H
                      clear H
                      have H := H1
                      clear H1
                      replace H := Option.bind_eq_some_iff.mp H
                      obtain ⟨⟨t245, t246⟩, A1070, H⟩ := H
                      replace H : ((laws_heldDisk.f kj73 t246 1).bind fun t247 => (if t247 < 0 then (some false) else (if t247 = t245 then ((laws_toDisk.f kj73 l0_0).bind fun t248 => ((laws_toIntS.f kj73 l1).bind fun t251 => ((impl_LoseDisk.f kj73 t248 t251).bind fun bt254 => ((laws_eqDisk.f kj73 bt254.1 t214).bind fun t259 => (if t259 = true then (laws_FnExactLoseDisk.j2 kj73 t245 (bt254.2 != t217) t246) else (laws_FnExactLoseDisk.j2 kj73 t245 true t246)))))) else (some false)))) = some r := H
                      have A107 := Aside0.mk A1070
                      clear A1070
                      replace H := Option.bind_eq_some_iff.mp H
                      obtain ⟨t247, A1080, H⟩ := H
                      replace H : (if t247 < 0 then (some false) else (if t247 = t245 then ((laws_toDisk.f kj73 l0_0).bind fun t248 => ((laws_toIntS.f kj73 l1).bind fun t251 => ((impl_LoseDisk.f kj73 t248 t251).bind fun bt254 => ((laws_eqDisk.f kj73 bt254.1 t214).bind fun t259 => (if t259 = true then (laws_FnExactLoseDisk.j2 kj73 t245 (bt254.2 != t217) t246) else (laws_FnExactLoseDisk.j2 kj73 t245 true t246)))))) else (some false))) = some r := H
                      have A108 := Aside0.mk A1080
                      clear A1080
                      by_cases c109 : t247 < 0
                      · rw [if_pos c109] at H
                        have c109b0 : decide (t247 < 0) = true := decide_eq_true c109
                        clear c109
                        exact absurd ((Option.some.inj H).trans HLT.out) (by decide)
                      · rw [if_neg c109] at H
                        have c109b0 : decide (t247 < 0) = false := decide_eq_false c109
                        clear c109
                        by_cases c110 : t247 = t245
                        · rw [if_pos c110] at H
                          have c110b0 : (t247 == t245) = true := beq_iff_eq.mpr c110
                          have c110b1 : (t247 != t245) = false := bne_eq_false_iff_eq.mpr c110
                          clear c110
                          replace H := Option.bind_eq_some_iff.mp H
                          obtain ⟨t248, A1110, H⟩ := H
                          replace H : ((laws_toIntS.f kj73 l1).bind fun t251 => ((impl_LoseDisk.f kj73 t248 t251).bind fun bt254 => ((laws_eqDisk.f kj73 bt254.1 t214).bind fun t259 => (if t259 = true then (laws_FnExactLoseDisk.j2 kj73 t245 (bt254.2 != t217) t246) else (laws_FnExactLoseDisk.j2 kj73 t245 true t246))))) = some r := H
                          have A111 := Aside0.mk A1110
                          clear A1110
                          replace H := Option.bind_eq_some_iff.mp H
                          obtain ⟨t251, A1120, H⟩ := H
                          replace H : ((impl_LoseDisk.f kj73 t248 t251).bind fun bt254 => ((laws_eqDisk.f kj73 bt254.1 t214).bind fun t259 => (if t259 = true then (laws_FnExactLoseDisk.j2 kj73 t245 (bt254.2 != t217) t246) else (laws_FnExactLoseDisk.j2 kj73 t245 true t246)))) = some r := H
                          have A112 := Aside0.mk A1120
                          clear A1120
                          replace H := Option.bind_eq_some_iff.mp H
                          obtain ⟨⟨t254, t257⟩, A1130, H⟩ := H
                          replace H : ((laws_eqDisk.f kj73 t254 t214).bind fun t259 => (if t259 = true then (laws_FnExactLoseDisk.j2 kj73 t245 (t257 != t217) t246) else (laws_FnExactLoseDisk.j2 kj73 t245 true t246))) = some r := H
                          have A113 := Aside0.mk A1130
                          clear A1130
                          have HC114 := Aside0.mk H
                          clear H
                          have hnb115 := NB230_206.out
                          have hnc115 := NB206_230.out
                          have hnb116 := NB230_218.out
                          have hnc116 := NB218_230.out
                          have hnb117 := NB230_222.out
                          have hnc117 := NB222_230.out
                          have hcz118_0 : wc.cell? ⟨gb230, 0, none⟩ = some (.slice Ao42 t226.length co42) := (blk_cell BK230.out 0).trans rfl
                          have hfz118_0 := blk_frozen BK230.out 0
                          go_upto_region 31 with (first | ((with_reducible refine gate_callee (f := 50) rfl ?_); refine goesL_ (some 83) rfl rfl Try.func50 (by kernel_rfl) rfl #[.agg #[.slice Ao42 t226.length co42], .int .i64 1] rfl (by (try simp only [List.map_toArray, List.map_cons, List.map_nil]); first | done | rfl | (simp only [List.length_drop, List.length_take]; rfl)) ?_; (with_reducible refine (laws_markDisk.calls kj73 (fun k_ => some k_ = (.slice Ao42 t226.length co42 : Value).ownBlock) (.slice Ao42 t226.length co42) t226 1 t245 t246 w _ ?side1 ?side2 A107.out).mono ?_); (case side1 => repeat (first | (with_reducible first | exact HB.out | apply below_alloc | apply pw_below_drewN | apply below_drew1 | refine below_set ?_ GE206.out | refine below_set ?_ GE218.out | refine below_set ?_ GE222.out | refine below_set ?_ GE230.out) | exact HB.out)); (case side2 => exact Kd.R_tight rfl HO_231000.out); rintro e w119 ⟨rfl, hy0, hb, hkp⟩; refine ⟨_, rfl, ?_⟩; have n0_ := Aside0.mk (Kd.R_mono (ok' := fun k_ => some k_ ≠ (.slice Ao33 t241.length co33 : Value).ownBlock ∧ some k_ ≠ (.slice Ao42 t226.length co42 : Value).ownBlock) (Kd.R_keptB (HO_219000.out) hkp (fun k_ hk_ hs_ => (hk_.2) hs_)) (fun k_ hk_ => ⟨hk_.1.1, hk_.1.2⟩)); have n1_ := Aside0.mk (Kd.R_mono (ok' := fun k_ => some k_ ≠ (.slice Ao27 t214.length co27 : Value).ownBlock ∧ some k_ ≠ (.slice Ao42 t226.length co42 : Value).ownBlock) (Kd.R_keptB (HO_223000.out) hkp (fun k_ hk_ hs_ => (hk_.2) hs_)) (fun k_ hk_ => ⟨hk_.1.1, hk_.1.2⟩)); have n2_ := Aside0.mk (Kd.R_reok rfl hy0 (fun k_ e_ => HO_231000.out.1 k_ e_)); have n3_ := Aside0.mk (blk_kept (g := gb206) (by first | (with_reducible exact BK206.out) | (with_reducible exact blk_drewN BK206.out _) | (with_reducible exact blk_drew BK206.out) | ((with_reducible repeat (first | refine blk_drewN ?_ _ | refine blk_drew ?_ | refine blk_alloc ?_ _)); exact BK206.out)) hkp (fun hs_ => (fun e_ => (Kd.R_ne HO_231000.out BK206.out (by decide)) e_) hs_)); have n4_ := Aside0.mk (blk_kept (g := gb218) (by first | (with_reducible exact BK218.out) | (with_reducible exact blk_drewN BK218.out _) | (with_reducible exact blk_drew BK218.out) | ((with_reducible repeat (first | refine blk_drewN ?_ _ | refine blk_drew ?_ | refine blk_alloc ?_ _)); exact BK218.out)) hkp (fun hs_ => (fun e_ => (Kd.R_ne HO_231000.out BK218.out (by decide)) e_) hs_)); have n5_ := Aside0.mk (blk_kept (g := gb222) (by first | (with_reducible exact BK222.out) | (with_reducible exact blk_drewN BK222.out _) | (with_reducible exact blk_drew BK222.out) | ((with_reducible repeat (first | refine blk_drewN ?_ _ | refine blk_drew ?_ | refine blk_alloc ?_ _)); exact BK222.out)) hkp (fun hs_ => (fun e_ => (Kd.R_ne HO_231000.out BK222.out (by decide)) e_) hs_)); have n6_ := Aside0.mk (blk_kept (g := gb230) (by first | (with_reducible exact BK230.out) | (with_reducible exact blk_drewN BK230.out _) | (with_reducible exact blk_drew BK230.out) | ((with_reducible repeat (first | refine blk_drewN ?_ _ | refine blk_drew ?_ | refine blk_alloc ?_ _)); exact BK230.out)) hkp (fun hs_ => (fun e_ => (Kd.R_ne HO_231000.out BK230.out (by decide)) e_) hs_)); have n7_ := Aside0.mk (hb); clear HO_219000; clear HO_223000; clear HO_231000; clear BK206; clear BK218; clear BK222; clear BK230; clear HB; have HO_219000 := n0_; have HO_223000 := n1_; have HO_231000 := n2_; have BK206 := n3_; have BK218 := n4_; have BK222 := n5_; have BK230 := n6_; have HB := n7_; clear n0_ n1_ n2_ n3_ n4_ n5_ n6_ n7_; (try clear hb); (try clear hkp); (try clear hy0); have hcz120_0 : w119.cell? ⟨gb230, 0, none⟩ = some (.slice Ao42 t226.length co42) := (blk_cell BK230.out 0).trans rfl; have hfz120_0 := blk_frozen BK230.out 0) | ((with_reducible refine gate_callee (f := 52) rfl ?_); refine goesL_ (some 86) rfl rfl Try.func52 (by kernel_rfl) rfl #[.agg #[.slice Ao42 t246.length co42], .int .i64 1] rfl (by (try simp only [List.map_toArray, List.map_cons, List.map_nil]); first | done | (rw [show t246.length = t226.length from (Kd.R_reads' HO_231000.out).1.symm] <;> rfl) | rfl | (simp only [List.length_drop, List.length_take]; rfl)) ?_; (with_reducible refine (laws_heldDisk.calls kj73 _ _ t246 1 t247 _ ?side1 ?side2 A108.out).mono ?_); (case side1 => repeat (first | exact (Kd.R_reads' HO_231000.out).2.2 | (with_reducible refine Kd.C_alloc ?_ _) | (with_reducible refine Kd.C_drewN ?_ _) | (with_reducible refine Kd.C_drew ?_))); (case side2 => rw [show t246.length = t226.length from (Kd.R_reads' HO_231000.out).1.symm]; exact (Kd.R_reads' HO_231000.out).2.1); rintro e w121 ⟨rfl, hb⟩; refine ⟨_, rfl, ?_⟩; have n0_ := Aside0.mk (Kd.R_below (by (with_reducible repeat (first | apply Kd.R_alloc | apply Kd.R_drewN | apply Kd.R_drew)); exact HO_219000.out) hb); have n1_ := Aside0.mk (Kd.R_below (by (with_reducible repeat (first | apply Kd.R_alloc | apply Kd.R_drewN | apply Kd.R_drew)); exact HO_223000.out) hb); have n2_ := Aside0.mk (Kd.R_below (by (with_reducible repeat (first | apply Kd.R_alloc | apply Kd.R_drewN | apply Kd.R_drew)); exact HO_231000.out) hb); have n3_ := Aside0.mk (blk_below (g := gb206) (o := .cells #[.slice A0_0 l0_0.length c0_0] 34 (0, 0)) (by (with_reducible repeat (first | refine blk_drewN ?_ _ | refine blk_drew ?_ | refine blk_alloc ?_ _)); exact BK206.out) hb); have n4_ := Aside0.mk (blk_below (g := gb218) (o := .cells #[.slice Ao27 t214.length co27] 39 (0, 0)) (by (with_reducible repeat (first | refine blk_drewN ?_ _ | refine blk_drew ?_ | refine blk_alloc ?_ _)); exact BK218.out) hb); have n5_ := Aside0.mk (blk_below (g := gb222) (o := .cells #[.slice Ao33 t241.length co33] 39 (0, 0)) (by (with_reducible repeat (first | refine blk_drewN ?_ _ | refine blk_drew ?_ | refine blk_alloc ?_ _)); exact BK222.out) hb); have n6_ := Aside0.mk (blk_below (g := gb230) (o := .cells #[.slice Ao42 t226.length co42] 39 (0, 0)) (by (with_reducible repeat (first | refine blk_drewN ?_ _ | refine blk_drew ?_ | refine blk_alloc ?_ _)); exact BK230.out) hb); have n7_ := Aside0.mk (below_step (by repeat (first | (with_reducible first | exact HB.out | apply below_alloc | apply pw_below_drewN | apply below_drew1 | refine below_set ?_ GE206.out | refine below_set ?_ GE218.out | refine below_set ?_ GE222.out | refine below_set ?_ GE230.out) | exact HB.out)) hb); clear HO_219000; clear HO_223000; clear HO_231000; clear BK206; clear BK218; clear BK222; clear BK230; clear HB; have HO_219000 := n0_; have HO_223000 := n1_; have HO_231000 := n2_; have BK206 := n3_; have BK218 := n4_; have BK222 := n5_; have BK230 := n6_; have HB := n7_; clear n0_ n1_ n2_ n3_ n4_ n5_ n6_ n7_; (try clear hb); (try clear hb2); (try clear hk); (try clear hi); have hnb122 := NB206_218.out; have hnc122 := NB218_206.out; have hnb123 := NB206_222.out; have hnc123 := NB222_206.out; have hcz124_0 : w121.cell? ⟨gb206, 0, none⟩ = some (.slice A0_0 l0_0.length c0_0) := (blk_cell BK206.out 0).trans rfl; have hfz124_0 := blk_frozen BK206.out 0) | ((with_reducible refine gate_callee (f := 24) rfl ?_); refine goesL_ (some 94) rfl rfl Try.func24 (by kernel_rfl) rfl #[.agg #[.slice A0_0 l0_0.length c0_0]] rfl (by (try simp only [List.map_toArray, List.map_cons, List.map_nil]); first | done | rfl | (simp only [List.length_drop, List.length_take]; rfl)) ?_; (with_reducible refine (laws_toDisk.calls kj73 _ _ l0_0 t248 _ ?side1 ?side2 A111.out).mono ?_); (case side1 => repeat (first | exact (Kd.C_below HR0_0.out HB.out) | (with_reducible refine Kd.C_alloc ?_ _) | (with_reducible refine Kd.C_drewN ?_ _) | (with_reducible refine Kd.C_drew ?_))); (case side2 => exact HC0_0.out); rintro e w125 ⟨v249, rfl, ho0, hb⟩; refine ⟨_, rfl, ?_⟩; have n0_ := Aside0.mk (Kd.R_elder' (by (with_reducible repeat (first | apply Kd.R_alloc | apply Kd.R_drewN | apply Kd.R_drew)); exact HO_219000.out) (Kd.R_base ho0) hb); have n1_ := Aside0.mk (Kd.R_elder' (by (with_reducible repeat (first | apply Kd.R_alloc | apply Kd.R_drewN | apply Kd.R_drew)); exact HO_223000.out) (Kd.R_base ho0) hb); have n2_ := Aside0.mk (Kd.R_elder' (by (with_reducible repeat (first | apply Kd.R_alloc | apply Kd.R_drewN | apply Kd.R_drew)); exact HO_231000.out) (Kd.R_base ho0) hb); have n3_ := Aside0.mk (Kd.R_lower (Kd.R_new' (Kd.R_new' (Kd.R_new' ho0 (Kd.R_lt (by (with_reducible repeat (first | apply Kd.R_alloc | apply Kd.R_drewN | apply Kd.R_drew)); exact HO_219000.out))) (Kd.R_lt (by (with_reducible repeat (first | apply Kd.R_alloc | apply Kd.R_drewN | apply Kd.R_drew)); exact HO_223000.out))) (Kd.R_lt (by (with_reducible repeat (first | apply Kd.R_alloc | apply Kd.R_drewN | apply Kd.R_drew)); exact HO_231000.out))) (below_size (by repeat (first | (with_reducible first | exact HB.out | apply below_alloc | apply pw_below_drewN | apply below_drew1 | refine below_set ?_ GE206.out | refine below_set ?_ GE218.out | refine below_set ?_ GE222.out | refine below_set ?_ GE230.out) | exact HB.out)))); have n4_ := Aside0.mk (blk_below (g := gb206) (o := .cells #[.slice A0_0 l0_0.length c0_0] 34 (0, 0)) (by (with_reducible repeat (first | refine blk_drewN ?_ _ | refine blk_drew ?_ | refine blk_alloc ?_ _)); exact BK206.out) hb); have n5_ := Aside0.mk (blk_below (g := gb218) (o := .cells #[.slice Ao27 t214.length co27] 39 (0, 0)) (by (with_reducible repeat (first | refine blk_drewN ?_ _ | refine blk_drew ?_ | refine blk_alloc ?_ _)); exact BK218.out) hb); have n6_ := Aside0.mk (blk_below (g := gb222) (o := .cells #[.slice Ao33 t241.length co33] 39 (0, 0)) (by (with_reducible repeat (first | refine blk_drewN ?_ _ | refine blk_drew ?_ | refine blk_alloc ?_ _)); exact BK222.out) hb); have n7_ := Aside0.mk (blk_below (g := gb230) (o := .cells #[.slice Ao42 t226.length co42] 39 (0, 0)) (by (with_reducible repeat (first | refine blk_drewN ?_ _ | refine blk_drew ?_ | refine blk_alloc ?_ _)); exact BK230.out) hb); have n8_ := Aside0.mk (below_step (by repeat (first | (with_reducible first | exact HB.out | apply below_alloc | apply pw_below_drewN | apply below_drew1 | refine below_set ?_ GE206.out | refine below_set ?_ GE218.out | refine below_set ?_ GE222.out | refine below_set ?_ GE230.out) | exact HB.out)) hb); clear HO_219000; clear HO_223000; clear HO_231000; clear BK206; clear BK218; clear BK222; clear BK230; clear HB; have HO_219000 := n0_; have HO_223000 := n1_; have HO_231000 := n2_; have HO250 := n3_; have BK206 := n4_; have BK218 := n5_; have BK222 := n6_; have BK230 := n7_; have HB := n8_; clear n0_ n1_ n2_ n3_ n4_ n5_ n6_ n7_ n8_; (try clear hb); (try clear hb2); (try clear hk); (try clear hi); (try clear ho0)) | ((with_reducible refine gate_callee (f := 48) rfl ?_); refine goesL_ (some 96) rfl rfl Try.func48 (by kernel_rfl) rfl #[.slice A1 l1.length c1] rfl (by (try simp only [List.map_toArray, List.map_cons, List.map_nil]); first | done | rfl | (simp only [List.length_drop, List.length_take]; rfl)) ?_; (with_reducible refine (laws_toIntS.calls kj73 _ _ l1 t251 _ ?side1 ?side2 A112.out).mono ?_); (case side1 => repeat (first | exact (Kd.C_below HR1.out HB.out) | (with_reducible refine Kd.C_alloc ?_ _) | (with_reducible refine Kd.C_drewN ?_ _) | (with_reducible refine Kd.C_drew ?_))); (case side2 => exact HC1.out); rintro e w126 ⟨v252, rfl, ho0, hb⟩; refine ⟨_, rfl, ?_⟩; have n0_ := Aside0.mk (Kd.R_below (by (with_reducible repeat (first | apply Kd.R_alloc | apply Kd.R_drewN | apply Kd.R_drew)); exact HO_219000.out) hb); have n1_ := Aside0.mk (Kd.R_below (by (with_reducible repeat (first | apply Kd.R_alloc | apply Kd.R_drewN | apply Kd.R_drew)); exact HO_223000.out) hb); have n2_ := Aside0.mk (Kd.R_below (by (with_reducible repeat (first | apply Kd.R_alloc | apply Kd.R_drewN | apply Kd.R_drew)); exact HO_231000.out) hb); have n3_ := Aside0.mk (Kd.R_below (by (with_reducible repeat (first | apply Kd.R_alloc | apply Kd.R_drewN | apply Kd.R_drew)); exact HO250.out) hb); have n4_ := Aside0.mk (Kd.R_lower ho0 (below_size (by repeat (first | (with_reducible first | exact HB.out | apply below_alloc | apply pw_below_drewN | apply below_drew1 | refine below_set ?_ GE206.out | refine below_set ?_ GE218.out | refine below_set ?_ GE222.out | refine below_set ?_ GE230.out) | exact HB.out)))); have n5_ := Aside0.mk (blk_below (g := gb206) (o := .cells #[.slice A0_0 l0_0.length c0_0] 34 (0, 0)) (by (with_reducible repeat (first | refine blk_drewN ?_ _ | refine blk_drew ?_ | refine blk_alloc ?_ _)); exact BK206.out) hb); have n6_ := Aside0.mk (blk_below (g := gb218) (o := .cells #[.slice Ao27 t214.length co27] 39 (0, 0)) (by (with_reducible repeat (first | refine blk_drewN ?_ _ | refine blk_drew ?_ | refine blk_alloc ?_ _)); exact BK218.out) hb); have n7_ := Aside0.mk (blk_below (g := gb222) (o := .cells #[.slice Ao33 t241.length co33] 39 (0, 0)) (by (with_reducible repeat (first | refine blk_drewN ?_ _ | refine blk_drew ?_ | refine blk_alloc ?_ _)); exact BK222.out) hb); have n8_ := Aside0.mk (blk_below (g := gb230) (o := .cells #[.slice Ao42 t226.length co42] 39 (0, 0)) (by (with_reducible repeat (first | refine blk_drewN ?_ _ | refine blk_drew ?_ | refine blk_alloc ?_ _)); exact BK230.out) hb); have n9_ := Aside0.mk (below_step (by repeat (first | (with_reducible first | exact HB.out | apply below_alloc | apply pw_below_drewN | apply below_drew1 | refine below_set ?_ GE206.out | refine below_set ?_ GE218.out | refine below_set ?_ GE222.out | refine below_set ?_ GE230.out) | exact HB.out)) hb); clear HO_219000; clear HO_223000; clear HO_231000; clear HO250; clear BK206; clear BK218; clear BK222; clear BK230; clear HB; have HO_219000 := n0_; have HO_223000 := n1_; have HO_231000 := n2_; have HO250 := n3_; have HO253 := n4_; have BK206 := n5_; have BK218 := n6_; have BK222 := n7_; have BK230 := n8_; have HB := n9_; clear n0_ n1_ n2_ n3_ n4_ n5_ n6_ n7_ n8_ n9_; (try clear hb); (try clear hb2); (try clear hk); (try clear hi); (try clear ho0); obtain ⟨Ao127, co127, eo127⟩ := Kd.R_slice HO250.out; subst eo127; obtain ⟨Ao128, co128, eo128⟩ := Kd.R_slice HO253.out; subst eo128) | ((with_reducible refine gate_callee (f := 29) rfl ?_); refine goesL_ (some 97) rfl rfl Try.func29 (by kernel_rfl) rfl #[.agg #[.slice Ao127 t248.length co127], .slice Ao128 t251.length co128] rfl (by (try simp only [List.map_toArray, List.map_cons, List.map_nil]); first | done | rfl | (simp only [List.length_drop, List.length_take]; rfl)) ?_; (with_reducible refine (impl_LoseDisk.calls kj73 _ _ t248 _ _ t251 t254 t257 _ ?side1 ?side2 ?side3 ?side4 A113.out).mono ?_); (case side1 => repeat (first | exact (Kd.R_reads' HO250.out).2.2 | (with_reducible refine Kd.C_alloc ?_ _) | (with_reducible refine Kd.C_drewN ?_ _) | (with_reducible refine Kd.C_drew ?_))); (case side2 => exact (Kd.R_reads' HO250.out).2.1); (case side3 => repeat (first | exact (Kd.R_reads' HO253.out).2.2 | (with_reducible refine Kd.C_alloc ?_ _) | (with_reducible refine Kd.C_drewN ?_ _) | (with_reducible refine Kd.C_drew ?_))); (case side4 => exact (Kd.R_reads' HO253.out).2.1); rintro e w129 ⟨v255, rfl, ho0, hb⟩; refine ⟨_, rfl, ?_⟩; have n0_ := Aside0.mk (Kd.R_elder' (by (with_reducible repeat (first | apply Kd.R_alloc | apply Kd.R_drewN | apply Kd.R_drew)); exact HO_219000.out) (Kd.R_base ho0) hb); have n1_ := Aside0.mk (Kd.R_elder' (by (with_reducible repeat (first | apply Kd.R_alloc | apply Kd.R_drewN | apply Kd.R_drew)); exact HO_223000.out) (Kd.R_base ho0) hb); have n2_ := Aside0.mk (Kd.R_elder' (by (with_reducible repeat (first | apply Kd.R_alloc | apply Kd.R_drewN | apply Kd.R_drew)); exact HO_231000.out) (Kd.R_base ho0) hb); have n3_ := Aside0.mk (Kd.R_elder' (by (with_reducible repeat (first | apply Kd.R_alloc | apply Kd.R_drewN | apply Kd.R_drew)); exact HO250.out) (Kd.R_base ho0) hb); have n4_ := Aside0.mk (Kd.R_below (by (with_reducible repeat (first | apply Kd.R_alloc | apply Kd.R_drewN | apply Kd.R_drew)); exact HO253.out) hb); have n5_ := Aside0.mk (Kd.R_lower (Kd.R_new' (Kd.R_new' (Kd.R_new' (Kd.R_new' ho0 (Kd.R_lt (by (with_reducible repeat (first | apply Kd.R_alloc | apply Kd.R_drewN | apply Kd.R_drew)); exact HO_219000.out))) (Kd.R_lt (by (with_reducible repeat (first | apply Kd.R_alloc | apply Kd.R_drewN | apply Kd.R_drew)); exact HO_223000.out))) (Kd.R_lt (by (with_reducible repeat (first | apply Kd.R_alloc | apply Kd.R_drewN | apply Kd.R_drew)); exact HO_231000.out))) (Kd.R_lt (by (with_reducible repeat (first | apply Kd.R_alloc | apply Kd.R_drewN | apply Kd.R_drew)); exact HO250.out))) (below_size (by repeat (first | (with_reducible first | exact HB.out | apply below_alloc | apply pw_below_drewN | apply below_drew1 | refine below_set ?_ GE206.out | refine below_set ?_ GE218.out | refine below_set ?_ GE222.out | refine below_set ?_ GE230.out) | exact HB.out)))); have n6_ := Aside0.mk (blk_below (g := gb206) (o := .cells #[.slice A0_0 l0_0.length c0_0] 34 (0, 0)) (by (with_reducible repeat (first | refine blk_drewN ?_ _ | refine blk_drew ?_ | refine blk_alloc ?_ _)); exact BK206.out) hb); have n7_ := Aside0.mk (blk_below (g := gb218) (o := .cells #[.slice Ao27 t214.length co27] 39 (0, 0)) (by (with_reducible repeat (first | refine blk_drewN ?_ _ | refine blk_drew ?_ | refine blk_alloc ?_ _)); exact BK218.out) hb); have n8_ := Aside0.mk (blk_below (g := gb222) (o := .cells #[.slice Ao33 t241.length co33] 39 (0, 0)) (by (with_reducible repeat (first | refine blk_drewN ?_ _ | refine blk_drew ?_ | refine blk_alloc ?_ _)); exact BK222.out) hb); have n9_ := Aside0.mk (blk_below (g := gb230) (o := .cells #[.slice Ao42 t226.length co42] 39 (0, 0)) (by (with_reducible repeat (first | refine blk_drewN ?_ _ | refine blk_drew ?_ | refine blk_alloc ?_ _)); exact BK230.out) hb); have n10_ := Aside0.mk (below_step (by repeat (first | (with_reducible first | exact HB.out | apply below_alloc | apply pw_below_drewN | apply below_drew1 | refine below_set ?_ GE206.out | refine below_set ?_ GE218.out | refine below_set ?_ GE222.out | refine below_set ?_ GE230.out) | exact HB.out)) hb); clear HO_219000; clear HO_223000; clear HO_231000; clear HO250; clear HO253; clear BK206; clear BK218; clear BK222; clear BK230; clear HB; have HO_219000 := n0_; have HO_223000 := n1_; have HO_231000 := n2_; have HO250 := n3_; have HO253 := n4_; have HO256 := n5_; have BK206 := n6_; have BK218 := n7_; have BK222 := n8_; have BK230 := n9_; have HB := n10_; clear n0_ n1_ n2_ n3_ n4_ n5_ n6_ n7_ n8_ n9_ n10_; (try clear hb); (try clear hb2); (try clear hk); (try clear hi); (try clear ho0)) | ((with_reducible refine gate_dst (N := 15) rfl ?_); refine box_event ?hg (N := 15) ?hd (cs := #[.slice none 0 0]) (t := 39) ?hr ?_; (case hd => rfl); (case hg => rfl); (case hr => first | (go_simp; done) | (go_simp; rfl)); intro gb258 hg w130 hbox hb; have n0_ := Aside0.mk (Kd.R_below (by (with_reducible repeat (first | apply Kd.R_alloc | apply Kd.R_drewN | apply Kd.R_drew)); exact HO_219000.out) hb); have n1_ := Aside0.mk (Kd.R_below (by (with_reducible repeat (first | apply Kd.R_alloc | apply Kd.R_drewN | apply Kd.R_drew)); exact HO_223000.out) hb); have n2_ := Aside0.mk (Kd.R_below (by (with_reducible repeat (first | apply Kd.R_alloc | apply Kd.R_drewN | apply Kd.R_drew)); exact HO_231000.out) hb); have n3_ := Aside0.mk (Kd.R_below (by (with_reducible repeat (first | apply Kd.R_alloc | apply Kd.R_drewN | apply Kd.R_drew)); exact HO250.out) hb); have n4_ := Aside0.mk (Kd.R_below (by (with_reducible repeat (first | apply Kd.R_alloc | apply Kd.R_drewN | apply Kd.R_drew)); exact HO253.out) hb); have n5_ := Aside0.mk (Kd.R_below (by (with_reducible repeat (first | apply Kd.R_alloc | apply Kd.R_drewN | apply Kd.R_drew)); exact HO256.out) hb); have n6_ := Aside0.mk (blk_below (g := gb206) (o := .cells #[.slice A0_0 l0_0.length c0_0] 34 (0, 0)) (by (with_reducible repeat (first | refine blk_drewN ?_ _ | refine blk_drew ?_ | refine blk_alloc ?_ _)); exact BK206.out) hb); have n7_ := Aside0.mk (blk_below (g := gb218) (o := .cells #[.slice Ao27 t214.length co27] 39 (0, 0)) (by (with_reducible repeat (first | refine blk_drewN ?_ _ | refine blk_drew ?_ | refine blk_alloc ?_ _)); exact BK218.out) hb); have n8_ := Aside0.mk (blk_below (g := gb222) (o := .cells #[.slice Ao33 t241.length co33] 39 (0, 0)) (by (with_reducible repeat (first | refine blk_drewN ?_ _ | refine blk_drew ?_ | refine blk_alloc ?_ _)); exact BK222.out) hb); have n9_ := Aside0.mk (blk_below (g := gb230) (o := .cells #[.slice Ao42 t226.length co42] 39 (0, 0)) (by (with_reducible repeat (first | refine blk_drewN ?_ _ | refine blk_drew ?_ | refine blk_alloc ?_ _)); exact BK230.out) hb); have n10_ := Aside0.mk (below_step (by repeat (first | (with_reducible first | exact HB.out | apply below_alloc | apply pw_below_drewN | apply below_drew1 | refine below_set ?_ GE206.out | refine below_set ?_ GE218.out | refine below_set ?_ GE222.out | refine below_set ?_ GE230.out) | exact HB.out)) hb); have n11_ := Aside0.mk (hbox); have n12_ := Aside0.mk ((by rw [hg]; exact (below_size (by repeat (first | (with_reducible first | exact HB.out | apply below_alloc | apply pw_below_drewN | apply below_drew1 | refine below_set ?_ GE206.out | refine below_set ?_ GE218.out | refine below_set ?_ GE222.out | refine below_set ?_ GE230.out) | exact HB.out))) : w.heap.size ≤ gb258)); have n13_ := Aside0.mk ((by rw [hg]; exact (below_size (by repeat (first | (with_reducible first | exact HB.out | apply below_alloc | apply pw_below_drewN | apply below_drew1 | refine below_set ?_ GE206.out | refine below_set ?_ GE218.out | refine below_set ?_ GE222.out | refine below_set ?_ GE230.out) | exact HB.out))) : w.heap.size ≤ gb258)); have n14_ := Aside0.mk ((by rw [hg]; exact Nat.ne_of_lt (blk_lt (g := gb206) (o := .cells #[.slice A0_0 l0_0.length c0_0] 34 (0, 0)) (by (with_reducible repeat (first | refine blk_drewN ?_ _ | refine blk_drew ?_ | refine blk_alloc ?_ _)); exact BK206.out)) : gb206 ≠ gb258)); have n15_ := Aside0.mk ((by rw [hg]; exact Nat.ne_of_gt (blk_lt (g := gb206) (o := .cells #[.slice A0_0 l0_0.length c0_0] 34 (0, 0)) (by (with_reducible repeat (first | refine blk_drewN ?_ _ | refine blk_drew ?_ | refine blk_alloc ?_ _)); exact BK206.out)) : gb258 ≠ gb206)); have n16_ := Aside0.mk ((by rw [hg]; exact Nat.ne_of_lt (blk_lt (g := gb218) (o := .cells #[.slice Ao27 t214.length co27] 39 (0, 0)) (by (with_reducible repeat (first | refine blk_drewN ?_ _ | refine blk_drew ?_ | refine blk_alloc ?_ _)); exact BK218.out)) : gb218 ≠ gb258)); have n17_ := Aside0.mk ((by rw [hg]; exact Nat.ne_of_gt (blk_lt (g := gb218) (o := .cells #[.slice Ao27 t214.length co27] 39 (0, 0)) (by (with_reducible repeat (first | refine blk_drewN ?_ _ | refine blk_drew ?_ | refine blk_alloc ?_ _)); exact BK218.out)) : gb258 ≠ gb218)); have n18_ := Aside0.mk ((by rw [hg]; exact Nat.ne_of_lt (blk_lt (g := gb222) (o := .cells #[.slice Ao33 t241.length co33] 39 (0, 0)) (by (with_reducible repeat (first | refine blk_drewN ?_ _ | refine blk_drew ?_ | refine blk_alloc ?_ _)); exact BK222.out)) : gb222 ≠ gb258)); have n19_ := Aside0.mk ((by rw [hg]; exact Nat.ne_of_gt (blk_lt (g := gb222) (o := .cells #[.slice Ao33 t241.length co33] 39 (0, 0)) (by (with_reducible repeat (first | refine blk_drewN ?_ _ | refine blk_drew ?_ | refine blk_alloc ?_ _)); exact BK222.out)) : gb258 ≠ gb222)); have n20_ := Aside0.mk ((by rw [hg]; exact Nat.ne_of_lt (blk_lt (g := gb230) (o := .cells #[.slice Ao42 t226.length co42] 39 (0, 0)) (by (with_reducible repeat (first | refine blk_drewN ?_ _ | refine blk_drew ?_ | refine blk_alloc ?_ _)); exact BK230.out)) : gb230 ≠ gb258)); have n21_ := Aside0.mk ((by rw [hg]; exact Nat.ne_of_gt (blk_lt (g := gb230) (o := .cells #[.slice Ao42 t226.length co42] 39 (0, 0)) (by (with_reducible repeat (first | refine blk_drewN ?_ _ | refine blk_drew ?_ | refine blk_alloc ?_ _)); exact BK230.out)) : gb258 ≠ gb230)); clear HO_219000; clear HO_223000; clear HO_231000; clear HO250; clear HO253; clear HO256; clear BK206; clear BK218; clear BK222; clear BK230; clear HB; have HO_219000 := n0_; have HO_223000 := n1_; have HO_231000 := n2_; have HO250 := n3_; have HO253 := n4_; have HO256 := n5_; have BK206 := n6_; have BK218 := n7_; have BK222 := n8_; have BK230 := n9_; have HB := n10_; have BK258 := n11_; have GW258 := n12_; have GE258 := n13_; have NB206_258 := n14_; have NB258_206 := n15_; have NB218_258 := n16_; have NB258_218 := n17_; have NB222_258 := n18_; have NB258_222 := n19_; have NB230_258 := n20_; have NB258_230 := n21_; clear n0_ n1_ n2_ n3_ n4_ n5_ n6_ n7_ n8_ n9_ n10_ n11_ n12_ n13_ n14_ n15_ n16_ n17_ n18_ n19_ n20_ n21_; clear hb hbox hg; obtain ⟨Ao131, co131, eo131⟩ := Kd.R_slice HO256.out; subst eo131; have hnb132 := NB258_206.out; have hnc132 := NB206_258.out; have hnb133 := NB258_218.out; have hnc133 := NB218_258.out; have hnb134 := NB258_222.out; have hnc134 := NB222_258.out; have hnb135 := NB258_230.out; have hnc135 := NB230_258.out; have hcz136_0 : w130.cell? ⟨gb258, 0, none⟩ = some (.slice none 0 0) := (blk_cell BK258.out 0).trans rfl; have hfz136_0 := blk_frozen BK258.out 0))
                          (try simp only [Act.put, List.setIfInBounds_toArray, List.set_cons_zero, List.set_cons_succ])
                          go_cut [108] (fun v108 wc => ∃ (kq : Nat) (x108_113 : Bool), v108 = .bool x108_113 ∧ Aside0 (laws_FnExactLoseDisk.j2 kq t245 x108_113 t246 = some r) ∧ Aside0 (kq ≤ kj73) ∧ Aside0 (Kd.R k49 49 wc w.heap.size (fun k_ => some k_ ≠ ((.slice Ao33 t241.length co33) : Value).ownBlock ∧ some k_ ≠ ((.slice Ao42 t226.length co42) : Value).ownBlock ∧ some k_ ≠ ((.slice Ao131 t254.length co131) : Value).ownBlock) (.slice Ao27 t214.length co27) t214) ∧ Aside0 (Kd.R k49 49 wc w.heap.size (fun k_ => some k_ ≠ ((.slice Ao27 t214.length co27) : Value).ownBlock ∧ some k_ ≠ ((.slice Ao42 t226.length co42) : Value).ownBlock ∧ some k_ ≠ ((.slice Ao131 t254.length co131) : Value).ownBlock) (.slice Ao33 t241.length co33) t241) ∧ Aside0 (Kd.R k49 49 wc w.heap.size (fun k_ => some k_ ≠ ((.slice Ao27 t214.length co27) : Value).ownBlock ∧ some k_ ≠ ((.slice Ao33 t241.length co33) : Value).ownBlock ∧ some k_ ≠ ((.slice Ao131 t254.length co131) : Value).ownBlock) (.slice Ao42 t226.length co42) t246) ∧ Aside0 (Kd.R k49 49 wc w.heap.size (fun k_ => some k_ ≠ ((.slice Ao27 t214.length co27) : Value).ownBlock ∧ some k_ ≠ ((.slice Ao33 t241.length co33) : Value).ownBlock ∧ some k_ ≠ ((.slice Ao42 t226.length co42) : Value).ownBlock) (.slice Ao131 t254.length co131) t254) ∧ Aside0 (wc.heap[gb206]? = some (.cells #[(.slice A0_0 l0_0.length c0_0)] 34 (0, 0))) ∧ Aside0 (wc.heap[gb218]? = some (.cells #[(.slice Ao27 t214.length co27)] 39 (0, 0))) ∧ Aside0 (wc.heap[gb222]? = some (.cells #[(.slice Ao33 t241.length co33)] 39 (0, 0))) ∧ Aside0 (wc.heap[gb230]? = some (.cells #[(.slice Ao42 t226.length co42)] 39 (0, 0))) ∧ Aside0 (wc.heap[gb258]? = some (.cells #[(.slice Ao131 t254.length co131)] 39 (0, 0))) ∧ Aside0 (Below w.heap.size w wc))
                          case first =>
                            have H := HC114.out
                            clear HC114
                            replace H := Option.bind_eq_some_iff.mp H
                            obtain ⟨t259, A1370, H⟩ := H
                            replace H : (if t259 = true then (laws_FnExactLoseDisk.j2 kj73 t245 (t257 != t217) t246) else (laws_FnExactLoseDisk.j2 kj73 t245 true t246)) = some r := H
                            have A137 := Aside0.mk A1370
                            clear A1370
                            by_cases c138 : t259 = true
                            · subst c138
                              have H1 : (laws_FnExactLoseDisk.j2 kj73 t245 (t257 != t217) t246) = some r := by rw [if_pos rfl] at H; exact H
                              clear H
                              have H := H1
                              clear H1
                              have H' := Aside0.mk H
                              clear H
                              have hnb139 := NB258_206.out
                              have hnc139 := NB206_258.out
                              have hnb140 := NB258_218.out
                              have hnc140 := NB218_258.out
                              have hnb141 := NB258_222.out
                              have hnc141 := NB222_258.out
                              have hnb142 := NB258_230.out
                              have hnc142 := NB230_258.out
                              have hcz143_0 : w130.cell? ⟨gb258, 0, none⟩ = some (.slice none 0 0) := (blk_cell BK258.out 0).trans rfl
                              have hfz143_0 := blk_frozen BK258.out 0
                              have hnb144 := NB218_206.out
                              have hnc144 := NB206_218.out
                              have hnb145 := NB218_222.out
                              have hnc145 := NB222_218.out
                              have hnb146 := NB218_230.out
                              have hnc146 := NB230_218.out
                              have hcz147_0 : w130.cell? ⟨gb218, 0, none⟩ = some (.slice Ao27 t214.length co27) := (blk_cell BK218.out 0).trans rfl
                              have hfz147_0 := blk_frozen BK218.out 0
                              go_wp2_with (first | ((with_reducible refine gate_callee (f := 26) rfl ?_); refine goesL_ (some 102) rfl rfl Try.func26 (by kernel_rfl) rfl #[.agg #[.slice Ao131 t254.length co131], .agg #[.slice Ao27 t214.length co27]] rfl (by (try simp only [List.map_toArray, List.map_cons, List.map_nil]); first | done | rfl | (simp only [List.length_drop, List.length_take]; rfl)) ?_; (with_reducible refine (laws_eqDisk.calls kj73 _ _ t254 _ _ t214 true _ ?side1 ?side2 ?side3 ?side4 A137.out).mono ?_); (case side1 => refine (Kd.R_reads' (e := 49) (base := w.heap.size) (ok := fun k_ => ((((True ∧ some k_ ≠ (.slice Ao27 t214.length co27 : Value).ownBlock) ∧ some k_ ≠ (.slice Ao33 t241.length co33 : Value).ownBlock) ∧ some k_ ≠ (.slice Ao42 t226.length co42 : Value).ownBlock) ∧ some k_ ≠ (.slice Ao127 t248.length co127 : Value).ownBlock)) (n := t254.length) (c := co131) ?_).2.2; exact (by (with_reducible repeat (first | apply Kd.R_alloc | apply Kd.R_drewN | apply Kd.R_drew)); exact (Kd.R_mono (Kd.R_far (p := ⟨gb258, 0, none⟩) (Kd.R_types HO256.out BK258.out (by decide)) (fun _ hk => hk.2) (.slice Ao131 t254.length co131)) (fun _ h_ => h_.1)))); (case side2 => exact (Kd.R_reads' HO256.out).2.1); (case side3 => refine (Kd.R_reads' (e := 49) (base := w.heap.size) (ok := fun k_ => (((some k_ ≠ (.slice Ao33 t241.length co33 : Value).ownBlock ∧ some k_ ≠ (.slice Ao42 t226.length co42 : Value).ownBlock) ∧ some k_ ≠ (.slice Ao127 t248.length co127 : Value).ownBlock) ∧ some k_ ≠ (.slice Ao131 t254.length co131 : Value).ownBlock)) (n := t214.length) (c := co27) ?_).2.2; exact (by (with_reducible repeat (first | apply Kd.R_alloc | apply Kd.R_drewN | apply Kd.R_drew)); exact (Kd.R_mono (Kd.R_far (p := ⟨gb258, 0, none⟩) (Kd.R_types HO_219000.out BK258.out (by decide)) (fun _ hk => hk.2) (.slice Ao131 t254.length co131)) (fun _ h_ => h_.1)))); (case side4 => exact (Kd.R_reads' HO_219000.out).2.1); rintro e w148 ⟨rfl, hb⟩; refine ⟨_, rfl, ?_⟩; have n0_ := Aside0.mk (Kd.R_below (by (with_reducible repeat (first | apply Kd.R_alloc | apply Kd.R_drewN | apply Kd.R_drew)); exact (Kd.R_mono (Kd.R_far (p := ⟨gb258, 0, none⟩) (Kd.R_types HO_219000.out BK258.out (by decide)) (fun _ hk => hk.2) (.slice Ao131 t254.length co131)) (fun _ h_ => h_.1))) hb); have n1_ := Aside0.mk (Kd.R_below (by (with_reducible repeat (first | apply Kd.R_alloc | apply Kd.R_drewN | apply Kd.R_drew)); exact (Kd.R_mono (Kd.R_far (p := ⟨gb258, 0, none⟩) (Kd.R_types HO_223000.out BK258.out (by decide)) (fun _ hk => hk.2) (.slice Ao131 t254.length co131)) (fun _ h_ => h_.1))) hb); have n2_ := Aside0.mk (Kd.R_below (by (with_reducible repeat (first | apply Kd.R_alloc | apply Kd.R_drewN | apply Kd.R_drew)); exact (Kd.R_mono (Kd.R_far (p := ⟨gb258, 0, none⟩) (Kd.R_types HO_231000.out BK258.out (by decide)) (fun _ hk => hk.2) (.slice Ao131 t254.length co131)) (fun _ h_ => h_.1))) hb); have n3_ := Aside0.mk (Kd.R_below (by (with_reducible repeat (first | apply Kd.R_alloc | apply Kd.R_drewN | apply Kd.R_drew)); exact (Kd.R_mono (Kd.R_far (p := ⟨gb258, 0, none⟩) (Kd.R_types HO250.out BK258.out (by decide)) (fun _ hk => hk.2) (.slice Ao131 t254.length co131)) (fun _ h_ => h_.1))) hb); have n4_ := Aside0.mk (Kd.R_below (by (with_reducible repeat (first | apply Kd.R_alloc | apply Kd.R_drewN | apply Kd.R_drew)); exact (Kd.R_mono (Kd.R_far (p := ⟨gb258, 0, none⟩) (Kd.R_types HO253.out BK258.out (by decide)) (fun _ hk => hk.2) (.slice Ao131 t254.length co131)) (fun _ h_ => h_.1))) hb); have n5_ := Aside0.mk (Kd.R_below (by (with_reducible repeat (first | apply Kd.R_alloc | apply Kd.R_drewN | apply Kd.R_drew)); exact (Kd.R_mono (Kd.R_far (p := ⟨gb258, 0, none⟩) (Kd.R_types HO256.out BK258.out (by decide)) (fun _ hk => hk.2) (.slice Ao131 t254.length co131)) (fun _ h_ => h_.1))) hb); have n6_ := Aside0.mk (blk_below (g := gb206) (o := .cells #[.slice A0_0 l0_0.length c0_0] 34 (0, 0)) (by (with_reducible repeat (first | refine blk_drewN ?_ _ | refine blk_drew ?_ | refine blk_alloc ?_ _)); refine blk_far ?_ NB206_258.out _; (with_reducible repeat (first | refine blk_drewN ?_ _ | refine blk_drew ?_ | refine blk_alloc ?_ _)); exact BK206.out) hb); have n7_ := Aside0.mk (blk_below (g := gb218) (o := .cells #[.slice Ao27 t214.length co27] 39 (0, 0)) (by (with_reducible repeat (first | refine blk_drewN ?_ _ | refine blk_drew ?_ | refine blk_alloc ?_ _)); refine blk_far ?_ NB218_258.out _; (with_reducible repeat (first | refine blk_drewN ?_ _ | refine blk_drew ?_ | refine blk_alloc ?_ _)); exact BK218.out) hb); have n8_ := Aside0.mk (blk_below (g := gb222) (o := .cells #[.slice Ao33 t241.length co33] 39 (0, 0)) (by (with_reducible repeat (first | refine blk_drewN ?_ _ | refine blk_drew ?_ | refine blk_alloc ?_ _)); refine blk_far ?_ NB222_258.out _; (with_reducible repeat (first | refine blk_drewN ?_ _ | refine blk_drew ?_ | refine blk_alloc ?_ _)); exact BK222.out) hb); have n9_ := Aside0.mk (blk_below (g := gb230) (o := .cells #[.slice Ao42 t226.length co42] 39 (0, 0)) (by (with_reducible repeat (first | refine blk_drewN ?_ _ | refine blk_drew ?_ | refine blk_alloc ?_ _)); refine blk_far ?_ NB230_258.out _; (with_reducible repeat (first | refine blk_drewN ?_ _ | refine blk_drew ?_ | refine blk_alloc ?_ _)); exact BK230.out) hb); have n10_ := Aside0.mk (blk_below (g := gb258) (o := .cells #[.slice Ao131 t254.length co131] 39 (0, 0)) (by (with_reducible repeat (first | refine blk_drewN ?_ _ | refine blk_drew ?_ | refine blk_alloc ?_ _)); refine blk_put (cs := #[.slice none 0 0]) ?_ 0 _ rfl; (with_reducible repeat (first | refine blk_drewN ?_ _ | refine blk_drew ?_ | refine blk_alloc ?_ _)); exact BK258.out) hb); have n11_ := Aside0.mk (below_step (by repeat (first | (with_reducible first | exact HB.out | apply below_alloc | apply pw_below_drewN | apply below_drew1 | refine below_set ?_ GE206.out | refine below_set ?_ GE218.out | refine below_set ?_ GE222.out | refine below_set ?_ GE230.out | refine below_set ?_ GE258.out) | exact HB.out)) hb); clear HO_219000; clear HO_223000; clear HO_231000; clear HO250; clear HO253; clear HO256; clear BK206; clear BK218; clear BK222; clear BK230; clear BK258; clear HB; have HO_219000 := n0_; have HO_223000 := n1_; have HO_231000 := n2_; have HO250 := n3_; have HO253 := n4_; have HO256 := n5_; have BK206 := n6_; have BK218 := n7_; have BK222 := n8_; have BK230 := n9_; have BK258 := n10_; have HB := n11_; clear n0_ n1_ n2_ n3_ n4_ n5_ n6_ n7_ n8_ n9_ n10_ n11_; (try clear hb); (try clear hb2); (try clear hk); (try clear hi)))
                              go_meet
                              case rel => exact ⟨_, ((t257 != t217)), (by first | rfl | (simp; done) | (simp [*]; done)), H', ⟨by have := HJ15.out; have := HJ73.out; first | omega | exact Nat.le_refl _⟩, ⟨by (try simp only [hl223000_73]); (with_reducible repeat (first | apply Kd.R_alloc | apply Kd.R_drewN | apply Kd.R_drew)); exact Kd.R_mono HO_219000.out (fun _ hk => ⟨hk.1.1.1, ⟨hk.1.1.2, hk.2⟩⟩)⟩, ⟨by (try simp only [hl223000_73]); (with_reducible repeat (first | apply Kd.R_alloc | apply Kd.R_drewN | apply Kd.R_drew)); exact Kd.R_mono HO_223000.out (fun _ hk => ⟨hk.1.1.1, ⟨hk.1.1.2, hk.2⟩⟩)⟩, ⟨by (try simp only [hl223000_73]); (with_reducible repeat (first | apply Kd.R_alloc | apply Kd.R_drewN | apply Kd.R_drew)); exact Kd.R_mono HO_231000.out (fun _ hk => ⟨hk.1.1.1, ⟨hk.1.1.2, hk.2⟩⟩)⟩, ⟨by (try simp only [hl223000_73]); (with_reducible repeat (first | apply Kd.R_alloc | apply Kd.R_drewN | apply Kd.R_drew)); exact Kd.R_mono HO256.out (fun _ hk => ⟨hk.1.1.1.2, ⟨hk.1.1.2, hk.1.2⟩⟩)⟩, ⟨by (try simp only [hl223000_73]); (with_reducible repeat (first | refine blk_drewN ?_ _ | refine blk_drew ?_ | refine blk_alloc ?_ _)); exact BK206.out⟩, ⟨by (try simp only [hl223000_73]); (with_reducible repeat (first | refine blk_drewN ?_ _ | refine blk_drew ?_ | refine blk_alloc ?_ _)); exact BK218.out⟩, ⟨by (try simp only [hl223000_73]); (with_reducible repeat (first | refine blk_drewN ?_ _ | refine blk_drew ?_ | refine blk_alloc ?_ _)); exact BK222.out⟩, ⟨by (try simp only [hl223000_73]); (with_reducible repeat (first | refine blk_drewN ?_ _ | refine blk_drew ?_ | refine blk_alloc ?_ _)); exact BK230.out⟩, ⟨by (try simp only [hl223000_73]); (with_reducible repeat (first | refine blk_drewN ?_ _ | refine blk_drew ?_ | refine blk_alloc ?_ _)); exact BK258.out⟩, ⟨by repeat (first | (with_reducible first | exact HB.out | apply below_alloc | apply pw_below_drewN | apply below_drew1 | refine below_set ?_ GE206.out | refine below_set ?_ GE218.out | refine below_set ?_ GE222.out | refine below_set ?_ GE230.out | refine below_set ?_ GE258.out) | exact HB.out)⟩⟩
                            · replace c138 := Bool.eq_false_iff.mpr c138
                              subst c138
                              have H1 : (laws_FnExactLoseDisk.j2 kj73 t245 true t246) = some r := by rw [if_neg (show ¬ (false = true) by decide)] at H; exact H
                              clear H
                              have H := H1
                              clear H1
                              have H' := Aside0.mk H
                              clear H
                              have hnb149 := NB258_206.out
                              have hnc149 := NB206_258.out
                              have hnb150 := NB258_218.out
                              have hnc150 := NB218_258.out
                              have hnb151 := NB258_222.out
                              have hnc151 := NB222_258.out
                              have hnb152 := NB258_230.out
                              have hnc152 := NB230_258.out
                              have hcz153_0 : w130.cell? ⟨gb258, 0, none⟩ = some (.slice none 0 0) := (blk_cell BK258.out 0).trans rfl
                              have hfz153_0 := blk_frozen BK258.out 0
                              have hnb154 := NB218_206.out
                              have hnc154 := NB206_218.out
                              have hnb155 := NB218_222.out
                              have hnc155 := NB222_218.out
                              have hnb156 := NB218_230.out
                              have hnc156 := NB230_218.out
                              have hcz157_0 : w130.cell? ⟨gb218, 0, none⟩ = some (.slice Ao27 t214.length co27) := (blk_cell BK218.out 0).trans rfl
                              have hfz157_0 := blk_frozen BK218.out 0
                              go_wp2_with (first | ((with_reducible refine gate_callee (f := 26) rfl ?_); refine goesL_ (some 102) rfl rfl Try.func26 (by kernel_rfl) rfl #[.agg #[.slice Ao131 t254.length co131], .agg #[.slice Ao27 t214.length co27]] rfl (by (try simp only [List.map_toArray, List.map_cons, List.map_nil]); first | done | rfl | (simp only [List.length_drop, List.length_take]; rfl)) ?_; (with_reducible refine (laws_eqDisk.calls kj73 _ _ t254 _ _ t214 false _ ?side1 ?side2 ?side3 ?side4 A137.out).mono ?_); (case side1 => refine (Kd.R_reads' (e := 49) (base := w.heap.size) (ok := fun k_ => ((((True ∧ some k_ ≠ (.slice Ao27 t214.length co27 : Value).ownBlock) ∧ some k_ ≠ (.slice Ao33 t241.length co33 : Value).ownBlock) ∧ some k_ ≠ (.slice Ao42 t226.length co42 : Value).ownBlock) ∧ some k_ ≠ (.slice Ao127 t248.length co127 : Value).ownBlock)) (n := t254.length) (c := co131) ?_).2.2; exact (by (with_reducible repeat (first | apply Kd.R_alloc | apply Kd.R_drewN | apply Kd.R_drew)); exact (Kd.R_mono (Kd.R_far (p := ⟨gb258, 0, none⟩) (Kd.R_types HO256.out BK258.out (by decide)) (fun _ hk => hk.2) (.slice Ao131 t254.length co131)) (fun _ h_ => h_.1)))); (case side2 => exact (Kd.R_reads' HO256.out).2.1); (case side3 => refine (Kd.R_reads' (e := 49) (base := w.heap.size) (ok := fun k_ => (((some k_ ≠ (.slice Ao33 t241.length co33 : Value).ownBlock ∧ some k_ ≠ (.slice Ao42 t226.length co42 : Value).ownBlock) ∧ some k_ ≠ (.slice Ao127 t248.length co127 : Value).ownBlock) ∧ some k_ ≠ (.slice Ao131 t254.length co131 : Value).ownBlock)) (n := t214.length) (c := co27) ?_).2.2; exact (by (with_reducible repeat (first | apply Kd.R_alloc | apply Kd.R_drewN | apply Kd.R_drew)); exact (Kd.R_mono (Kd.R_far (p := ⟨gb258, 0, none⟩) (Kd.R_types HO_219000.out BK258.out (by decide)) (fun _ hk => hk.2) (.slice Ao131 t254.length co131)) (fun _ h_ => h_.1)))); (case side4 => exact (Kd.R_reads' HO_219000.out).2.1); rintro e w158 ⟨rfl, hb⟩; refine ⟨_, rfl, ?_⟩; have n0_ := Aside0.mk (Kd.R_below (by (with_reducible repeat (first | apply Kd.R_alloc | apply Kd.R_drewN | apply Kd.R_drew)); exact (Kd.R_mono (Kd.R_far (p := ⟨gb258, 0, none⟩) (Kd.R_types HO_219000.out BK258.out (by decide)) (fun _ hk => hk.2) (.slice Ao131 t254.length co131)) (fun _ h_ => h_.1))) hb); have n1_ := Aside0.mk (Kd.R_below (by (with_reducible repeat (first | apply Kd.R_alloc | apply Kd.R_drewN | apply Kd.R_drew)); exact (Kd.R_mono (Kd.R_far (p := ⟨gb258, 0, none⟩) (Kd.R_types HO_223000.out BK258.out (by decide)) (fun _ hk => hk.2) (.slice Ao131 t254.length co131)) (fun _ h_ => h_.1))) hb); have n2_ := Aside0.mk (Kd.R_below (by (with_reducible repeat (first | apply Kd.R_alloc | apply Kd.R_drewN | apply Kd.R_drew)); exact (Kd.R_mono (Kd.R_far (p := ⟨gb258, 0, none⟩) (Kd.R_types HO_231000.out BK258.out (by decide)) (fun _ hk => hk.2) (.slice Ao131 t254.length co131)) (fun _ h_ => h_.1))) hb); have n3_ := Aside0.mk (Kd.R_below (by (with_reducible repeat (first | apply Kd.R_alloc | apply Kd.R_drewN | apply Kd.R_drew)); exact (Kd.R_mono (Kd.R_far (p := ⟨gb258, 0, none⟩) (Kd.R_types HO250.out BK258.out (by decide)) (fun _ hk => hk.2) (.slice Ao131 t254.length co131)) (fun _ h_ => h_.1))) hb); have n4_ := Aside0.mk (Kd.R_below (by (with_reducible repeat (first | apply Kd.R_alloc | apply Kd.R_drewN | apply Kd.R_drew)); exact (Kd.R_mono (Kd.R_far (p := ⟨gb258, 0, none⟩) (Kd.R_types HO253.out BK258.out (by decide)) (fun _ hk => hk.2) (.slice Ao131 t254.length co131)) (fun _ h_ => h_.1))) hb); have n5_ := Aside0.mk (Kd.R_below (by (with_reducible repeat (first | apply Kd.R_alloc | apply Kd.R_drewN | apply Kd.R_drew)); exact (Kd.R_mono (Kd.R_far (p := ⟨gb258, 0, none⟩) (Kd.R_types HO256.out BK258.out (by decide)) (fun _ hk => hk.2) (.slice Ao131 t254.length co131)) (fun _ h_ => h_.1))) hb); have n6_ := Aside0.mk (blk_below (g := gb206) (o := .cells #[.slice A0_0 l0_0.length c0_0] 34 (0, 0)) (by (with_reducible repeat (first | refine blk_drewN ?_ _ | refine blk_drew ?_ | refine blk_alloc ?_ _)); refine blk_far ?_ NB206_258.out _; (with_reducible repeat (first | refine blk_drewN ?_ _ | refine blk_drew ?_ | refine blk_alloc ?_ _)); exact BK206.out) hb); have n7_ := Aside0.mk (blk_below (g := gb218) (o := .cells #[.slice Ao27 t214.length co27] 39 (0, 0)) (by (with_reducible repeat (first | refine blk_drewN ?_ _ | refine blk_drew ?_ | refine blk_alloc ?_ _)); refine blk_far ?_ NB218_258.out _; (with_reducible repeat (first | refine blk_drewN ?_ _ | refine blk_drew ?_ | refine blk_alloc ?_ _)); exact BK218.out) hb); have n8_ := Aside0.mk (blk_below (g := gb222) (o := .cells #[.slice Ao33 t241.length co33] 39 (0, 0)) (by (with_reducible repeat (first | refine blk_drewN ?_ _ | refine blk_drew ?_ | refine blk_alloc ?_ _)); refine blk_far ?_ NB222_258.out _; (with_reducible repeat (first | refine blk_drewN ?_ _ | refine blk_drew ?_ | refine blk_alloc ?_ _)); exact BK222.out) hb); have n9_ := Aside0.mk (blk_below (g := gb230) (o := .cells #[.slice Ao42 t226.length co42] 39 (0, 0)) (by (with_reducible repeat (first | refine blk_drewN ?_ _ | refine blk_drew ?_ | refine blk_alloc ?_ _)); refine blk_far ?_ NB230_258.out _; (with_reducible repeat (first | refine blk_drewN ?_ _ | refine blk_drew ?_ | refine blk_alloc ?_ _)); exact BK230.out) hb); have n10_ := Aside0.mk (blk_below (g := gb258) (o := .cells #[.slice Ao131 t254.length co131] 39 (0, 0)) (by (with_reducible repeat (first | refine blk_drewN ?_ _ | refine blk_drew ?_ | refine blk_alloc ?_ _)); refine blk_put (cs := #[.slice none 0 0]) ?_ 0 _ rfl; (with_reducible repeat (first | refine blk_drewN ?_ _ | refine blk_drew ?_ | refine blk_alloc ?_ _)); exact BK258.out) hb); have n11_ := Aside0.mk (below_step (by repeat (first | (with_reducible first | exact HB.out | apply below_alloc | apply pw_below_drewN | apply below_drew1 | refine below_set ?_ GE206.out | refine below_set ?_ GE218.out | refine below_set ?_ GE222.out | refine below_set ?_ GE230.out | refine below_set ?_ GE258.out) | exact HB.out)) hb); clear HO_219000; clear HO_223000; clear HO_231000; clear HO250; clear HO253; clear HO256; clear BK206; clear BK218; clear BK222; clear BK230; clear BK258; clear HB; have HO_219000 := n0_; have HO_223000 := n1_; have HO_231000 := n2_; have HO250 := n3_; have HO253 := n4_; have HO256 := n5_; have BK206 := n6_; have BK218 := n7_; have BK222 := n8_; have BK230 := n9_; have BK258 := n10_; have HB := n11_; clear n0_ n1_ n2_ n3_ n4_ n5_ n6_ n7_ n8_ n9_ n10_ n11_; (try clear hb); (try clear hb2); (try clear hk); (try clear hi)))
                              go_meet
                              case rel => exact ⟨_, (true), (by first | rfl | (simp; done) | (simp [*]; done)), H', ⟨by have := HJ15.out; have := HJ73.out; first | omega | exact Nat.le_refl _⟩, ⟨by (try simp only [hl223000_73]); (with_reducible repeat (first | apply Kd.R_alloc | apply Kd.R_drewN | apply Kd.R_drew)); exact Kd.R_mono HO_219000.out (fun _ hk => ⟨hk.1.1.1, ⟨hk.1.1.2, hk.2⟩⟩)⟩, ⟨by (try simp only [hl223000_73]); (with_reducible repeat (first | apply Kd.R_alloc | apply Kd.R_drewN | apply Kd.R_drew)); exact Kd.R_mono HO_223000.out (fun _ hk => ⟨hk.1.1.1, ⟨hk.1.1.2, hk.2⟩⟩)⟩, ⟨by (try simp only [hl223000_73]); (with_reducible repeat (first | apply Kd.R_alloc | apply Kd.R_drewN | apply Kd.R_drew)); exact Kd.R_mono HO_231000.out (fun _ hk => ⟨hk.1.1.1, ⟨hk.1.1.2, hk.2⟩⟩)⟩, ⟨by (try simp only [hl223000_73]); (with_reducible repeat (first | apply Kd.R_alloc | apply Kd.R_drewN | apply Kd.R_drew)); exact Kd.R_mono HO256.out (fun _ hk => ⟨hk.1.1.1.2, ⟨hk.1.1.2, hk.1.2⟩⟩)⟩, ⟨by (try simp only [hl223000_73]); (with_reducible repeat (first | refine blk_drewN ?_ _ | refine blk_drew ?_ | refine blk_alloc ?_ _)); exact BK206.out⟩, ⟨by (try simp only [hl223000_73]); (with_reducible repeat (first | refine blk_drewN ?_ _ | refine blk_drew ?_ | refine blk_alloc ?_ _)); exact BK218.out⟩, ⟨by (try simp only [hl223000_73]); (with_reducible repeat (first | refine blk_drewN ?_ _ | refine blk_drew ?_ | refine blk_alloc ?_ _)); exact BK222.out⟩, ⟨by (try simp only [hl223000_73]); (with_reducible repeat (first | refine blk_drewN ?_ _ | refine blk_drew ?_ | refine blk_alloc ?_ _)); exact BK230.out⟩, ⟨by (try simp only [hl223000_73]); (with_reducible repeat (first | refine blk_drewN ?_ _ | refine blk_drew ?_ | refine blk_alloc ?_ _)); exact BK258.out⟩, ⟨by repeat (first | (with_reducible first | exact HB.out | apply below_alloc | apply pw_below_drewN | apply below_drew1 | refine below_set ?_ GE206.out | refine below_set ?_ GE218.out | refine below_set ?_ GE222.out | refine below_set ?_ GE230.out | refine below_set ?_ GE258.out) | exact HB.out)⟩⟩
                          case rest =>
                            clear HC114
                            try clear c1
                            try clear c2
                            try clear p2
                            try clear c3
                            try clear c3b0
                            try clear c3b1
                            try clear c4
                            try clear c5
                            try clear c6
                            try clear c6b0
                            try clear c7
                            try clear c8
                            try clear c9
                            try clear c10
                            try clear c11
                            try clear c12
                            try clear c13
                            try clear c14
                            try clear c15
                            try clear c22
                            try clear c24
                            try clear c26
                            try clear c28
                            try clear c29
                            try clear c34
                            try clear c35
                            try clear c43
                            try clear c44
                            try clear c45
                            try clear c47
                            try clear c48
                            try clear c49
                            try clear c50
                            try clear c51
                            try clear c52
                            try clear c53
                            try clear c54
                            try clear c57
                            try clear c58
                            try clear c59
                            try clear c61
                            try clear c62
                            try clear c65
                            try clear c68
                            try clear c71
                            try clear c81
                            try clear c82
                            try clear c83
                            try clear c87
                            try clear c87b0
                            try clear c89
                            try clear c90
                            try clear c91
                            try clear c92
                            try clear c94
                            try clear c95
                            try clear c98
                            try clear c99
                            try clear c100
                            try clear c102
                            try clear c103
                            try clear c106
                            try clear c109
                            try clear c109b0
                            try clear c110
                            try clear c110b0
                            try clear c110b1
                            try clear c115
                            try clear c116
                            try clear c117
                            try clear c122
                            try clear c123
                            try clear c132
                            try clear c133
                            try clear c134
                            try clear c135
                            try clear c138
                            try clear c139
                            try clear c140
                            try clear c141
                            try clear c142
                            try clear c144
                            try clear c145
                            try clear c146
                            try clear c149
                            try clear c150
                            try clear c151
                            try clear c152
                            try clear c154
                            try clear c155
                            try clear c156
                            try clear hcz101_0
                            try clear hcz104_0
                            try clear hcz118_0
                            try clear hcz120_0
                            try clear hcz124_0
                            try clear hcz136_0
                            try clear hcz143_0
                            try clear hcz147_0
                            try clear hcz153_0
                            try clear hcz157_0
                            try clear hcz18_0
                            try clear hcz20_0
                            try clear hcz29_0
                            try clear hcz30_0
                            try clear hcz36_0
                            try clear hcz38_0
                            try clear hcz46_0
                            try clear hcz52_0
                            try clear hcz55_0
                            try clear hcz60_0
                            try clear hcz63_0
                            try clear hcz84_0
                            try clear hcz8_0
                            try clear hcz93_0
                            try clear hcz96_0
                            try clear hfz101_0
                            try clear hfz104_0
                            try clear hfz118_0
                            try clear hfz120_0
                            try clear hfz124_0
                            try clear hfz136_0
                            try clear hfz143_0
                            try clear hfz147_0
                            try clear hfz153_0
                            try clear hfz157_0
                            try clear hfz18_0
                            try clear hfz20_0
                            try clear hfz29_0
                            try clear hfz30_0
                            try clear hfz36_0
                            try clear hfz38_0
                            try clear hfz46_0
                            try clear hfz52_0
                            try clear hfz55_0
                            try clear hfz60_0
                            try clear hfz63_0
                            try clear hfz84_0
                            try clear hfz8_0
                            try clear hfz93_0
                            try clear hfz96_0
                            try clear p2
                            obtain ⟨kq, x108_113, rfl, HA, HJ113, HO_219000, HO_223000, HO_231000, HO_259000, BK206, BK218, BK222, BK230, BK258, HB⟩ := hcut
                            have hl231000_113 := (Kd.R_reads' HO_231000.out).1
                            rw [hl231000_113] at HO_231000
                            (try simp only [hl231000_113])
                            (try simp only [hl231000_113] at BK206)
                            (try simp only [hl231000_113] at BK218)
                            (try simp only [hl231000_113] at BK222)
                            (try simp only [hl231000_113] at BK230)
                            (try simp only [hl231000_113] at BK258)
                            (try simp only [hl231000_113] at HO_219000)
                            (try simp only [hl231000_113] at HO_223000)
                            (try simp only [hl231000_113] at HO_259000)
                            cases kq with
                            | zero => exact absurd HA.out (by simp [laws_FnExactLoseDisk.j2])
                            | succ kj113 =>
                              have H := HA.out
                              clear HA
                              simp only [laws_FnExactLoseDisk.j2] at H
                              by_cases c159 : x108_113 = true
                              · subst c159
                                have H1 : (some false) = some r := by rw [if_pos rfl] at H; exact H
                                clear H
                                have H := H1
                                clear H1
                                exact absurd ((Option.some.inj H).trans HLT.out) (by decide)
                              · replace c159 := Bool.eq_false_iff.mpr c159
                                subst c159
                                have H1 : ((laws_heldDisk.f kj113 t246 1).bind fun t260 => (if t260 < 0 then (some false) else (if t260 = t245 then (some true) else (some false)))) = some r := by rw [if_neg (show ¬ (false = true) by decide)] at H; exact H
                                clear H
                                have H := H1
                                clear H1
                                replace H := Option.bind_eq_some_iff.mp H
                                obtain ⟨t260, A1600, H⟩ := H
                                replace H : (if t260 < 0 then (some false) else (if t260 = t245 then (some true) else (some false))) = some r := H
                                have A160 := Aside0.mk A1600
                                clear A1600
                                by_cases c161 : t260 < 0
                                · rw [if_pos c161] at H
                                  have c161b0 : decide (t260 < 0) = true := decide_eq_true c161
                                  clear c161
                                  exact absurd ((Option.some.inj H).trans HLT.out) (by decide)
                                · rw [if_neg c161] at H
                                  have c161b0 : decide (t260 < 0) = false := decide_eq_false c161
                                  clear c161
                                  by_cases c162 : t260 = t245
                                  · rw [if_pos c162] at H
                                    have c162b0 : (t260 == t245) = true := beq_iff_eq.mpr c162
                                    have c162b1 : (t260 != t245) = false := bne_eq_false_iff_eq.mpr c162
                                    clear c162
                                    obtain rfl := Option.some.inj H
                                    have hnb163 := NB230_206.out
                                    have hnc163 := NB206_230.out
                                    have hnb164 := NB230_218.out
                                    have hnc164 := NB218_230.out
                                    have hnb165 := NB230_222.out
                                    have hnc165 := NB222_230.out
                                    have hnb166 := NB230_258.out
                                    have hnc166 := NB258_230.out
                                    have hcz167_0 : wc.cell? ⟨gb230, 0, none⟩ = some (.slice Ao42 t246.length co42) := (blk_cell BK230.out 0).trans rfl
                                    have hfz167_0 := blk_frozen BK230.out 0
                                    go_wp2_with (first | ((with_reducible refine gate_callee (f := 52) rfl ?_); refine goesL_ (some 111) rfl rfl Try.func52 (by kernel_rfl) rfl #[.agg #[.slice Ao42 t246.length co42], .int .i64 1] rfl (by (try simp only [List.map_toArray, List.map_cons, List.map_nil]); first | done | rfl | (simp only [List.length_drop, List.length_take]; rfl)) ?_; (with_reducible refine (laws_heldDisk.calls kj113 _ _ t246 1 t260 _ ?side1 ?side2 A160.out).mono ?_); (case side1 => repeat (first | exact (Kd.R_reads' HO_231000.out).2.2 | (with_reducible refine Kd.C_alloc ?_ _) | (with_reducible refine Kd.C_drewN ?_ _) | (with_reducible refine Kd.C_drew ?_))); (case side2 => exact (Kd.R_reads' HO_231000.out).2.1); rintro e w168 ⟨rfl, hb⟩; refine ⟨_, rfl, ?_⟩; have n0_ := Aside0.mk (Kd.R_below (by (with_reducible repeat (first | apply Kd.R_alloc | apply Kd.R_drewN | apply Kd.R_drew)); exact HO_219000.out) hb); have n1_ := Aside0.mk (Kd.R_below (by (with_reducible repeat (first | apply Kd.R_alloc | apply Kd.R_drewN | apply Kd.R_drew)); exact HO_223000.out) hb); have n2_ := Aside0.mk (Kd.R_below (by (with_reducible repeat (first | apply Kd.R_alloc | apply Kd.R_drewN | apply Kd.R_drew)); exact HO_231000.out) hb); have n3_ := Aside0.mk (Kd.R_below (by (with_reducible repeat (first | apply Kd.R_alloc | apply Kd.R_drewN | apply Kd.R_drew)); exact HO_259000.out) hb); have n4_ := Aside0.mk (blk_below (g := gb206) (o := .cells #[.slice A0_0 l0_0.length c0_0] 34 (0, 0)) (by (with_reducible repeat (first | refine blk_drewN ?_ _ | refine blk_drew ?_ | refine blk_alloc ?_ _)); exact BK206.out) hb); have n5_ := Aside0.mk (blk_below (g := gb218) (o := .cells #[.slice Ao27 t214.length co27] 39 (0, 0)) (by (with_reducible repeat (first | refine blk_drewN ?_ _ | refine blk_drew ?_ | refine blk_alloc ?_ _)); exact BK218.out) hb); have n6_ := Aside0.mk (blk_below (g := gb222) (o := .cells #[.slice Ao33 t241.length co33] 39 (0, 0)) (by (with_reducible repeat (first | refine blk_drewN ?_ _ | refine blk_drew ?_ | refine blk_alloc ?_ _)); exact BK222.out) hb); have n7_ := Aside0.mk (blk_below (g := gb230) (o := .cells #[.slice Ao42 t246.length co42] 39 (0, 0)) (by (with_reducible repeat (first | refine blk_drewN ?_ _ | refine blk_drew ?_ | refine blk_alloc ?_ _)); exact BK230.out) hb); have n8_ := Aside0.mk (blk_below (g := gb258) (o := .cells #[.slice Ao131 t254.length co131] 39 (0, 0)) (by (with_reducible repeat (first | refine blk_drewN ?_ _ | refine blk_drew ?_ | refine blk_alloc ?_ _)); exact BK258.out) hb); have n9_ := Aside0.mk (below_step (by repeat (first | (with_reducible first | exact HB.out | apply below_alloc | apply pw_below_drewN | apply below_drew1 | refine below_set ?_ GE206.out | refine below_set ?_ GE218.out | refine below_set ?_ GE222.out | refine below_set ?_ GE230.out | refine below_set ?_ GE258.out) | exact HB.out)) hb); clear HO_219000; clear HO_223000; clear HO_231000; clear HO_259000; clear BK206; clear BK218; clear BK222; clear BK230; clear BK258; clear HB; have HO_219000 := n0_; have HO_223000 := n1_; have HO_231000 := n2_; have HO_259000 := n3_; have BK206 := n4_; have BK218 := n5_; have BK222 := n6_; have BK230 := n7_; have BK258 := n8_; have HB := n9_; clear n0_ n1_ n2_ n3_ n4_ n5_ n6_ n7_ n8_ n9_; (try clear hb); (try clear hb2); (try clear hk); (try clear hi)))
                                    go_ret
                                    exact ⟨by first | rfl | (simp [errW_none, errW_some] <;> rfl) | (simp [*, errW_none, errW_some] <;> rfl), by repeat (first | (with_reducible first | exact HB.out | apply below_alloc | apply pw_below_drewN | apply below_drew1 | refine below_set ?_ GE206.out | refine below_set ?_ GE218.out | refine below_set ?_ GE222.out | refine below_set ?_ GE230.out | refine below_set ?_ GE258.out) | exact HB.out)⟩
                                  · rw [if_neg c162] at H
                                    have c162b0 : (t260 == t245) = false := beq_eq_false_iff_ne.mpr c162
                                    have c162b1 : (t260 != t245) = true := bne_iff_ne.mpr c162
                                    exact absurd ((Option.some.inj H).trans HLT.out) (by decide)
                        · rw [if_neg c110] at H
                          have c110b0 : (t247 == t245) = false := beq_eq_false_iff_ne.mpr c110
                          have c110b1 : (t247 != t245) = true := bne_iff_ne.mpr c110
                          exact absurd ((Option.some.inj H).trans HLT.out) (by decide)
              · replace c71 := Bool.eq_false_iff.mpr c71
                subst c71
                have H1 : (some false) = some r := by rw [if_neg (show ¬ (false = true) by decide)] at H; exact H
                clear H
                have H := H1
                clear H1
                exact absurd ((Option.some.inj H).trans HLT.out) (by decide)
            · replace c68 := Bool.eq_false_iff.mpr c68
              subst c68
              have H1 : (some false) = some r := by rw [if_neg (show ¬ (false = true) by decide)] at H; exact H
              clear H
              have H := H1
              clear H1
              exact absurd ((Option.some.inj H).trans HLT.out) (by decide)

end Go.Proofs.Ytaainenplcokaaa.QFnExactLoseDisk
