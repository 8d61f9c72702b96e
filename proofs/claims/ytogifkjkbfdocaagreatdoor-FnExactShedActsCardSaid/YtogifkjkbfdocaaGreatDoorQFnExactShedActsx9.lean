/- Written by the kit's print.py, called by our own print2.sh with one import more; not by print.sh. -/
import Derived.Test.YtogifkjkbfdocaaGreatDoorQFnExactShedActsx0
import Derived.Test.YtogifkjkbfdocaaGreatDoorQFnExactShedActsx8
namespace Go.Proofs.YtogifkjkbfdocaaGreatDoor.QFnExactShedActs
open Go.RowKit Go.Proofs.YtogifkjkbfdocaaGreatDoorW.PrintWords Go.Proofs.YtogifkjkbfdocaaGreatDoorW.PrintLast Go.Proofs.YtogifkjkbfdocaaGreatDoorW.PrintMore
attribute [local go_sem] max2_int min2_int max_two min_two max_three min_three max_four min_four   -- for this text's walks alone
open Go.Proofs.YtogifkjkbfdocaaGreatDoor.Laid
open Go.Proofs.YtogifkjkbfdocaaGreatDoor.Short
set_option linter.unusedVariables false
set_option linter.unusedSimpArgs false

/-! ### spec_ShedActs: function 7 -/
def spec_ShedActs.f (k : Nat) (l0_0 : List (S63)) : Option ((List (S67))) := (spec_NewestSnap.f k l0_0).bind fun bt230 => (if bt230.2.2.2.2 = true then ((spec_l08New.f k l0_0).bind fun t238 => ((spec_l08Drops.f k l0_0 bt230.1).bind fun t241 => (if t238.length + t241.length < 2513169434916 then (some (t238 ++ t241)) else (none)))) else (some (([] : List (S67)))))
theorem spec_ShedActs.mono : ∀ a0 k, LeO (spec_ShedActs.f k a0) (spec_ShedActs.f (k + 1) a0) := by
 intro a0 k
 unfold spec_ShedActs.f
 repeat' first
   | (with_reducible exact spec_NewestSnap.mono _ _)
   | (with_reducible exact spec_l08Drops.mono _ _ _)
   | (with_reducible exact spec_l08New.mono _ _)
   | (with_reducible exact LeO.refl _)
   | (with_reducible exact LeO.none _)
   | (with_reducible refine LeO.ite ?_ ?_)
   | (with_reducible refine LeO.bind ?_ (fun _ => ?_))
   | exact spec_NewestSnap.mono _ _
   | exact spec_l08Drops.mono _ _ _
   | exact spec_l08New.mono _ _
   | exact LeO.none _
   | refine LeO.ite ?_ ?_
   | refine LeO.bind ?_ (fun _ => ?_)
def spec_ShedActs.T4 : Bool × List (List Nat × List Nat) := (true, [([], []), ([0], [0]), ([], []), ([], []), ([3], [3]), ([2, 4, 1], [2, 4]), ([1, 5, 5], [1, 5]), ([6, 6, 0, 1, 2, 3, 4, 5, 6], [6])])
def spec_ShedActs.B4 : List Nat := [0, 1, 0, 0, 8, 31, 63, 127]
theorem spec_ShedActs.tab4 : rtab .any (opsOf Tryz.f7 4) = spec_ShedActs.T4 := by kernel_rfl
theorem spec_ShedActs.bits4 : waitsOk spec_ShedActs.T4.2 spec_ShedActs.B4 = true := by kernel_rfl
set_option maxHeartbeats 8000000 in
set_option maxRecDepth 100000 in
theorem spec_ShedActs.calls (k : Nat) (A0_0 : Option Addr) (c0_0 : Nat) (l0_0 : List (S63)) (r : List (S67)) (w : World) (hr0_0 : Kd.C k63 w A0_0 l0_0.length l0_0) (hc0_0 : l0_0.length ≤ c0_0) (h : spec_ShedActs.f k l0_0 = some r) :
  Calls Tryz.prog 7 #[.agg #[.slice A0_0 l0_0.length c0_0]] w fun e w' => ∃ v0_ : Value, e = .returned (v0_) ∧ Kd.R k67 67 w' w.heap.size (fun _ => True) v0_ r ∧ Below w.heap.size w w' := by
 have hu30 := Tryz.underlying30
 have hu52 := Tryz.underlying52
 have HR0_0 := Aside0.mk hr0_0
 have HC0_0 := Aside0.mk hc0_0
 clear hr0_0 hc0_0
 have HB := Aside0.mk (Below.refl w.heap.size w)
 have H : ((spec_NewestSnap.f k l0_0).bind fun bt230 => (if bt230.2.2.2.2 = true then ((spec_l08New.f k l0_0).bind fun t238 => ((spec_l08Drops.f k l0_0 bt230.1).bind fun t241 => (if t238.length + t241.length < 2513169434916 then (some (t238 ++ t241)) else (none)))) else (some (([] : List (S67)))))) = some r := h
 clear h
 replace H := Option.bind_eq_some_iff.mp H
 obtain ⟨⟨t230, t231, t232, t235, t236⟩, A20, H⟩ := H
 try dsimp only at H
 have A2 := Aside0.mk A20
 clear A20
 by_cases c3 : t236 = true
 ·subst c3
  have H1 : ((spec_l08New.f k l0_0).bind fun t238 => ((spec_l08Drops.f k l0_0 t230).bind fun t241 => (if t238.length + t241.length < 2513169434916 then (some (t238 ++ t241)) else (none)))) = some r := by rw [if_pos rfl] at H; exact H
  clear H
  have H := H1
  clear H1
  replace H := Option.bind_eq_some_iff.mp H
  obtain ⟨t238, A40, H⟩ := H
  try dsimp only at H
  have A4 := Aside0.mk A40
  clear A40
  replace H := Option.bind_eq_some_iff.mp H
  obtain ⟨t241, A50, H⟩ := H
  try dsimp only at H
  have A5 := Aside0.mk A50
  clear A50
  by_cases c6 : t238.length + t241.length < 2513169434916
  ·rw [if_pos c6] at H
   have LMc6 := Aside0.mk c6
   clear c6
   obtain ⟨y244, hy244⟩ : ∃ y_ : List (S67), y_ = (t238 ++ t241) := ⟨_, rfl⟩
   replace H : (some y244) = some r := by first | (rw [hy244]; with_reducible exact H) | (have H2_ := (Option.bind_some _ _).symm.trans H; rw [hy244]; with_reducible exact H2_) | (have H2_ := (Option.bind_some _ _).symm.trans H; with_reducible exact H2_) | with_reducible exact H | (rw [hy244]; exact H) | exact H
   have Ny244 := Aside0.mk hy244
   clear hy244
   obtain rfl := Option.some.inj H
   go_enter Tryz.func7, Tryz.ntmps7
   try go_wp2_with (first | ((with_reducible refine gate_dst (N := 1) rfl ?_); refine box_event rfl (N := 1) rfl (cs := #[.slice A0_0 l0_0.length c0_0]) (t := 30) zrun ?_; intro gb229 hg w7 hbox hb; have BK229 := am (hbox); have GW229 := zge hg (zb0 HB.out); have GE229 := zge hg (zb0 HB.out); replace HB := zs0 hb HB; clear hb hbox hg; obtain ⟨hcz8_0, hfz8_0⟩ := zc1 BK229.out) | ((with_reducible refine gate_callee (f := 27) rfl ?_); refine goesL_ (some 7) rfl rfl Tryz.func27 (by kernel_rfl) rfl #[.agg #[.slice A0_0 l0_0.length c0_0]] rfl zr ?_; (with_reducible refine (spec_NewestSnap.calls k _ _ l0_0 t230 t231 t232 t235 true _ ?side1 ?side2 A2.out).mono ?_); (case side1 => repeat (first | exact (Kd.C_below HR0_0.out HB.out) | (with_reducible refine Kd.C_alloc ?_ _) | (with_reducible refine Kd.C_drewN ?_ _) | (with_reducible refine Kd.C_drew ?_))); (case side2 => exact HC0_0.out); rintro e w9 ⟨v233, rfl, ho0, hb⟩; refine ⟨_, rfl, ?_⟩; have HO234 := am (Kd.R_lower ho0 (below_size (zb1 HB.out GE229.out))); replace BK229 := zk hb BK229; replace HB := zs1 hb HB GE229; clear hb ho0) | ((with_reducible refine gate_dst (N := 3) rfl ?_); refine box_event rfl (N := 3) rfl (cs := #[.int .i64 0, .int .i64 0, .slice none 0 0, .string (⟨#[]⟩ : ByteArray)]) (t := 52) zrun ?_; intro gb237 hg w10 hbox hb; have BK237 := am (hbox); have GW237 := zge hg (zb1 HB.out GE229.out); have GE237 := zge hg (zb1 HB.out GE229.out); obtain ⟨NB229_237, NB237_229⟩ := zne hg BK229; replace HO234 := am (Kd.R_below (rx HO234.out) hb); replace BK229 := zk hb BK229; replace HB := zs1 hb HB GE229; clear hb hbox hg; obtain ⟨hnb11, hnc11⟩ := zn2 NB237_229; obtain ⟨hcz12_0, hcz12_1, hcz12_2, hcz12_3, hfz12_0, hfz12_1, hfz12_2, hfz12_3⟩ := zc4 BK237.out; obtain ⟨Ao13, co13, eo13⟩ := Kd.R_slice HO234.out; subst eo13))
   have n0_ : Aside0 (Kd.R (Kd.int .i64) 3 ((((w10.setCell ⟨gb237, 0, none⟩ (.int .i64 t230)).setCell ⟨gb237, 1, none⟩ (.int .i64 t231)).setCell ⟨gb237, 2, none⟩ (.slice Ao13 t232.length co13)).setCell ⟨gb237, 3, none⟩ (.string t235)) w.heap.size (fun _ => True) (.slice Ao13 t232.length co13) t232) := ⟨rx (Kd.R_mono (Kd.R_far (p := ⟨gb237, 3, none⟩) (Kd.R_far (p := ⟨gb237, 2, none⟩) (Kd.R_far (p := ⟨gb237, 1, none⟩) (Kd.R_far (p := ⟨gb237, 0, none⟩) (Kd.R_types HO234.out BK237.out (by decide)) (fun _ hk => hk.2) (.int .i64 t230)) (fun _ hk => hk.2) (.int .i64 t231)) (fun _ hk => hk.2) (.slice Ao13 t232.length co13)) (fun _ hk => hk.2) (.string t235)) (fun _ hk => trivial))⟩
   have n1_ : Aside0 (((((w10.setCell ⟨gb237, 0, none⟩ (.int .i64 t230)).setCell ⟨gb237, 1, none⟩ (.int .i64 t231)).setCell ⟨gb237, 2, none⟩ (.slice Ao13 t232.length co13)).setCell ⟨gb237, 3, none⟩ (.string t235)).heap[gb229]? = some (.cells #[.slice A0_0 l0_0.length c0_0] 30 (0, 0))) := ⟨zf1 BK229.out NB229_237.out⟩
   have n2_ : Aside0 (((((w10.setCell ⟨gb237, 0, none⟩ (.int .i64 t230)).setCell ⟨gb237, 1, none⟩ (.int .i64 t231)).setCell ⟨gb237, 2, none⟩ (.slice Ao13 t232.length co13)).setCell ⟨gb237, 3, none⟩ (.string t235)).heap[gb237]? = some (.cells #[.int .i64 t230, .int .i64 t231, .slice Ao13 t232.length co13, .string t235] 52 (0, 0))) := ⟨by (with_reducible repeat (first | refine blk_drewN ?_ _ | refine blk_drew ?_ | refine blk_alloc ?_ _)); refine blk_put (cs := #[.int .i64 t230, .int .i64 t231, .slice Ao13 t232.length co13, .string (⟨#[]⟩ : ByteArray)]) ?_ 3 _ rfl; (with_reducible repeat (first | refine blk_drewN ?_ _ | refine blk_drew ?_ | refine blk_alloc ?_ _)); refine blk_put (cs := #[.int .i64 t230, .int .i64 t231, .slice none 0 0, .string (⟨#[]⟩ : ByteArray)]) ?_ 2 _ rfl; (with_reducible repeat (first | refine blk_drewN ?_ _ | refine blk_drew ?_ | refine blk_alloc ?_ _)); refine blk_put (cs := #[.int .i64 t230, .int .i64 0, .slice none 0 0, .string (⟨#[]⟩ : ByteArray)]) ?_ 1 _ rfl; (with_reducible repeat (first | refine blk_drewN ?_ _ | refine blk_drew ?_ | refine blk_alloc ?_ _)); refine blk_put (cs := #[.int .i64 0, .int .i64 0, .slice none 0 0, .string (⟨#[]⟩ : ByteArray)]) ?_ 0 _ rfl; (with_reducible repeat (first | refine blk_drewN ?_ _ | refine blk_drew ?_ | refine blk_alloc ?_ _)); exact BK237.out⟩
   have n3_ : Aside0 (Below w.heap.size w ((((w10.setCell ⟨gb237, 0, none⟩ (.int .i64 t230)).setCell ⟨gb237, 1, none⟩ (.int .i64 t231)).setCell ⟨gb237, 2, none⟩ (.slice Ao13 t232.length co13)).setCell ⟨gb237, 3, none⟩ (.string t235))) := ⟨zb2 HB.out GE229.out GE237.out⟩
   generalize ((((w10.setCell ⟨gb237, 0, none⟩ (.int .i64 t230)).setCell ⟨gb237, 1, none⟩ (.int .i64 t231)).setCell ⟨gb237, 2, none⟩ (.slice Ao13 t232.length co13)).setCell ⟨gb237, 3, none⟩ (.string t235)) = w14 at n0_ n1_ n2_ n3_ ⊢
   have HO234 := n0_
   have BK229 := n1_
   have BK237 := n2_
   have HB := n3_
   clear n0_ n1_ n2_ n3_
   replace HO234 := am (Kd.R_drew HO234.out)
   replace BK229 := am (blk_drew BK229.out)
   replace BK237 := am (blk_drew BK237.out)
   replace HB := am (below_drew1 HB.out)
   refine start_ (n := 8) (S := fun w' => w'.cell? ⟨gb229, 0, none⟩ = some (.slice A0_0 l0_0.length c0_0) ∧ w'.cell? ⟨gb237, 0, none⟩ = some (.int .i64 t230) ∧ w'.cell? ⟨gb237, 1, none⟩ = some (.int .i64 t231) ∧ w'.cell? ⟨gb237, 2, none⟩ = some (.slice Ao13 t232.length co13) ∧ w'.cell? ⟨gb237, 3, none⟩ = some (.string t235)) (ds := []) #[false, false, false, false, false, false, false, false] (by kernel_rfl) rfl rfl ⟨ct BK229.out 0, ct BK237.out 0, ct BK237.out 1, ct BK237.out 2, ct BK237.out 3⟩ (fun hHeld => ?_); refine with_tabW spec_ShedActs.tab4 spec_ShedActs.bits4 (fun HT_ HW_ => ?_)
   generalize w14.drew = w15 at HO234 BK229 BK237 HB hHeld ⊢
   refine zpu 3 16 #[false, false, false, true, false, false, false, false] HT_ ?_
   refine ztk5 0 13 #[true, false, false, true, false, false, false, false] HT_ HW_ hHeld ?_
   refine ztk5 2 15 #[true, false, true, true, false, false, false, false] HT_ HW_ hHeld ?_
   refine ztk5 4 17 #[true, false, true, true, true, false, false, false] HT_ HW_ hHeld ?_
   refine zon 1 #[true, true, true, true, true, false, false, false] HT_ (fun K hK => ?_)
   refine goes_ Tryz.func28 (by kernel_rfl) rfl #[.agg #[.slice A0_0 l0_0.length c0_0]] (by rfl) rfl rfl zr ?_
   with_reducible refine (spec_l08New.calls k _ _ l0_0 t238 _ ?side1 ?side2 A4.out).mono ?_
   (case side1 => repeat (first | exact (Kd.C_below HR0_0.out HB.out) | (with_reducible refine Kd.C_alloc ?_ _) | (with_reducible refine Kd.C_drewN ?_ _) | (with_reducible refine Kd.C_drew ?_)))
   (case side2 => exact HC0_0.out)
   rintro e w16 ⟨v239, rfl, ho0, hb⟩
   refine ⟨_, rfl, ?_⟩
   have HO240 := am (Kd.R_lower ho0 (below_size (zb2 HB.out GE229.out GE237.out)))
   replace HO234 := am (Kd.R_below (rx HO234.out) hb)
   replace BK229 := zk hb BK229
   replace BK237 := zk hb BK237
   replace HB := zs2 hb HB GE229 GE237
   refine hK.out _ _ ⟨ct BK229.out 0, ct BK237.out 0, ct BK237.out 1, ct BK237.out 2, ct BK237.out 3⟩ (fun hHeld => ?_)
   clear hK K
   refine znm 14 ?_
   refine zon 5 #[true, true, true, true, true, true, false, false] HT_ (fun K hK => ?_)
   refine goes_ Tryz.func29 (by kernel_rfl) rfl #[.agg #[.slice A0_0 l0_0.length c0_0], .int .i64 t230] (by rfl) rfl rfl zr ?_
   with_reducible refine (spec_l08Drops.calls k _ _ l0_0 t230 t241 _ ?side1 ?side2 A5.out).mono ?_
   (case side1 => repeat (first | exact (Kd.C_below HR0_0.out HB.out) | (with_reducible refine Kd.C_alloc ?_ _) | (with_reducible refine Kd.C_drewN ?_ _) | (with_reducible refine Kd.C_drew ?_)))
   (case side2 => exact HC0_0.out)
   rintro e w17 ⟨v242, rfl, ho0, hb⟩
   refine ⟨_, rfl, ?_⟩
   have HO243 := am (Kd.R_lower (Kd.R_new' ho0 (Kd.R_lt (rx HO240.out))) (below_size (zb2 HB.out GE229.out GE237.out)))
   replace HO234 := am (Kd.R_below (rx HO234.out) hb)
   replace HO240 := am (Kd.R_elder' (rx HO240.out) (Kd.R_base ho0) hb)
   replace BK229 := zk hb BK229
   replace BK237 := zk hb BK237
   replace HB := zs2 hb HB GE229 GE237
   obtain ⟨Ao19, co19, eo19⟩ := Kd.R_slice HO243.out
   (first | subst eo19 | (injection eo19 with f1_ f2_ f3_; have f4_ := f1_.symm; have f5_ := f3_.symm; clear f1_ f2_ f3_; subst f4_; subst f5_))
   refine hK.out _ _ ⟨ct BK229.out 0, ct BK237.out 0, ct BK237.out 1, ct BK237.out 2, ct BK237.out 3⟩ (fun hHeld => ?_)
   clear hK K
   refine znm 18 ?_
   refine zon 6 #[true, true, true, true, true, true, true, false] HT_ (fun K hK => ?_)
   refine Kd.R_append_rows_step k67 (w0 := w) w.heap.size (by rfl) (.tmp 14) (.tmp 18) 26 67 (.agg #[(.int .i64 0), (.string ⟨#[]⟩), (.string ⟨#[]⟩), (.string ⟨#[]⟩)]) 56 rfl Tryz.underlying26 info67 rfl (by decide) (by omega) v239 t238 t241 _ _ _ (fun k_ => some k_ ≠ (.slice Ao19 t241.length co19 : Value).ownBlock) (fun _ => False) rfl rfl ?aO ?aR (fun _ _ h => h) (fun _ h => h.elim) ?aF ?aB ?aS ?aL ?_
   (case aR => repeat (first | exact (Kd.R_reads' HO243.out).2.2 | (with_reducible refine Kd.C_alloc ?_ _) | (with_reducible refine Kd.C_drewN ?_ _) | (with_reducible refine Kd.C_drew ?_)))
   (case aB => exact (zb2 HB.out GE229.out GE237.out))
   (case aF => exact (fun k_ hk => Kd.fresh' (Kd.R_lt (rx HO243.out)) k_ hk))
   (case aO => exact (rx (Kd.R_mono HO240.out (fun _ hk => hk.2))))
   (case aS => exact (below_size (zb2 HB.out GE229.out GE237.out)))
   (case aL => have := LMc6.out; omega)
   intro v245 w18 ho hb hg hat
   rw [← Ny244.out] at ho
   have HO246 := am (ho)
   replace BK229 := am (blk_grown (g := gb229) (o := .cells #[.slice A0_0 l0_0.length c0_0] 30 (0, 0)) (kx BK229.out) hg (Kd.R_ne HO240.out BK229.out (by decide)))
   replace HO234 := am (Kd.R_over' (rx HO234.out) (Kd.R_typed (rx HO240.out)) (by decide) hg)
   replace BK237 := am (blk_grown (g := gb237) (o := .cells #[.int .i64 t230, .int .i64 t231, .slice Ao13 t232.length co13, .string t235] 52 (0, 0)) (kx BK237.out) hg (Kd.R_ne HO240.out BK237.out (by decide)))
   replace HO243 := am (Kd.R_after (ok := (fun _ => True)) (rx HO243.out) hg hat)
   replace HB := am (hb)
   clear HO240 ho hb hg hat
   refine hK.out _ _ ⟨ct BK229.out 0, ct BK237.out 0, ct BK237.out 1, ct BK237.out 2, ct BK237.out 3⟩ (fun hHeld => ?_)
   clear hK K
   refine znm 19 ?_
   refine zpu 7 2 #[true, true, true, true, true, true, true, true] HT_ ?_
   refine zdn HT_ ?_
   try go_wp2
   go_ret
   exact ⟨_, by first | rfl | (simp [errW_none, errW_some] <;> rfl) | (simp [*, errW_none, errW_some] <;> rfl), rx (Kd.R_mono HO246.out (fun _ hk => trivial)), zb2 HB.out GE229.out GE237.out⟩
  ·rw [if_neg c6] at H
   exact absurd H (by simp)
 ·replace c3 := Bool.eq_false_iff.mpr c3
  subst c3
  have H1 : (some (([] : List (S67)))) = some r := by rw [if_neg (show ¬ (false = true) by decide)] at H; exact H
  clear H
  have H := H1
  clear H1
  obtain ⟨y247, hy247⟩ : ∃ y_ : List (S67), y_ = (([] : List (S67))) := ⟨_, rfl⟩
  replace H : (some y247) = some r := by first | (rw [hy247]; with_reducible exact H) | (have H2_ := (Option.bind_some _ _).symm.trans H; rw [hy247]; with_reducible exact H2_) | (have H2_ := (Option.bind_some _ _).symm.trans H; with_reducible exact H2_) | with_reducible exact H | (rw [hy247]; exact H) | exact H
  have Ny247 := Aside0.mk hy247
  clear hy247
  obtain rfl := Option.some.inj H
  go_enter Tryz.func7, Tryz.ntmps7
  go_wp2_with (first | ((with_reducible refine gate_dst (N := 1) rfl ?_); refine box_event rfl (N := 1) rfl (cs := #[.slice A0_0 l0_0.length c0_0]) (t := 30) zrun ?_; intro gb229 hg w20 hbox hb; have BK229 := am (hbox); have GW229 := zge hg (zb0 HB.out); have GE229 := zge hg (zb0 HB.out); replace HB := zs0 hb HB; clear hb hbox hg; obtain ⟨hcz21_0, hfz21_0⟩ := zc1 BK229.out) | ((with_reducible refine gate_callee (f := 27) rfl ?_); refine goesL_ (some 7) rfl rfl Tryz.func27 (by kernel_rfl) rfl #[.agg #[.slice A0_0 l0_0.length c0_0]] rfl zr ?_; (with_reducible refine (spec_NewestSnap.calls k _ _ l0_0 t230 t231 t232 t235 false _ ?side1 ?side2 A2.out).mono ?_); (case side1 => repeat (first | exact (Kd.C_below HR0_0.out HB.out) | (with_reducible refine Kd.C_alloc ?_ _) | (with_reducible refine Kd.C_drewN ?_ _) | (with_reducible refine Kd.C_drew ?_))); (case side2 => exact HC0_0.out); rintro e w22 ⟨v233, rfl, ho0, hb⟩; refine ⟨_, rfl, ?_⟩; have HO234 := am (Kd.R_lower ho0 (below_size (zb1 HB.out GE229.out))); replace BK229 := zk hb BK229; replace HB := zs1 hb HB GE229; clear hb ho0) | ((with_reducible refine gate_dst (N := 3) rfl ?_); refine box_event rfl (N := 3) rfl (cs := #[.int .i64 0, .int .i64 0, .slice none 0 0, .string (⟨#[]⟩ : ByteArray)]) (t := 52) zrun ?_; intro gb237 hg w23 hbox hb; have BK237 := am (hbox); have GW237 := zge hg (zb1 HB.out GE229.out); have GE237 := zge hg (zb1 HB.out GE229.out); obtain ⟨NB229_237, NB237_229⟩ := zne hg BK229; replace HO234 := am (Kd.R_below (rx HO234.out) hb); replace BK229 := zk hb BK229; replace HB := zs1 hb HB GE229; clear hb hbox hg; obtain ⟨hnb24, hnc24⟩ := zn2 NB237_229; obtain ⟨hcz25_0, hcz25_1, hcz25_2, hcz25_3, hfz25_0, hfz25_1, hfz25_2, hfz25_3⟩ := zc4 BK237.out; obtain ⟨Ao26, co26, eo26⟩ := Kd.R_slice HO234.out; subst eo26) | ((with_reducible refine gate_dst (N := 12) rfl ?_); refine Kd.R_lit k67 _ 67 ?hg (N := 12) ?hd (xs := ([] : List (S67))) (inner := []) (ok := fun _ => True) (okp := fun _ => True) ?hr ?hp (fun _ hk => hk) trivial (Below.refl _ _) (Nat.le_refl _) (by simp) ?_; (case hd => rfl); (case hg => rfl); (case hr => first | (go_simp; done) | (go_simp; rfl)); (case hp => exact (Reps.none _ _)); intro v248 w27 ho28 hb hg_ hnew_; clear hg_ hnew_; (first | rw [← Ny247.out] at ho28 | (simp only [Int.reduceToNat] at ho28; rw [← Ny247.out] at ho28)); have HO249 := am (Kd.R_lower ho28 (below_size (zb2 HB.out GE229.out GE237.out))); replace HO234 := am (Kd.R_below (rx ((Kd.R_mono (Kd.R_far (p := ⟨gb237, 3, none⟩) (Kd.R_far (p := ⟨gb237, 2, none⟩) (Kd.R_far (p := ⟨gb237, 1, none⟩) (Kd.R_far (p := ⟨gb237, 0, none⟩) (Kd.R_types HO234.out BK237.out (by decide)) (fun _ hk => hk.2) (.int .i64 t230)) (fun _ hk => hk.2) (.int .i64 t231)) (fun _ hk => hk.2) (.slice Ao26 t232.length co26)) (fun _ hk => hk.2) (.string t235)) (fun _ h_ => h_.1)))) hb); replace BK229 := zh1 hb BK229 NB229_237; replace BK237 := am (blk_below (g := gb237) (o := .cells #[.int .i64 t230, .int .i64 t231, .slice Ao26 t232.length co26, .string t235] 52 (0, 0)) (by (with_reducible repeat (first | refine blk_drewN ?_ _ | refine blk_drew ?_ | refine blk_alloc ?_ _)); refine blk_put (cs := #[.int .i64 t230, .int .i64 t231, .slice Ao26 t232.length co26, .string (⟨#[]⟩ : ByteArray)]) ?_ 3 _ rfl; (with_reducible repeat (first | refine blk_drewN ?_ _ | refine blk_drew ?_ | refine blk_alloc ?_ _)); refine blk_put (cs := #[.int .i64 t230, .int .i64 t231, .slice none 0 0, .string (⟨#[]⟩ : ByteArray)]) ?_ 2 _ rfl; (with_reducible repeat (first | refine blk_drewN ?_ _ | refine blk_drew ?_ | refine blk_alloc ?_ _)); refine blk_put (cs := #[.int .i64 t230, .int .i64 0, .slice none 0 0, .string (⟨#[]⟩ : ByteArray)]) ?_ 1 _ rfl; (with_reducible repeat (first | refine blk_drewN ?_ _ | refine blk_drew ?_ | refine blk_alloc ?_ _)); refine blk_put (cs := #[.int .i64 0, .int .i64 0, .slice none 0 0, .string (⟨#[]⟩ : ByteArray)]) ?_ 0 _ rfl; (with_reducible repeat (first | refine blk_drewN ?_ _ | refine blk_drew ?_ | refine blk_alloc ?_ _)); exact BK237.out) hb); replace HB := zs2 hb HB GE229 GE237; clear hb ho28))
  go_ret
  exact ⟨_, by first | rfl | (simp [errW_none, errW_some] <;> rfl) | (simp [*, errW_none, errW_some] <;> rfl), rx HO249.out, zb2 HB.out GE229.out GE237.out⟩

/-! ### laws_toFile: function 66 -/
def laws_toFile.f (a0_0 : ByteArray) (a0_1 : ByteArray) (a0_2 : Int) : Option (ByteArray × ByteArray × Int) := some (a0_0, a0_1, a0_2)
set_option maxHeartbeats 8000000 in
set_option maxRecDepth 100000 in
theorem laws_toFile.calls (a0_0 : ByteArray) (a0_1 : ByteArray) (a0_2 : Int) (r1 : ByteArray) (r2 : ByteArray) (r3 : Int) (w : World) (h : laws_toFile.f a0_0 a0_1 a0_2 = some (r1, r2, r3)) :
  Calls Tryz.prog 66 #[.agg #[.string a0_0, .string a0_1, .int .i64 a0_2]] w fun e w' => e = .returned (.agg #[.string r1, .string r2, .int .i64 r3]) ∧ Below w.heap.size w w' := by
 have hu90 := Tryz.underlying90
 have hu63 := Tryz.underlying63
 have HB := Aside0.mk (Below.refl w.heap.size w)
 have H : (some (a0_0, a0_1, a0_2)) = some (r1, r2, r3) := h
 clear h
 simp only [Option.some.injEq, Prod.mk.injEq] at H
 obtain ⟨rfl, rfl, rfl⟩ := H
 go_enter Tryz.func66, Tryz.ntmps66
 go_wp2_with (first | ((with_reducible refine gate_dst (N := 1) rfl ?_); refine box_event rfl (N := 1) rfl (cs := #[.string a0_0, .string a0_1, .int .i64 a0_2]) (t := 90) zrun ?_; intro gb250 hg w2 hbox hb; have BK250 := am (hbox); have GE250 := zge hg (zb0 HB.out); replace HB := zs0 hb HB; clear hb hbox hg) | ((with_reducible refine gate_dst (N := 2) rfl ?_); refine box_event rfl (N := 2) rfl (cs := #[.string (⟨#[]⟩ : ByteArray), .string (⟨#[]⟩ : ByteArray), .int .i64 0]) (t := 63) zrun ?_; intro gb251 hg w3 hbox hb; have BK251 := am (hbox); have GE251 := zge hg (zb1 HB.out GE250.out); obtain ⟨NB250_251, NB251_250⟩ := zne hg BK250; replace BK250 := zk hb BK250; replace HB := zs1 hb HB GE250; clear hb hbox hg) | ((with_reducible refine gate_dst (N := 3) rfl ?_); refine box_event rfl (N := 3) rfl (cs := #[.string (⟨#[]⟩ : ByteArray), .string (⟨#[]⟩ : ByteArray), .int .i64 0]) (t := 63) zrun ?_; intro gb252 hg w4 hbox hb; have BK252 := am (hbox); have GE252 := zge hg (zb2 HB.out GE250.out GE251.out); obtain ⟨NB250_252, NB252_250⟩ := zne hg BK250; obtain ⟨NB251_252, NB252_251⟩ := zne hg BK251; replace BK250 := zk hb BK250; replace BK251 := zk hb BK251; replace HB := zs2 hb HB GE250 GE251; clear hb hbox hg; obtain ⟨hnb5, hnc5⟩ := zn2 NB250_251; obtain ⟨hnb6, hnc6⟩ := zn2 NB250_252; obtain ⟨hcz7_0, hcz7_1, hcz7_2, hfz7_0, hfz7_1, hfz7_2⟩ := zc3 BK250.out; obtain ⟨hnb8, hnc8⟩ := zn2 NB252_251; obtain ⟨hcz9_0, hcz9_1, hcz9_2, hfz9_0, hfz9_1, hfz9_2⟩ := zc3 BK252.out; obtain ⟨hcz10_0, hcz10_1, hcz10_2, hfz10_0, hfz10_1, hfz10_2⟩ := zc3 BK251.out))
 refine bodyPost_ret (results_cell_row rfl _ _ gb251 63 #[.string a0_0, .string a0_1, .int .i64 a0_2] (0, 0) _ rfl (by (with_reducible repeat (first | refine blk_drewN ?_ _ | refine blk_drew ?_ | refine blk_alloc ?_ _)); refine blk_put (cs := #[.string a0_0, .string a0_1, .int .i64 0]) ?_ 2 _ rfl; (with_reducible repeat (first | refine blk_drewN ?_ _ | refine blk_drew ?_ | refine blk_alloc ?_ _)); refine blk_put (cs := #[.string a0_0, .string (⟨#[]⟩ : ByteArray), .int .i64 0]) ?_ 1 _ rfl; (with_reducible repeat (first | refine blk_drewN ?_ _ | refine blk_drew ?_ | refine blk_alloc ?_ _)); refine blk_put (cs := #[.string (⟨#[]⟩ : ByteArray), .string (⟨#[]⟩ : ByteArray), .int .i64 0]) ?_ 0 _ rfl; (with_reducible repeat (first | refine blk_drewN ?_ _ | refine blk_drew ?_ | refine blk_alloc ?_ _)); refine blk_far ?_ NB251_252.out _; (with_reducible repeat (first | refine blk_drewN ?_ _ | refine blk_drew ?_ | refine blk_alloc ?_ _)); refine blk_far ?_ NB251_252.out _; (with_reducible repeat (first | refine blk_drewN ?_ _ | refine blk_drew ?_ | refine blk_alloc ?_ _)); refine blk_far ?_ NB251_252.out _; (with_reducible repeat (first | refine blk_drewN ?_ _ | refine blk_drew ?_ | refine blk_alloc ?_ _)); exact BK251.out) Tryz.underlying63 rfl (by kernel_rfl)) rfl ?_
 exact ⟨by first | rfl | (simp [errW_none, errW_some] <;> rfl) | (simp [*, errW_none, errW_some] <;> rfl), zb3 HB.out GE250.out GE251.out GE252.out⟩

/-! ### laws_toFileS: function 30 -/
def laws_toFileS.l0 : Nat → List (S90) → List (S63) → Int → Option ((List (S63)))
 | 0, _, _, _ => none
 | k + 1, x0, x3, x4 => if x4 < (x0.length : Int) then (if 0 ≤ x4 then ((laws_toFile.f ((rd_T90 x0 x4).f0) ((rd_T90 x0 x4).f1) ((rd_T90 x0 x4).f2)).bind fun bt257 => (if x4 < (x3.length : Int) then (laws_toFileS.l0 k x0 (x3.set (x4 : Int).toNat (⟨bt257.1, bt257.2.1, bt257.2.2⟩ : S63)) (wrap64 (x4 + 1))) else (none))) else (none)) else (some x3)
def laws_toFileS.f (k : Nat) (l0 : List (S90)) : Option ((List (S63))) := if 0 ≤ (l0.length : Int) then (if ((l0.length : Int) : Int).toNat ≤ 7036874417766 then (laws_toFileS.l0 k l0 (List.replicate ((l0.length : Int) : Int).toNat z63) 0) else (none)) else (none)
theorem laws_toFileS.mono_l : ∀ k, (∀ y0 y1 y2, LeO (laws_toFileS.l0 k y0 y1 y2) (laws_toFileS.l0 (k + 1) y0 y1 y2))
 | 0 => fun _ _ _ r h => by simp [laws_toFileS.l0] at h
 | k + 1 => by
  have ih0 := laws_toFileS.mono_l k
  ·intro y0 y1 y2
   unfold laws_toFileS.l0
   repeat' first
   | (with_reducible exact ih0 _ _ _)
   | (with_reducible exact LeO.refl _)
   | (with_reducible exact LeO.none _)
   | (with_reducible refine LeO.ite ?_ ?_)
   | (with_reducible refine LeO.bind ?_ (fun _ => ?_))
   | exact ih0 _ _ _
   | exact LeO.none _
   | refine LeO.ite ?_ ?_
   | refine LeO.bind ?_ (fun _ => ?_)
theorem laws_toFileS.mono : ∀ a0 k, LeO (laws_toFileS.f k a0) (laws_toFileS.f (k + 1) a0) := by
 intro a0 k
 have ih0 := laws_toFileS.mono_l k
 unfold laws_toFileS.f
 repeat' first
   | (with_reducible exact ih0 _ _ _)
   | (with_reducible exact LeO.refl _)
   | (with_reducible exact LeO.none _)
   | (with_reducible refine LeO.ite ?_ ?_)
   | (with_reducible refine LeO.bind ?_ (fun _ => ?_))
   | exact ih0 _ _ _
   | exact LeO.none _
   | refine LeO.ite ?_ ?_
   | refine LeO.bind ?_ (fun _ => ?_)
set_option maxHeartbeats 8000000 in
set_option maxRecDepth 100000 in
theorem laws_toFileS.calls (k : Nat) (A0 : Option Addr) (c0 : Nat) (l0 : List (S90)) (r : List (S63)) (w : World) (hr0 : Kd.C k90 w A0 l0.length l0) (hc0 : l0.length ≤ c0) (h : laws_toFileS.f k l0 = some r) :
  Calls Tryz.prog 30 #[.slice A0 l0.length c0] w fun e w' => ∃ v0_ : Value, e = .returned (v0_) ∧ Kd.R k63 63 w' w.heap.size (fun _ => True) v0_ r ∧ Below w.heap.size w w' := by
 have hu90 := Tryz.underlying90
 have hu63 := Tryz.underlying63
 have HR0 := Aside0.mk hr0
 have HC0 := Aside0.mk hc0
 clear hr0 hc0
 have HB := Aside0.mk (Below.refl w.heap.size w)
 have H : (if 0 ≤ (l0.length : Int) then (if ((l0.length : Int) : Int).toNat ≤ 7036874417766 then (laws_toFileS.l0 k l0 (List.replicate ((l0.length : Int) : Int).toNat z63) 0) else (none)) else (none)) = some r := h
 clear h
 by_cases c2 : 0 ≤ (l0.length : Int)
 ·rw [if_pos c2] at H
  have c2b0 := eq_true c2
  have c2b1 : decide (0 ≤ (l0.length : Int)) = true := decide_eq_true c2
  clear c2
  by_cases c3 : ((l0.length : Int) : Int).toNat ≤ 7036874417766
  ·rw [if_pos c3] at H
   have c3b0 := eq_true c3
   have c3b1 : decide (((l0.length : Int) : Int).toNat ≤ 7036874417766) = true := decide_eq_true c3
   clear c3
   obtain ⟨y253, hy253⟩ : ∃ y_ : List (S63), y_ = (List.replicate ((l0.length : Int) : Int).toNat z63) := ⟨_, rfl⟩
   replace H : (laws_toFileS.l0 k l0 y253 0) = some r := by first | (rw [hy253]; with_reducible exact H) | (have H2_ := (Option.bind_some _ _).symm.trans H; rw [hy253]; with_reducible exact H2_) | (have H2_ := (Option.bind_some _ _).symm.trans H; with_reducible exact H2_) | with_reducible exact H | (rw [hy253]; exact H) | exact H
   have Ny253 := Aside0.mk hy253
   clear hy253
   have H' := Aside0.mk H
   clear H
   go_enter Tryz.func30, Tryz.ntmps30
   go_wp2_with (first | ((with_reducible refine gate_dst (N := 7) rfl ?_); refine Kd.R_make k63 _ 63 rfl (N := 7) rfl 28 _ _ rfl (l0.length : Int) rfl rfl Tryz.underlying28 (.agg #[(.string ⟨#[]⟩), (.string ⟨#[]⟩), (.int .i64 0)]) 40 info63 rfl (by decide) (by omega) z63 (ok := fun _ => True) (okp := fun _ => True) (k63_mkM _ _ _ z63 ) (fun _ hk => hk) trivial (of_decide_eq_true (by first | (with_reducible assumption) | assumption)) (Nat.le_trans (Nat.mul_le_mul_right _ (of_decide_eq_true (by first | (with_reducible assumption) | assumption) : (l0.length : Int).toNat ≤ 7036874417766)) (by omega)) (Below.refl _ _) (Nat.le_refl _) ?_; intro v254 w4 ho5 hb hg_ hnew_; clear hg_ hnew_; (first | rw [← Ny253.out] at ho5 | (simp only [Int.reduceToNat] at ho5; rw [← Ny253.out] at ho5)); have HO255 := am (Kd.R_lower ho5 (below_size (zb0 HB.out))); replace HB := zs0 hb HB; clear hb ho5))
   go_loopg [4] k (fun kq v4 w' => ∃ (x3_1 : List (S63)) (x4_1 : Int), v4 = .int .i64 x4_1 ∧ Aside0 (laws_toFileS.l0 kq l0 x3_1 x4_1 = some r) ∧ Aside0 (kq ≤ k) ∧ Aside0 (Kd.R k63 63 w' w.heap.size (fun _ => True) v254 x3_1) ∧ Aside0 (Below w.heap.size w w'))
   case atStart => exact ⟨(y253), (0), (by first | rfl | (simp; done) | (simp [*]; done)), H', ⟨Nat.le_refl _⟩, ⟨rx HO255.out⟩, ⟨zb0 HB.out⟩⟩
   case round =>
    clear H'
    obtain ⟨x3_1, x4_1, rfl, HA, HK1, HO_3, HB⟩ := hrel
    cases gk with
    | zero => exact absurd HA.out (by simp [laws_toFileS.l0])
    | succ k1 =>
     have H := HA.out
     clear HA
     simp only [laws_toFileS.l0] at H
     by_cases c6 : x4_1 < (l0.length : Int)
     ·rw [if_pos c6] at H
      have c6b0 : decide (x4_1 < (l0.length : Int)) = true := decide_eq_true c6
      have c6b1 : decide ((l0.length : Int) ≤ x4_1) = false := decide_eq_false (by omega)
      clear c6
      by_cases c7 : 0 ≤ x4_1
      ·rw [if_pos c7] at H
       have c7b0 : decide (0 ≤ x4_1) = true := decide_eq_true c7
       clear c7
       replace H := Option.bind_eq_some_iff.mp H
       obtain ⟨⟨t257, t258, t259⟩, A80, H⟩ := H
       try dsimp only at H
       have A8 := Aside0.mk A80
       clear A80
       by_cases c9 : x4_1 < (x3_1.length : Int)
       ·rw [if_pos c9] at H
        have c9b0 : decide (x4_1 < (x3_1.length : Int)) = true := decide_eq_true c9
        have c9b1 : decide ((x3_1.length : Int) ≤ x4_1) = false := decide_eq_false (by omega)
        clear c9
        obtain ⟨y260, hy260⟩ : ∃ y_ : List (S63), y_ = (x3_1.set (x4_1 : Int).toNat (⟨t257, t258, t259⟩ : S63)) := ⟨_, rfl⟩
        replace H : (laws_toFileS.l0 k1 l0 y260 (wrap64 (x4_1 + 1))) = some r := by first | (rw [hy260]; with_reducible exact H) | (have H2_ := (Option.bind_some _ _).symm.trans H; rw [hy260]; with_reducible exact H2_) | (have H2_ := (Option.bind_some _ _).symm.trans H; with_reducible exact H2_) | with_reducible exact H | (rw [hy260]; exact H) | exact H
        have Ny260 := Aside0.mk hy260
        clear hy260
        have H' := Aside0.mk H
        clear H
        have p256 : 0 ≤ (x4_1 : Int) := of_decide_eq_true (by first | (with_reducible assumption) | assumption)
        have q256 : x4_1 < (l0.length : Int) := of_decide_eq_true (by first | (with_reducible assumption) | assumption)
        obtain ⟨ad256, e256, hx256_0, hx256_1, hx256_2⟩ := at_T90 HR0.out x4_1 p256 q256
        cases e256
        replace hx256_0 := (HB.out.cell (World.block_lt_of_cell? w _ hx256_0)).trans hx256_0
        replace hx256_1 := (HB.out.cell (World.block_lt_of_cell? w _ hx256_1)).trans hx256_1
        replace hx256_2 := (HB.out.cell (World.block_lt_of_cell? w _ hx256_2)).trans hx256_2
        replace p256 := eq_true p256
        replace q256 := eq_true q256
        go_wp2_with (first | ((with_reducible refine gate_callee (f := 66) rfl ?_); refine goesL_ (some 20) rfl rfl Tryz.func66 (by kernel_rfl) rfl #[.agg #[.string ((rd_T90 l0 x4_1).f0), .string ((rd_T90 l0 x4_1).f1), .int .i64 ((rd_T90 l0 x4_1).f2)]] rfl zr ?_; (with_reducible refine (laws_toFile.calls ((rd_T90 l0 x4_1).f0) ((rd_T90 l0 x4_1).f1) ((rd_T90 l0 x4_1).f2) t257 t258 t259 _ A8.out).mono ?_); rintro e w11 ⟨rfl, hb⟩; refine ⟨_, rfl, ?_⟩; replace HO_3 := am (Kd.R_below (rx HO_3.out) hb); replace HB := zs0 hb HB; clear hb; have p10 : 0 ≤ (x4_1 : Int) := of_decide_eq_true (by first | (with_reducible assumption) | assumption); have q10 : (x4_1 : Int) < ((x3_1.length : Int) : Int) := of_decide_eq_true (by first | (with_reducible assumption) | assumption); obtain ⟨go10, co10, eo10, gb10, gl10, cl10, HG10⟩ := Kd.R_form HO_3.out (by omega); (first | cases eo10 | (injection eo10 with ea_ en_ ec_; (first | subst ea_ | (injection ea_ with ea_; subst ea_)); subst ec_; clear en_)); have GB10 := Aside0.mk gb10; have GG10 := Aside0.mk HG10; clear gb10 gl10 HG10; obtain ⟨ce10, hcl10, hM10, hcc10, hfr10⟩ := Kd.R_elem HO_3.out z63 (x4_1 : Int) p10 q10; obtain rfl := k63_openM hM10; have hx10_0 : w11.cell? ⟨go10, (x4_1 : Int).toNat * 3, none⟩ = some (.string ((rd_T63 x3_1 x4_1).f0)) := hcc10 0 _ rfl; have hx10_1 : w11.cell? ⟨go10, (x4_1 : Int).toNat * 3 + 1, none⟩ = some (.string ((rd_T63 x3_1 x4_1).f1)) := hcc10 1 _ rfl; have hx10_2 : w11.cell? ⟨go10, (x4_1 : Int).toNat * 3 + 2, none⟩ = some (.int .i64 ((rd_T63 x3_1 x4_1).f2)) := hcc10 2 _ rfl; have hf10_0 : w11.frozen? ⟨go10, (x4_1 : Int).toNat * 3, none⟩ = false := hfr10 0; have hf10_1 : w11.frozen? ⟨go10, (x4_1 : Int).toNat * 3 + 1, none⟩ = false := hfr10 1; have hf10_2 : w11.frozen? ⟨go10, (x4_1 : Int).toNat * 3 + 2, none⟩ = false := hfr10 2; clear hcl10 hcc10 hfr10 hM10; replace p10 := eq_true p10; replace q10 := eq_true q10; have HX12 := Aside0.mk (show Kd.R k63 63 w11 w.heap.size (fun _ => True) (.slice (some ⟨go10, 0, none⟩) x3_1.length co10) x3_1 from (rx HO_3.out)); obtain ⟨ce12, hcl12, hM12, hcc12, hfr12⟩ := Kd.R_elem HX12.out z63 (x4_1 : Int) (of_decide_eq_true (by first | (with_reducible assumption) | assumption)) (by have h_ : (x4_1 : Int) < ((x3_1.length : Int) : Int) := of_decide_eq_true (by first | (with_reducible assumption) | assumption); first | exact h_ | (have e_ := (Kd.R_reads' HO_3.out).1; omega) | simpa using h_); obtain rfl := k63_openM hM12; have HP12 := Kd.R_seg HX12.out (x4_1 : Int) (of_decide_eq_true (by first | (with_reducible assumption) | assumption)) (by have h_ : (x4_1 : Int) < ((x3_1.length : Int) : Int) := of_decide_eq_true (by first | (with_reducible assumption) | assumption); first | exact h_ | (have e_ := (Kd.R_reads' HO_3.out).1; omega) | simpa using h_) (seg := [.string t257, .string t258, .int .i64 t259]) (j := 0) hcl12 hcc12 (show 3 ≤ 3 from by decide) (x' := (⟨t257, t258, t259⟩ : S63)) (k63_mkM _ _ _ (⟨t257, t258, t259⟩ : S63) ) (fun _ hk => hk); have hx12_0 := hcc12 0 _ rfl; (try simp only [show (k63).sz = 3 from rfl, Nat.mul_one, Nat.add_zero] at hx12_0); have hf12_0 := hfr12 0; (try simp only [show (k63).sz = 3 from rfl, Nat.mul_one, Nat.add_zero] at hf12_0); have hx12_1 := hcc12 1 _ rfl; (try simp only [show (k63).sz = 3 from rfl, Nat.mul_one, Nat.add_zero] at hx12_1); have hf12_1 := hfr12 1; (try simp only [show (k63).sz = 3 from rfl, Nat.mul_one, Nat.add_zero] at hf12_1); have hx12_2 := hcc12 2 _ rfl; (try simp only [show (k63).sz = 3 from rfl, Nat.mul_one, Nat.add_zero] at hx12_2); have hf12_2 := hfr12 2; (try simp only [show (k63).sz = 3 from rfl, Nat.mul_one, Nat.add_zero] at hf12_2); clear hcl12 hcc12 hfr12 hM12) | ((with_reducible refine gate_store (t := 63) (p := 21) rfl ?_); refine store_event (t := 63) (p := 21) (v := ?vo_w13) (w1 := (((w11.setCell ⟨go10, (x4_1 : Int).toNat * 3, none⟩ (.string t257)).setCell ⟨go10, (x4_1 : Int).toNat * 3 + 1, none⟩ (.string t258)).setCell ⟨go10, (x4_1 : Int).toNat * 3 + 2, none⟩ (.int .i64 t259))) ?hg ?ho ?hn ?hr ?_; (case ho => rfl); (case hg => rfl); (case hn => rfl); (case hr => first | (go_simp; done) | (go_simp; rfl)); intro w13 hw; have hg : w11.grownBy w13 (some go10) := (by rw [hw]; exact HP12.2); have hp_ : Kd.R k63 63 w13 w.heap.size (fun _ => True) (.slice (some ⟨go10, 0, none⟩) x3_1.length co10) y260 := (by rw [hw, Ny260.out]; exact HP12.1); clear HP12; replace HO_3 := am (hp_); replace HB := am ((by rw [hw]; exact below_set (below_set (below_set (HB.out) GB10.out) GB10.out) GB10.out : Below w.heap.size w w13)); clear hg hw hp_))
        go_roundg k1
        case measure => have := HK1.out; omega
        case rel => exact ⟨(y260), (wrap64 (x4_1 + 1)), (by first | rfl | (simp; done) | (simp [*]; done)), H', ⟨by have := HK1.out; omega⟩, ⟨rx HO_3.out⟩, ⟨zb0 HB.out⟩⟩
       ·rw [if_neg c9] at H
        exact absurd H (by simp)
      ·rw [if_neg c7] at H
       exact absurd H (by simp)
     ·rw [if_neg c6] at H
      have c6b0 : decide (x4_1 < (l0.length : Int)) = false := decide_eq_false c6
      have c6b1 : decide ((l0.length : Int) ≤ x4_1) = true := decide_eq_true (by omega)
      clear c6
      obtain rfl := Option.some.inj H
      go_wp2
      go_ret
      exact ⟨_, by first | rfl | (simp [errW_none, errW_some] <;> rfl) | (simp [*, errW_none, errW_some] <;> rfl), rx HO_3.out, zb0 HB.out⟩
  ·rw [if_neg c3] at H
   exact absurd H (by simp)
 ·rw [if_neg c2] at H
  exact absurd H (by simp)

/-! ### laws_toDisk: function 8 -/
def laws_toDisk.f (k : Nat) (l0_0 : List (S90)) : Option ((List (S63))) := (laws_toFileS.f k l0_0).bind fun t264 => (some t264)
theorem laws_toDisk.mono : ∀ a0 k, LeO (laws_toDisk.f k a0) (laws_toDisk.f (k + 1) a0) := by
 intro a0 k
 unfold laws_toDisk.f
 repeat' first
   | (with_reducible exact laws_toFileS.mono _ _)
   | (with_reducible exact LeO.refl _)
   | (with_reducible exact LeO.none _)
   | (with_reducible refine LeO.ite ?_ ?_)
   | (with_reducible refine LeO.bind ?_ (fun _ => ?_))
   | exact laws_toFileS.mono _ _
   | exact LeO.none _
   | refine LeO.ite ?_ ?_
   | refine LeO.bind ?_ (fun _ => ?_)
set_option maxHeartbeats 8000000 in
set_option maxRecDepth 100000 in
theorem laws_toDisk.calls (k : Nat) (A0_0 : Option Addr) (c0_0 : Nat) (l0_0 : List (S90)) (r : List (S63)) (w : World) (hr0_0 : Kd.C k90 w A0_0 l0_0.length l0_0) (hc0_0 : l0_0.length ≤ c0_0) (h : laws_toDisk.f k l0_0 = some r) :
  Calls Tryz.prog 8 #[.agg #[.slice A0_0 l0_0.length c0_0]] w fun e w' => ∃ v0_ : Value, e = .returned (.agg #[v0_]) ∧ Kd.R k63 63 w' w.heap.size (fun _ => True) v0_ r ∧ Below w.heap.size w w' := by
 have hu24 := Tryz.underlying24
 have hu30 := Tryz.underlying30
 have HR0_0 := Aside0.mk hr0_0
 have HC0_0 := Aside0.mk hc0_0
 clear hr0_0 hc0_0
 have HB := Aside0.mk (Below.refl w.heap.size w)
 have H : ((laws_toFileS.f k l0_0).bind fun t264 => (some t264)) = some r := h
 clear h
 replace H := Option.bind_eq_some_iff.mp H
 obtain ⟨t264, A20, H⟩ := H
 try dsimp only at H
 have A2 := Aside0.mk A20
 clear A20
 obtain rfl := Option.some.inj H
 go_enter Tryz.func8, Tryz.ntmps8
 go_wp2_with (first | ((with_reducible refine gate_dst (N := 1) rfl ?_); refine box_event rfl (N := 1) rfl (cs := #[.slice A0_0 l0_0.length c0_0]) (t := 24) zrun ?_; intro gb261 hg w3 hbox hb; have BK261 := am (hbox); have GE261 := zge hg (zb0 HB.out); replace HB := zs0 hb HB; clear hb hbox hg) | ((with_reducible refine gate_dst (N := 2) rfl ?_); refine box_event rfl (N := 2) rfl (cs := #[.slice none 0 0]) (t := 30) zrun ?_; intro gb262 hg w4 hbox hb; have BK262 := am (hbox); have GE262 := zge hg (zb1 HB.out GE261.out); obtain ⟨NB261_262, NB262_261⟩ := zne hg BK261; replace BK261 := zk hb BK261; replace HB := zs1 hb HB GE261; clear hb hbox hg) | ((with_reducible refine gate_dst (N := 3) rfl ?_); refine box_event rfl (N := 3) rfl (cs := #[.slice none 0 0]) (t := 30) zrun ?_; intro gb263 hg w5 hbox hb; have BK263 := am (hbox); have GE263 := zge hg (zb2 HB.out GE261.out GE262.out); obtain ⟨NB261_263, NB263_261⟩ := zne hg BK261; obtain ⟨NB262_263, NB263_262⟩ := zne hg BK262; replace BK261 := zk hb BK261; replace BK262 := zk hb BK262; replace HB := zs2 hb HB GE261 GE262; clear hb hbox hg; obtain ⟨hnb6, hnc6⟩ := zn2 NB261_262; obtain ⟨hnb7, hnc7⟩ := zn2 NB261_263; obtain ⟨hcz8_0, hfz8_0⟩ := zc1 BK261.out) | ((with_reducible refine gate_callee (f := 30) rfl ?_); refine goesL_ (some 6) rfl rfl Tryz.func30 (by kernel_rfl) rfl #[.slice A0_0 l0_0.length c0_0] rfl zr ?_; (with_reducible refine (laws_toFileS.calls k _ _ l0_0 t264 _ ?side1 ?side2 A2.out).mono ?_); (case side1 => repeat (first | exact (Kd.C_below HR0_0.out HB.out) | (with_reducible refine Kd.C_alloc ?_ _) | (with_reducible refine Kd.C_drewN ?_ _) | (with_reducible refine Kd.C_drew ?_))); (case side2 => exact HC0_0.out); rintro e w9 ⟨v265, rfl, ho0, hb⟩; refine ⟨_, rfl, ?_⟩; have HO266 := am (Kd.R_lower ho0 (below_size (zb3 HB.out GE261.out GE262.out GE263.out))); replace BK261 := zk hb BK261; replace BK262 := zk hb BK262; replace BK263 := zk hb BK263; replace HB := zs3 hb HB GE261 GE262 GE263; clear hb ho0; obtain ⟨Ao10, co10, eo10⟩ := Kd.R_slice HO266.out; subst eo10; obtain ⟨hnb11, hnc11⟩ := zn2 NB263_262; obtain ⟨hcz12_0, hfz12_0⟩ := zc1 BK263.out; obtain ⟨hcz13_0, hfz13_0⟩ := zc1 BK262.out))
 refine bodyPost_ret (results_cell_row rfl _ _ gb262 30 #[.slice Ao10 t264.length co10] (0, 0) _ rfl (by (with_reducible repeat (first | refine blk_drewN ?_ _ | refine blk_drew ?_ | refine blk_alloc ?_ _)); refine blk_put (cs := #[.slice none 0 0]) ?_ 0 _ rfl; (with_reducible repeat (first | refine blk_drewN ?_ _ | refine blk_drew ?_ | refine blk_alloc ?_ _)); refine blk_far ?_ NB262_263.out _; (with_reducible repeat (first | refine blk_drewN ?_ _ | refine blk_drew ?_ | refine blk_alloc ?_ _)); exact BK262.out) Tryz.underlying30 rfl (by kernel_rfl)) rfl ?_
 exact ⟨_, by first | rfl | (simp [errW_none, errW_some] <;> rfl) | (simp [*, errW_none, errW_some] <;> rfl), rx (Kd.R_mono (Kd.R_far (p := ⟨gb262, 0, none⟩) (Kd.R_far (p := ⟨gb263, 0, none⟩) (Kd.R_types (Kd.R_types HO266.out BK263.out (by decide)) BK262.out (by decide)) (fun _ hk => hk.1.2) (.slice Ao10 t264.length co10)) (fun _ hk => hk.2) (.slice Ao10 t264.length co10)) (fun _ hk => trivial)), zb3 HB.out GE261.out GE262.out GE263.out⟩

/-! ### impl_Decimal: function 69, by hand (over strconv.Itoa's contract) -/ -- making laid
open Go.Proofs.YtogifkjkbfdocaaGreatDoor.Numerals Go.Proofs.YtogifkjkbfdocaaGreatDoor.Laid
def impl_Decimal.f (a0 : Int) : Option (ByteArray) := if -9223372036854775808 ≤ a0 then (if a0 ≤ 9223372036854775807 then some ⟨(Lib.itoa a0).toArray⟩ else none) else none
theorem impl_Decimal.calls (a0 : Int) (r : ByteArray) (w : World) (h : impl_Decimal.f a0 = some r) (hLW : LaidW w) :
  Calls Tryz.prog 69 #[.int .i64 a0] w fun e w' => e = .returned (.string r) ∧ Below w.heap.size w w' := by
 unfold impl_Decimal.f at h
 by_cases c : -9223372036854775808 ≤ a0
 ·rw [if_pos c] at h
  by_cases d : a0 ≤ 9223372036854775807
  ·rw [if_pos d] at h
   obtain rfl := Option.some.inj h
   exact Laid.impl_Decimal a0 c d w hLW
  ·rw [if_neg d] at h
   cases h
 ·rw [if_neg c] at h
  cases h

/-! ### impl_within: function 82 -/
def impl_within.f (a0 : Int) (a1 : Int) (a2 : Int) : Option (Bool) := if a0 ≥ a1 then (some (decide (a0 ≤ a2))) else (some false)
set_option maxHeartbeats 8000000 in
set_option maxRecDepth 100000 in
theorem impl_within.calls (a0 : Int) (a1 : Int) (a2 : Int) (r : Bool) (w : World) (h : impl_within.f a0 a1 a2 = some r) :
  Calls Tryz.prog 82 #[.int .i64 a0, .int .i64 a1, .int .i64 a2] w fun e w' => e = .returned (.bool r) ∧ Drawn0 w w' := by
 have H : (if a0 ≥ a1 then (some (decide (a0 ≤ a2))) else (some false)) = some r := h
 clear h
 by_cases c4 : a0 ≥ a1
 ·rw [if_pos c4] at H
  have c4b0 : decide (a1 ≤ a0) = true := decide_eq_true c4
  have c4b1 : decide (a0 < a1) = false := decide_eq_false (by omega)
  clear c4
  obtain rfl := Option.some.inj H
  go_enter Tryz.func82, Tryz.ntmps82
  go_wp2
  go_ret
  exact ⟨by first | rfl | (simp; done) | (simp [*]; done), by repeat (first | exact Drawn0.refl _ | apply Drawn0.step)⟩
 ·rw [if_neg c4] at H
  have c4b0 : decide (a1 ≤ a0) = false := decide_eq_false c4
  have c4b1 : decide (a0 < a1) = true := decide_eq_true (by omega)
  clear c4
  obtain rfl := Option.some.inj H
  go_enter Tryz.func82, Tryz.ntmps82
  go_wp2
  go_ret
  exact ⟨by first | rfl | (simp; done) | (simp [*]; done), by repeat (first | exact Drawn0.refl _ | apply Drawn0.step)⟩


end Go.Proofs.YtogifkjkbfdocaaGreatDoor.QFnExactShedActs
