/- Written by the kit's print.py, called by our own print2.sh with one import more; not by print.sh. -/
import Derived.Test.YtklbkkoojkmjbaaQFnExactCutActsx0
import Derived.Test.YtklbkkoojkmjbaaQFnExactCutActsx10
import Derived.Test.YtklbkkoojkmjbaaQFnExactCutActsx15
import Derived.Test.YtklbkkoojkmjbaaQFnExactCutActsx16
namespace Go.Proofs.Ytklbkkoojkmjbaa.QFnExactCutActs
open Go.RowKit Go.Proofs.YtklbkkoojkmjbaaW.PrintWords Go.Proofs.YtklbkkoojkmjbaaW.PrintLast Go.Proofs.YtklbkkoojkmjbaaW.PrintMore
attribute [local go_sem] max2_int min2_int max_two min_two max_three min_three max_four min_four   -- for this text's walks alone
open Go.Proofs.Ytklbkkoojkmjbaa.Short
set_option linter.unusedVariables false
set_option linter.unusedSimpArgs false

/-! ### spec_CutActs: function 27 -/
def spec_CutActs.f (k : Nat) (l0_0 : List (S66)) (l1 : List (S35)) (a2 : Int) (l3 : List Int) : Option ((List (S66)) × Bool) := (spec_l01In.f a2 0 (l1.length : Int)).bind fun t360 => (if t360 = true then (if 0 ≤ a2 then (if a2 ≤ (l1.length : Int) then ((spec_DoActs.f k l0_0 (l1.take (a2 : Int).toNat)).bind fun bt365 => (if bt365.2 < a2 then (some (([] : List (S66)), false)) else ((spec_LoseDisk.f k bt365.1 l3).bind fun bt370 => (some (bt370.1, bt370.2))))) else (none)) else (none)) else (some (([] : List (S66)), false)))
theorem spec_CutActs.mono : ∀ a0 a1 a2 a3 k, LeO (spec_CutActs.f k a0 a1 a2 a3) (spec_CutActs.f (k + 1) a0 a1 a2 a3) := by
 intro a0 a1 a2 a3 k
 unfold spec_CutActs.f
 repeat' first
   | (with_reducible exact spec_DoActs.mono _ _ _)
   | (with_reducible exact spec_LoseDisk.mono _ _ _)
   | (with_reducible exact LeO.refl _)
   | (with_reducible exact LeO.none _)
   | (with_reducible refine LeO.ite ?_ ?_)
   | (with_reducible refine LeO.bind ?_ (fun _ => ?_))
   | exact spec_DoActs.mono _ _ _
   | exact spec_LoseDisk.mono _ _ _
   | exact LeO.none _
   | refine LeO.ite ?_ ?_
   | refine LeO.bind ?_ (fun _ => ?_)
def spec_CutActs.T3 : Bool × List (List Nat × List Nat) := (true, [([], []), ([], []), ([], []), ([1, 2], [1, 2]), ([0, 3], [0, 3]), ([4], [4]), ([5], [5]), ([5], [5]), ([], []), ([8, 6, 4, 0, 1, 2, 3, 4, 5, 6, 8], [6, 8]), ([7, 9, 0, 1, 2, 3, 4, 5, 6, 7, 8, 9], [7])])
def spec_CutActs.B3 : List Nat := [0, 0, 0, 6, 15, 31, 63, 63, 0, 383, 1023]
theorem spec_CutActs.tab3 : rtab .any (opsOf Try.f27 3) = spec_CutActs.T3 := by kernel_rfl
theorem spec_CutActs.bits3 : waitsOk spec_CutActs.T3.2 spec_CutActs.B3 = true := by kernel_rfl
set_option maxHeartbeats 8000000 in
set_option maxRecDepth 100000 in
theorem spec_CutActs.calls (k : Nat) (A0_0 : Option Addr) (c0_0 : Nat) (l0_0 : List (S66)) (A1 : Option Addr) (c1 : Nat) (l1 : List (S35)) (a2 : Int) (A3 : Option Addr) (c3 : Nat) (l3 : List Int) (r1 : List (S66)) (r2 : Bool) (w : World) (hr0_0 : Kd.C k66 w A0_0 l0_0.length l0_0) (hc0_0 : l0_0.length ≤ c0_0) (hr1 : Kd.C k35 w A1 l1.length l1) (hc1 : l1.length ≤ c1) (hr3 : Kd.C (Kd.int .i64) w A3 l3.length l3) (hc3 : l3.length ≤ c3) (h : spec_CutActs.f k l0_0 l1 a2 l3 = some (r1, r2)) :
  Calls Try.prog 27 #[.agg #[.slice A0_0 l0_0.length c0_0], .slice A1 l1.length c1, .int .i64 a2, .slice A3 l3.length c3] w fun e w' => ∃ v0_ : Value, e = .returned (.tuple #[.agg #[v0_], .bool r2]) ∧ Kd.R k66 66 w' w.heap.size (fun _ => True) v0_ r1 ∧ Below w.heap.size w w' := by
 have hu31 := Try.underlying31
 have HR0_0 := Aside0.mk hr0_0
 have HC0_0 := Aside0.mk hc0_0
 clear hr0_0 hc0_0
 have HR1 := Aside0.mk hr1
 have HC1 := Aside0.mk hc1
 clear hr1 hc1
 have HR3 := Aside0.mk hr3
 have HC3 := Aside0.mk hc3
 clear hr3 hc3
 have HB := Aside0.mk (Below.refl w.heap.size w)
 have H : ((spec_l01In.f a2 0 (l1.length : Int)).bind fun t360 => (if t360 = true then (if 0 ≤ a2 then (if a2 ≤ (l1.length : Int) then ((spec_DoActs.f k l0_0 (l1.take (a2 : Int).toNat)).bind fun bt365 => (if bt365.2 < a2 then (some (([] : List (S66)), false)) else ((spec_LoseDisk.f k bt365.1 l3).bind fun bt370 => (some (bt370.1, bt370.2))))) else (none)) else (none)) else (some (([] : List (S66)), false)))) = some (r1, r2) := h
 clear h
 replace H := Option.bind_eq_some_iff.mp H
 obtain ⟨t360, A50, H⟩ := H
 try dsimp only at H
 have A5 := Aside0.mk A50
 clear A50
 by_cases c6 : t360 = true
 ·subst c6
  have H1 : (if 0 ≤ a2 then (if a2 ≤ (l1.length : Int) then ((spec_DoActs.f k l0_0 (l1.take (a2 : Int).toNat)).bind fun bt365 => (if bt365.2 < a2 then (some (([] : List (S66)), false)) else ((spec_LoseDisk.f k bt365.1 l3).bind fun bt370 => (some (bt370.1, bt370.2))))) else (none)) else (none)) = some (r1, r2) := by rw [if_pos rfl] at H; exact H
  clear H
  have H := H1
  clear H1
  by_cases c7 : 0 ≤ a2
  ·rw [if_pos c7] at H
   have c7b0 := eq_true c7
   have c7b1 : decide (0 ≤ a2) = true := decide_eq_true c7
   clear c7
   by_cases c8 : a2 ≤ (l1.length : Int)
   ·rw [if_pos c8] at H
    have c8b0 := eq_true c8
    have c8b1 : decide (a2 ≤ (l1.length : Int)) = true := decide_eq_true c8
    clear c8
    obtain ⟨y361, hy361⟩ : ∃ y_ : List (S35), y_ = (l1.take (a2 : Int).toNat) := ⟨_, rfl⟩
    replace H : ((spec_DoActs.f k l0_0 y361).bind fun bt365 => (if bt365.2 < a2 then (some (([] : List (S66)), false)) else ((spec_LoseDisk.f k bt365.1 l3).bind fun bt370 => (some (bt370.1, bt370.2))))) = some (r1, r2) := by first | (rw [hy361]; with_reducible exact H) | (have H2_ := (Option.bind_some _ _).symm.trans H; rw [hy361]; with_reducible exact H2_) | (have H2_ := (Option.bind_some _ _).symm.trans H; with_reducible exact H2_) | with_reducible exact H | (rw [hy361]; exact H) | exact H
    have Ny361 := Aside0.mk hy361
    clear hy361
    replace H := Option.bind_eq_some_iff.mp H
    obtain ⟨⟨t365, t368⟩, A90, H⟩ := H
    try dsimp only at H
    have A9 := Aside0.mk A90
    clear A90
    by_cases c10 : t368 < a2
    ·rw [if_pos c10] at H
     have c10b0 : decide (t368 < a2) = true := decide_eq_true c10
     have c10b1 : decide (a2 ≤ t368) = false := decide_eq_false (by omega)
     clear c10
     simp only [Option.some.injEq, Prod.mk.injEq] at H
     obtain ⟨rfl, rfl⟩ := H
     go_enter Try.func27, Try.ntmps27
     try go_wp2_with (first | ((with_reducible refine gate_dst (N := 4) rfl ?_); refine box_event rfl (N := 4) rfl (cs := #[.slice A0_0 l0_0.length c0_0]) (t := 31) zrun ?_; intro gb358 hg w11 hbox hb; have BK358 := am (hbox); have GW358 := zge hg (zb0 HB.out); have GE358 := zge hg (zb0 HB.out); replace HB := zs0 hb HB; clear hb hbox hg) | ((with_reducible refine gate_dst (N := 8) rfl ?_); refine box_event rfl (N := 8) rfl (cs := #[.slice none 0 0]) (t := 31) zrun ?_; intro gb359 hg w12 hbox hb; have BK359 := am (hbox); have GW359 := zge hg (zb1 HB.out GE358.out); have GE359 := zge hg (zb1 HB.out GE358.out); obtain ⟨NB358_359, NB359_358⟩ := zne hg BK358; replace BK358 := zk hb BK358; replace HB := zs1 hb HB GE358; clear hb hbox hg) | ((with_reducible refine gate_callee (f := 56) rfl ?_); refine goesL_ (some 15) rfl rfl Try.func56 (by kernel_rfl) rfl #[.int .i64 a2, .int .i64 0, .int .i64 (l1.length : Int)] rfl zr ?_; (with_reducible refine (spec_l01In.calls a2 0 (l1.length : Int) true _ A5.out).mono ?_); rintro e w' ⟨rfl, ⟨nd, rfl⟩⟩; refine ⟨_, rfl, ?_⟩; (try (rw [drewN_self w12]; generalize hq_ : World.drewN w12 _ = w12; have n0_ : Aside0 (w12.heap[gb358]? = some (.cells #[.slice A0_0 l0_0.length c0_0] 31 (0, 0))) := ⟨by rw [← hq_]; exact (kx BK358.out)⟩; have n1_ : Aside0 (w12.heap[gb359]? = some (.cells #[.slice none 0 0] 31 (0, 0))) := ⟨by rw [← hq_]; exact (kx BK359.out)⟩; have n2_ : Aside0 (Below w.heap.size w w12) := ⟨by rw [← hq_]; exact (zb2 HB.out GE358.out GE359.out)⟩; clear BK358 BK359 HB hq_; have BK358 := n0_; have BK359 := n1_; have HB := n2_; clear n0_ n1_ n2_))))
     replace BK358 := am (blk_drew BK358.out)
     replace BK359 := am (blk_drew BK359.out)
     replace HB := am (below_drew1 HB.out)
     have q14 : (a2 : Int) ≤ ((l1.length : Int) : Int) := of_decide_eq_true (by first | (with_reducible assumption) | assumption)
     obtain ⟨i014, hi014, _, hsz14, _⟩ := info_parts info35
     have hroom14 : l1.length ≤ c1 := HC1.out
     have hC14 : Kd.C k35 _ A1 l1.length l1 := HR1.out
     have hcut14 := cut_to (P := Try.prog) 44 35 .i64 Try.underlying44 hi014 A1 l1.length c1 a2 (of_decide_eq_true (by first | (with_reducible assumption) | assumption)) q14 hroom14
     have hr14 := Kd.C_take (m := (a2 : Int).toNat) hC14 (by omega)
     have hy14 : y361.length = (a2 : Int).toNat := (by rw [Ny361.out, List.length_take]; omega)
     rw [← Ny361.out] at hr14
     rw [← hy14] at hcut14
     have HR364 := Aside0.mk hr14
     have HC364 := Aside0.mk (show y361.length ≤ c1 from by omega)
     clear hr14 hC14 hroom14 hi014 hsz14
     have KY14 := Aside0.mk hy14
     clear hy14
     replace q14 := eq_true q14
     refine start_ (n := 11) (S := fun w' => w'.cell? ⟨gb358, 0, none⟩ = some (.slice A0_0 l0_0.length c0_0)) (ds := []) #[false, false, false, false, false, false, false, false, false, false, false] (by kernel_rfl) rfl rfl (ct BK358.out 0) (fun hHeld => ?_); refine with_tabW spec_CutActs.tab3 spec_CutActs.bits3 (fun HT_ HW_ => ?_)
     generalize w12.drew = w13 at BK358 BK359 HB HR364 hHeld ⊢
     refine zpu 1 20 #[false, true, false, false, false, false, false, false, false, false, false] HT_ ?_
     refine zpu 2 21 #[false, true, true, false, false, false, false, false, false, false, false] HT_ ?_
     refine zpu 3 22 #[false, true, true, true, false, false, false, false, false, false, false] HT_ ?_
     refine ztk1 0 19 #[true, true, true, true, false, false, false, false, false, false, false] HT_ HW_ hHeld ?_
     refine join_ (σ := Value × Nat) 2 #[true, true, true, true, true, true, true, true, true, false, false] (fun s_ => [(23, .tuple #[.agg #[s_.1], .int .i64 t368]), (10, .pointer (some ⟨s_.2, 0, none⟩)), (18, .tuple #[.agg #[s_.1], .int .i64 t368]), (24, .agg #[s_.1]), (25, .int .i64 t368)]) (fun s_ w' => (w'.cell? ⟨gb358, 0, none⟩ = some (.slice A0_0 l0_0.length c0_0)) ∧ (Kd.R k66 66 w' w.heap.size (fun _ => True) s_.1 t365) ∧ (w'.heap[gb358]? = some (.cells #[.slice A0_0 l0_0.length c0_0] 31 (0, 0))) ∧ (w'.heap[gb359]? = some (.cells #[.slice none 0 0] 31 (0, 0))) ∧ (w'.heap[s_.2]? = some (.cells #[.slice none 0 0] 31 (0, 0))) ∧ (w.heap.size ≤ s_.2) ∧ (w.heap.size ≤ s_.2) ∧ (gb358 ≠ s_.2) ∧ (s_.2 ≠ gb358) ∧ (gb359 ≠ s_.2) ∧ (s_.2 ≠ gb359) ∧ (Below w.heap.size w w')) ?_ ?_
     rotate_left
     ·intro hCont
      refine two_ (i := 4) (j := 8) (Ni := some 23) (Nj := some 10) #[true, true, true, true, true, false, false, false, false, false, false] #[true, true, true, true, false, false, false, false, true, false, false] rfl rfl rfl rfl (two_of HT_.out (by kernel_rfl)) (by decide) (by decide) (fun K hK => ?_) (fun K hK => ?_)
      ·skip
       refine goes_ Try.func17 (by kernel_rfl) rfl #[.agg #[.slice A0_0 l0_0.length c0_0], .slice A1 y361.length c1] (by rfl) rfl rfl zr ?_
       with_reducible refine (spec_DoActs.calls k _ _ l0_0 _ _ y361 t365 t368 _ ?side1 ?side2 ?side3 ?side4 A9.out).mono ?_
       (case side1 => repeat (first | exact (Kd.C_below HR0_0.out HB.out) | (with_reducible refine Kd.C_alloc ?_ _) | (with_reducible refine Kd.C_drewN ?_ _) | (with_reducible refine Kd.C_drew ?_)))
       (case side2 => exact HC0_0.out)
       (case side3 => repeat (first | exact (Kd.C_below HR364.out HB.out) | (with_reducible refine Kd.C_alloc ?_ _) | (with_reducible refine Kd.C_drewN ?_ _) | (with_reducible refine Kd.C_drew ?_)))
       (case side4 => exact HC364.out)
       rintro e w15 ⟨v366, rfl, ho0, hb⟩
       refine ⟨_, rfl, ?_⟩
       have HO367 := am (Kd.R_lower ho0 (below_size (zb2 HB.out GE358.out GE359.out)))
       replace BK358 := zk hb BK358
       replace BK359 := zk hb BK359
       replace HB := zs2 hb HB GE358 GE359
       refine hK.out _ _ (ct BK358.out 0) (fun hHeld => ?_)
       clear hK K
       refine znm 23 ?_
       refine zpu 5 18 #[true, true, true, true, true, true, false, false, false, false, false] HT_ ?_
       refine zpu 6 24 #[true, true, true, true, true, true, true, false, false, false, false] HT_ ?_
       refine zpu 7 25 #[true, true, true, true, true, true, true, true, false, false, false] HT_ ?_
       refine zon 8 #[true, true, true, true, true, true, true, true, true, false, false] HT_ (fun K hK => ?_)
       refine box_step ?hg (N := 10) ?hd (cs := #[.slice none 0 0]) (t := 31) ?hr ?_; (case hd => rfl); (case hg => rfl); (case hr => first | (go_simp; done) | (go_simp; rfl))
       intro gb369 hg w16 hbox hb
       have BK369 := am (hbox)
       have GW369 := zge hg (zb2 HB.out GE358.out GE359.out)
       have GE369 := zge hg (zb2 HB.out GE358.out GE359.out)
       obtain ⟨NB358_369, NB369_358⟩ := zne hg BK358
       obtain ⟨NB359_369, NB369_359⟩ := zne hg BK359
       replace HO367 := am (Kd.R_below (rx HO367.out) hb)
       replace BK358 := zk hb BK358
       replace BK359 := zk hb BK359
       replace HB := zs2 hb HB GE358 GE359
       clear hb hbox hg
       refine hK.out _ _ (ct BK358.out 0) (fun hHeld => ?_)
       clear hK K
       refine znm 10 ?_
       exact norm_ (by simp only [putAll, Act.put, List.setIfInBounds_toArray, List.set_cons_zero, List.set_cons_succ]) (hCont (v366, gb369) _ ⟨hHeld, (rx HO367.out), (kx BK358.out), (kx BK359.out), (kx BK369.out), GW369.out, GE369.out, NB358_369.out, NB369_358.out, NB359_369.out, NB369_359.out, (zb3 HB.out GE358.out GE359.out GE369.out)⟩)
      ·skip
       refine box_step ?hg (N := 10) ?hd (cs := #[.slice none 0 0]) (t := 31) ?hr ?_; (case hd => rfl); (case hg => rfl); (case hr => first | (go_simp; done) | (go_simp; rfl))
       intro gb369 hg w15 hbox hb
       have BK369 := am (hbox)
       have GW369 := zge hg (zb2 HB.out GE358.out GE359.out)
       have GE369 := zge hg (zb2 HB.out GE358.out GE359.out)
       obtain ⟨NB358_369, NB369_358⟩ := zne hg BK358
       obtain ⟨NB359_369, NB369_359⟩ := zne hg BK359
       replace BK358 := zk hb BK358
       replace BK359 := zk hb BK359
       replace HB := zs2 hb HB GE358 GE359
       clear hb hbox hg
       refine hK.out _ _ (ct BK358.out 0) (fun hHeld => ?_)
       clear hK K
       refine znm 10 ?_
       refine zon 4 #[true, true, true, true, true, false, false, false, true, false, false] HT_ (fun K hK => ?_)
       refine goes_ Try.func17 (by kernel_rfl) rfl #[.agg #[.slice A0_0 l0_0.length c0_0], .slice A1 y361.length c1] (by rfl) rfl rfl zr ?_
       with_reducible refine (spec_DoActs.calls k _ _ l0_0 _ _ y361 t365 t368 _ ?side1 ?side2 ?side3 ?side4 A9.out).mono ?_
       (case side1 => repeat (first | exact (Kd.C_below HR0_0.out HB.out) | (with_reducible refine Kd.C_alloc ?_ _) | (with_reducible refine Kd.C_drewN ?_ _) | (with_reducible refine Kd.C_drew ?_)))
       (case side2 => exact HC0_0.out)
       (case side3 => repeat (first | exact (Kd.C_below HR364.out HB.out) | (with_reducible refine Kd.C_alloc ?_ _) | (with_reducible refine Kd.C_drewN ?_ _) | (with_reducible refine Kd.C_drew ?_)))
       (case side4 => exact HC364.out)
       rintro e w16 ⟨v366, rfl, ho0, hb⟩
       refine ⟨_, rfl, ?_⟩
       have HO367 := am (Kd.R_lower ho0 (below_size (zb3 HB.out GE358.out GE359.out GE369.out)))
       replace BK358 := zk hb BK358
       replace BK359 := zk hb BK359
       replace BK369 := zk hb BK369
       replace HB := zs3 hb HB GE358 GE359 GE369
       refine hK.out _ _ (ct BK358.out 0) (fun hHeld => ?_)
       clear hK K
       refine znm 23 ?_
       refine zpu 5 18 #[true, true, true, true, true, true, false, false, true, false, false] HT_ ?_
       refine zpu 6 24 #[true, true, true, true, true, true, true, false, true, false, false] HT_ ?_
       refine zpu 7 25 #[true, true, true, true, true, true, true, true, true, false, false] HT_ ?_
       exact norm_ (by simp only [putAll, Act.put, List.setIfInBounds_toArray, List.set_cons_zero, List.set_cons_succ]) (hCont (v366, gb369) _ ⟨hHeld, (rx HO367.out), (kx BK358.out), (kx BK359.out), (kx BK369.out), GW369.out, GE369.out, NB358_369.out, NB369_358.out, NB359_369.out, NB369_359.out, (zb3 HB.out GE358.out GE359.out GE369.out)⟩)
     rintro ⟨v366, gb369⟩ w17 ⟨hS_, h0_, h1_, h2_, h3_, h4_, h5_, h6_, h7_, h8_, h9_, h10_⟩
     have n0_ : Aside0 (Kd.R k66 66 w17 w.heap.size (fun _ => True) v366 t365) := ⟨h0_⟩
     have n1_ : Aside0 (w17.heap[gb358]? = some (.cells #[.slice A0_0 l0_0.length c0_0] 31 (0, 0))) := ⟨h1_⟩
     have n2_ : Aside0 (w17.heap[gb359]? = some (.cells #[.slice none 0 0] 31 (0, 0))) := ⟨h2_⟩
     have n3_ : Aside0 (w17.heap[gb369]? = some (.cells #[.slice none 0 0] 31 (0, 0))) := ⟨h3_⟩
     have n4_ : Aside0 (w.heap.size ≤ gb369) := ⟨h4_⟩
     have n5_ : Aside0 (w.heap.size ≤ gb369) := ⟨h5_⟩
     have n6_ : Aside0 (gb358 ≠ gb369) := ⟨h6_⟩
     have n7_ : Aside0 (gb369 ≠ gb358) := ⟨h7_⟩
     have n8_ : Aside0 (gb359 ≠ gb369) := ⟨h8_⟩
     have n9_ : Aside0 (gb369 ≠ gb359) := ⟨h9_⟩
     have n10_ : Aside0 (Below w.heap.size w w17) := ⟨h10_⟩
     clear BK358 BK359 HB h0_ h1_ h2_ h3_ h4_ h5_ h6_ h7_ h8_ h9_ h10_
     have HO367 := n0_
     have BK358 := n1_
     have BK359 := n2_
     have BK369 := n3_
     have GW369 := n4_
     have GE369 := n5_
     have NB358_369 := n6_
     have NB369_358 := n7_
     have NB359_369 := n8_
     have NB369_359 := n9_
     have HB := n10_
     clear n0_ n1_ n2_ n3_ n4_ n5_ n6_ n7_ n8_ n9_ n10_
     have hHeld : w17.cell? ⟨gb358, 0, none⟩ = some (.slice A0_0 l0_0.length c0_0) := hS_
     obtain ⟨Ao18, co18, eo18⟩ := Kd.R_slice HO367.out
     (first | subst eo18 | (injection eo18 with f1_ f2_ f3_; have f4_ := f1_.symm; have f5_ := f3_.symm; clear f1_ f2_ f3_; subst f4_; subst f5_))
     refine norm_ (a' := ?_) ?_ ?_
     rotate_left
     ·simp only [putAll, Act.put, List.setIfInBounds_toArray, List.set_cons_zero, List.set_cons_succ]
      rfl
     refine zon 9 #[true, true, true, true, true, true, true, true, true, true, false] HT_ (fun K hK => ?_)
     have hs19 : w17.cell? ⟨gb369, 0, none⟩ = some (.slice none 0 0) := ct BK369.out 0
     have hfs19 := blk_frozen BK369.out 0
     have hns19_0 := NB358_369.out
     have hns19_1 := NB359_369.out
     have hms19_0 := NB369_358.out
     have hms19_1 := NB369_359.out
     refine skip_ (w1 := ?_) (by rfl) rfl ?_ ?_
     rotate_left
     ·go_simp
      rfl
     refine hK.out _ _ (((cell_far (p := ⟨gb369, _, none⟩) NB358_369.out _).trans (hHeld))) (fun hHeld => ?_)
     clear hK K
     refine zpu 10 11 #[true, true, true, true, true, true, true, true, true, true, true] HT_ ?_
     refine zdn HT_ ?_
     obtain ⟨hnb20, hnc20⟩ := zn2 NB359_358
     obtain ⟨hnb21, hnc21⟩ := zn2 NB359_369
     obtain ⟨hcz22_0, hfz22_0⟩ := zc1 BK359.out
     try go_wp2
     refine bodyPost_ret (results_ct rfl _ _ gb359 31 #[.slice none 0 0] (0, 0) _ rfl (by (with_reducible repeat (first | refine blk_drewN ?_ _ | refine blk_drew ?_ | refine blk_alloc ?_ _)); refine blk_put (cs := #[.slice none 0 0]) ?_ 0 _ rfl; (with_reducible repeat (first | refine blk_drewN ?_ _ | refine blk_drew ?_ | refine blk_alloc ?_ _)); refine blk_far ?_ NB359_369.out _; (with_reducible repeat (first | refine blk_drewN ?_ _ | refine blk_drew ?_ | refine blk_alloc ?_ _)); exact BK359.out) Try.underlying31 rfl (by kernel_rfl)) rfl ?_
     exact ⟨_, by first | rfl | (simp [errW_none, errW_some] <;> rfl) | (simp [*, errW_none, errW_some] <;> rfl), by first | exact Kd.R_nil _ _ _ _ _ | exact Kd.N_nil _ _ _ _ _ | exact Kd.V_nil _ _ _ _ _ | exact Kd.Q_nil _ _ _ _ _ | exact Kd.S_nil _ _ _ _ _, zb3 HB.out GE358.out GE359.out GE369.out⟩
    ·rw [if_neg c10] at H
     have c10b0 : decide (t368 < a2) = false := decide_eq_false c10
     have c10b1 : decide (a2 ≤ t368) = true := decide_eq_true (by omega)
     clear c10
     replace H := Option.bind_eq_some_iff.mp H
     obtain ⟨⟨t370, t373⟩, A230, H⟩ := H
     try dsimp only at H
     have A23 := Aside0.mk A230
     clear A230
     simp only [Option.some.injEq, Prod.mk.injEq] at H
     obtain ⟨rfl, rfl⟩ := H
     go_enter Try.func27, Try.ntmps27
     try go_wp2_with (first | ((with_reducible refine gate_dst (N := 4) rfl ?_); refine box_event rfl (N := 4) rfl (cs := #[.slice A0_0 l0_0.length c0_0]) (t := 31) zrun ?_; intro gb358 hg w24 hbox hb; have BK358 := am (hbox); have GW358 := zge hg (zb0 HB.out); have GE358 := zge hg (zb0 HB.out); replace HB := zs0 hb HB; clear hb hbox hg) | ((with_reducible refine gate_dst (N := 8) rfl ?_); refine box_event rfl (N := 8) rfl (cs := #[.slice none 0 0]) (t := 31) zrun ?_; intro gb359 hg w25 hbox hb; have BK359 := am (hbox); have GW359 := zge hg (zb1 HB.out GE358.out); have GE359 := zge hg (zb1 HB.out GE358.out); obtain ⟨NB358_359, NB359_358⟩ := zne hg BK358; replace BK358 := zk hb BK358; replace HB := zs1 hb HB GE358; clear hb hbox hg) | ((with_reducible refine gate_callee (f := 56) rfl ?_); refine goesL_ (some 15) rfl rfl Try.func56 (by kernel_rfl) rfl #[.int .i64 a2, .int .i64 0, .int .i64 (l1.length : Int)] rfl zr ?_; (with_reducible refine (spec_l01In.calls a2 0 (l1.length : Int) true _ A5.out).mono ?_); rintro e w' ⟨rfl, ⟨nd, rfl⟩⟩; refine ⟨_, rfl, ?_⟩; (try (rw [drewN_self w25]; generalize hq_ : World.drewN w25 _ = w25; have n0_ : Aside0 (w25.heap[gb358]? = some (.cells #[.slice A0_0 l0_0.length c0_0] 31 (0, 0))) := ⟨by rw [← hq_]; exact (kx BK358.out)⟩; have n1_ : Aside0 (w25.heap[gb359]? = some (.cells #[.slice none 0 0] 31 (0, 0))) := ⟨by rw [← hq_]; exact (kx BK359.out)⟩; have n2_ : Aside0 (Below w.heap.size w w25) := ⟨by rw [← hq_]; exact (zb2 HB.out GE358.out GE359.out)⟩; clear BK358 BK359 HB hq_; have BK358 := n0_; have BK359 := n1_; have HB := n2_; clear n0_ n1_ n2_))))
     replace BK358 := am (blk_drew BK358.out)
     replace BK359 := am (blk_drew BK359.out)
     replace HB := am (below_drew1 HB.out)
     have q27 : (a2 : Int) ≤ ((l1.length : Int) : Int) := of_decide_eq_true (by first | (with_reducible assumption) | assumption)
     obtain ⟨i027, hi027, _, hsz27, _⟩ := info_parts info35
     have hroom27 : l1.length ≤ c1 := HC1.out
     have hC27 : Kd.C k35 _ A1 l1.length l1 := HR1.out
     have hcut27 := cut_to (P := Try.prog) 44 35 .i64 Try.underlying44 hi027 A1 l1.length c1 a2 (of_decide_eq_true (by first | (with_reducible assumption) | assumption)) q27 hroom27
     have hr27 := Kd.C_take (m := (a2 : Int).toNat) hC27 (by omega)
     have hy27 : y361.length = (a2 : Int).toNat := (by rw [Ny361.out, List.length_take]; omega)
     rw [← Ny361.out] at hr27
     rw [← hy27] at hcut27
     have HR364 := Aside0.mk hr27
     have HC364 := Aside0.mk (show y361.length ≤ c1 from by omega)
     clear hr27 hC27 hroom27 hi027 hsz27
     have KY27 := Aside0.mk hy27
     clear hy27
     replace q27 := eq_true q27
     refine start_ (n := 11) (S := fun w' => w'.cell? ⟨gb358, 0, none⟩ = some (.slice A0_0 l0_0.length c0_0)) (ds := []) #[false, false, false, false, false, false, false, false, false, false, false] (by kernel_rfl) rfl rfl (ct BK358.out 0) (fun hHeld => ?_); refine with_tabW spec_CutActs.tab3 spec_CutActs.bits3 (fun HT_ HW_ => ?_)
     generalize w25.drew = w26 at BK358 BK359 HB HR364 hHeld ⊢
     refine zpu 1 20 #[false, true, false, false, false, false, false, false, false, false, false] HT_ ?_
     refine zpu 2 21 #[false, true, true, false, false, false, false, false, false, false, false] HT_ ?_
     refine zpu 3 22 #[false, true, true, true, false, false, false, false, false, false, false] HT_ ?_
     refine ztk1 0 19 #[true, true, true, true, false, false, false, false, false, false, false] HT_ HW_ hHeld ?_
     refine join_ (σ := Value × Nat) 2 #[true, true, true, true, true, true, true, true, true, false, false] (fun s_ => [(23, .tuple #[.agg #[s_.1], .int .i64 t368]), (10, .pointer (some ⟨s_.2, 0, none⟩)), (18, .tuple #[.agg #[s_.1], .int .i64 t368]), (24, .agg #[s_.1]), (25, .int .i64 t368)]) (fun s_ w' => (w'.cell? ⟨gb358, 0, none⟩ = some (.slice A0_0 l0_0.length c0_0)) ∧ (Kd.R k66 66 w' w.heap.size (fun _ => True) s_.1 t365) ∧ (w'.heap[gb358]? = some (.cells #[.slice A0_0 l0_0.length c0_0] 31 (0, 0))) ∧ (w'.heap[gb359]? = some (.cells #[.slice none 0 0] 31 (0, 0))) ∧ (w'.heap[s_.2]? = some (.cells #[.slice none 0 0] 31 (0, 0))) ∧ (w.heap.size ≤ s_.2) ∧ (w.heap.size ≤ s_.2) ∧ (gb358 ≠ s_.2) ∧ (s_.2 ≠ gb358) ∧ (gb359 ≠ s_.2) ∧ (s_.2 ≠ gb359) ∧ (Below w.heap.size w w')) ?_ ?_
     rotate_left
     ·intro hCont
      refine two_ (i := 4) (j := 8) (Ni := some 23) (Nj := some 10) #[true, true, true, true, true, false, false, false, false, false, false] #[true, true, true, true, false, false, false, false, true, false, false] rfl rfl rfl rfl (two_of HT_.out (by kernel_rfl)) (by decide) (by decide) (fun K hK => ?_) (fun K hK => ?_)
      ·skip
       refine goes_ Try.func17 (by kernel_rfl) rfl #[.agg #[.slice A0_0 l0_0.length c0_0], .slice A1 y361.length c1] (by rfl) rfl rfl zr ?_
       with_reducible refine (spec_DoActs.calls k _ _ l0_0 _ _ y361 t365 t368 _ ?side1 ?side2 ?side3 ?side4 A9.out).mono ?_
       (case side1 => repeat (first | exact (Kd.C_below HR0_0.out HB.out) | (with_reducible refine Kd.C_alloc ?_ _) | (with_reducible refine Kd.C_drewN ?_ _) | (with_reducible refine Kd.C_drew ?_)))
       (case side2 => exact HC0_0.out)
       (case side3 => repeat (first | exact (Kd.C_below HR364.out HB.out) | (with_reducible refine Kd.C_alloc ?_ _) | (with_reducible refine Kd.C_drewN ?_ _) | (with_reducible refine Kd.C_drew ?_)))
       (case side4 => exact HC364.out)
       rintro e w28 ⟨v366, rfl, ho0, hb⟩
       refine ⟨_, rfl, ?_⟩
       have HO367 := am (Kd.R_lower ho0 (below_size (zb2 HB.out GE358.out GE359.out)))
       replace BK358 := zk hb BK358
       replace BK359 := zk hb BK359
       replace HB := zs2 hb HB GE358 GE359
       refine hK.out _ _ (ct BK358.out 0) (fun hHeld => ?_)
       clear hK K
       refine znm 23 ?_
       refine zpu 5 18 #[true, true, true, true, true, true, false, false, false, false, false] HT_ ?_
       refine zpu 6 24 #[true, true, true, true, true, true, true, false, false, false, false] HT_ ?_
       refine zpu 7 25 #[true, true, true, true, true, true, true, true, false, false, false] HT_ ?_
       refine zon 8 #[true, true, true, true, true, true, true, true, true, false, false] HT_ (fun K hK => ?_)
       refine box_step ?hg (N := 10) ?hd (cs := #[.slice none 0 0]) (t := 31) ?hr ?_; (case hd => rfl); (case hg => rfl); (case hr => first | (go_simp; done) | (go_simp; rfl))
       intro gb369 hg w29 hbox hb
       have BK369 := am (hbox)
       have GW369 := zge hg (zb2 HB.out GE358.out GE359.out)
       have GE369 := zge hg (zb2 HB.out GE358.out GE359.out)
       obtain ⟨NB358_369, NB369_358⟩ := zne hg BK358
       obtain ⟨NB359_369, NB369_359⟩ := zne hg BK359
       replace HO367 := am (Kd.R_below (rx HO367.out) hb)
       replace BK358 := zk hb BK358
       replace BK359 := zk hb BK359
       replace HB := zs2 hb HB GE358 GE359
       clear hb hbox hg
       refine hK.out _ _ (ct BK358.out 0) (fun hHeld => ?_)
       clear hK K
       refine znm 10 ?_
       exact norm_ (by simp only [putAll, Act.put, List.setIfInBounds_toArray, List.set_cons_zero, List.set_cons_succ]) (hCont (v366, gb369) _ ⟨hHeld, (rx HO367.out), (kx BK358.out), (kx BK359.out), (kx BK369.out), GW369.out, GE369.out, NB358_369.out, NB369_358.out, NB359_369.out, NB369_359.out, (zb3 HB.out GE358.out GE359.out GE369.out)⟩)
      ·skip
       refine box_step ?hg (N := 10) ?hd (cs := #[.slice none 0 0]) (t := 31) ?hr ?_; (case hd => rfl); (case hg => rfl); (case hr => first | (go_simp; done) | (go_simp; rfl))
       intro gb369 hg w28 hbox hb
       have BK369 := am (hbox)
       have GW369 := zge hg (zb2 HB.out GE358.out GE359.out)
       have GE369 := zge hg (zb2 HB.out GE358.out GE359.out)
       obtain ⟨NB358_369, NB369_358⟩ := zne hg BK358
       obtain ⟨NB359_369, NB369_359⟩ := zne hg BK359
       replace BK358 := zk hb BK358
       replace BK359 := zk hb BK359
       replace HB := zs2 hb HB GE358 GE359
       clear hb hbox hg
       refine hK.out _ _ (ct BK358.out 0) (fun hHeld => ?_)
       clear hK K
       refine znm 10 ?_
       refine zon 4 #[true, true, true, true, true, false, false, false, true, false, false] HT_ (fun K hK => ?_)
       refine goes_ Try.func17 (by kernel_rfl) rfl #[.agg #[.slice A0_0 l0_0.length c0_0], .slice A1 y361.length c1] (by rfl) rfl rfl zr ?_
       with_reducible refine (spec_DoActs.calls k _ _ l0_0 _ _ y361 t365 t368 _ ?side1 ?side2 ?side3 ?side4 A9.out).mono ?_
       (case side1 => repeat (first | exact (Kd.C_below HR0_0.out HB.out) | (with_reducible refine Kd.C_alloc ?_ _) | (with_reducible refine Kd.C_drewN ?_ _) | (with_reducible refine Kd.C_drew ?_)))
       (case side2 => exact HC0_0.out)
       (case side3 => repeat (first | exact (Kd.C_below HR364.out HB.out) | (with_reducible refine Kd.C_alloc ?_ _) | (with_reducible refine Kd.C_drewN ?_ _) | (with_reducible refine Kd.C_drew ?_)))
       (case side4 => exact HC364.out)
       rintro e w29 ⟨v366, rfl, ho0, hb⟩
       refine ⟨_, rfl, ?_⟩
       have HO367 := am (Kd.R_lower ho0 (below_size (zb3 HB.out GE358.out GE359.out GE369.out)))
       replace BK358 := zk hb BK358
       replace BK359 := zk hb BK359
       replace BK369 := zk hb BK369
       replace HB := zs3 hb HB GE358 GE359 GE369
       refine hK.out _ _ (ct BK358.out 0) (fun hHeld => ?_)
       clear hK K
       refine znm 23 ?_
       refine zpu 5 18 #[true, true, true, true, true, true, false, false, true, false, false] HT_ ?_
       refine zpu 6 24 #[true, true, true, true, true, true, true, false, true, false, false] HT_ ?_
       refine zpu 7 25 #[true, true, true, true, true, true, true, true, true, false, false] HT_ ?_
       exact norm_ (by simp only [putAll, Act.put, List.setIfInBounds_toArray, List.set_cons_zero, List.set_cons_succ]) (hCont (v366, gb369) _ ⟨hHeld, (rx HO367.out), (kx BK358.out), (kx BK359.out), (kx BK369.out), GW369.out, GE369.out, NB358_369.out, NB369_358.out, NB359_369.out, NB369_359.out, (zb3 HB.out GE358.out GE359.out GE369.out)⟩)
     rintro ⟨v366, gb369⟩ w30 ⟨hS_, h0_, h1_, h2_, h3_, h4_, h5_, h6_, h7_, h8_, h9_, h10_⟩
     have n0_ : Aside0 (Kd.R k66 66 w30 w.heap.size (fun _ => True) v366 t365) := ⟨h0_⟩
     have n1_ : Aside0 (w30.heap[gb358]? = some (.cells #[.slice A0_0 l0_0.length c0_0] 31 (0, 0))) := ⟨h1_⟩
     have n2_ : Aside0 (w30.heap[gb359]? = some (.cells #[.slice none 0 0] 31 (0, 0))) := ⟨h2_⟩
     have n3_ : Aside0 (w30.heap[gb369]? = some (.cells #[.slice none 0 0] 31 (0, 0))) := ⟨h3_⟩
     have n4_ : Aside0 (w.heap.size ≤ gb369) := ⟨h4_⟩
     have n5_ : Aside0 (w.heap.size ≤ gb369) := ⟨h5_⟩
     have n6_ : Aside0 (gb358 ≠ gb369) := ⟨h6_⟩
     have n7_ : Aside0 (gb369 ≠ gb358) := ⟨h7_⟩
     have n8_ : Aside0 (gb359 ≠ gb369) := ⟨h8_⟩
     have n9_ : Aside0 (gb369 ≠ gb359) := ⟨h9_⟩
     have n10_ : Aside0 (Below w.heap.size w w30) := ⟨h10_⟩
     clear BK358 BK359 HB h0_ h1_ h2_ h3_ h4_ h5_ h6_ h7_ h8_ h9_ h10_
     have HO367 := n0_
     have BK358 := n1_
     have BK359 := n2_
     have BK369 := n3_
     have GW369 := n4_
     have GE369 := n5_
     have NB358_369 := n6_
     have NB369_358 := n7_
     have NB359_369 := n8_
     have NB369_359 := n9_
     have HB := n10_
     clear n0_ n1_ n2_ n3_ n4_ n5_ n6_ n7_ n8_ n9_ n10_
     have hHeld : w30.cell? ⟨gb358, 0, none⟩ = some (.slice A0_0 l0_0.length c0_0) := hS_
     obtain ⟨Ao31, co31, eo31⟩ := Kd.R_slice HO367.out
     (first | subst eo31 | (injection eo31 with f1_ f2_ f3_; have f4_ := f1_.symm; have f5_ := f3_.symm; clear f1_ f2_ f3_; subst f4_; subst f5_))
     refine norm_ (a' := ?_) ?_ ?_
     rotate_left
     ·simp only [putAll, Act.put, List.setIfInBounds_toArray, List.set_cons_zero, List.set_cons_succ]
      rfl
     refine zon 9 #[true, true, true, true, true, true, true, true, true, true, false] HT_ (fun K hK => ?_)
     have hs32 : w30.cell? ⟨gb369, 0, none⟩ = some (.slice none 0 0) := ct BK369.out 0
     have hfs32 := blk_frozen BK369.out 0
     have hns32_0 := NB358_369.out
     have hns32_1 := NB359_369.out
     have hms32_0 := NB369_358.out
     have hms32_1 := NB369_359.out
     refine skip_ (w1 := ?_) (by rfl) rfl ?_ ?_
     rotate_left
     ·go_simp
      rfl
     refine hK.out _ _ (((cell_far (p := ⟨gb369, _, none⟩) NB358_369.out _).trans (hHeld))) (fun hHeld => ?_)
     clear hK K
     refine zpu 10 11 #[true, true, true, true, true, true, true, true, true, true, true] HT_ ?_
     refine zdn HT_ ?_
     obtain ⟨hnb33, hnc33⟩ := zn2 NB369_358
     obtain ⟨hnb34, hnc34⟩ := zn2 NB369_359
     obtain ⟨hcz35_0, hfz35_0⟩ := zc1 BK369.out
     try go_wp2_with (first | ((with_reducible refine gate_callee (f := 57) rfl ?_); refine goesL_ (some 32) rfl rfl Try.func57 (by kernel_rfl) rfl #[.agg #[.slice Ao31 t365.length co31], .slice A3 l3.length c3] rfl zr ?_; (with_reducible refine (spec_LoseDisk.calls k _ _ t365 _ _ l3 t370 t373 _ ?side1 ?side2 ?side3 ?side4 A23.out).mono ?_); (case side1 => refine (Kd.R_reads' (e := 66) (base := w.heap.size) (ok := fun k_ => True) (n := t365.length) (c := co31) ?_).2.2; exact (rx ((Kd.R_mono (Kd.R_far (p := ⟨gb369, 0, none⟩) (Kd.R_types HO367.out BK369.out (by decide)) (fun _ hk => hk.2) (.slice Ao31 t365.length co31)) (fun _ h_ => h_.1))))); (case side2 => exact (Kd.R_reads' HO367.out).2.1); (case side3 => exact Kd.C_below HR3.out (zb3 HB.out GE358.out GE359.out GE369.out)); (case side4 => exact HC3.out); rintro e w36 ⟨v371, rfl, ho0, hb⟩; refine ⟨_, rfl, ?_⟩; have HO372 := am (Kd.R_lower (Kd.R_new' ho0 (Kd.R_lt (rx ((Kd.R_mono (Kd.R_far (p := ⟨gb369, 0, none⟩) (Kd.R_types HO367.out BK369.out (by decide)) (fun _ hk => hk.2) (.slice Ao31 t365.length co31)) (fun _ h_ => h_.1)))))) (below_size (zb3 HB.out GE358.out GE359.out GE369.out))); replace HO367 := am (Kd.R_elder' (rx ((Kd.R_mono (Kd.R_far (p := ⟨gb369, 0, none⟩) (Kd.R_types HO367.out BK369.out (by decide)) (fun _ hk => hk.2) (.slice Ao31 t365.length co31)) (fun _ h_ => h_.1)))) (Kd.R_base ho0) hb); replace BK358 := zh1 hb BK358 NB358_369; replace BK359 := zh1 hb BK359 NB359_369; replace BK369 := am (blk_below (g := gb369) (o := .cells #[.slice Ao31 t365.length co31] 31 (0, 0)) (by (with_reducible repeat (first | refine blk_drewN ?_ _ | refine blk_drew ?_ | refine blk_alloc ?_ _)); refine blk_put (cs := #[.slice none 0 0]) ?_ 0 _ rfl; (with_reducible repeat (first | refine blk_drewN ?_ _ | refine blk_drew ?_ | refine blk_alloc ?_ _)); exact BK369.out) hb); replace HB := zs3 hb HB GE358 GE359 GE369; clear hb ho0; obtain ⟨Ao37, co37, eo37⟩ := Kd.R_slice HO372.out; subst eo37; obtain ⟨hnb38, hnc38⟩ := zn2 NB359_358; obtain ⟨hcz39_0, hfz39_0⟩ := zc1 BK359.out))
     refine bodyPost_ret (results_ct rfl _ _ gb359 31 #[.slice Ao37 t370.length co37] (0, 0) _ rfl (by (with_reducible repeat (first | refine blk_drewN ?_ _ | refine blk_drew ?_ | refine blk_alloc ?_ _)); refine blk_put (cs := #[.slice none 0 0]) ?_ 0 _ rfl; (with_reducible repeat (first | refine blk_drewN ?_ _ | refine blk_drew ?_ | refine blk_alloc ?_ _)); exact BK359.out) Try.underlying31 rfl (by kernel_rfl)) rfl ?_
     exact ⟨_, by first | rfl | (simp [errW_none, errW_some] <;> rfl) | (simp [*, errW_none, errW_some] <;> rfl), rx (Kd.R_mono (Kd.R_far (p := ⟨gb359, 0, none⟩) (Kd.R_types HO372.out BK359.out (by decide)) (fun _ hk => hk.2) (.slice Ao37 t370.length co37)) (fun _ hk => trivial)), zb3 HB.out GE358.out GE359.out GE369.out⟩
   ·rw [if_neg c8] at H
    exact absurd H (by simp)
  ·rw [if_neg c7] at H
   exact absurd H (by simp)
 ·replace c6 := Bool.eq_false_iff.mpr c6
  subst c6
  have H1 : (some (([] : List (S66)), false)) = some (r1, r2) := by rw [if_neg (show ¬ (false = true) by decide)] at H; exact H
  clear H
  have H := H1
  clear H1
  simp only [Option.some.injEq, Prod.mk.injEq] at H
  obtain ⟨rfl, rfl⟩ := H
  go_enter Try.func27, Try.ntmps27
  go_wp2_with (first | ((with_reducible refine gate_dst (N := 4) rfl ?_); refine box_event rfl (N := 4) rfl (cs := #[.slice A0_0 l0_0.length c0_0]) (t := 31) zrun ?_; intro gb358 hg w40 hbox hb; have BK358 := am (hbox); have GW358 := zge hg (zb0 HB.out); have GE358 := zge hg (zb0 HB.out); replace HB := zs0 hb HB; clear hb hbox hg) | ((with_reducible refine gate_dst (N := 8) rfl ?_); refine box_event rfl (N := 8) rfl (cs := #[.slice none 0 0]) (t := 31) zrun ?_; intro gb359 hg w41 hbox hb; have BK359 := am (hbox); have GW359 := zge hg (zb1 HB.out GE358.out); have GE359 := zge hg (zb1 HB.out GE358.out); obtain ⟨NB358_359, NB359_358⟩ := zne hg BK358; replace BK358 := zk hb BK358; replace HB := zs1 hb HB GE358; clear hb hbox hg) | ((with_reducible refine gate_callee (f := 56) rfl ?_); refine goesL_ (some 15) rfl rfl Try.func56 (by kernel_rfl) rfl #[.int .i64 a2, .int .i64 0, .int .i64 (l1.length : Int)] rfl zr ?_; (with_reducible refine (spec_l01In.calls a2 0 (l1.length : Int) false _ A5.out).mono ?_); rintro e w' ⟨rfl, ⟨nd, rfl⟩⟩; refine ⟨_, rfl, ?_⟩; (try (rw [drewN_self w41]; generalize hq_ : World.drewN w41 _ = w41; have n0_ : Aside0 (w41.heap[gb358]? = some (.cells #[.slice A0_0 l0_0.length c0_0] 31 (0, 0))) := ⟨by rw [← hq_]; exact (kx BK358.out)⟩; have n1_ : Aside0 (w41.heap[gb359]? = some (.cells #[.slice none 0 0] 31 (0, 0))) := ⟨by rw [← hq_]; exact (kx BK359.out)⟩; have n2_ : Aside0 (Below w.heap.size w w41) := ⟨by rw [← hq_]; exact (zb2 HB.out GE358.out GE359.out)⟩; clear BK358 BK359 HB hq_; have BK358 := n0_; have BK359 := n1_; have HB := n2_; clear n0_ n1_ n2_)); obtain ⟨hnb42, hnc42⟩ := zn2 NB359_358; obtain ⟨hcz43_0, hfz43_0⟩ := zc1 BK359.out))
  refine bodyPost_ret (results_ct rfl _ _ gb359 31 #[.slice none 0 0] (0, 0) _ rfl (by (with_reducible repeat (first | refine blk_drewN ?_ _ | refine blk_drew ?_ | refine blk_alloc ?_ _)); refine blk_put (cs := #[.slice none 0 0]) ?_ 0 _ rfl; (with_reducible repeat (first | refine blk_drewN ?_ _ | refine blk_drew ?_ | refine blk_alloc ?_ _)); exact BK359.out) Try.underlying31 rfl (by kernel_rfl)) rfl ?_
  exact ⟨_, by first | rfl | (simp [errW_none, errW_some] <;> rfl) | (simp [*, errW_none, errW_some] <;> rfl), by first | exact Kd.R_nil _ _ _ _ _ | exact Kd.N_nil _ _ _ _ _ | exact Kd.V_nil _ _ _ _ _ | exact Kd.Q_nil _ _ _ _ _ | exact Kd.S_nil _ _ _ _ _, zb2 HB.out GE358.out GE359.out⟩

/-! ### laws_toIntS: function 28 -/
def laws_toIntS.l0 : Nat → List Int → List Int → Int → Option (List Int)
 | 0, _, _, _ => none
 | k + 1, x0, x3, x4 => if x4 < (x0.length : Int) then (if 0 ≤ x4 then (if x4 < (x3.length : Int) then (laws_toIntS.l0 k x0 (x3.set (x4 : Int).toNat (rd x0 x4)) (wrap64 (x4 + 1))) else (none)) else (none)) else (some x3)
def laws_toIntS.f (k : Nat) (l0 : List Int) : Option (List Int) := if 0 ≤ (l0.length : Int) then (if ((l0.length : Int) : Int).toNat ≤ 35184372088832 then (laws_toIntS.l0 k l0 (List.replicate ((l0.length : Int) : Int).toNat 0) 0) else (none)) else (none)
theorem laws_toIntS.mono_l : ∀ k, (∀ y0 y1 y2, LeO (laws_toIntS.l0 k y0 y1 y2) (laws_toIntS.l0 (k + 1) y0 y1 y2))
 | 0 => fun _ _ _ r h => by simp [laws_toIntS.l0] at h
 | k + 1 => by
  have ih0 := laws_toIntS.mono_l k
  ·intro y0 y1 y2
   unfold laws_toIntS.l0
   repeat' first
   | (with_reducible exact ih0 _ _ _)
   | (with_reducible exact LeO.refl _)
   | (with_reducible exact LeO.none _)
   | (with_reducible refine LeO.ite ?_ ?_)
   | (with_reducible refine LeO.bind ?_ (fun _ => ?_))
   | exact ih0 _ _ _
   | exact LeO.none _
   | refine LeO.ite ?_ ?_
   | refine LeO.bind ?_ (fun _ => ?_)
theorem laws_toIntS.mono : ∀ a0 k, LeO (laws_toIntS.f k a0) (laws_toIntS.f (k + 1) a0) := by
 intro a0 k
 have ih0 := laws_toIntS.mono_l k
 unfold laws_toIntS.f
 repeat' first
   | (with_reducible exact ih0 _ _ _)
   | (with_reducible exact LeO.refl _)
   | (with_reducible exact LeO.none _)
   | (with_reducible refine LeO.ite ?_ ?_)
   | (with_reducible refine LeO.bind ?_ (fun _ => ?_))
   | exact ih0 _ _ _
   | exact LeO.none _
   | refine LeO.ite ?_ ?_
   | refine LeO.bind ?_ (fun _ => ?_)
set_option maxHeartbeats 8000000 in
set_option maxRecDepth 100000 in
theorem laws_toIntS.calls (k : Nat) (A0 : Option Addr) (c0 : Nat) (l0 : List Int) (r : List Int) (w : World) (hr0 : Kd.C (Kd.int .i64) w A0 l0.length l0) (hc0 : l0.length ≤ c0) (h : laws_toIntS.f k l0 = some r) :
  Calls Try.prog 28 #[.slice A0 l0.length c0] w fun e w' => ∃ v0_ : Value, e = .returned (v0_) ∧ Kd.R (Kd.int .i64) 3 w' w.heap.size (fun _ => True) v0_ r ∧ Below w.heap.size w w' := by
 have HR0 := Aside0.mk hr0
 have HC0 := Aside0.mk hc0
 clear hr0 hc0
 have HB := Aside0.mk (Below.refl w.heap.size w)
 have H : (if 0 ≤ (l0.length : Int) then (if ((l0.length : Int) : Int).toNat ≤ 35184372088832 then (laws_toIntS.l0 k l0 (List.replicate ((l0.length : Int) : Int).toNat 0) 0) else (none)) else (none)) = some r := h
 clear h
 by_cases c2 : 0 ≤ (l0.length : Int)
 ·rw [if_pos c2] at H
  have c2b0 := eq_true c2
  have c2b1 : decide (0 ≤ (l0.length : Int)) = true := decide_eq_true c2
  clear c2
  by_cases c3 : ((l0.length : Int) : Int).toNat ≤ 35184372088832
  ·rw [if_pos c3] at H
   have c3b0 := eq_true c3
   have c3b1 : decide (((l0.length : Int) : Int).toNat ≤ 35184372088832) = true := decide_eq_true c3
   clear c3
   obtain ⟨y374, hy374⟩ : ∃ y_ : List Int, y_ = (List.replicate ((l0.length : Int) : Int).toNat 0) := ⟨_, rfl⟩
   replace H : (laws_toIntS.l0 k l0 y374 0) = some r := by first | (rw [hy374]; with_reducible exact H) | (have H2_ := (Option.bind_some _ _).symm.trans H; rw [hy374]; with_reducible exact H2_) | (have H2_ := (Option.bind_some _ _).symm.trans H; with_reducible exact H2_) | with_reducible exact H | (rw [hy374]; exact H) | exact H
   have Ny374 := Aside0.mk hy374
   clear hy374
   have H' := Aside0.mk H
   clear H
   go_enter Try.func28, Try.ntmps28
   go_wp2_with (first | ((with_reducible refine gate_dst (N := 7) rfl ?_); refine Kd.R_make (Kd.int .i64) _ 3 rfl (N := 7) rfl 51 _ _ rfl (l0.length : Int) rfl rfl Try.underlying51 (.int .i64 0) 8 info3 rfl (by decide) (by omega) 0 (ok := fun _ => True) (okp := fun _ => True) rfl (fun _ hk => hk) trivial (of_decide_eq_true (by first | (with_reducible assumption) | assumption)) (Nat.le_trans (Nat.mul_le_mul_right _ (of_decide_eq_true (by first | (with_reducible assumption) | assumption) : (l0.length : Int).toNat ≤ 35184372088832)) (by omega)) (Below.refl _ _) (Nat.le_refl _) ?_; intro v375 w4 ho5 hb hg_ hnew_; clear hg_ hnew_; (first | rw [← Ny374.out] at ho5 | (simp only [Int.reduceToNat] at ho5; rw [← Ny374.out] at ho5)); have HO376 := am (Kd.R_lower ho5 (below_size (zb0 HB.out))); replace HB := zs0 hb HB; clear hb ho5))
   go_loopg [4] k (fun kq v4 w' => ∃ (x3_1 : List Int) (x4_1 : Int), v4 = .int .i64 x4_1 ∧ Aside0 (laws_toIntS.l0 kq l0 x3_1 x4_1 = some r) ∧ Aside0 (kq ≤ k) ∧ Aside0 (Kd.R (Kd.int .i64) 3 w' w.heap.size (fun _ => True) v375 x3_1) ∧ Aside0 (Below w.heap.size w w'))
   case atStart => exact ⟨(y374), (0), (by first | rfl | (simp; done) | (simp [*]; done)), H', ⟨Nat.le_refl _⟩, ⟨rx HO376.out⟩, ⟨zb0 HB.out⟩⟩
   case round =>
    clear H'
    obtain ⟨x3_1, x4_1, rfl, HA, HK1, HO_3, HB⟩ := hrel
    cases gk with
    | zero => exact absurd HA.out (by simp [laws_toIntS.l0])
    | succ k1 =>
     have H := HA.out
     clear HA
     simp only [laws_toIntS.l0] at H
     by_cases c6 : x4_1 < (l0.length : Int)
     ·rw [if_pos c6] at H
      have c6b0 : decide (x4_1 < (l0.length : Int)) = true := decide_eq_true c6
      have c6b1 : decide ((l0.length : Int) ≤ x4_1) = false := decide_eq_false (by omega)
      clear c6
      by_cases c7 : 0 ≤ x4_1
      ·rw [if_pos c7] at H
       have c7b0 : decide (0 ≤ x4_1) = true := decide_eq_true c7
       clear c7
       by_cases c8 : x4_1 < (x3_1.length : Int)
       ·rw [if_pos c8] at H
        have c8b0 : decide (x4_1 < (x3_1.length : Int)) = true := decide_eq_true c8
        have c8b1 : decide ((x3_1.length : Int) ≤ x4_1) = false := decide_eq_false (by omega)
        clear c8
        obtain ⟨y378, hy378⟩ : ∃ y_ : List Int, y_ = (x3_1.set (x4_1 : Int).toNat (rd l0 x4_1)) := ⟨_, rfl⟩
        replace H : (laws_toIntS.l0 k1 l0 y378 (wrap64 (x4_1 + 1))) = some r := by first | (rw [hy378]; with_reducible exact H) | (have H2_ := (Option.bind_some _ _).symm.trans H; rw [hy378]; with_reducible exact H2_) | (have H2_ := (Option.bind_some _ _).symm.trans H; with_reducible exact H2_) | with_reducible exact H | (rw [hy378]; exact H) | exact H
        have Ny378 := Aside0.mk hy378
        clear hy378
        have H' := Aside0.mk H
        clear H
        have p377 : 0 ≤ (x4_1 : Int) := of_decide_eq_true (by first | (with_reducible assumption) | assumption)
        have q377 : x4_1 < (l0.length : Int) := of_decide_eq_true (by first | (with_reducible assumption) | assumption)
        obtain ⟨ad377, e377, hx377_0⟩ := Kd.at_int HR0.out x4_1 p377 q377
        cases e377
        replace hx377_0 := (HB.out.cell (World.block_lt_of_cell? w _ hx377_0)).trans hx377_0
        replace p377 := eq_true p377
        replace q377 := eq_true q377
        have p9 : 0 ≤ (x4_1 : Int) := of_decide_eq_true (by first | (with_reducible assumption) | assumption)
        have q9 : (x4_1 : Int) < ((x3_1.length : Int) : Int) := of_decide_eq_true (by first | (with_reducible assumption) | assumption)
        obtain ⟨go9, co9, eo9, gb9, gl9, cl9, HG9⟩ := Kd.R_form HO_3.out (by omega)
        (first | cases eo9 | (injection eo9 with ea_ en_ ec_; (first | subst ea_ | (injection ea_ with ea_; subst ea_)); subst ec_; clear en_))
        have GB9 := Aside0.mk gb9
        have GG9 := Aside0.mk HG9
        clear gb9 gl9 HG9
        obtain ⟨hx9_0, hf9_0⟩ := Kd.R_celln 0 HO_3.out (x4_1 : Int) p9 q9
        replace p9 := eq_true p9
        replace q9 := eq_true q9
        have HP10 := Kd.R_putg HO_3.out (x4_1 : Int) (rd l0 x4_1)
        go_wp2_with (first | ((with_reducible refine gate_store (t := 3) (p := 20) rfl ?_); refine store_event (t := 3) (p := 20) (v := ?vo_w11) (w1 := (wr.setCell ⟨go9, (x4_1 : Int).toNat, none⟩ (.int .i64 (rd l0 x4_1)))) ?hg ?ho ?hn ?hr ?_; (case ho => rfl); (case hg => rfl); (case hn => rfl); (case hr => first | (go_simp; done) | (go_simp; rfl)); intro w11 hw; have hg : wr.grownBy w11 (some go9) := (by rw [hw]; exact HP10.2); have hp_ : Kd.R (Kd.int .i64) 3 w11 w.heap.size (fun _ => True) (.slice (some ⟨go9, 0, none⟩) x3_1.length co9) y378 := (by rw [hw, Ny378.out]; exact HP10.1); clear HP10; replace HO_3 := am (hp_); replace HB := am ((by rw [hw]; exact below_set (HB.out) GB9.out : Below w.heap.size w w11)); clear hg hw hp_))
        go_roundg k1
        case measure => have := HK1.out; omega
        case rel => exact ⟨(y378), (wrap64 (x4_1 + 1)), (by first | rfl | (simp; done) | (simp [*]; done)), H', ⟨by have := HK1.out; omega⟩, ⟨rx HO_3.out⟩, ⟨zb0 HB.out⟩⟩
       ·rw [if_neg c8] at H
        exact absurd H (by simp)
      ·rw [if_neg c7] at H
       exact absurd H (by simp)
     ·rw [if_neg c6] at H
      have c6b0 : decide (x4_1 < (l0.length : Int)) = false := decide_eq_false c6
      have c6b1 : decide ((l0.length : Int) ≤ x4_1) = true := decide_eq_true (by omega)
      clear c6
      obtain rfl := Option.some.inj H
      go_wp2
      go_ret
      exact ⟨_, by first | rfl | (simp [errW_none, errW_some] <;> rfl) | (simp [*, errW_none, errW_some] <;> rfl), rx HO_3.out, zb0 HB.out⟩
  ·rw [if_neg c3] at H
   exact absurd H (by simp)
 ·rw [if_neg c2] at H
  exact absurd H (by simp)

end Go.Proofs.Ytklbkkoojkmjbaa.QFnExactCutActs
