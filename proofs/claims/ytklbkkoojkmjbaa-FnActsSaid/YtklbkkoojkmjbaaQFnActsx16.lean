/- Written by the kit's print.py, called by our own print2.sh with one import more; not by print.sh. -/
import Derived.Test.YtklbkkoojkmjbaaQFnActsx0
import Derived.Test.YtklbkkoojkmjbaaQFnActsx2
import Derived.Test.YtklbkkoojkmjbaaQFnActsx10
import Derived.Test.YtklbkkoojkmjbaaQFnActsx15
namespace Go.Proofs.Ytklbkkoojkmjbaa.QFnActs
open Go.RowKit Go.Proofs.YtklbkkoojkmjbaaW.PrintWords Go.Proofs.YtklbkkoojkmjbaaW.PrintLast Go.Proofs.YtklbkkoojkmjbaaW.PrintMore
attribute [local go_sem] max2_int min2_int max_two min_two max_three min_three max_four min_four   -- for this text's walks alone
open Go.Proofs.Ytklbkkoojkmjbaa.Short
set_option linter.unusedVariables false
set_option linter.unusedSimpArgs false

/-! ### impl_CutActs: function 26 -/
def impl_CutActs.f (k : Nat) (l0_0 : List (S66)) (l1 : List (S35)) (a2 : Int) (l3 : List Int) : Option ((List (S66)) × Bool) := (impl_within.f a2 0 (l1.length : Int)).bind fun t488 => (if t488 = true then (if 0 ≤ a2 then (if a2 ≤ (l1.length : Int) then ((impl_DoActs.f k l0_0 (l1.take (a2 : Int).toNat)).bind fun bt493 => (if bt493.2 < a2 then (some (([] : List (S66)), false)) else ((impl_LoseDisk.f k bt493.1 l3).bind fun bt498 => (some (bt498.1, bt498.2))))) else (none)) else (none)) else (some (([] : List (S66)), false)))
theorem impl_CutActs.mono : ∀ a0 a1 a2 a3 k, LeO (impl_CutActs.f k a0 a1 a2 a3) (impl_CutActs.f (k + 1) a0 a1 a2 a3) := by
 intro a0 a1 a2 a3 k
 unfold impl_CutActs.f
 repeat' first
   | (with_reducible exact impl_DoActs.mono _ _ _)
   | (with_reducible exact impl_LoseDisk.mono _ _ _)
   | (with_reducible exact LeO.refl _)
   | (with_reducible exact LeO.none _)
   | (with_reducible refine LeO.ite ?_ ?_)
   | (with_reducible refine LeO.bind ?_ (fun _ => ?_))
   | exact impl_DoActs.mono _ _ _
   | exact impl_LoseDisk.mono _ _ _
   | exact LeO.none _
   | refine LeO.ite ?_ ?_
   | refine LeO.bind ?_ (fun _ => ?_)
def impl_CutActs.T3 : Bool × List (List Nat × List Nat) := (true, [([], []), ([], []), ([], []), ([1, 2], [1, 2]), ([0, 3], [0, 3]), ([4], [4]), ([5], [5]), ([5], [5]), ([], []), ([8, 6, 4, 0, 1, 2, 3, 4, 5, 6, 8], [6, 8]), ([7, 9, 0, 1, 2, 3, 4, 5, 6, 7, 8, 9], [7])])
def impl_CutActs.B3 : List Nat := [0, 0, 0, 6, 15, 31, 63, 63, 0, 383, 1023]
theorem impl_CutActs.tab3 : rtab .any (opsOf Try.f26 3) = impl_CutActs.T3 := by kernel_rfl
theorem impl_CutActs.bits3 : waitsOk impl_CutActs.T3.2 impl_CutActs.B3 = true := by kernel_rfl
set_option maxHeartbeats 8000000 in
set_option maxRecDepth 100000 in
theorem impl_CutActs.calls (k : Nat) (A0_0 : Option Addr) (c0_0 : Nat) (l0_0 : List (S66)) (A1 : Option Addr) (c1 : Nat) (l1 : List (S35)) (a2 : Int) (A3 : Option Addr) (c3 : Nat) (l3 : List Int) (r1 : List (S66)) (r2 : Bool) (w : World) (hr0_0 : Kd.C k66 w A0_0 l0_0.length l0_0) (hc0_0 : l0_0.length ≤ c0_0) (hr1 : Kd.C k35 w A1 l1.length l1) (hc1 : l1.length ≤ c1) (hr3 : Kd.C (Kd.int .i64) w A3 l3.length l3) (hc3 : l3.length ≤ c3) (h : impl_CutActs.f k l0_0 l1 a2 l3 = some (r1, r2)) :
  Calls Try.prog 26 #[.agg #[.slice A0_0 l0_0.length c0_0], .slice A1 l1.length c1, .int .i64 a2, .slice A3 l3.length c3] w fun e w' => ∃ v0_ : Value, e = .returned (.tuple #[.agg #[v0_], .bool r2]) ∧ Kd.R k66 66 w' w.heap.size (fun _ => True) v0_ r1 ∧ Below w.heap.size w w' := by
 have hu31 := Try.underlying31
 have HR0_0 := Aside0.mk hr0_0
 have HC0_0 := Aside0.mk hc0_0
 clear hr0_0 hc0_0
 have HR1 := Aside0.mk hr1
 have HC1 := Aside0.mk hc1
 clear hr1 hc1
 have HR3 := Aside0.mk hr3
 have HC3 := Aside0.mk hc3
 clear hr3 hc3
 have HB := Aside0.mk (Below.refl w.heap.size w)
 have H : ((impl_within.f a2 0 (l1.length : Int)).bind fun t488 => (if t488 = true then (if 0 ≤ a2 then (if a2 ≤ (l1.length : Int) then ((impl_DoActs.f k l0_0 (l1.take (a2 : Int).toNat)).bind fun bt493 => (if bt493.2 < a2 then (some (([] : List (S66)), false)) else ((impl_LoseDisk.f k bt493.1 l3).bind fun bt498 => (some (bt498.1, bt498.2))))) else (none)) else (none)) else (some (([] : List (S66)), false)))) = some (r1, r2) := h
 clear h
 replace H := Option.bind_eq_some_iff.mp H
 obtain ⟨t488, A50, H⟩ := H
 try dsimp only at H
 have A5 := Aside0.mk A50
 clear A50
 by_cases c6 : t488 = true
 ·subst c6
  have H1 : (if 0 ≤ a2 then (if a2 ≤ (l1.length : Int) then ((impl_DoActs.f k l0_0 (l1.take (a2 : Int).toNat)).bind fun bt493 => (if bt493.2 < a2 then (some (([] : List (S66)), false)) else ((impl_LoseDisk.f k bt493.1 l3).bind fun bt498 => (some (bt498.1, bt498.2))))) else (none)) else (none)) = some (r1, r2) := by rw [if_pos rfl] at H; exact H
  clear H
  have H := H1
  clear H1
  by_cases c7 : 0 ≤ a2
  ·rw [if_pos c7] at H
   have c7b0 := eq_true c7
   have c7b1 : decide (0 ≤ a2) = true := decide_eq_true c7
   clear c7
   by_cases c8 : a2 ≤ (l1.length : Int)
   ·rw [if_pos c8] at H
    have c8b0 := eq_true c8
    have c8b1 : decide (a2 ≤ (l1.length : Int)) = true := decide_eq_true c8
    clear c8
    obtain ⟨y489, hy489⟩ : ∃ y_ : List (S35), y_ = (l1.take (a2 : Int).toNat) := ⟨_, rfl⟩
    replace H : ((impl_DoActs.f k l0_0 y489).bind fun bt493 => (if bt493.2 < a2 then (some (([] : List (S66)), false)) else ((impl_LoseDisk.f k bt493.1 l3).bind fun bt498 => (some (bt498.1, bt498.2))))) = some (r1, r2) := by first | (rw [hy489]; with_reducible exact H) | (have H2_ := (Option.bind_some _ _).symm.trans H; rw [hy489]; with_reducible exact H2_) | (have H2_ := (Option.bind_some _ _).symm.trans H; with_reducible exact H2_) | with_reducible exact H | (rw [hy489]; exact H) | exact H
    have Ny489 := Aside0.mk hy489
    clear hy489
    replace H := Option.bind_eq_some_iff.mp H
    obtain ⟨⟨t493, t496⟩, A90, H⟩ := H
    try dsimp only at H
    have A9 := Aside0.mk A90
    clear A90
    have HD_ := Aside0.mk H
    clear H
    go_enter Try.func26, Try.ntmps26
    try go_wp2_with (first | ((with_reducible refine gate_dst (N := 4) rfl ?_); refine box_event rfl (N := 4) rfl (cs := #[.slice A0_0 l0_0.length c0_0]) (t := 31) zrun ?_; intro gb486 hg w11 hbox hb; have BK486 := am (hbox); have GW486 := zge hg (zb0 HB.out); have GE486 := zge hg (zb0 HB.out); replace HB := zs0 hb HB; clear hb hbox hg) | ((with_reducible refine gate_dst (N := 8) rfl ?_); refine box_event rfl (N := 8) rfl (cs := #[.slice none 0 0]) (t := 31) zrun ?_; intro gb487 hg w12 hbox hb; have BK487 := am (hbox); have GW487 := zge hg (zb1 HB.out GE486.out); have GE487 := zge hg (zb1 HB.out GE486.out); obtain ⟨NB486_487, NB487_486⟩ := zne hg BK486; replace BK486 := zk hb BK486; replace HB := zs1 hb HB GE486; clear hb hbox hg) | ((with_reducible refine gate_callee (f := 54) rfl ?_); refine goesL_ (some 15) rfl rfl Try.func54 (by kernel_rfl) rfl #[.int .i64 a2, .int .i64 0, .int .i64 (l1.length : Int)] rfl zr ?_; (with_reducible refine (impl_within.calls a2 0 (l1.length : Int) true _ A5.out).mono ?_); rintro e w' ⟨rfl, ⟨nd, rfl⟩⟩; refine ⟨_, rfl, ?_⟩; (try (rw [drewN_self w12]; generalize hq_ : World.drewN w12 _ = w12; have n0_ : Aside0 (w12.heap[gb486]? = some (.cells #[.slice A0_0 l0_0.length c0_0] 31 (0, 0))) := ⟨by rw [← hq_]; exact (kx BK486.out)⟩; have n1_ : Aside0 (w12.heap[gb487]? = some (.cells #[.slice none 0 0] 31 (0, 0))) := ⟨by rw [← hq_]; exact (kx BK487.out)⟩; have n2_ : Aside0 (Below w.heap.size w w12) := ⟨by rw [← hq_]; exact (zb2 HB.out GE486.out GE487.out)⟩; clear BK486 BK487 HB hq_; have BK486 := n0_; have BK487 := n1_; have HB := n2_; clear n0_ n1_ n2_))))
    replace BK486 := zw BK486
    replace BK487 := zw BK487
    replace HB := am (below_drew1 HB.out)
    have q14 : (a2 : Int) ≤ ((l1.length : Int) : Int) := zpq
    obtain ⟨i014, hi014, _, hsz14, _⟩ := info_parts info35
    have hroom14 : l1.length ≤ c1 := HC1.out
    have hC14 : Kd.C k35 _ A1 l1.length l1 := HR1.out
    have hcut14 := cut_to (P := Try.prog) 44 35 .i64 Try.underlying44 hi014 A1 l1.length c1 a2 (of_decide_eq_true (by first | (with_reducible assumption) | assumption)) q14 hroom14
    have hr14 := Kd.C_take (m := (a2 : Int).toNat) hC14 (by omega)
    have hy14 : y489.length = (a2 : Int).toNat := (by rw [Ny489.out, List.length_take]; omega)
    rw [← Ny489.out] at hr14
    rw [← hy14] at hcut14
    have HR492 := Aside0.mk hr14
    have HC492 := Aside0.mk (show y489.length ≤ c1 from by omega)
    clear hr14 hC14 hroom14 hi014 hsz14
    have KY14 := Aside0.mk hy14
    clear hy14
    replace q14 := eq_true q14
    refine start_ (n := 11) (S := fun w' => w'.cell? ⟨gb486, 0, none⟩ = some (.slice A0_0 l0_0.length c0_0)) (ds := []) #[false, false, false, false, false, false, false, false, false, false, false] (by kernel_rfl) rfl rfl (ct BK486.out 0) (fun hHeld => ?_); refine with_tabW impl_CutActs.tab3 impl_CutActs.bits3 (fun HT_ HW_ => ?_)
    generalize w12.drew = w13 at BK486 BK487 HB HR492 hHeld ⊢
    refine zpu 1 20 #[false, true, false, false, false, false, false, false, false, false, false] HT_ ?_
    refine zpu 2 21 #[false, true, true, false, false, false, false, false, false, false, false] HT_ ?_
    refine zpu 3 22 #[false, true, true, true, false, false, false, false, false, false, false] HT_ ?_
    refine ztk1 0 19 #[true, true, true, true, false, false, false, false, false, false, false] HT_ HW_ hHeld ?_
    refine join_ (σ := Value × Nat) 2 #[true, true, true, true, true, true, true, true, true, false, false] (fun s_ => [(23, .tuple #[.agg #[s_.1], .int .i64 t496]), (10, .pointer (some ⟨s_.2, 0, none⟩)), (18, .tuple #[.agg #[s_.1], .int .i64 t496]), (24, .agg #[s_.1]), (25, .int .i64 t496)]) (fun s_ w' => (w'.cell? ⟨gb486, 0, none⟩ = some (.slice A0_0 l0_0.length c0_0)) ∧ (Kd.R k66 66 w' w.heap.size (fun _ => True) s_.1 t493) ∧ (w'.heap[gb486]? = some (.cells #[.slice A0_0 l0_0.length c0_0] 31 (0, 0))) ∧ (w'.heap[gb487]? = some (.cells #[.slice none 0 0] 31 (0, 0))) ∧ (w'.heap[s_.2]? = some (.cells #[.slice none 0 0] 31 (0, 0))) ∧ (w.heap.size ≤ s_.2) ∧ (w.heap.size ≤ s_.2) ∧ (gb486 ≠ s_.2) ∧ (s_.2 ≠ gb486) ∧ (gb487 ≠ s_.2) ∧ (s_.2 ≠ gb487) ∧ (Below w.heap.size w w')) ?_ ?_
    rotate_left
    ·intro hCont
     refine two_ (i := 4) (j := 8) (Ni := some 23) (Nj := some 10) #[true, true, true, true, true, false, false, false, false, false, false] #[true, true, true, true, false, false, false, false, true, false, false] rfl rfl rfl rfl (two_of HT_.out (by kernel_rfl)) (by decide) (by decide) (fun K hK => ?_) (fun K hK => ?_)
     ·skip
      refine goes_ Try.func19 (by kernel_rfl) rfl #[.agg #[.slice A0_0 l0_0.length c0_0], .slice A1 y489.length c1] (by rfl) rfl rfl zr ?_
      with_reducible refine (impl_DoActs.calls k _ _ l0_0 _ _ y489 t493 t496 _ ?side1 ?side2 ?side3 ?side4 A9.out).mono ?_
      (case side1 => repeat (first | exact (Kd.C_below HR0_0.out HB.out) | (with_reducible refine Kd.C_alloc ?_ _) | (with_reducible refine Kd.C_drewN ?_ _) | (with_reducible refine Kd.C_drew ?_)))
      (case side2 => exact HC0_0.out)
      (case side3 => repeat (first | exact (Kd.C_below HR492.out HB.out) | (with_reducible refine Kd.C_alloc ?_ _) | (with_reducible refine Kd.C_drewN ?_ _) | (with_reducible refine Kd.C_drew ?_)))
      (case side4 => exact HC492.out)
      rintro e w15 ⟨v494, rfl, ho0, hb⟩
      refine ⟨_, rfl, ?_⟩
      have HO495 := am (Kd.R_lower ho0 (below_size (zb2 HB.out GE486.out GE487.out)))
      replace BK486 := zk hb BK486
      replace BK487 := zk hb BK487
      replace HB := zs2 hb HB GE486 GE487
      refine hK.out _ _ (ct BK486.out 0) (fun hHeld => ?_)
      clear hK K
      refine znm 23 ?_
      refine zpu 5 18 #[true, true, true, true, true, true, false, false, false, false, false] HT_ ?_
      refine zpu 6 24 #[true, true, true, true, true, true, true, false, false, false, false] HT_ ?_
      refine zpu 7 25 #[true, true, true, true, true, true, true, true, false, false, false] HT_ ?_
      refine zon 8 #[true, true, true, true, true, true, true, true, true, false, false] HT_ (fun K hK => ?_)
      refine box_step ?hg (N := 10) ?hd (cs := #[.slice none 0 0]) (t := 31) ?hr ?_; (case hd => rfl); (case hg => rfl); (case hr => first | (go_simp; done) | (go_simp; rfl))
      intro gb497 hg w16 hbox hb
      have BK497 := am (hbox)
      have GW497 := zge hg (zb2 HB.out GE486.out GE487.out)
      have GE497 := zge hg (zb2 HB.out GE486.out GE487.out)
      obtain ⟨NB486_497, NB497_486⟩ := zne hg BK486
      obtain ⟨NB487_497, NB497_487⟩ := zne hg BK487
      replace HO495 := zo hb HO495
      replace BK486 := zk hb BK486
      replace BK487 := zk hb BK487
      replace HB := zs2 hb HB GE486 GE487
      clear hb hbox hg
      refine hK.out _ _ (ct BK486.out 0) (fun hHeld => ?_)
      clear hK K
      refine znm 10 ?_
      exact norm_ (by simp only [putAll, Act.put, List.setIfInBounds_toArray, List.set_cons_zero, List.set_cons_succ]) (hCont (v494, gb497) _ ⟨hHeld, (rx HO495.out), (kx BK486.out), (kx BK487.out), (kx BK497.out), GW497.out, GE497.out, NB486_497.out, NB497_486.out, NB487_497.out, NB497_487.out, (zb3 HB.out GE486.out GE487.out GE497.out)⟩)
     ·skip
      refine box_step ?hg (N := 10) ?hd (cs := #[.slice none 0 0]) (t := 31) ?hr ?_; (case hd => rfl); (case hg => rfl); (case hr => first | (go_simp; done) | (go_simp; rfl))
      intro gb497 hg w15 hbox hb
      have BK497 := am (hbox)
      have GW497 := zge hg (zb2 HB.out GE486.out GE487.out)
      have GE497 := zge hg (zb2 HB.out GE486.out GE487.out)
      obtain ⟨NB486_497, NB497_486⟩ := zne hg BK486
      obtain ⟨NB487_497, NB497_487⟩ := zne hg BK487
      replace BK486 := zk hb BK486
      replace BK487 := zk hb BK487
      replace HB := zs2 hb HB GE486 GE487
      clear hb hbox hg
      refine hK.out _ _ (ct BK486.out 0) (fun hHeld => ?_)
      clear hK K
      refine znm 10 ?_
      refine zon 4 #[true, true, true, true, true, false, false, false, true, false, false] HT_ (fun K hK => ?_)
      refine goes_ Try.func19 (by kernel_rfl) rfl #[.agg #[.slice A0_0 l0_0.length c0_0], .slice A1 y489.length c1] (by rfl) rfl rfl zr ?_
      with_reducible refine (impl_DoActs.calls k _ _ l0_0 _ _ y489 t493 t496 _ ?side1 ?side2 ?side3 ?side4 A9.out).mono ?_
      (case side1 => repeat (first | exact (Kd.C_below HR0_0.out HB.out) | (with_reducible refine Kd.C_alloc ?_ _) | (with_reducible refine Kd.C_drewN ?_ _) | (with_reducible refine Kd.C_drew ?_)))
      (case side2 => exact HC0_0.out)
      (case side3 => repeat (first | exact (Kd.C_below HR492.out HB.out) | (with_reducible refine Kd.C_alloc ?_ _) | (with_reducible refine Kd.C_drewN ?_ _) | (with_reducible refine Kd.C_drew ?_)))
      (case side4 => exact HC492.out)
      rintro e w16 ⟨v494, rfl, ho0, hb⟩
      refine ⟨_, rfl, ?_⟩
      have HO495 := am (Kd.R_lower ho0 (below_size (zb3 HB.out GE486.out GE487.out GE497.out)))
      replace BK486 := zk hb BK486
      replace BK487 := zk hb BK487
      replace BK497 := zk hb BK497
      replace HB := zs3 hb HB GE486 GE487 GE497
      refine hK.out _ _ (ct BK486.out 0) (fun hHeld => ?_)
      clear hK K
      refine znm 23 ?_
      refine zpu 5 18 #[true, true, true, true, true, true, false, false, true, false, false] HT_ ?_
      refine zpu 6 24 #[true, true, true, true, true, true, true, false, true, false, false] HT_ ?_
      refine zpu 7 25 #[true, true, true, true, true, true, true, true, true, false, false] HT_ ?_
      exact norm_ (by simp only [putAll, Act.put, List.setIfInBounds_toArray, List.set_cons_zero, List.set_cons_succ]) (hCont (v494, gb497) _ ⟨hHeld, (rx HO495.out), (kx BK486.out), (kx BK487.out), (kx BK497.out), GW497.out, GE497.out, NB486_497.out, NB497_486.out, NB487_497.out, NB497_487.out, (zb3 HB.out GE486.out GE487.out GE497.out)⟩)
    rintro ⟨v494, gb497⟩ w17 ⟨hS_, h0_, h1_, h2_, h3_, h4_, h5_, h6_, h7_, h8_, h9_, h10_⟩
    have n0_ : Aside0 (Kd.R k66 66 w17 w.heap.size (fun _ => True) v494 t493) := ⟨h0_⟩
    have n1_ : Aside0 (w17.heap[gb486]? = some (.cells #[.slice A0_0 l0_0.length c0_0] 31 (0, 0))) := ⟨h1_⟩
    have n2_ : Aside0 (w17.heap[gb487]? = some (.cells #[.slice none 0 0] 31 (0, 0))) := ⟨h2_⟩
    have n3_ : Aside0 (w17.heap[gb497]? = some (.cells #[.slice none 0 0] 31 (0, 0))) := ⟨h3_⟩
    have n4_ : Aside0 (w.heap.size ≤ gb497) := ⟨h4_⟩
    have n5_ : Aside0 (w.heap.size ≤ gb497) := ⟨h5_⟩
    have n6_ : Aside0 (gb486 ≠ gb497) := ⟨h6_⟩
    have n7_ : Aside0 (gb497 ≠ gb486) := ⟨h7_⟩
    have n8_ : Aside0 (gb487 ≠ gb497) := ⟨h8_⟩
    have n9_ : Aside0 (gb497 ≠ gb487) := ⟨h9_⟩
    have n10_ : Aside0 (Below w.heap.size w w17) := ⟨h10_⟩
    clear BK486 BK487 HB h0_ h1_ h2_ h3_ h4_ h5_ h6_ h7_ h8_ h9_ h10_
    have HO495 := n0_
    have BK486 := n1_
    have BK487 := n2_
    have BK497 := n3_
    have GW497 := n4_
    have GE497 := n5_
    have NB486_497 := n6_
    have NB497_486 := n7_
    have NB487_497 := n8_
    have NB497_487 := n9_
    have HB := n10_
    clear n0_ n1_ n2_ n3_ n4_ n5_ n6_ n7_ n8_ n9_ n10_
    have hHeld : w17.cell? ⟨gb486, 0, none⟩ = some (.slice A0_0 l0_0.length c0_0) := hS_
    obtain ⟨Ao18, co18, eo18⟩ := Kd.R_slice HO495.out
    (first | subst eo18 | (injection eo18 with f1_ f2_ f3_; have f4_ := f1_.symm; have f5_ := f3_.symm; clear f1_ f2_ f3_; subst f4_; subst f5_))
    refine norm_ (a' := ?_) ?_ ?_
    rotate_left
    ·simp only [putAll, Act.put, List.setIfInBounds_toArray, List.set_cons_zero, List.set_cons_succ]
     rfl
    refine zon 9 #[true, true, true, true, true, true, true, true, true, true, false] HT_ (fun K hK => ?_)
    have hs19 : w17.cell? ⟨gb497, 0, none⟩ = some (.slice none 0 0) := ct BK497.out 0
    have hfs19 := blk_frozen BK497.out 0
    have hns19_0 := NB486_497.out
    have hns19_1 := NB487_497.out
    have hms19_0 := NB497_486.out
    have hms19_1 := NB497_487.out
    refine skip_ (w1 := ?_) (by rfl) rfl ?_ ?_
    rotate_left
    ·go_simp
     rfl
    refine hK.out _ _ (((cell_far (p := ⟨gb497, _, none⟩) NB486_497.out _).trans (hHeld))) (fun hHeld => ?_)
    clear hK K
    refine zpu 10 11 #[true, true, true, true, true, true, true, true, true, true, true] HT_ ?_
    refine zdn HT_ ?_
    have H := HD_.out
    clear HD_
    by_cases c10 : t496 < a2
    ·rw [if_pos c10] at H
     have c10b0 : decide (t496 < a2) = true := decide_eq_true c10
     have c10b1 : decide (a2 ≤ t496) = false := decide_eq_false (by omega)
     clear c10
     simp only [Option.some.injEq, Prod.mk.injEq] at H
     obtain ⟨rfl, rfl⟩ := H
     obtain ⟨hnb20, hnc20⟩ := zn2 NB487_486
     obtain ⟨hnb21, hnc21⟩ := zn2 NB487_497
     obtain ⟨hcz22_0, hfz22_0⟩ := zc1 BK487.out
     try go_wp2
     refine bodyPost_ret (results_ct rfl _ _ gb487 31 #[.slice none 0 0] (0, 0) _ rfl (zp1 BK487.out NB487_497.out) Try.underlying31 rfl (by kernel_rfl)) rfl ?_
     exact ⟨_, by first | rfl | (simp [errW_none, errW_some] <;> rfl) | (simp [*, errW_none, errW_some] <;> rfl), by first | exact Kd.R_nil _ _ _ _ _ | exact Kd.N_nil _ _ _ _ _ | exact Kd.V_nil _ _ _ _ _ | exact Kd.Q_nil _ _ _ _ _ | exact Kd.S_nil _ _ _ _ _, zb3 HB.out GE486.out GE487.out GE497.out⟩
    ·rw [if_neg c10] at H
     have c10b0 : decide (t496 < a2) = false := decide_eq_false c10
     have c10b1 : decide (a2 ≤ t496) = true := decide_eq_true (by omega)
     clear c10
     replace H := Option.bind_eq_some_iff.mp H
     obtain ⟨⟨t498, t501⟩, A230, H⟩ := H
     try dsimp only at H
     have A23 := Aside0.mk A230
     clear A230
     simp only [Option.some.injEq, Prod.mk.injEq] at H
     obtain ⟨rfl, rfl⟩ := H
     obtain ⟨hnb33, hnc33⟩ := zn2 NB497_486
     obtain ⟨hnb34, hnc34⟩ := zn2 NB497_487
     obtain ⟨hcz35_0, hfz35_0⟩ := zc1 BK497.out
     try go_wp2_with (first | ((with_reducible refine gate_callee (f := 55) rfl ?_); refine goesL_ (some 32) rfl rfl Try.func55 (by kernel_rfl) rfl #[.agg #[.slice Ao18 t493.length co18], .slice A3 l3.length c3] rfl zr ?_; (with_reducible refine (impl_LoseDisk.calls k _ _ t493 _ _ l3 t498 t501 _ ?side1 ?side2 ?side3 ?side4 A23.out).mono ?_); (case side1 => refine (Kd.R_reads' (e := 66) (base := w.heap.size) (ok := fun k_ => True) (n := t493.length) (c := co18) ?_).2.2; exact (rx ((zrf 0 (.slice Ao18 t493.length co18) HO495 BK497)))); (case side2 => exact (Kd.R_reads' HO495.out).2.1); (case side3 => exact Kd.C_below HR3.out (zb3 HB.out GE486.out GE487.out GE497.out)); (case side4 => exact HC3.out); rintro e w36 ⟨v499, rfl, ho0, hb⟩; refine ⟨_, rfl, ?_⟩; have HO500 := am (Kd.R_lower (Kd.R_new' ho0 (Kd.R_lt (rx ((zrf 0 (.slice Ao18 t493.length co18) HO495 BK497))))) (below_size (zb3 HB.out GE486.out GE487.out GE497.out))); replace HO495 := am (Kd.R_elder' (rx ((zrf 0 (.slice Ao18 t493.length co18) HO495 BK497))) (Kd.R_base ho0) hb); replace BK486 := zh1 hb BK486 NB486_497; replace BK487 := zh1 hb BK487 NB487_497; replace BK497 := am (blk_below (g := gb497) (o := .cells #[.slice Ao18 t493.length co18] 31 (0, 0)) (zp0 BK497.out) hb); replace HB := zs3 hb HB GE486 GE487 GE497; clear hb ho0; obtain ⟨Ao37, co37, eo37⟩ := Kd.R_slice HO500.out; subst eo37; obtain ⟨hnb38, hnc38⟩ := zn2 NB487_486; obtain ⟨hcz39_0, hfz39_0⟩ := zc1 BK487.out))
     refine bodyPost_ret (results_ct rfl _ _ gb487 31 #[.slice Ao37 t498.length co37] (0, 0) _ rfl (zp0 BK487.out) Try.underlying31 rfl (by kernel_rfl)) rfl ?_
     exact ⟨_, by first | rfl | (simp [errW_none, errW_some] <;> rfl) | (simp [*, errW_none, errW_some] <;> rfl), rx (Kd.R_mono (Kd.R_far (p := ⟨gb487, 0, none⟩) (Kd.R_types HO500.out BK487.out (by decide)) (fun _ hk => hk.2) (.slice Ao37 t498.length co37)) (fun _ hk => trivial)), zb3 HB.out GE486.out GE487.out GE497.out⟩
   ·rw [if_neg c8] at H
    exact absurd H (by simp)
  ·rw [if_neg c7] at H
   exact absurd H (by simp)
 ·replace c6 := Bool.eq_false_iff.mpr c6
  subst c6
  have H1 : (some (([] : List (S66)), false)) = some (r1, r2) := by rw [if_neg (show ¬ (false = true) by decide)] at H; exact H
  clear H
  have H := H1
  clear H1
  simp only [Option.some.injEq, Prod.mk.injEq] at H
  obtain ⟨rfl, rfl⟩ := H
  go_enter Try.func26, Try.ntmps26
  go_wp2_with (first | ((with_reducible refine gate_dst (N := 4) rfl ?_); refine box_event rfl (N := 4) rfl (cs := #[.slice A0_0 l0_0.length c0_0]) (t := 31) zrun ?_; intro gb486 hg w40 hbox hb; have BK486 := am (hbox); have GW486 := zge hg (zb0 HB.out); have GE486 := zge hg (zb0 HB.out); replace HB := zs0 hb HB; clear hb hbox hg) | ((with_reducible refine gate_dst (N := 8) rfl ?_); refine box_event rfl (N := 8) rfl (cs := #[.slice none 0 0]) (t := 31) zrun ?_; intro gb487 hg w41 hbox hb; have BK487 := am (hbox); have GW487 := zge hg (zb1 HB.out GE486.out); have GE487 := zge hg (zb1 HB.out GE486.out); obtain ⟨NB486_487, NB487_486⟩ := zne hg BK486; replace BK486 := zk hb BK486; replace HB := zs1 hb HB GE486; clear hb hbox hg) | ((with_reducible refine gate_callee (f := 54) rfl ?_); refine goesL_ (some 15) rfl rfl Try.func54 (by kernel_rfl) rfl #[.int .i64 a2, .int .i64 0, .int .i64 (l1.length : Int)] rfl zr ?_; (with_reducible refine (impl_within.calls a2 0 (l1.length : Int) false _ A5.out).mono ?_); rintro e w' ⟨rfl, ⟨nd, rfl⟩⟩; refine ⟨_, rfl, ?_⟩; (try (rw [drewN_self w41]; generalize hq_ : World.drewN w41 _ = w41; have n0_ : Aside0 (w41.heap[gb486]? = some (.cells #[.slice A0_0 l0_0.length c0_0] 31 (0, 0))) := ⟨by rw [← hq_]; exact (kx BK486.out)⟩; have n1_ : Aside0 (w41.heap[gb487]? = some (.cells #[.slice none 0 0] 31 (0, 0))) := ⟨by rw [← hq_]; exact (kx BK487.out)⟩; have n2_ : Aside0 (Below w.heap.size w w41) := ⟨by rw [← hq_]; exact (zb2 HB.out GE486.out GE487.out)⟩; clear BK486 BK487 HB hq_; have BK486 := n0_; have BK487 := n1_; have HB := n2_; clear n0_ n1_ n2_)); obtain ⟨hnb42, hnc42⟩ := zn2 NB487_486; obtain ⟨hcz43_0, hfz43_0⟩ := zc1 BK487.out))
  refine bodyPost_ret (results_ct rfl _ _ gb487 31 #[.slice none 0 0] (0, 0) _ rfl (zp0 BK487.out) Try.underlying31 rfl (by kernel_rfl)) rfl ?_
  exact ⟨_, by first | rfl | (simp [errW_none, errW_some] <;> rfl) | (simp [*, errW_none, errW_some] <;> rfl), by first | exact Kd.R_nil _ _ _ _ _ | exact Kd.N_nil _ _ _ _ _ | exact Kd.V_nil _ _ _ _ _ | exact Kd.Q_nil _ _ _ _ _ | exact Kd.S_nil _ _ _ _ _, zb2 HB.out GE486.out GE487.out⟩

end Go.Proofs.Ytklbkkoojkmjbaa.QFnActs
