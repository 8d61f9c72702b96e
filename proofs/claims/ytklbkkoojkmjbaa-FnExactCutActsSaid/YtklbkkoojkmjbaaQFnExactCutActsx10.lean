/- Written by the kit's print.py, called by our own print2.sh with one import more; not by print.sh. -/
import Derived.Test.YtklbkkoojkmjbaaQFnExactCutActsx0
import Derived.Test.YtklbkkoojkmjbaaQFnExactCutActsx5
import Derived.Test.YtklbkkoojkmjbaaQFnExactCutActsx9
namespace Go.Proofs.Ytklbkkoojkmjbaa.QFnExactCutActs
open Go.RowKit Go.Proofs.YtklbkkoojkmjbaaW.PrintWords Go.Proofs.YtklbkkoojkmjbaaW.PrintLast Go.Proofs.YtklbkkoojkmjbaaW.PrintMore
attribute [local go_sem] max2_int min2_int max_two min_two max_three min_three max_four min_four   -- for this text's walks alone
open Go.Proofs.Ytklbkkoojkmjbaa.Short
set_option linter.unusedVariables false
set_option linter.unusedSimpArgs false

/-! ### impl_CutActs: function 26 -/
def impl_CutActs.f (k : Nat) (l0_0 : List (S66)) (l1 : List (S35)) (a2 : Int) (l3 : List Int) : Option ((List (S66)) × Bool) := (impl_within.f a2 0 (l1.length : Int)).bind fun t256 => (if t256 = true then (if 0 ≤ a2 then (if a2 ≤ (l1.length : Int) then ((impl_DoActs.f k l0_0 (l1.take (a2 : Int).toNat)).bind fun bt261 => (if bt261.2 < a2 then (some (([] : List (S66)), false)) else ((impl_LoseDisk.f k bt261.1 l3).bind fun bt266 => (some (bt266.1, bt266.2))))) else (none)) else (none)) else (some (([] : List (S66)), false)))
theorem impl_CutActs.mono : ∀ a0 a1 a2 a3 k, LeO (impl_CutActs.f k a0 a1 a2 a3) (impl_CutActs.f (k + 1) a0 a1 a2 a3) := by
 intro a0 a1 a2 a3 k
 unfold impl_CutActs.f
 repeat' first
   | (with_reducible exact impl_DoActs.mono _ _ _)
   | (with_reducible exact impl_LoseDisk.mono _ _ _)
   | (with_reducible exact LeO.refl _)
   | (with_reducible exact LeO.none _)
   | (with_reducible refine LeO.ite ?_ ?_)
   | (with_reducible refine LeO.bind ?_ (fun _ => ?_))
   | exact impl_DoActs.mono _ _ _
   | exact impl_LoseDisk.mono _ _ _
   | exact LeO.none _
   | refine LeO.ite ?_ ?_
   | refine LeO.bind ?_ (fun _ => ?_)
def impl_CutActs.T3 : Bool × List (List Nat × List Nat) := (true, [([], []), ([], []), ([], []), ([1, 2], [1, 2]), ([0, 3], [0, 3]), ([4], [4]), ([5], [5]), ([5], [5]), ([], []), ([8, 6, 4, 0, 1, 2, 3, 4, 5, 6, 8], [6, 8]), ([7, 9, 0, 1, 2, 3, 4, 5, 6, 7, 8, 9], [7])])
def impl_CutActs.B3 : List Nat := [0, 0, 0, 6, 15, 31, 63, 63, 0, 383, 1023]
theorem impl_CutActs.tab3 : rtab .any (opsOf Try.f26 3) = impl_CutActs.T3 := by kernel_rfl
theorem impl_CutActs.bits3 : waitsOk impl_CutActs.T3.2 impl_CutActs.B3 = true := by kernel_rfl
set_option maxHeartbeats 8000000 in
set_option maxRecDepth 100000 in
theorem impl_CutActs.calls (k : Nat) (A0_0 : Option Addr) (c0_0 : Nat) (l0_0 : List (S66)) (A1 : Option Addr) (c1 : Nat) (l1 : List (S35)) (a2 : Int) (A3 : Option Addr) (c3 : Nat) (l3 : List Int) (r1 : List (S66)) (r2 : Bool) (w : World) (hr0_0 : Kd.C k66 w A0_0 l0_0.length l0_0) (hc0_0 : l0_0.length ≤ c0_0) (hr1 : Kd.C k35 w A1 l1.length l1) (hc1 : l1.length ≤ c1) (hr3 : Kd.C (Kd.int .i64) w A3 l3.length l3) (hc3 : l3.length ≤ c3) (h : impl_CutActs.f k l0_0 l1 a2 l3 = some (r1, r2)) :
  Calls Try.prog 26 #[.agg #[.slice A0_0 l0_0.length c0_0], .slice A1 l1.length c1, .int .i64 a2, .slice A3 l3.length c3] w fun e w' => ∃ v0_ : Value, e = .returned (.tuple #[.agg #[v0_], .bool r2]) ∧ Kd.R k66 66 w' w.heap.size (fun _ => True) v0_ r1 ∧ Below w.heap.size w w' := by
 have hu31 := Try.underlying31
 have HR0_0 := Aside0.mk hr0_0
 have HC0_0 := Aside0.mk hc0_0
 clear hr0_0 hc0_0
 have HR1 := Aside0.mk hr1
 have HC1 := Aside0.mk hc1
 clear hr1 hc1
 have HR3 := Aside0.mk hr3
 have HC3 := Aside0.mk hc3
 clear hr3 hc3
 have HB := Aside0.mk (Below.refl w.heap.size w)
 have H : ((impl_within.f a2 0 (l1.length : Int)).bind fun t256 => (if t256 = true then (if 0 ≤ a2 then (if a2 ≤ (l1.length : Int) then ((impl_DoActs.f k l0_0 (l1.take (a2 : Int).toNat)).bind fun bt261 => (if bt261.2 < a2 then (some (([] : List (S66)), false)) else ((impl_LoseDisk.f k bt261.1 l3).bind fun bt266 => (some (bt266.1, bt266.2))))) else (none)) else (none)) else (some (([] : List (S66)), false)))) = some (r1, r2) := h
 clear h
 replace H := Option.bind_eq_some_iff.mp H
 obtain ⟨t256, A50, H⟩ := H
 try dsimp only at H
 have A5 := Aside0.mk A50
 clear A50
 by_cases c6 : t256 = true
 ·subst c6
  have H1 : (if 0 ≤ a2 then (if a2 ≤ (l1.length : Int) then ((impl_DoActs.f k l0_0 (l1.take (a2 : Int).toNat)).bind fun bt261 => (if bt261.2 < a2 then (some (([] : List (S66)), false)) else ((impl_LoseDisk.f k bt261.1 l3).bind fun bt266 => (some (bt266.1, bt266.2))))) else (none)) else (none)) = some (r1, r2) := by rw [if_pos rfl] at H; exact H
  clear H
  have H := H1
  clear H1
  by_cases c7 : 0 ≤ a2
  ·rw [if_pos c7] at H
   have c7b0 := eq_true c7
   have c7b1 : decide (0 ≤ a2) = true := decide_eq_true c7
   clear c7
   by_cases c8 : a2 ≤ (l1.length : Int)
   ·rw [if_pos c8] at H
    have c8b0 := eq_true c8
    have c8b1 : decide (a2 ≤ (l1.length : Int)) = true := decide_eq_true c8
    clear c8
    obtain ⟨y257, hy257⟩ : ∃ y_ : List (S35), y_ = (l1.take (a2 : Int).toNat) := ⟨_, rfl⟩
    replace H : ((impl_DoActs.f k l0_0 y257).bind fun bt261 => (if bt261.2 < a2 then (some (([] : List (S66)), false)) else ((impl_LoseDisk.f k bt261.1 l3).bind fun bt266 => (some (bt266.1, bt266.2))))) = some (r1, r2) := by first | (rw [hy257]; with_reducible exact H) | (have H2_ := (Option.bind_some _ _).symm.trans H; rw [hy257]; with_reducible exact H2_) | (have H2_ := (Option.bind_some _ _).symm.trans H; with_reducible exact H2_) | with_reducible exact H | (rw [hy257]; exact H) | exact H
    have Ny257 := Aside0.mk hy257
    clear hy257
    replace H := Option.bind_eq_some_iff.mp H
    obtain ⟨⟨t261, t264⟩, A90, H⟩ := H
    try dsimp only at H
    have A9 := Aside0.mk A90
    clear A90
    by_cases c10 : t264 < a2
    ·rw [if_pos c10] at H
     have c10b0 : decide (t264 < a2) = true := decide_eq_true c10
     have c10b1 : decide (a2 ≤ t264) = false := decide_eq_false (by omega)
     clear c10
     simp only [Option.some.injEq, Prod.mk.injEq] at H
     obtain ⟨rfl, rfl⟩ := H
     go_enter Try.func26, Try.ntmps26
     try go_wp2_with (first | ((with_reducible refine gate_dst (N := 4) rfl ?_); refine box_event rfl (N := 4) rfl (cs := #[.slice A0_0 l0_0.length c0_0]) (t := 31) zrun ?_; intro gb254 hg w11 hbox hb; have BK254 := am (hbox); have GW254 := zge hg (zb0 HB.out); have GE254 := zge hg (zb0 HB.out); replace HB := zs0 hb HB; clear hb hbox hg) | ((with_reducible refine gate_dst (N := 8) rfl ?_); refine box_event rfl (N := 8) rfl (cs := #[.slice none 0 0]) (t := 31) zrun ?_; intro gb255 hg w12 hbox hb; have BK255 := am (hbox); have GW255 := zge hg (zb1 HB.out GE254.out); have GE255 := zge hg (zb1 HB.out GE254.out); obtain ⟨NB254_255, NB255_254⟩ := zne hg BK254; replace BK254 := zk hb BK254; replace HB := zs1 hb HB GE254; clear hb hbox hg) | ((with_reducible refine gate_callee (f := 54) rfl ?_); refine goesL_ (some 15) rfl rfl Try.func54 (by kernel_rfl) rfl #[.int .i64 a2, .int .i64 0, .int .i64 (l1.length : Int)] rfl zr ?_; (with_reducible refine (impl_within.calls a2 0 (l1.length : Int) true _ A5.out).mono ?_); rintro e w' ⟨rfl, ⟨nd, rfl⟩⟩; refine ⟨_, rfl, ?_⟩; (try (rw [drewN_self w12]; generalize hq_ : World.drewN w12 _ = w12; have n0_ : Aside0 (w12.heap[gb254]? = some (.cells #[.slice A0_0 l0_0.length c0_0] 31 (0, 0))) := ⟨by rw [← hq_]; exact (kx BK254.out)⟩; have n1_ : Aside0 (w12.heap[gb255]? = some (.cells #[.slice none 0 0] 31 (0, 0))) := ⟨by rw [← hq_]; exact (kx BK255.out)⟩; have n2_ : Aside0 (Below w.heap.size w w12) := ⟨by rw [← hq_]; exact (zb2 HB.out GE254.out GE255.out)⟩; clear BK254 BK255 HB hq_; have BK254 := n0_; have BK255 := n1_; have HB := n2_; clear n0_ n1_ n2_))))
     replace BK254 := am (blk_drew BK254.out)
     replace BK255 := am (blk_drew BK255.out)
     replace HB := am (below_drew1 HB.out)
     have q14 : (a2 : Int) ≤ ((l1.length : Int) : Int) := of_decide_eq_true (by first | (with_reducible assumption) | assumption)
     obtain ⟨i014, hi014, _, hsz14, _⟩ := info_parts info35
     have hroom14 : l1.length ≤ c1 := HC1.out
     have hC14 : Kd.C k35 _ A1 l1.length l1 := HR1.out
     have hcut14 := cut_to (P := Try.prog) 44 35 .i64 Try.underlying44 hi014 A1 l1.length c1 a2 (of_decide_eq_true (by first | (with_reducible assumption) | assumption)) q14 hroom14
     have hr14 := Kd.C_take (m := (a2 : Int).toNat) hC14 (by omega)
     have hy14 : y257.length = (a2 : Int).toNat := (by rw [Ny257.out, List.length_take]; omega)
     rw [← Ny257.out] at hr14
     rw [← hy14] at hcut14
     have HR260 := Aside0.mk hr14
     have HC260 := Aside0.mk (show y257.length ≤ c1 from by omega)
     clear hr14 hC14 hroom14 hi014 hsz14
     have KY14 := Aside0.mk hy14
     clear hy14
     replace q14 := eq_true q14
     refine start_ (n := 11) (S := fun w' => w'.cell? ⟨gb254, 0, none⟩ = some (.slice A0_0 l0_0.length c0_0)) (ds := []) #[false, false, false, false, false, false, false, false, false, false, false] (by kernel_rfl) rfl rfl (ct BK254.out 0) (fun hHeld => ?_); refine with_tabW impl_CutActs.tab3 impl_CutActs.bits3 (fun HT_ HW_ => ?_)
     generalize w12.drew = w13 at BK254 BK255 HB HR260 hHeld ⊢
     refine zpu 1 20 #[false, true, false, false, false, false, false, false, false, false, false] HT_ ?_
     refine zpu 2 21 #[false, true, true, false, false, false, false, false, false, false, false] HT_ ?_
     refine zpu 3 22 #[false, true, true, true, false, false, false, false, false, false, false] HT_ ?_
     refine ztk1 0 19 #[true, true, true, true, false, false, false, false, false, false, false] HT_ HW_ hHeld ?_
     refine join_ (σ := Value × Nat) 2 #[true, true, true, true, true, true, true, true, true, false, false] (fun s_ => [(23, .tuple #[.agg #[s_.1], .int .i64 t264]), (10, .pointer (some ⟨s_.2, 0, none⟩)), (18, .tuple #[.agg #[s_.1], .int .i64 t264]), (24, .agg #[s_.1]), (25, .int .i64 t264)]) (fun s_ w' => (w'.cell? ⟨gb254, 0, none⟩ = some (.slice A0_0 l0_0.length c0_0)) ∧ (Kd.R k66 66 w' w.heap.size (fun _ => True) s_.1 t261) ∧ (w'.heap[gb254]? = some (.cells #[.slice A0_0 l0_0.length c0_0] 31 (0, 0))) ∧ (w'.heap[gb255]? = some (.cells #[.slice none 0 0] 31 (0, 0))) ∧ (w'.heap[s_.2]? = some (.cells #[.slice none 0 0] 31 (0, 0))) ∧ (w.heap.size ≤ s_.2) ∧ (w.heap.size ≤ s_.2) ∧ (gb254 ≠ s_.2) ∧ (s_.2 ≠ gb254) ∧ (gb255 ≠ s_.2) ∧ (s_.2 ≠ gb255) ∧ (Below w.heap.size w w')) ?_ ?_
     rotate_left
     ·intro hCont
      refine two_ (i := 4) (j := 8) (Ni := some 23) (Nj := some 10) #[true, true, true, true, true, false, false, false, false, false, false] #[true, true, true, true, false, false, false, false, true, false, false] rfl rfl rfl rfl (two_of HT_.out (by kernel_rfl)) (by decide) (by decide) (fun K hK => ?_) (fun K hK => ?_)
      ·skip
       refine goes_ Try.func19 (by kernel_rfl) rfl #[.agg #[.slice A0_0 l0_0.length c0_0], .slice A1 y257.length c1] (by rfl) rfl rfl zr ?_
       with_reducible refine (impl_DoActs.calls k _ _ l0_0 _ _ y257 t261 t264 _ ?side1 ?side2 ?side3 ?side4 A9.out).mono ?_
       (case side1 => repeat (first | exact (Kd.C_below HR0_0.out HB.out) | (with_reducible refine Kd.C_alloc ?_ _) | (with_reducible refine Kd.C_drewN ?_ _) | (with_reducible refine Kd.C_drew ?_)))
       (case side2 => exact HC0_0.out)
       (case side3 => repeat (first | exact (Kd.C_below HR260.out HB.out) | (with_reducible refine Kd.C_alloc ?_ _) | (with_reducible refine Kd.C_drewN ?_ _) | (with_reducible refine Kd.C_drew ?_)))
       (case side4 => exact HC260.out)
       rintro e w15 ⟨v262, rfl, ho0, hb⟩
       refine ⟨_, rfl, ?_⟩
       have HO263 := am (Kd.R_lower ho0 (below_size (zb2 HB.out GE254.out GE255.out)))
       replace BK254 := zk hb BK254
       replace BK255 := zk hb BK255
       replace HB := zs2 hb HB GE254 GE255
       refine hK.out _ _ (ct BK254.out 0) (fun hHeld => ?_)
       clear hK K
       refine znm 23 ?_
       refine zpu 5 18 #[true, true, true, true, true, true, false, false, false, false, false] HT_ ?_
       refine zpu 6 24 #[true, true, true, true, true, true, true, false, false, false, false] HT_ ?_
       refine zpu 7 25 #[true, true, true, true, true, true, true, true, false, false, false] HT_ ?_
       refine zon 8 #[true, true, true, true, true, true, true, true, true, false, false] HT_ (fun K hK => ?_)
       refine box_step ?hg (N := 10) ?hd (cs := #[.slice none 0 0]) (t := 31) ?hr ?_; (case hd => rfl); (case hg => rfl); (case hr => first | (go_simp; done) | (go_simp; rfl))
       intro gb265 hg w16 hbox hb
       have BK265 := am (hbox)
       have GW265 := zge hg (zb2 HB.out GE254.out GE255.out)
       have GE265 := zge hg (zb2 HB.out GE254.out GE255.out)
       obtain ⟨NB254_265, NB265_254⟩ := zne hg BK254
       obtain ⟨NB255_265, NB265_255⟩ := zne hg BK255
       replace HO263 := am (Kd.R_below (rx HO263.out) hb)
       replace BK254 := zk hb BK254
       replace BK255 := zk hb BK255
       replace HB := zs2 hb HB GE254 GE255
       clear hb hbox hg
       refine hK.out _ _ (ct BK254.out 0) (fun hHeld => ?_)
       clear hK K
       refine znm 10 ?_
       exact norm_ (by simp only [putAll, Act.put, List.setIfInBounds_toArray, List.set_cons_zero, List.set_cons_succ]) (hCont (v262, gb265) _ ⟨hHeld, (rx HO263.out), (kx BK254.out), (kx BK255.out), (kx BK265.out), GW265.out, GE265.out, NB254_265.out, NB265_254.out, NB255_265.out, NB265_255.out, (zb3 HB.out GE254.out GE255.out GE265.out)⟩)
      ·skip
       refine box_step ?hg (N := 10) ?hd (cs := #[.slice none 0 0]) (t := 31) ?hr ?_; (case hd => rfl); (case hg => rfl); (case hr => first | (go_simp; done) | (go_simp; rfl))
       intro gb265 hg w15 hbox hb
       have BK265 := am (hbox)
       have GW265 := zge hg (zb2 HB.out GE254.out GE255.out)
       have GE265 := zge hg (zb2 HB.out GE254.out GE255.out)
       obtain ⟨NB254_265, NB265_254⟩ := zne hg BK254
       obtain ⟨NB255_265, NB265_255⟩ := zne hg BK255
       replace BK254 := zk hb BK254
       replace BK255 := zk hb BK255
       replace HB := zs2 hb HB GE254 GE255
       clear hb hbox hg
       refine hK.out _ _ (ct BK254.out 0) (fun hHeld => ?_)
       clear hK K
       refine znm 10 ?_
       refine zon 4 #[true, true, true, true, true, false, false, false, true, false, false] HT_ (fun K hK => ?_)
       refine goes_ Try.func19 (by kernel_rfl) rfl #[.agg #[.slice A0_0 l0_0.length c0_0], .slice A1 y257.length c1] (by rfl) rfl rfl zr ?_
       with_reducible refine (impl_DoActs.calls k _ _ l0_0 _ _ y257 t261 t264 _ ?side1 ?side2 ?side3 ?side4 A9.out).mono ?_
       (case side1 => repeat (first | exact (Kd.C_below HR0_0.out HB.out) | (with_reducible refine Kd.C_alloc ?_ _) | (with_reducible refine Kd.C_drewN ?_ _) | (with_reducible refine Kd.C_drew ?_)))
       (case side2 => exact HC0_0.out)
       (case side3 => repeat (first | exact (Kd.C_below HR260.out HB.out) | (with_reducible refine Kd.C_alloc ?_ _) | (with_reducible refine Kd.C_drewN ?_ _) | (with_reducible refine Kd.C_drew ?_)))
       (case side4 => exact HC260.out)
       rintro e w16 ⟨v262, rfl, ho0, hb⟩
       refine ⟨_, rfl, ?_⟩
       have HO263 := am (Kd.R_lower ho0 (below_size (zb3 HB.out GE254.out GE255.out GE265.out)))
       replace BK254 := zk hb BK254
       replace BK255 := zk hb BK255
       replace BK265 := zk hb BK265
       replace HB := zs3 hb HB GE254 GE255 GE265
       refine hK.out _ _ (ct BK254.out 0) (fun hHeld => ?_)
       clear hK K
       refine znm 23 ?_
       refine zpu 5 18 #[true, true, true, true, true, true, false, false, true, false, false] HT_ ?_
       refine zpu 6 24 #[true, true, true, true, true, true, true, false, true, false, false] HT_ ?_
       refine zpu 7 25 #[true, true, true, true, true, true, true, true, true, false, false] HT_ ?_
       exact norm_ (by simp only [putAll, Act.put, List.setIfInBounds_toArray, List.set_cons_zero, List.set_cons_succ]) (hCont (v262, gb265) _ ⟨hHeld, (rx HO263.out), (kx BK254.out), (kx BK255.out), (kx BK265.out), GW265.out, GE265.out, NB254_265.out, NB265_254.out, NB255_265.out, NB265_255.out, (zb3 HB.out GE254.out GE255.out GE265.out)⟩)
     rintro ⟨v262, gb265⟩ w17 ⟨hS_, h0_, h1_, h2_, h3_, h4_, h5_, h6_, h7_, h8_, h9_, h10_⟩
     have n0_ : Aside0 (Kd.R k66 66 w17 w.heap.size (fun _ => True) v262 t261) := ⟨h0_⟩
     have n1_ : Aside0 (w17.heap[gb254]? = some (.cells #[.slice A0_0 l0_0.length c0_0] 31 (0, 0))) := ⟨h1_⟩
     have n2_ : Aside0 (w17.heap[gb255]? = some (.cells #[.slice none 0 0] 31 (0, 0))) := ⟨h2_⟩
     have n3_ : Aside0 (w17.heap[gb265]? = some (.cells #[.slice none 0 0] 31 (0, 0))) := ⟨h3_⟩
     have n4_ : Aside0 (w.heap.size ≤ gb265) := ⟨h4_⟩
     have n5_ : Aside0 (w.heap.size ≤ gb265) := ⟨h5_⟩
     have n6_ : Aside0 (gb254 ≠ gb265) := ⟨h6_⟩
     have n7_ : Aside0 (gb265 ≠ gb254) := ⟨h7_⟩
     have n8_ : Aside0 (gb255 ≠ gb265) := ⟨h8_⟩
     have n9_ : Aside0 (gb265 ≠ gb255) := ⟨h9_⟩
     have n10_ : Aside0 (Below w.heap.size w w17) := ⟨h10_⟩
     clear BK254 BK255 HB h0_ h1_ h2_ h3_ h4_ h5_ h6_ h7_ h8_ h9_ h10_
     have HO263 := n0_
     have BK254 := n1_
     have BK255 := n2_
     have BK265 := n3_
     have GW265 := n4_
     have GE265 := n5_
     have NB254_265 := n6_
     have NB265_254 := n7_
     have NB255_265 := n8_
     have NB265_255 := n9_
     have HB := n10_
     clear n0_ n1_ n2_ n3_ n4_ n5_ n6_ n7_ n8_ n9_ n10_
     have hHeld : w17.cell? ⟨gb254, 0, none⟩ = some (.slice A0_0 l0_0.length c0_0) := hS_
     obtain ⟨Ao18, co18, eo18⟩ := Kd.R_slice HO263.out
     (first | subst eo18 | (injection eo18 with f1_ f2_ f3_; have f4_ := f1_.symm; have f5_ := f3_.symm; clear f1_ f2_ f3_; subst f4_; subst f5_))
     refine norm_ (a' := ?_) ?_ ?_
     rotate_left
     ·simp only [putAll, Act.put, List.setIfInBounds_toArray, List.set_cons_zero, List.set_cons_succ]
      rfl
     refine zon 9 #[true, true, true, true, true, true, true, true, true, true, false] HT_ (fun K hK => ?_)
     have hs19 : w17.cell? ⟨gb265, 0, none⟩ = some (.slice none 0 0) := ct BK265.out 0
     have hfs19 := blk_frozen BK265.out 0
     have hns19_0 := NB254_265.out
     have hns19_1 := NB255_265.out
     have hms19_0 := NB265_254.out
     have hms19_1 := NB265_255.out
     refine skip_ (w1 := ?_) (by rfl) rfl ?_ ?_
     rotate_left
     ·go_simp
      rfl
     refine hK.out _ _ (((cell_far (p := ⟨gb265, _, none⟩) NB254_265.out _).trans (hHeld))) (fun hHeld => ?_)
     clear hK K
     refine zpu 10 11 #[true, true, true, true, true, true, true, true, true, true, true] HT_ ?_
     refine zdn HT_ ?_
     obtain ⟨hnb20, hnc20⟩ := zn2 NB255_254
     obtain ⟨hnb21, hnc21⟩ := zn2 NB255_265
     obtain ⟨hcz22_0, hfz22_0⟩ := zc1 BK255.out
     try go_wp2
     refine bodyPost_ret (results_ct rfl _ _ gb255 31 #[.slice none 0 0] (0, 0) _ rfl (by (with_reducible repeat (first | refine blk_drewN ?_ _ | refine blk_drew ?_ | refine blk_alloc ?_ _)); refine blk_put (cs := #[.slice none 0 0]) ?_ 0 _ rfl; (with_reducible repeat (first | refine blk_drewN ?_ _ | refine blk_drew ?_ | refine blk_alloc ?_ _)); refine blk_far ?_ NB255_265.out _; (with_reducible repeat (first | refine blk_drewN ?_ _ | refine blk_drew ?_ | refine blk_alloc ?_ _)); exact BK255.out) Try.underlying31 rfl (by kernel_rfl)) rfl ?_
     exact ⟨_, by first | rfl | (simp [errW_none, errW_some] <;> rfl) | (simp [*, errW_none, errW_some] <;> rfl), by first | exact Kd.R_nil _ _ _ _ _ | exact Kd.N_nil _ _ _ _ _ | exact Kd.V_nil _ _ _ _ _ | exact Kd.Q_nil _ _ _ _ _ | exact Kd.S_nil _ _ _ _ _, zb3 HB.out GE254.out GE255.out GE265.out⟩
    ·rw [if_neg c10] at H
     have c10b0 : decide (t264 < a2) = false := decide_eq_false c10
     have c10b1 : decide (a2 ≤ t264) = true := decide_eq_true (by omega)
     clear c10
     replace H := Option.bind_eq_some_iff.mp H
     obtain ⟨⟨t266, t269⟩, A230, H⟩ := H
     try dsimp only at H
     have A23 := Aside0.mk A230
     clear A230
     simp only [Option.some.injEq, Prod.mk.injEq] at H
     obtain ⟨rfl, rfl⟩ := H
     go_enter Try.func26, Try.ntmps26
     try go_wp2_with (first | ((with_reducible refine gate_dst (N := 4) rfl ?_); refine box_event rfl (N := 4) rfl (cs := #[.slice A0_0 l0_0.length c0_0]) (t := 31) zrun ?_; intro gb254 hg w24 hbox hb; have BK254 := am (hbox); have GW254 := zge hg (zb0 HB.out); have GE254 := zge hg (zb0 HB.out); replace HB := zs0 hb HB; clear hb hbox hg) | ((with_reducible refine gate_dst (N := 8) rfl ?_); refine box_event rfl (N := 8) rfl (cs := #[.slice none 0 0]) (t := 31) zrun ?_; intro gb255 hg w25 hbox hb; have BK255 := am (hbox); have GW255 := zge hg (zb1 HB.out GE254.out); have GE255 := zge hg (zb1 HB.out GE254.out); obtain ⟨NB254_255, NB255_254⟩ := zne hg BK254; replace BK254 := zk hb BK254; replace HB := zs1 hb HB GE254; clear hb hbox hg) | ((with_reducible refine gate_callee (f := 54) rfl ?_); refine goesL_ (some 15) rfl rfl Try.func54 (by kernel_rfl) rfl #[.int .i64 a2, .int .i64 0, .int .i64 (l1.length : Int)] rfl zr ?_; (with_reducible refine (impl_within.calls a2 0 (l1.length : Int) true _ A5.out).mono ?_); rintro e w' ⟨rfl, ⟨nd, rfl⟩⟩; refine ⟨_, rfl, ?_⟩; (try (rw [drewN_self w25]; generalize hq_ : World.drewN w25 _ = w25; have n0_ : Aside0 (w25.heap[gb254]? = some (.cells #[.slice A0_0 l0_0.length c0_0] 31 (0, 0))) := ⟨by rw [← hq_]; exact (kx BK254.out)⟩; have n1_ : Aside0 (w25.heap[gb255]? = some (.cells #[.slice none 0 0] 31 (0, 0))) := ⟨by rw [← hq_]; exact (kx BK255.out)⟩; have n2_ : Aside0 (Below w.heap.size w w25) := ⟨by rw [← hq_]; exact (zb2 HB.out GE254.out GE255.out)⟩; clear BK254 BK255 HB hq_; have BK254 := n0_; have BK255 := n1_; have HB := n2_; clear n0_ n1_ n2_))))
     replace BK254 := am (blk_drew BK254.out)
     replace BK255 := am (blk_drew BK255.out)
     replace HB := am (below_drew1 HB.out)
     have q27 : (a2 : Int) ≤ ((l1.length : Int) : Int) := of_decide_eq_true (by first | (with_reducible assumption) | assumption)
     obtain ⟨i027, hi027, _, hsz27, _⟩ := info_parts info35
     have hroom27 : l1.length ≤ c1 := HC1.out
     have hC27 : Kd.C k35 _ A1 l1.length l1 := HR1.out
     have hcut27 := cut_to (P := Try.prog) 44 35 .i64 Try.underlying44 hi027 A1 l1.length c1 a2 (of_decide_eq_true (by first | (with_reducible assumption) | assumption)) q27 hroom27
     have hr27 := Kd.C_take (m := (a2 : Int).toNat) hC27 (by omega)
     have hy27 : y257.length = (a2 : Int).toNat := (by rw [Ny257.out, List.length_take]; omega)
     rw [← Ny257.out] at hr27
     rw [← hy27] at hcut27
     have HR260 := Aside0.mk hr27
     have HC260 := Aside0.mk (show y257.length ≤ c1 from by omega)
     clear hr27 hC27 hroom27 hi027 hsz27
     have KY27 := Aside0.mk hy27
     clear hy27
     replace q27 := eq_true q27
     refine start_ (n := 11) (S := fun w' => w'.cell? ⟨gb254, 0, none⟩ = some (.slice A0_0 l0_0.length c0_0)) (ds := []) #[false, false, false, false, false, false, false, false, false, false, false] (by kernel_rfl) rfl rfl (ct BK254.out 0) (fun hHeld => ?_); refine with_tabW impl_CutActs.tab3 impl_CutActs.bits3 (fun HT_ HW_ => ?_)
     generalize w25.drew = w26 at BK254 BK255 HB HR260 hHeld ⊢
     refine zpu 1 20 #[false, true, false, false, false, false, false, false, false, false, false] HT_ ?_
     refine zpu 2 21 #[false, true, true, false, false, false, false, false, false, false, false] HT_ ?_
     refine zpu 3 22 #[false, true, true, true, false, false, false, false, false, false, false] HT_ ?_
     refine ztk1 0 19 #[true, true, true, true, false, false, false, false, false, false, false] HT_ HW_ hHeld ?_
     refine join_ (σ := Value × Nat) 2 #[true, true, true, true, true, true, true, true, true, false, false] (fun s_ => [(23, .tuple #[.agg #[s_.1], .int .i64 t264]), (10, .pointer (some ⟨s_.2, 0, none⟩)), (18, .tuple #[.agg #[s_.1], .int .i64 t264]), (24, .agg #[s_.1]), (25, .int .i64 t264)]) (fun s_ w' => (w'.cell? ⟨gb254, 0, none⟩ = some (.slice A0_0 l0_0.length c0_0)) ∧ (Kd.R k66 66 w' w.heap.size (fun _ => True) s_.1 t261) ∧ (w'.heap[gb254]? = some (.cells #[.slice A0_0 l0_0.length c0_0] 31 (0, 0))) ∧ (w'.heap[gb255]? = some (.cells #[.slice none 0 0] 31 (0, 0))) ∧ (w'.heap[s_.2]? = some (.cells #[.slice none 0 0] 31 (0, 0))) ∧ (w.heap.size ≤ s_.2) ∧ (w.heap.size ≤ s_.2) ∧ (gb254 ≠ s_.2) ∧ (s_.2 ≠ gb254) ∧ (gb255 ≠ s_.2) ∧ (s_.2 ≠ gb255) ∧ (Below w.heap.size w w')) ?_ ?_
     rotate_left
     ·intro hCont
      refine two_ (i := 4) (j := 8) (Ni := some 23) (Nj := some 10) #[true, true, true, true, true, false, false, false, false, false, false] #[true, true, true, true, false, false, false, false, true, false, false] rfl rfl rfl rfl (two_of HT_.out (by kernel_rfl)) (by decide) (by decide) (fun K hK => ?_) (fun K hK => ?_)
      ·skip
       refine goes_ Try.func19 (by kernel_rfl) rfl #[.agg #[.slice A0_0 l0_0.length c0_0], .slice A1 y257.length c1] (by rfl) rfl rfl zr ?_
       with_reducible refine (impl_DoActs.calls k _ _ l0_0 _ _ y257 t261 t264 _ ?side1 ?side2 ?side3 ?side4 A9.out).mono ?_
       (case side1 => repeat (first | exact (Kd.C_below HR0_0.out HB.out) | (with_reducible refine Kd.C_alloc ?_ _) | (with_reducible refine Kd.C_drewN ?_ _) | (with_reducible refine Kd.C_drew ?_)))
       (case side2 => exact HC0_0.out)
       (case side3 => repeat (first | exact (Kd.C_below HR260.out HB.out) | (with_reducible refine Kd.C_alloc ?_ _) | (with_reducible refine Kd.C_drewN ?_ _) | (with_reducible refine Kd.C_drew ?_)))
       (case side4 => exact HC260.out)
       rintro e w28 ⟨v262, rfl, ho0, hb⟩
       refine ⟨_, rfl, ?_⟩
       have HO263 := am (Kd.R_lower ho0 (below_size (zb2 HB.out GE254.out GE255.out)))
       replace BK254 := zk hb BK254
       replace BK255 := zk hb BK255
       replace HB := zs2 hb HB GE254 GE255
       refine hK.out _ _ (ct BK254.out 0) (fun hHeld => ?_)
       clear hK K
       refine znm 23 ?_
       refine zpu 5 18 #[true, true, true, true, true, true, false, false, false, false, false] HT_ ?_
       refine zpu 6 24 #[true, true, true, true, true, true, true, false, false, false, false] HT_ ?_
       refine zpu 7 25 #[true, true, true, true, true, true, true, true, false, false, false] HT_ ?_
       refine zon 8 #[true, true, true, true, true, true, true, true, true, false, false] HT_ (fun K hK => ?_)
       refine box_step ?hg (N := 10) ?hd (cs := #[.slice none 0 0]) (t := 31) ?hr ?_; (case hd => rfl); (case hg => rfl); (case hr => first | (go_simp; done) | (go_simp; rfl))
       intro gb265 hg w29 hbox hb
       have BK265 := am (hbox)
       have GW265 := zge hg (zb2 HB.out GE254.out GE255.out)
       have GE265 := zge hg (zb2 HB.out GE254.out GE255.out)
       obtain ⟨NB254_265, NB265_254⟩ := zne hg BK254
       obtain ⟨NB255_265, NB265_255⟩ := zne hg BK255
       replace HO263 := am (Kd.R_below (rx HO263.out) hb)
       replace BK254 := zk hb BK254
       replace BK255 := zk hb BK255
       replace HB := zs2 hb HB GE254 GE255
       clear hb hbox hg
       refine hK.out _ _ (ct BK254.out 0) (fun hHeld => ?_)
       clear hK K
       refine znm 10 ?_
       exact norm_ (by simp only [putAll, Act.put, List.setIfInBounds_toArray, List.set_cons_zero, List.set_cons_succ]) (hCont (v262, gb265) _ ⟨hHeld, (rx HO263.out), (kx BK254.out), (kx BK255.out), (kx BK265.out), GW265.out, GE265.out, NB254_265.out, NB265_254.out, NB255_265.out, NB265_255.out, (zb3 HB.out GE254.out GE255.out GE265.out)⟩)
      ·skip
       refine box_step ?hg (N := 10) ?hd (cs := #[.slice none 0 0]) (t := 31) ?hr ?_; (case hd => rfl); (case hg => rfl); (case hr => first | (go_simp; done) | (go_simp; rfl))
       intro gb265 hg w28 hbox hb
       have BK265 := am (hbox)
       have GW265 := zge hg (zb2 HB.out GE254.out GE255.out)
       have GE265 := zge hg (zb2 HB.out GE254.out GE255.out)
       obtain ⟨NB254_265, NB265_254⟩ := zne hg BK254
       obtain ⟨NB255_265, NB265_255⟩ := zne hg BK255
       replace BK254 := zk hb BK254
       replace BK255 := zk hb BK255
       replace HB := zs2 hb HB GE254 GE255
       clear hb hbox hg
       refine hK.out _ _ (ct BK254.out 0) (fun hHeld => ?_)
       clear hK K
       refine znm 10 ?_
       refine zon 4 #[true, true, true, true, true, false, false, false, true, false, false] HT_ (fun K hK => ?_)
       refine goes_ Try.func19 (by kernel_rfl) rfl #[.agg #[.slice A0_0 l0_0.length c0_0], .slice A1 y257.length c1] (by rfl) rfl rfl zr ?_
       with_reducible refine (impl_DoActs.calls k _ _ l0_0 _ _ y257 t261 t264 _ ?side1 ?side2 ?side3 ?side4 A9.out).mono ?_
       (case side1 => repeat (first | exact (Kd.C_below HR0_0.out HB.out) | (with_reducible refine Kd.C_alloc ?_ _) | (with_reducible refine Kd.C_drewN ?_ _) | (with_reducible refine Kd.C_drew ?_)))
       (case side2 => exact HC0_0.out)
       (case side3 => repeat (first | exact (Kd.C_below HR260.out HB.out) | (with_reducible refine Kd.C_alloc ?_ _) | (with_reducible refine Kd.C_drewN ?_ _) | (with_reducible refine Kd.C_drew ?_)))
       (case side4 => exact HC260.out)
       rintro e w29 ⟨v262, rfl, ho0, hb⟩
       refine ⟨_, rfl, ?_⟩
       have HO263 := am (Kd.R_lower ho0 (below_size (zb3 HB.out GE254.out GE255.out GE265.out)))
       replace BK254 := zk hb BK254
       replace BK255 := zk hb BK255
       replace BK265 := zk hb BK265
       replace HB := zs3 hb HB GE254 GE255 GE265
       refine hK.out _ _ (ct BK254.out 0) (fun hHeld => ?_)
       clear hK K
       refine znm 23 ?_
       refine zpu 5 18 #[true, true, true, true, true, true, false, false, true, false, false] HT_ ?_
       refine zpu 6 24 #[true, true, true, true, true, true, true, false, true, false, false] HT_ ?_
       refine zpu 7 25 #[true, true, true, true, true, true, true, true, true, false, false] HT_ ?_
       exact norm_ (by simp only [putAll, Act.put, List.setIfInBounds_toArray, List.set_cons_zero, List.set_cons_succ]) (hCont (v262, gb265) _ ⟨hHeld, (rx HO263.out), (kx BK254.out), (kx BK255.out), (kx BK265.out), GW265.out, GE265.out, NB254_265.out, NB265_254.out, NB255_265.out, NB265_255.out, (zb3 HB.out GE254.out GE255.out GE265.out)⟩)
     rintro ⟨v262, gb265⟩ w30 ⟨hS_, h0_, h1_, h2_, h3_, h4_, h5_, h6_, h7_, h8_, h9_, h10_⟩
     have n0_ : Aside0 (Kd.R k66 66 w30 w.heap.size (fun _ => True) v262 t261) := ⟨h0_⟩
     have n1_ : Aside0 (w30.heap[gb254]? = some (.cells #[.slice A0_0 l0_0.length c0_0] 31 (0, 0))) := ⟨h1_⟩
     have n2_ : Aside0 (w30.heap[gb255]? = some (.cells #[.slice none 0 0] 31 (0, 0))) := ⟨h2_⟩
     have n3_ : Aside0 (w30.heap[gb265]? = some (.cells #[.slice none 0 0] 31 (0, 0))) := ⟨h3_⟩
     have n4_ : Aside0 (w.heap.size ≤ gb265) := ⟨h4_⟩
     have n5_ : Aside0 (w.heap.size ≤ gb265) := ⟨h5_⟩
     have n6_ : Aside0 (gb254 ≠ gb265) := ⟨h6_⟩
     have n7_ : Aside0 (gb265 ≠ gb254) := ⟨h7_⟩
     have n8_ : Aside0 (gb255 ≠ gb265) := ⟨h8_⟩
     have n9_ : Aside0 (gb265 ≠ gb255) := ⟨h9_⟩
     have n10_ : Aside0 (Below w.heap.size w w30) := ⟨h10_⟩
     clear BK254 BK255 HB h0_ h1_ h2_ h3_ h4_ h5_ h6_ h7_ h8_ h9_ h10_
     have HO263 := n0_
     have BK254 := n1_
     have BK255 := n2_
     have BK265 := n3_
     have GW265 := n4_
     have GE265 := n5_
     have NB254_265 := n6_
     have NB265_254 := n7_
     have NB255_265 := n8_
     have NB265_255 := n9_
     have HB := n10_
     clear n0_ n1_ n2_ n3_ n4_ n5_ n6_ n7_ n8_ n9_ n10_
     have hHeld : w30.cell? ⟨gb254, 0, none⟩ = some (.slice A0_0 l0_0.length c0_0) := hS_
     obtain ⟨Ao31, co31, eo31⟩ := Kd.R_slice HO263.out
     (first | subst eo31 | (injection eo31 with f1_ f2_ f3_; have f4_ := f1_.symm; have f5_ := f3_.symm; clear f1_ f2_ f3_; subst f4_; subst f5_))
     refine norm_ (a' := ?_) ?_ ?_
     rotate_left
     ·simp only [putAll, Act.put, List.setIfInBounds_toArray, List.set_cons_zero, List.set_cons_succ]
      rfl
     refine zon 9 #[true, true, true, true, true, true, true, true, true, true, false] HT_ (fun K hK => ?_)
     have hs32 : w30.cell? ⟨gb265, 0, none⟩ = some (.slice none 0 0) := ct BK265.out 0
     have hfs32 := blk_frozen BK265.out 0
     have hns32_0 := NB254_265.out
     have hns32_1 := NB255_265.out
     have hms32_0 := NB265_254.out
     have hms32_1 := NB265_255.out
     refine skip_ (w1 := ?_) (by rfl) rfl ?_ ?_
     rotate_left
     ·go_simp
      rfl
     refine hK.out _ _ (((cell_far (p := ⟨gb265, _, none⟩) NB254_265.out _).trans (hHeld))) (fun hHeld => ?_)
     clear hK K
     refine zpu 10 11 #[true, true, true, true, true, true, true, true, true, true, true] HT_ ?_
     refine zdn HT_ ?_
     obtain ⟨hnb33, hnc33⟩ := zn2 NB265_254
     obtain ⟨hnb34, hnc34⟩ := zn2 NB265_255
     obtain ⟨hcz35_0, hfz35_0⟩ := zc1 BK265.out
     try go_wp2_with (first | ((with_reducible refine gate_callee (f := 55) rfl ?_); refine goesL_ (some 32) rfl rfl Try.func55 (by kernel_rfl) rfl #[.agg #[.slice Ao31 t261.length co31], .slice A3 l3.length c3] rfl zr ?_; (with_reducible refine (impl_LoseDisk.calls k _ _ t261 _ _ l3 t266 t269 _ ?side1 ?side2 ?side3 ?side4 A23.out).mono ?_); (case side1 => refine (Kd.R_reads' (e := 66) (base := w.heap.size) (ok := fun k_ => True) (n := t261.length) (c := co31) ?_).2.2; exact (rx ((Kd.R_mono (Kd.R_far (p := ⟨gb265, 0, none⟩) (Kd.R_types HO263.out BK265.out (by decide)) (fun _ hk => hk.2) (.slice Ao31 t261.length co31)) (fun _ h_ => h_.1))))); (case side2 => exact (Kd.R_reads' HO263.out).2.1); (case side3 => exact Kd.C_below HR3.out (zb3 HB.out GE254.out GE255.out GE265.out)); (case side4 => exact HC3.out); rintro e w36 ⟨v267, rfl, ho0, hb⟩; refine ⟨_, rfl, ?_⟩; have HO268 := am (Kd.R_lower (Kd.R_new' ho0 (Kd.R_lt (rx ((Kd.R_mono (Kd.R_far (p := ⟨gb265, 0, none⟩) (Kd.R_types HO263.out BK265.out (by decide)) (fun _ hk => hk.2) (.slice Ao31 t261.length co31)) (fun _ h_ => h_.1)))))) (below_size (zb3 HB.out GE254.out GE255.out GE265.out))); replace HO263 := am (Kd.R_elder' (rx ((Kd.R_mono (Kd.R_far (p := ⟨gb265, 0, none⟩) (Kd.R_types HO263.out BK265.out (by decide)) (fun _ hk => hk.2) (.slice Ao31 t261.length co31)) (fun _ h_ => h_.1)))) (Kd.R_base ho0) hb); replace BK254 := zh1 hb BK254 NB254_265; replace BK255 := zh1 hb BK255 NB255_265; replace BK265 := am (blk_below (g := gb265) (o := .cells #[.slice Ao31 t261.length co31] 31 (0, 0)) (by (with_reducible repeat (first | refine blk_drewN ?_ _ | refine blk_drew ?_ | refine blk_alloc ?_ _)); refine blk_put (cs := #[.slice none 0 0]) ?_ 0 _ rfl; (with_reducible repeat (first | refine blk_drewN ?_ _ | refine blk_drew ?_ | refine blk_alloc ?_ _)); exact BK265.out) hb); replace HB := zs3 hb HB GE254 GE255 GE265; clear hb ho0; obtain ⟨Ao37, co37, eo37⟩ := Kd.R_slice HO268.out; subst eo37; obtain ⟨hnb38, hnc38⟩ := zn2 NB255_254; obtain ⟨hcz39_0, hfz39_0⟩ := zc1 BK255.out))
     refine bodyPost_ret (results_ct rfl _ _ gb255 31 #[.slice Ao37 t266.length co37] (0, 0) _ rfl (by (with_reducible repeat (first | refine blk_drewN ?_ _ | refine blk_drew ?_ | refine blk_alloc ?_ _)); refine blk_put (cs := #[.slice none 0 0]) ?_ 0 _ rfl; (with_reducible repeat (first | refine blk_drewN ?_ _ | refine blk_drew ?_ | refine blk_alloc ?_ _)); exact BK255.out) Try.underlying31 rfl (by kernel_rfl)) rfl ?_
     exact ⟨_, by first | rfl | (simp [errW_none, errW_some] <;> rfl) | (simp [*, errW_none, errW_some] <;> rfl), rx (Kd.R_mono (Kd.R_far (p := ⟨gb255, 0, none⟩) (Kd.R_types HO268.out BK255.out (by decide)) (fun _ hk => hk.2) (.slice Ao37 t266.length co37)) (fun _ hk => trivial)), zb3 HB.out GE254.out GE255.out GE265.out⟩
   ·rw [if_neg c8] at H
    exact absurd H (by simp)
  ·rw [if_neg c7] at H
   exact absurd H (by simp)
 ·replace c6 := Bool.eq_false_iff.mpr c6
  subst c6
  have H1 : (some (([] : List (S66)), false)) = some (r1, r2) := by rw [if_neg (show ¬ (false = true) by decide)] at H; exact H
  clear H
  have H := H1
  clear H1
  simp only [Option.some.injEq, Prod.mk.injEq] at H
  obtain ⟨rfl, rfl⟩ := H
  go_enter Try.func26, Try.ntmps26
  go_wp2_with (first | ((with_reducible refine gate_dst (N := 4) rfl ?_); refine box_event rfl (N := 4) rfl (cs := #[.slice A0_0 l0_0.length c0_0]) (t := 31) zrun ?_; intro gb254 hg w40 hbox hb; have BK254 := am (hbox); have GW254 := zge hg (zb0 HB.out); have GE254 := zge hg (zb0 HB.out); replace HB := zs0 hb HB; clear hb hbox hg) | ((with_reducible refine gate_dst (N := 8) rfl ?_); refine box_event rfl (N := 8) rfl (cs := #[.slice none 0 0]) (t := 31) zrun ?_; intro gb255 hg w41 hbox hb; have BK255 := am (hbox); have GW255 := zge hg (zb1 HB.out GE254.out); have GE255 := zge hg (zb1 HB.out GE254.out); obtain ⟨NB254_255, NB255_254⟩ := zne hg BK254; replace BK254 := zk hb BK254; replace HB := zs1 hb HB GE254; clear hb hbox hg) | ((with_reducible refine gate_callee (f := 54) rfl ?_); refine goesL_ (some 15) rfl rfl Try.func54 (by kernel_rfl) rfl #[.int .i64 a2, .int .i64 0, .int .i64 (l1.length : Int)] rfl zr ?_; (with_reducible refine (impl_within.calls a2 0 (l1.length : Int) false _ A5.out).mono ?_); rintro e w' ⟨rfl, ⟨nd, rfl⟩⟩; refine ⟨_, rfl, ?_⟩; (try (rw [drewN_self w41]; generalize hq_ : World.drewN w41 _ = w41; have n0_ : Aside0 (w41.heap[gb254]? = some (.cells #[.slice A0_0 l0_0.length c0_0] 31 (0, 0))) := ⟨by rw [← hq_]; exact (kx BK254.out)⟩; have n1_ : Aside0 (w41.heap[gb255]? = some (.cells #[.slice none 0 0] 31 (0, 0))) := ⟨by rw [← hq_]; exact (kx BK255.out)⟩; have n2_ : Aside0 (Below w.heap.size w w41) := ⟨by rw [← hq_]; exact (zb2 HB.out GE254.out GE255.out)⟩; clear BK254 BK255 HB hq_; have BK254 := n0_; have BK255 := n1_; have HB := n2_; clear n0_ n1_ n2_)); obtain ⟨hnb42, hnc42⟩ := zn2 NB255_254; obtain ⟨hcz43_0, hfz43_0⟩ := zc1 BK255.out))
  refine bodyPost_ret (results_ct rfl _ _ gb255 31 #[.slice none 0 0] (0, 0) _ rfl (by (with_reducible repeat (first | refine blk_drewN ?_ _ | refine blk_drew ?_ | refine blk_alloc ?_ _)); refine blk_put (cs := #[.slice none 0 0]) ?_ 0 _ rfl; (with_reducible repeat (first | refine blk_drewN ?_ _ | refine blk_drew ?_ | refine blk_alloc ?_ _)); exact BK255.out) Try.underlying31 rfl (by kernel_rfl)) rfl ?_
  exact ⟨_, by first | rfl | (simp [errW_none, errW_some] <;> rfl) | (simp [*, errW_none, errW_some] <;> rfl), by first | exact Kd.R_nil _ _ _ _ _ | exact Kd.N_nil _ _ _ _ _ | exact Kd.V_nil _ _ _ _ _ | exact Kd.Q_nil _ _ _ _ _ | exact Kd.S_nil _ _ _ _ _, zb2 HB.out GE254.out GE255.out⟩

/-! ### spec_l01In: function 56 -/
def spec_l01In.f (a0 : Int) (a1 : Int) (a2 : Int) : Option (Bool) := if a0 ≥ a1 then (some (decide (a0 ≤ a2))) else (some false)
set_option maxHeartbeats 8000000 in
set_option maxRecDepth 100000 in
theorem spec_l01In.calls (a0 : Int) (a1 : Int) (a2 : Int) (r : Bool) (w : World) (h : spec_l01In.f a0 a1 a2 = some r) :
  Calls Try.prog 56 #[.int .i64 a0, .int .i64 a1, .int .i64 a2] w fun e w' => e = .returned (.bool r) ∧ Drawn0 w w' := by
 have H : (if a0 ≥ a1 then (some (decide (a0 ≤ a2))) else (some false)) = some r := h
 clear h
 by_cases c4 : a0 ≥ a1
 ·rw [if_pos c4] at H
  have c4b0 : decide (a1 ≤ a0) = true := decide_eq_true c4
  have c4b1 : decide (a0 < a1) = false := decide_eq_false (by omega)
  clear c4
  obtain rfl := Option.some.inj H
  go_enter Try.func56, Try.ntmps56
  go_wp2
  go_ret
  exact ⟨by first | rfl | (simp; done) | (simp [*]; done), by repeat (first | exact Drawn0.refl _ | apply Drawn0.step)⟩
 ·rw [if_neg c4] at H
  have c4b0 : decide (a1 ≤ a0) = false := decide_eq_false c4
  have c4b1 : decide (a0 < a1) = true := decide_eq_true (by omega)
  clear c4
  obtain rfl := Option.some.inj H
  go_enter Try.func56, Try.ntmps56
  go_wp2
  go_ret
  exact ⟨by first | rfl | (simp; done) | (simp [*]; done), by repeat (first | exact Drawn0.refl _ | apply Drawn0.step)⟩

/-! ### spec_l03Name: function 33 -/
def spec_l03Name.f (a0 : ByteArray) : Option (Bool) := (spec_l01In.f (a0.size : Int) 1 8).bind fun t270 => (some t270)
set_option maxHeartbeats 8000000 in
set_option maxRecDepth 100000 in
theorem spec_l03Name.calls (a0 : ByteArray) (r : Bool) (w : World) (h : spec_l03Name.f a0 = some r) :
  Calls Try.prog 33 #[.string a0] w fun e w' => e = .returned (.bool r) ∧ Drawn0 w w' := by
 have H : ((spec_l01In.f (a0.size : Int) 1 8).bind fun t270 => (some t270)) = some r := h
 clear h
 replace H := Option.bind_eq_some_iff.mp H
 obtain ⟨t270, A20, H⟩ := H
 try dsimp only at H
 have A2 := Aside0.mk A20
 clear A20
 obtain rfl := Option.some.inj H
 go_enter Try.func33, Try.ntmps33
 go_wp2_with (first | ((with_reducible refine gate_callee (f := 56) rfl ?_); refine goesL_ (some 5) rfl rfl Try.func56 (by kernel_rfl) rfl #[.int .i64 (a0.size : Int), .int .i64 1, .int .i64 8] rfl zr ?_; (with_reducible refine (spec_l01In.calls (a0.size : Int) 1 8 t270 _ A2.out).mono ?_); rintro e w' ⟨rfl, ⟨nd, rfl⟩⟩; refine ⟨_, rfl, ?_⟩))
 go_ret
 exact ⟨by first | rfl | (simp; done) | (simp [*]; done), by repeat (first | exact Drawn0.refl _ | apply Drawn0.step)⟩

end Go.Proofs.Ytklbkkoojkmjbaa.QFnExactCutActs
