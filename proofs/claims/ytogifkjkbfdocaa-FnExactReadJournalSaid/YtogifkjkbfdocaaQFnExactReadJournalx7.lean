/- Written by the kit's print.py, called by our own print2.sh with one import more; not by print.sh. -/
import Derived.Test.YtogifkjkbfdocaaQFnExactReadJournalx0
import Derived.Test.YtogifkjkbfdocaaQFnExactReadJournalx1
import Derived.Test.YtogifkjkbfdocaaQFnExactReadJournalx4
import Derived.Test.YtogifkjkbfdocaaQFnExactReadJournalx6
namespace Go.Proofs.Ytogifkjkbfdocaa.QFnExactReadJournal
open Go.RowKit Go.Proofs.YtogifkjkbfdocaaW.PrintWords Go.Proofs.YtogifkjkbfdocaaW.PrintLast Go.Proofs.YtogifkjkbfdocaaW.PrintMore
attribute [local go_sem] max2_int min2_int max_two min_two max_three min_three max_four min_four   -- for this text's walks alone
open Go.Proofs.Ytogifkjkbfdocaa.Short
set_option linter.unusedVariables false
set_option linter.unusedSimpArgs false

/-! ### spec_LogPut: function 30 -/
def spec_LogPut.j0 : Nat → Int → Bool → Int → Int → List (S56) → Int → Int → ByteArray → Option (Int × Int × (List (S56)) × Bool)
 | 0, _, _, _, _, _, _, _, _ => none
 | k + 1, x1, x22, x180000, x180001, x180002, x181000, x181001, x181002 => if x22 = true then (some (0, 0, ([] : List (S56)), false)) else ((some (([] : List (S56)) : List (S56))).bind fun y185 => (if 0 ≤ (wrap64 ((wrap64 (x1 - x180000)) - 1)) then (if (wrap64 ((wrap64 (x1 - x180000)) - 1)) ≤ (x180002.length : Int) then ((some (x180002.take ((wrap64 ((wrap64 (x1 - x180000)) - 1)) : Int).toNat : List (S56))).bind fun y188 => (if y185.length + y188.length < 4398046511104 then ((some (y185 ++ y188 : List (S56))).bind fun y192 => ((some (([(⟨x181000, x181001, x181002⟩ : S56)] : List (S56)) : List (S56))).bind fun y195 => (if y192.length + y195.length < 4398046511104 then ((some (y192 ++ y195 : List (S56))).bind fun y198 => ((spec_LogOk.f k x180000 x180001 y198).bind fun t202 => (if t202 = true then (some (x180000, x180001, y198, true)) else (some (0, 0, ([] : List (S56)), false))))) else (none)))) else (none))) else (none)) else (none)))
def spec_LogPut.f (k : Nat) (a0_0 : Int) (a0_1 : Int) (l0_2 : List (S56)) (a1 : Int) (a2_0 : Int) (a2_1 : Int) (a2_2 : ByteArray) : Option (Int × Int × (List (S56)) × Bool) := (spec_LogOk.f k a0_0 a0_1 l0_2).bind fun t182 => (if t182 = true then ((spec_l06Last.f a0_0 a0_1 l0_2).bind fun t183 => ((spec_l01In.f a1 (wrap64 (a0_0 + 1)) (wrap64 (t183 + 1))).bind fun t184 => (spec_LogPut.j0 k a1 (!t184) a0_0 a0_1 l0_2 a2_0 a2_1 a2_2))) else (spec_LogPut.j0 k a1 true a0_0 a0_1 l0_2 a2_0 a2_1 a2_2))
theorem spec_LogPut.mono_l : ∀ k, (∀ y0 y1 y2 y3 y4 y5 y6 y7, LeO (spec_LogPut.j0 k y0 y1 y2 y3 y4 y5 y6 y7) (spec_LogPut.j0 (k + 1) y0 y1 y2 y3 y4 y5 y6 y7))
 | 0 => fun _ _ _ _ _ _ _ _ r h => by simp [spec_LogPut.j0] at h
 | k + 1 => by
  have ih0 := spec_LogPut.mono_l k
  ·intro y0 y1 y2 y3 y4 y5 y6 y7
   unfold spec_LogPut.j0
   repeat' first
   | (with_reducible exact ih0 _ _ _ _ _ _ _ _)
   | (with_reducible exact spec_LogOk.mono _ _ _ _)
   | (with_reducible exact LeO.refl _)
   | (with_reducible exact LeO.none _)
   | (with_reducible refine LeO.ite ?_ ?_)
   | (with_reducible refine LeO.bind ?_ (fun _ => ?_))
   | exact ih0 _ _ _ _ _ _ _ _
   | exact spec_LogOk.mono _ _ _ _
   | exact LeO.none _
   | refine LeO.ite ?_ ?_
   | refine LeO.bind ?_ (fun _ => ?_)
theorem spec_LogPut.mono : ∀ a0 a1 a2 a3 a4 a5 a6 k, LeO (spec_LogPut.f k a0 a1 a2 a3 a4 a5 a6) (spec_LogPut.f (k + 1) a0 a1 a2 a3 a4 a5 a6) := by
 intro a0 a1 a2 a3 a4 a5 a6 k
 have ih0 := spec_LogPut.mono_l k
 unfold spec_LogPut.f
 repeat' first
   | (with_reducible exact ih0 _ _ _ _ _ _ _ _)
   | (with_reducible exact spec_LogOk.mono _ _ _ _)
   | (with_reducible exact LeO.refl _)
   | (with_reducible exact LeO.none _)
   | (with_reducible refine LeO.ite ?_ ?_)
   | (with_reducible refine LeO.bind ?_ (fun _ => ?_))
   | exact ih0 _ _ _ _ _ _ _ _
   | exact spec_LogOk.mono _ _ _ _
   | exact LeO.none _
   | refine LeO.ite ?_ ?_
   | refine LeO.bind ?_ (fun _ => ?_)
def spec_LogPut.T1 : Bool × List (List Nat × List Nat) := (true, [([], []), ([0], [0]), ([1], [1]), ([2, 1], [2]), ([3], [3]), ([3], [3]), ([5, 3], [3, 5]), ([6, 3], [3, 6]), ([3], [3]), ([8, 3, 3], [3, 8]), ([9, 3], [3, 9]), ([4, 7, 10, 9, 3], [3, 4, 7, 10]), ([11, 3], [3, 11]), ([3, 12], [3, 12])])
def spec_LogPut.B1 : List Nat := [0, 1, 3, 7, 15, 15, 47, 111, 15, 271, 783, 2047, 4095, 8191]
theorem spec_LogPut.tab1 : rtab .any (opsOf Try.f30 1) = spec_LogPut.T1 := by kernel_rfl
theorem spec_LogPut.bits1 : waitsOk spec_LogPut.T1.2 spec_LogPut.B1 = true := by kernel_rfl
def spec_LogPut.T3 : Bool × List (List Nat × List Nat) := (true, [([], []), ([0], [0]), ([], []), ([2], [2]), ([], []), ([], []), ([5], [5]), ([], []), ([], []), ([8], [8]), ([7, 9], [7, 9]), ([10], [10]), ([6, 11], [6, 11]), ([4, 12], [4, 12]), ([], []), ([14], [14]), ([13, 15, 13], [13, 15]), ([1, 3, 16], [1, 3, 16]), ([], []), ([18, 17, 16, 0, 1, 2, 3, 4, 5, 6, 7, 8, 9, 10, 11, 12, 13, 14, 15, 16, 17, 18], [17, 18])])
def spec_LogPut.B3 : List Nat := [0, 1, 0, 4, 0, 0, 32, 0, 0, 256, 896, 1920, 4064, 8176, 0, 16384, 65520, 131071, 0, 524287]
theorem spec_LogPut.tab3 : rtab .any (opsOf Try.f30 3) = spec_LogPut.T3 := by kernel_rfl
theorem spec_LogPut.bits3 : waitsOk spec_LogPut.T3.2 spec_LogPut.B3 = true := by kernel_rfl
set_option maxHeartbeats 8000000 in
set_option maxRecDepth 100000 in
theorem spec_LogPut.calls (k : Nat) (a0_0 : Int) (a0_1 : Int) (A0_2 : Option Addr) (c0_2 : Nat) (l0_2 : List (S56)) (a1 : Int) (a2_0 : Int) (a2_1 : Int) (a2_2 : ByteArray) (r1 : Int) (r2 : Int) (r3 : List (S56)) (r4 : Bool) (w : World) (hr0_2 : Kd.C k56 w A0_2 l0_2.length l0_2) (hc0_2 : l0_2.length ≤ c0_2) (h : spec_LogPut.f k a0_0 a0_1 l0_2 a1 a2_0 a2_1 a2_2 = some (r1, r2, r3, r4)) :
  Calls Try.prog 30 #[.agg #[.int .i64 a0_0, .int .i64 a0_1, .slice A0_2 l0_2.length c0_2], .int .i64 a1, .agg #[.int .i64 a2_0, .int .i64 a2_1, .string a2_2]] w fun e w' => ∃ v2_ : Value, e = .returned (.tuple #[.agg #[.int .i64 r1, .int .i64 r2, v2_], .bool r4]) ∧ Kd.R k56 56 w' w.heap.size (fun _ => True) v2_ r3 ∧ Below w.heap.size w w' := by
 have hu24 := Try.underlying24
 have hu56 := Try.underlying56
 have HR0_2 := Aside0.mk hr0_2
 have HC0_2 := Aside0.mk hc0_2
 clear hr0_2 hc0_2
 have HB := Aside0.mk (Below.refl w.heap.size w)
 have H : ((spec_LogOk.f k a0_0 a0_1 l0_2).bind fun t182 => (if t182 = true then ((spec_l06Last.f a0_0 a0_1 l0_2).bind fun t183 => ((spec_l01In.f a1 (wrap64 (a0_0 + 1)) (wrap64 (t183 + 1))).bind fun t184 => (spec_LogPut.j0 k a1 (!t184) a0_0 a0_1 l0_2 a2_0 a2_1 a2_2))) else (spec_LogPut.j0 k a1 true a0_0 a0_1 l0_2 a2_0 a2_1 a2_2))) = some (r1, r2, r3, r4) := h
 clear h
 have HC4 := Aside0.mk H
 clear H
 go_enter Try.func30, Try.ntmps30
 go_upto_region 1 with (first | ((with_reducible refine gate_dst (N := 3) rfl ?_); refine box_event rfl (N := 3) rfl (cs := #[.int .i64 a0_0, .int .i64 a0_1, .slice A0_2 l0_2.length c0_2]) (t := 24) zrun ?_; intro gb179 hg w5 hbox hb; have BK179 := am (hbox); have GE179 := zge hg (zb0 HB.out); replace HB := zs0 hb HB; clear hb hbox hg) | ((with_reducible refine gate_dst (N := 5) rfl ?_); refine box_event rfl (N := 5) rfl (cs := #[.int .i64 a2_0, .int .i64 a2_1, .string a2_2]) (t := 56) zrun ?_; intro gb180 hg w6 hbox hb; have BK180 := am (hbox); have GE180 := zge hg (zb1 HB.out GE179.out); obtain ⟨NB179_180, NB180_179⟩ := zne hg BK179; replace BK179 := zk hb BK179; replace HB := zs1 hb HB GE179; clear hb hbox hg) | ((with_reducible refine gate_dst (N := 6) rfl ?_); refine box_event rfl (N := 6) rfl (cs := #[.int .i64 0, .int .i64 0, .slice none 0 0]) (t := 24) zrun ?_; intro gb181 hg w7 hbox hb; have BK181 := am (hbox); have GE181 := zge hg (zb2 HB.out GE179.out GE180.out); obtain ⟨NB179_181, NB181_179⟩ := zne hg BK179; obtain ⟨NB180_181, NB181_180⟩ := zne hg BK180; replace BK179 := zk hb BK179; replace BK180 := zk hb BK180; replace HB := zs2 hb HB GE179 GE180; clear hb hbox hg))
 (try simp only [Act.put, List.setIfInBounds_toArray, List.set_cons_zero, List.set_cons_succ])
 go_cut [22] (fun v22 wc => ∃ (kq : Nat) (x22_3 : Bool), v22 = .bool x22_3 ∧ Aside0 (spec_LogPut.j0 kq a1 x22_3 a0_0 a0_1 l0_2 a2_0 a2_1 a2_2 = some (r1, r2, r3, r4)) ∧ Aside0 (kq ≤ k) ∧ Aside0 (wc.heap[gb179]? = some (.cells #[.int .i64 a0_0, .int .i64 a0_1, (.slice A0_2 l0_2.length c0_2)] 24 (0, 0))) ∧ Aside0 (wc.heap[gb180]? = some (.cells #[.int .i64 a2_0, .int .i64 a2_1, .string a2_2] 56 (0, 0))) ∧ Aside0 (wc.heap[gb181]? = some (.cells #[.int .i64 0, .int .i64 0, (.slice none 0 0)] 24 (0, 0))) ∧ Aside0 (Below w.heap.size w wc))
 case first =>
  have H := HC4.out
  clear HC4
  replace H := Option.bind_eq_some_iff.mp H
  obtain ⟨t182, A80, H⟩ := H
  try dsimp only at H
  have A8 := Aside0.mk A80
  clear A80
  by_cases c9 : t182 = true
  ·subst c9
   have H1 : ((spec_l06Last.f a0_0 a0_1 l0_2).bind fun t183 => ((spec_l01In.f a1 (wrap64 (a0_0 + 1)) (wrap64 (t183 + 1))).bind fun t184 => (spec_LogPut.j0 k a1 (!t184) a0_0 a0_1 l0_2 a2_0 a2_1 a2_2))) = some (r1, r2, r3, r4) := by rw [if_pos rfl] at H; exact H
   clear H
   have H := H1
   clear H1
   replace H := Option.bind_eq_some_iff.mp H
   obtain ⟨t183, A100, H⟩ := H
   try dsimp only at H
   have A10 := Aside0.mk A100
   clear A100
   replace H := Option.bind_eq_some_iff.mp H
   obtain ⟨t184, A110, H⟩ := H
   try dsimp only at H
   have A11 := Aside0.mk A110
   clear A110
   have H' := Aside0.mk H
   clear H
   try go_wp2
   replace BK179 := am (blk_drew BK179.out)
   replace BK180 := am (blk_drew BK180.out)
   replace BK181 := am (blk_drew BK181.out)
   replace HB := am (below_drew1 HB.out)
   refine start_ (n := 14) (S := fun w' => w'.cell? ⟨gb179, 0, none⟩ = some (.int .i64 a0_0) ∧ w'.cell? ⟨gb179, 1, none⟩ = some (.int .i64 a0_1) ∧ w'.cell? ⟨gb179, 2, none⟩ = some (.slice A0_2 l0_2.length c0_2)) (ds := []) #[false, false, false, false, false, false, false, false, false, false, false, false, false, false] (by kernel_rfl) rfl rfl ⟨ct BK179.out 0, ct BK179.out 1, ct BK179.out 2⟩ (fun hHeld => ?_); refine with_tabW spec_LogPut.tab1 spec_LogPut.bits1 (fun HT_ HW_ => ?_)
   generalize w7.drew = w12 at BK179 BK180 BK181 HB hHeld ⊢
   refine ztk3 0 9 #[true, false, false, false, false, false, false, false, false, false, false, false, false, false] HT_ HW_ hHeld ?_
   refine zon 1 #[true, true, false, false, false, false, false, false, false, false, false, false, false, false] HT_ (fun K hK => ?_)
   refine goes_ Try.func12 (by kernel_rfl) rfl #[.agg #[.int .i64 a0_0, .int .i64 a0_1, .slice A0_2 l0_2.length c0_2]] (by rfl) rfl rfl zr ?_
   with_reducible refine (spec_LogOk.calls k a0_0 a0_1 _ _ l0_2 true _ ?side1 ?side2 A8.out).mono ?_
   (case side1 => repeat (first | exact (Kd.C_below HR0_2.out HB.out) | (with_reducible refine Kd.C_alloc ?_ _) | (with_reducible refine Kd.C_drewN ?_ _) | (with_reducible refine Kd.C_drew ?_)))
   (case side2 => exact HC0_2.out)
   rintro e w13 ⟨rfl, hb⟩
   refine ⟨_, rfl, ?_⟩
   replace BK179 := zk hb BK179
   replace BK180 := zk hb BK180
   replace BK181 := zk hb BK181
   replace HB := zs3 hb HB GE179 GE180 GE181
   refine hK.out _ _ ⟨ct BK179.out 0, ct BK179.out 1, ct BK179.out 2⟩ (fun hHeld => ?_)
   clear hK K
   refine znm 10 ?_
   refine zpu 2 11 #[true, true, true, false, false, false, false, false, false, false, false, false, false, false] HT_ ?_
   refine zpu 3 12 #[true, true, true, true, false, false, false, false, false, false, false, false, false, false] HT_ ?_
   refine zpu 4 13 #[true, true, true, true, true, false, false, false, false, false, false, false, false, false] HT_ ?_
   refine zpu 5 14 #[true, true, true, true, true, true, false, false, false, false, false, false, false, false] HT_ ?_
   refine ztk3 6 15 #[true, true, true, true, true, true, true, false, false, false, false, false, false, false] HT_ HW_ hHeld ?_
   refine zpu 7 16 #[true, true, true, true, true, true, true, true, false, false, false, false, false, false] HT_ ?_
   refine ztk3 8 17 #[true, true, true, true, true, true, true, true, true, false, false, false, false, false] HT_ HW_ hHeld ?_
   refine zon 9 #[true, true, true, true, true, true, true, true, true, true, false, false, false, false] HT_ (fun K hK => ?_)
   refine goes_ Try.func50 (by kernel_rfl) rfl #[.agg #[.int .i64 a0_0, .int .i64 a0_1, .slice A0_2 l0_2.length c0_2]] (by rfl) rfl rfl zr ?_
   with_reducible refine (spec_l06Last.calls a0_0 a0_1 _ _ l0_2 t183 _ ?side1 ?side2 A10.out).mono ?_
   (case side1 => repeat (first | exact (Kd.C_below HR0_2.out HB.out) | (with_reducible refine Kd.C_alloc ?_ _) | (with_reducible refine Kd.C_drewN ?_ _) | (with_reducible refine Kd.C_drew ?_)))
   (case side2 => exact HC0_2.out)
   rintro e w14 ⟨rfl, hb⟩
   refine ⟨_, rfl, ?_⟩
   replace BK179 := zk hb BK179
   replace BK180 := zk hb BK180
   replace BK181 := zk hb BK181
   replace HB := zs3 hb HB GE179 GE180 GE181
   refine hK.out _ _ ⟨ct BK179.out 0, ct BK179.out 1, ct BK179.out 2⟩ (fun hHeld => ?_)
   clear hK K
   refine znm 18 ?_
   refine zpu 10 19 #[true, true, true, true, true, true, true, true, true, true, true, false, false, false] HT_ ?_
   refine zon 11 #[true, true, true, true, true, true, true, true, true, true, true, true, false, false] HT_ (fun K hK => ?_)
   refine goes_ Try.func10 (by kernel_rfl) rfl #[.int .i64 a1, .int .i64 (wrap64 (a0_0 + 1)), .int .i64 (wrap64 (t183 + 1))] (by rfl) rfl rfl zr ?_
   with_reducible refine (spec_l01In.calls a1 (wrap64 (a0_0 + 1)) (wrap64 (t183 + 1)) t184 _ A11.out).mono ?_
   rintro e w' ⟨rfl, ⟨nd, rfl⟩⟩
   refine ⟨_, rfl, ?_⟩
   refine hK.out _ _ ⟨ct BK179.out 0, ct BK179.out 1, ct BK179.out 2⟩ (fun hHeld => ?_)
   clear hK K
   refine znm 20 ?_
   refine zpu 12 21 #[true, true, true, true, true, true, true, true, true, true, true, true, true, false] HT_ ?_
   refine zpu 13 22 #[true, true, true, true, true, true, true, true, true, true, true, true, true, true] HT_ ?_
   refine zdn HT_ ?_
   try go_wp2
   go_meet
   case rel => exact ⟨_, (!t184), (by first | rfl | (simp; done) | (simp [*]; done)), H', ⟨by first | omega | exact Nat.le_refl _⟩, ⟨kx BK179.out⟩, ⟨kx BK180.out⟩, ⟨kx BK181.out⟩, ⟨zb3 HB.out GE179.out GE180.out GE181.out⟩⟩
  ·replace c9 := Bool.eq_false_iff.mpr c9
   subst c9
   have H1 : (spec_LogPut.j0 k a1 true a0_0 a0_1 l0_2 a2_0 a2_1 a2_2) = some (r1, r2, r3, r4) := by rw [if_neg (show ¬ (false = true) by decide)] at H; exact H
   clear H
   have H := H1
   clear H1
   have H' := Aside0.mk H
   clear H
   try go_wp2
   replace BK179 := am (blk_drew BK179.out)
   replace BK180 := am (blk_drew BK180.out)
   replace BK181 := am (blk_drew BK181.out)
   replace HB := am (below_drew1 HB.out)
   refine start_ (n := 14) (S := fun w' => w'.cell? ⟨gb179, 0, none⟩ = some (.int .i64 a0_0) ∧ w'.cell? ⟨gb179, 1, none⟩ = some (.int .i64 a0_1) ∧ w'.cell? ⟨gb179, 2, none⟩ = some (.slice A0_2 l0_2.length c0_2)) (ds := []) #[false, false, false, false, false, false, false, false, false, false, false, false, false, false] (by kernel_rfl) rfl rfl ⟨ct BK179.out 0, ct BK179.out 1, ct BK179.out 2⟩ (fun hHeld => ?_); refine with_tabW spec_LogPut.tab1 spec_LogPut.bits1 (fun HT_ HW_ => ?_)
   generalize w7.drew = w15 at BK179 BK180 BK181 HB hHeld ⊢
   refine ztk3 0 9 #[true, false, false, false, false, false, false, false, false, false, false, false, false, false] HT_ HW_ hHeld ?_
   refine zon 1 #[true, true, false, false, false, false, false, false, false, false, false, false, false, false] HT_ (fun K hK => ?_)
   refine goes_ Try.func12 (by kernel_rfl) rfl #[.agg #[.int .i64 a0_0, .int .i64 a0_1, .slice A0_2 l0_2.length c0_2]] (by rfl) rfl rfl zr ?_
   with_reducible refine (spec_LogOk.calls k a0_0 a0_1 _ _ l0_2 false _ ?side1 ?side2 A8.out).mono ?_
   (case side1 => repeat (first | exact (Kd.C_below HR0_2.out HB.out) | (with_reducible refine Kd.C_alloc ?_ _) | (with_reducible refine Kd.C_drewN ?_ _) | (with_reducible refine Kd.C_drew ?_)))
   (case side2 => exact HC0_2.out)
   rintro e w16 ⟨rfl, hb⟩
   refine ⟨_, rfl, ?_⟩
   replace BK179 := zk hb BK179
   replace BK180 := zk hb BK180
   replace BK181 := zk hb BK181
   replace HB := zs3 hb HB GE179 GE180 GE181
   refine hK.out _ _ ⟨ct BK179.out 0, ct BK179.out 1, ct BK179.out 2⟩ (fun hHeld => ?_)
   clear hK K
   refine znm 10 ?_
   refine zpu 2 11 #[true, true, true, false, false, false, false, false, false, false, false, false, false, false] HT_ ?_
   refine zpu 3 12 #[true, true, true, true, false, false, false, false, false, false, false, false, false, false] HT_ ?_
   refine pure_ (i := 4) (N := some 13) (v := undef) (a' := ?_) #[true, true, true, true, true, false, false, false, false, false, false, false, false, false] rfl rfl (any_of HT_.out (by kernel_rfl)) (fun _ _ _ h => h) (Or.inr ⟨by rfl, rfl⟩) ?_ ?_
   rotate_left
   ·simp only [Act.put, List.setIfInBounds_toArray, List.set_cons_zero, List.set_cons_succ, i64_w, i32_w]
    rfl
   refine pure_ (i := 5) (N := some 14) (v := undef) (a' := ?_) #[true, true, true, true, true, true, false, false, false, false, false, false, false, false] rfl rfl (any_of HT_.out (by kernel_rfl)) (fun _ _ _ h => h) (Or.inr ⟨by rfl, rfl⟩) ?_ ?_
   rotate_left
   ·simp only [Act.put, List.setIfInBounds_toArray, List.set_cons_zero, List.set_cons_succ, i64_w, i32_w]
    rfl
   refine pure_ (i := 6) (N := some 15) (v := undef) (a' := ?_) #[true, true, true, true, true, true, true, false, false, false, false, false, false, false] rfl rfl (any_of HT_.out (by kernel_rfl)) (fun _ _ _ h => h) (Or.inr ⟨by rfl, rfl⟩) ?_ ?_
   rotate_left
   ·simp only [Act.put, List.setIfInBounds_toArray, List.set_cons_zero, List.set_cons_succ, i64_w, i32_w]
    rfl
   refine pure_ (i := 7) (N := some 16) (v := undef) (a' := ?_) #[true, true, true, true, true, true, true, true, false, false, false, false, false, false] rfl rfl (any_of HT_.out (by kernel_rfl)) (fun _ _ _ h => h) (Or.inr ⟨by rfl, rfl⟩) ?_ ?_
   rotate_left
   ·simp only [Act.put, List.setIfInBounds_toArray, List.set_cons_zero, List.set_cons_succ, i64_w, i32_w]
    rfl
   refine pure_ (i := 8) (N := some 17) (v := undef) (a' := ?_) #[true, true, true, true, true, true, true, true, true, false, false, false, false, false] rfl rfl (any_of HT_.out (by kernel_rfl)) (fun _ _ _ h => h) (Or.inr ⟨by rfl, rfl⟩) ?_ ?_
   rotate_left
   ·simp only [Act.put, List.setIfInBounds_toArray, List.set_cons_zero, List.set_cons_succ, i64_w, i32_w]
    rfl
   refine pure_ (i := 9) (N := some 18) (v := undef) (a' := ?_) #[true, true, true, true, true, true, true, true, true, true, false, false, false, false] rfl rfl (any_of HT_.out (by kernel_rfl)) (fun _ _ _ h => h) (Or.inr ⟨by rfl, rfl⟩) ?_ ?_
   rotate_left
   ·simp only [Act.put, List.setIfInBounds_toArray, List.set_cons_zero, List.set_cons_succ, i64_w, i32_w]
    rfl
   refine pure_ (i := 10) (N := some 19) (v := undef) (a' := ?_) #[true, true, true, true, true, true, true, true, true, true, true, false, false, false] rfl rfl (any_of HT_.out (by kernel_rfl)) (fun _ _ _ h => h) (Or.inr ⟨by rfl, rfl⟩) ?_ ?_
   rotate_left
   ·simp only [Act.put, List.setIfInBounds_toArray, List.set_cons_zero, List.set_cons_succ, i64_w, i32_w]
    rfl
   refine pure_ (i := 11) (N := some 20) (v := undef) (a' := ?_) #[true, true, true, true, true, true, true, true, true, true, true, true, false, false] rfl rfl (any_of HT_.out (by kernel_rfl)) (fun _ _ _ h => h) (Or.inr ⟨by rfl, rfl⟩) ?_ ?_
   rotate_left
   ·simp only [Act.put, List.setIfInBounds_toArray, List.set_cons_zero, List.set_cons_succ, i64_w, i32_w]
    rfl
   refine pure_ (i := 12) (N := some 21) (v := undef) (a' := ?_) #[true, true, true, true, true, true, true, true, true, true, true, true, true, false] rfl rfl (any_of HT_.out (by kernel_rfl)) (fun _ _ _ h => h) (Or.inr ⟨by rfl, rfl⟩) ?_ ?_
   rotate_left
   ·simp only [Act.put, List.setIfInBounds_toArray, List.set_cons_zero, List.set_cons_succ, i64_w, i32_w]
    rfl
   refine zpu 13 22 #[true, true, true, true, true, true, true, true, true, true, true, true, true, true] HT_ ?_
   refine zdn HT_ ?_
   try go_wp2
   go_meet
   case rel => exact ⟨_, (true), (by first | rfl | (simp; done) | (simp [*]; done)), H', ⟨by first | omega | exact Nat.le_refl _⟩, ⟨kx BK179.out⟩, ⟨kx BK180.out⟩, ⟨kx BK181.out⟩, ⟨zb3 HB.out GE179.out GE180.out GE181.out⟩⟩
 case rest =>
  clear HC4
  obtain ⟨kq, x22_3, rfl, HA, HJ3, BK179, BK180, BK181, HB⟩ := hcut
  cases kq with
  | zero => exact absurd HA.out (by simp [spec_LogPut.j0])
  | succ kj3 =>
   have H := HA.out
   clear HA
   simp only [spec_LogPut.j0] at H
   by_cases c17 : x22_3 = true
   ·subst c17
    have H1 : (some (0, 0, ([] : List (S56)), false)) = some (r1, r2, r3, r4) := by rw [if_pos rfl] at H; exact H
    clear H
    have H := H1
    clear H1
    simp only [Option.some.injEq, Prod.mk.injEq] at H
    obtain ⟨rfl, rfl, rfl, rfl⟩ := H
    obtain ⟨hnb18, hnc18⟩ := zn2 NB181_179
    obtain ⟨hnb19, hnc19⟩ := zn2 NB181_180
    obtain ⟨hcz20_0, hcz20_1, hcz20_2, hfz20_0, hfz20_1, hfz20_2⟩ := zc3 BK181.out
    go_wp2
    refine bodyPost_ret (results_ct rfl _ _ gb181 24 #[.int .i64 0, .int .i64 0, .slice none 0 0] (0, 0) _ rfl (by (with_reducible repeat (first | refine blk_drewN ?_ _ | refine blk_drew ?_ | refine blk_alloc ?_ _)); refine blk_put (cs := #[.int .i64 0, .int .i64 0, .slice none 0 0]) ?_ 2 _ rfl; (with_reducible repeat (first | refine blk_drewN ?_ _ | refine blk_drew ?_ | refine blk_alloc ?_ _)); refine blk_put (cs := #[.int .i64 0, .int .i64 0, .slice none 0 0]) ?_ 1 _ rfl; (with_reducible repeat (first | refine blk_drewN ?_ _ | refine blk_drew ?_ | refine blk_alloc ?_ _)); refine blk_put (cs := #[.int .i64 0, .int .i64 0, .slice none 0 0]) ?_ 0 _ rfl; (with_reducible repeat (first | refine blk_drewN ?_ _ | refine blk_drew ?_ | refine blk_alloc ?_ _)); exact BK181.out) Try.underlying24 rfl (by kernel_rfl)) rfl ?_
    exact ⟨_, by first | rfl | (simp [errW_none, errW_some] <;> rfl) | (simp [*, errW_none, errW_some] <;> rfl), by first | exact Kd.R_nil _ _ _ _ _ | exact Kd.N_nil _ _ _ _ _ | exact Kd.V_nil _ _ _ _ _ | exact Kd.Q_nil _ _ _ _ _ | exact Kd.S_nil _ _ _ _ _, zb3 HB.out GE179.out GE180.out GE181.out⟩
   ·replace c17 := Bool.eq_false_iff.mpr c17
    subst c17
    have H1 : ((some (([] : List (S56)) : List (S56))).bind fun y185 => (if 0 ≤ (wrap64 ((wrap64 (a1 - a0_0)) - 1)) then (if (wrap64 ((wrap64 (a1 - a0_0)) - 1)) ≤ (l0_2.length : Int) then ((some (l0_2.take ((wrap64 ((wrap64 (a1 - a0_0)) - 1)) : Int).toNat : List (S56))).bind fun y188 => (if y185.length + y188.length < 4398046511104 then ((some (y185 ++ y188 : List (S56))).bind fun y192 => ((some (([(⟨a2_0, a2_1, a2_2⟩ : S56)] : List (S56)) : List (S56))).bind fun y195 => (if y192.length + y195.length < 4398046511104 then ((some (y192 ++ y195 : List (S56))).bind fun y198 => ((spec_LogOk.f kj3 a0_0 a0_1 y198).bind fun t202 => (if t202 = true then (some (a0_0, a0_1, y198, true)) else (some (0, 0, ([] : List (S56)), false))))) else (none)))) else (none))) else (none)) else (none))) = some (r1, r2, r3, r4) := by rw [if_neg (show ¬ (false = true) by decide)] at H; exact H
    clear H
    have H := H1
    clear H1
    obtain ⟨y185, hy185⟩ : ∃ y_ : List (S56), y_ = (([] : List (S56))) := ⟨_, rfl⟩
    replace H : (if 0 ≤ (wrap64 ((wrap64 (a1 - a0_0)) - 1)) then (if (wrap64 ((wrap64 (a1 - a0_0)) - 1)) ≤ (l0_2.length : Int) then ((some (l0_2.take ((wrap64 ((wrap64 (a1 - a0_0)) - 1)) : Int).toNat : List (S56))).bind fun y188 => (if y185.length + y188.length < 4398046511104 then ((some (y185 ++ y188 : List (S56))).bind fun y192 => ((some (([(⟨a2_0, a2_1, a2_2⟩ : S56)] : List (S56)) : List (S56))).bind fun y195 => (if y192.length + y195.length < 4398046511104 then ((some (y192 ++ y195 : List (S56))).bind fun y198 => ((spec_LogOk.f kj3 a0_0 a0_1 y198).bind fun t202 => (if t202 = true then (some (a0_0, a0_1, y198, true)) else (some (0, 0, ([] : List (S56)), false))))) else (none)))) else (none))) else (none)) else (none)) = some (r1, r2, r3, r4) := by first | (rw [hy185]; with_reducible exact H) | (have H2_ := (Option.bind_some _ _).symm.trans H; rw [hy185]; with_reducible exact H2_) | (have H2_ := (Option.bind_some _ _).symm.trans H; with_reducible exact H2_) | with_reducible exact H | (rw [hy185]; exact H) | exact H
    have Ny185 := Aside0.mk hy185
    clear hy185
    obtain ⟨ji21, hji21⟩ : ∃ j_ : Int, (wrap64 ((wrap64 (a1 - a0_0)) - 1)) = j_ := ⟨_, rfl⟩
    replace H : (if 0 ≤ (ji21) then (if (ji21) ≤ (l0_2.length : Int) then ((some (l0_2.take ((ji21) : Int).toNat : List (S56))).bind fun y188 => (if y185.length + y188.length < 4398046511104 then ((some (y185 ++ y188 : List (S56))).bind fun y192 => ((some (([(⟨a2_0, a2_1, a2_2⟩ : S56)] : List (S56)) : List (S56))).bind fun y195 => (if y192.length + y195.length < 4398046511104 then ((some (y192 ++ y195 : List (S56))).bind fun y198 => ((spec_LogOk.f kj3 a0_0 a0_1 y198).bind fun t202 => (if t202 = true then (some (a0_0, a0_1, y198, true)) else (some (0, 0, ([] : List (S56)), false))))) else (none)))) else (none))) else (none)) else (none)) = some (r1, r2, r3, r4) := by first | (rw [hji21] at H; exact H) | (simp only [hji21] at H ⊢; exact H)
    have hji21w : (IntKind.i64.wrap ((wrap64 (a1 - a0_0)) - 1)) = ji21 := (i64_w _).trans hji21
    by_cases c22 : 0 ≤ (ji21)
    ·rw [if_pos c22] at H
     have c22b0 := eq_true c22
     have c22b1 : decide (0 ≤ (ji21)) = true := decide_eq_true c22
     clear c22
     by_cases c23 : (ji21) ≤ (l0_2.length : Int)
     ·rw [if_pos c23] at H
      have c23b0 := eq_true c23
      have c23b1 : decide ((ji21) ≤ (l0_2.length : Int)) = true := decide_eq_true c23
      clear c23
      obtain ⟨y188, hy188⟩ : ∃ y_ : List (S56), y_ = (l0_2.take ((ji21) : Int).toNat) := ⟨_, rfl⟩
      replace H : (if y185.length + y188.length < 4398046511104 then ((some (y185 ++ y188 : List (S56))).bind fun y192 => ((some (([(⟨a2_0, a2_1, a2_2⟩ : S56)] : List (S56)) : List (S56))).bind fun y195 => (if y192.length + y195.length < 4398046511104 then ((some (y192 ++ y195 : List (S56))).bind fun y198 => ((spec_LogOk.f kj3 a0_0 a0_1 y198).bind fun t202 => (if t202 = true then (some (a0_0, a0_1, y198, true)) else (some (0, 0, ([] : List (S56)), false))))) else (none)))) else (none)) = some (r1, r2, r3, r4) := by first | (rw [hy188]; with_reducible exact H) | (have H2_ := (Option.bind_some _ _).symm.trans H; rw [hy188]; with_reducible exact H2_) | (have H2_ := (Option.bind_some _ _).symm.trans H; with_reducible exact H2_) | with_reducible exact H | (rw [hy188]; exact H) | exact H
      have Ny188 := Aside0.mk hy188
      clear hy188
      by_cases c24 : y185.length + y188.length < 4398046511104
      ·rw [if_pos c24] at H
       have LMc24 := Aside0.mk c24
       clear c24
       obtain ⟨y192, hy192⟩ : ∃ y_ : List (S56), y_ = (y185 ++ y188) := ⟨_, rfl⟩
       replace H : ((some (([(⟨a2_0, a2_1, a2_2⟩ : S56)] : List (S56)) : List (S56))).bind fun y195 => (if y192.length + y195.length < 4398046511104 then ((some (y192 ++ y195 : List (S56))).bind fun y198 => ((spec_LogOk.f kj3 a0_0 a0_1 y198).bind fun t202 => (if t202 = true then (some (a0_0, a0_1, y198, true)) else (some (0, 0, ([] : List (S56)), false))))) else (none))) = some (r1, r2, r3, r4) := by first | (rw [hy192]; with_reducible exact H) | (have H2_ := (Option.bind_some _ _).symm.trans H; rw [hy192]; with_reducible exact H2_) | (have H2_ := (Option.bind_some _ _).symm.trans H; with_reducible exact H2_) | with_reducible exact H | (rw [hy192]; exact H) | exact H
       have Ny192 := Aside0.mk hy192
       clear hy192
       obtain ⟨y195, hy195⟩ : ∃ y_ : List (S56), y_ = (([(⟨a2_0, a2_1, a2_2⟩ : S56)] : List (S56))) := ⟨_, rfl⟩
       replace H : (if y192.length + y195.length < 4398046511104 then ((some (y192 ++ y195 : List (S56))).bind fun y198 => ((spec_LogOk.f kj3 a0_0 a0_1 y198).bind fun t202 => (if t202 = true then (some (a0_0, a0_1, y198, true)) else (some (0, 0, ([] : List (S56)), false))))) else (none)) = some (r1, r2, r3, r4) := by first | (rw [hy195]; with_reducible exact H) | (have H2_ := (Option.bind_some _ _).symm.trans H; rw [hy195]; with_reducible exact H2_) | (have H2_ := (Option.bind_some _ _).symm.trans H; with_reducible exact H2_) | with_reducible exact H | (rw [hy195]; exact H) | exact H
       have Ny195 := Aside0.mk hy195
       clear hy195
       by_cases c25 : y192.length + y195.length < 4398046511104
       ·rw [if_pos c25] at H
        have LMc25 := Aside0.mk c25
        clear c25
        obtain ⟨y198, hy198⟩ : ∃ y_ : List (S56), y_ = (y192 ++ y195) := ⟨_, rfl⟩
        replace H : ((spec_LogOk.f kj3 a0_0 a0_1 y198).bind fun t202 => (if t202 = true then (some (a0_0, a0_1, y198, true)) else (some (0, 0, ([] : List (S56)), false)))) = some (r1, r2, r3, r4) := by first | (rw [hy198]; with_reducible exact H) | (have H2_ := (Option.bind_some _ _).symm.trans H; rw [hy198]; with_reducible exact H2_) | (have H2_ := (Option.bind_some _ _).symm.trans H; with_reducible exact H2_) | with_reducible exact H | (rw [hy198]; exact H) | exact H
        have Ny198 := Aside0.mk hy198
        clear hy198
        replace H := Option.bind_eq_some_iff.mp H
        obtain ⟨t202, A260, H⟩ := H
        try dsimp only at H
        have A26 := Aside0.mk A260
        clear A260
        have HD_ := Aside0.mk H
        clear H
        try go_wp2
        replace BK179 := am (blk_drew BK179.out)
        replace BK180 := am (blk_drew BK180.out)
        replace BK181 := am (blk_drew BK181.out)
        replace HB := am (below_drew1 HB.out)
        have q29 : ((ji21) : Int) ≤ ((l0_2.length : Int) : Int) := of_decide_eq_true (by first | (with_reducible assumption) | assumption)
        obtain ⟨i029, hi029, _, hsz29, _⟩ := info_parts info56
        have hroom29 : l0_2.length ≤ c0_2 := HC0_2.out
        have hC29 : Kd.C k56 _ A0_2 l0_2.length l0_2 := HR0_2.out
        have hcut29 := cut_to (P := Try.prog) 22 56 .i64 Try.underlying22 hi029 A0_2 l0_2.length c0_2 (ji21) (of_decide_eq_true (by first | (with_reducible assumption) | assumption)) q29 hroom29
        have hr29 := Kd.C_take (m := ((ji21) : Int).toNat) hC29 (by omega)
        have hy29 : y188.length = ((ji21) : Int).toNat := (by rw [Ny188.out, List.length_take]; omega)
        rw [← Ny188.out] at hr29
        rw [← hy29] at hcut29
        have HR191 := Aside0.mk hr29
        have HC191 := Aside0.mk (show y188.length ≤ c0_2 from by omega)
        clear hr29 hC29 hroom29 hi029 hsz29
        have KY29 := Aside0.mk hy29
        clear hy29
        replace q29 := eq_true q29
        refine start_ (n := 20) (S := fun w' => w'.cell? ⟨gb179, 0, none⟩ = some (.int .i64 a0_0) ∧ w'.cell? ⟨gb179, 1, none⟩ = some (.int .i64 a0_1) ∧ w'.cell? ⟨gb179, 2, none⟩ = some (.slice A0_2 l0_2.length c0_2) ∧ w'.cell? ⟨gb180, 0, none⟩ = some (.int .i64 a2_0) ∧ w'.cell? ⟨gb180, 1, none⟩ = some (.int .i64 a2_1) ∧ w'.cell? ⟨gb180, 2, none⟩ = some (.string a2_2)) (ds := []) #[false, false, false, false, false, false, false, false, false, false, false, false, false, false, false, false, false, false, false, false] (by kernel_rfl) rfl rfl ⟨ct BK179.out 0, ct BK179.out 1, ct BK179.out 2, ct BK180.out 0, ct BK180.out 1, ct BK180.out 2⟩ (fun hHeld => ?_); refine with_tabW spec_LogPut.tab3 spec_LogPut.bits3 (fun HT_ HW_ => ?_)
        generalize wc.drew = w28 at BK179 BK180 BK181 HB HR191 hHeld ⊢
        refine zpu 0 24 #[true, false, false, false, false, false, false, false, false, false, false, false, false, false, false, false, false, false, false, false] HT_ ?_
        refine zpu 2 26 #[true, false, true, false, false, false, false, false, false, false, false, false, false, false, false, false, false, false, false, false] HT_ ?_
        refine zpu 5 29 #[true, false, true, false, false, true, false, false, false, false, false, false, false, false, false, false, false, false, false, false] HT_ ?_
        refine zpu 7 31 #[true, false, true, false, false, true, false, true, false, false, false, false, false, false, false, false, false, false, false, false] HT_ ?_
        refine zpu 8 32 #[true, false, true, false, false, true, false, true, true, false, false, false, false, false, false, false, false, false, false, false] HT_ ?_
        refine ztk6 1 25 #[true, true, true, false, false, true, false, true, true, false, false, false, false, false, false, false, false, false, false, false] HT_ HW_ hHeld ?_
        refine ztk6 3 27 #[true, true, true, true, false, true, false, true, true, false, false, false, false, false, false, false, false, false, false, false] HT_ HW_ hHeld ?_
        refine ztk6 6 30 #[true, true, true, true, false, true, true, true, true, false, false, false, false, false, false, false, false, false, false, false] HT_ HW_ hHeld ?_
        refine ztk6 9 33 #[true, true, true, true, false, true, true, true, true, true, false, false, false, false, false, false, false, false, false, false] HT_ HW_ hHeld ?_
        refine zpu 10 34 #[true, true, true, true, false, true, true, true, true, true, true, false, false, false, false, false, false, false, false, false] HT_ ?_
        refine zpu 11 35 #[true, true, true, true, false, true, true, true, true, true, true, true, false, false, false, false, false, false, false, false] HT_ ?_
        refine zpu 12 36 #[true, true, true, true, false, true, true, true, true, true, true, true, true, false, false, false, false, false, false, false] HT_ ?_
        refine ztk6 14 38 #[true, true, true, true, false, true, true, true, true, true, true, true, true, false, true, false, false, false, false, false] HT_ HW_ hHeld ?_
        refine join_ (σ := Value × Value × Value × Value × Nat) 1 #[true, true, true, true, true, true, true, true, true, true, true, true, true, true, true, true, true, true, true, false] (fun s_ => [(28, s_.1), (37, s_.2.1), (39, s_.2.2.1), (40, s_.2.2.2.1), (8, .pointer (some ⟨s_.2.2.2.2, 0, none⟩)), (41, .agg #[.int .i64 a0_0, .int .i64 a0_1, s_.2.2.2.1])]) (fun s_ w' => (w'.cell? ⟨gb179, 0, none⟩ = some (.int .i64 a0_0) ∧ w'.cell? ⟨gb179, 1, none⟩ = some (.int .i64 a0_1) ∧ w'.cell? ⟨gb179, 2, none⟩ = some (.slice A0_2 l0_2.length c0_2) ∧ w'.cell? ⟨gb180, 0, none⟩ = some (.int .i64 a2_0) ∧ w'.cell? ⟨gb180, 1, none⟩ = some (.int .i64 a2_1) ∧ w'.cell? ⟨gb180, 2, none⟩ = some (.string a2_2)) ∧ (Kd.R k56 56 w' w.heap.size (fun k_ => some k_ ≠ (s_.2.2.2.1 : Value).ownBlock ∧ k_ ≠ gb180) s_.2.2.1 y195) ∧ (Kd.R k56 56 w' w.heap.size (fun k_ => some k_ ≠ (s_.2.2.1 : Value).ownBlock ∧ k_ ≠ gb180) s_.2.2.2.1 y198) ∧ (w'.heap[gb179]? = some (.cells #[.int .i64 a0_0, .int .i64 a0_1, .slice A0_2 l0_2.length c0_2] 24 (0, 0))) ∧ (w'.heap[gb180]? = some (.cells #[.int .i64 a2_0, .int .i64 a2_1, .string a2_2] 56 (0, 0))) ∧ (w'.heap[gb181]? = some (.cells #[.int .i64 0, .int .i64 0, .slice none 0 0] 24 (0, 0))) ∧ (w'.heap[s_.2.2.2.2]? = some (.cells #[.int .i64 0, .int .i64 0, .slice none 0 0] 24 (0, 0))) ∧ (w.heap.size ≤ s_.2.2.2.2) ∧ (w.heap.size ≤ s_.2.2.2.2) ∧ (gb179 ≠ s_.2.2.2.2) ∧ (s_.2.2.2.2 ≠ gb179) ∧ (gb180 ≠ s_.2.2.2.2) ∧ (s_.2.2.2.2 ≠ gb180) ∧ (gb181 ≠ s_.2.2.2.2) ∧ (s_.2.2.2.2 ≠ gb181) ∧ (Below w.heap.size w w')) ?_ ?_
        rotate_left
        ·intro hJ4_13_15_16_18
         refine join_ (σ := Value × Value × Value × Value) 2 #[true, true, true, true, true, true, true, true, true, true, true, true, true, true, true, true, true, true, false, false] (fun s_ => [(28, s_.1), (37, s_.2.1), (39, s_.2.2.1), (40, s_.2.2.2), (41, .agg #[.int .i64 a0_0, .int .i64 a0_1, s_.2.2.2])]) (fun s_ w' => (w'.cell? ⟨gb179, 0, none⟩ = some (.int .i64 a0_0) ∧ w'.cell? ⟨gb179, 1, none⟩ = some (.int .i64 a0_1) ∧ w'.cell? ⟨gb179, 2, none⟩ = some (.slice A0_2 l0_2.length c0_2) ∧ w'.cell? ⟨gb180, 0, none⟩ = some (.int .i64 a2_0) ∧ w'.cell? ⟨gb180, 1, none⟩ = some (.int .i64 a2_1) ∧ w'.cell? ⟨gb180, 2, none⟩ = some (.string a2_2)) ∧ (Kd.R k56 56 w' w.heap.size (fun k_ => some k_ ≠ (s_.2.2.2 : Value).ownBlock ∧ k_ ≠ gb180) s_.2.2.1 y195) ∧ (Kd.R k56 56 w' w.heap.size (fun k_ => some k_ ≠ (s_.2.2.1 : Value).ownBlock ∧ k_ ≠ gb180) s_.2.2.2 y198) ∧ (w'.heap[gb179]? = some (.cells #[.int .i64 a0_0, .int .i64 a0_1, .slice A0_2 l0_2.length c0_2] 24 (0, 0))) ∧ (w'.heap[gb180]? = some (.cells #[.int .i64 a2_0, .int .i64 a2_1, .string a2_2] 56 (0, 0))) ∧ (w'.heap[gb181]? = some (.cells #[.int .i64 0, .int .i64 0, .slice none 0 0] 24 (0, 0))) ∧ (Below w.heap.size w w')) ?_ ?_
         rotate_left
         ·intro hJ4_13_15_16
          refine join_ (σ := Value × Value × Value × Nat) 3 #[true, true, true, true, true, true, true, true, true, true, true, true, true, true, true, true, false, false, true, false] (fun s_ => [(28, s_.1), (37, s_.2.1), (39, s_.2.2.1), (8, .pointer (some ⟨s_.2.2.2, 0, none⟩))]) (fun s_ w' => (w'.cell? ⟨gb179, 0, none⟩ = some (.int .i64 a0_0) ∧ w'.cell? ⟨gb179, 1, none⟩ = some (.int .i64 a0_1) ∧ w'.cell? ⟨gb179, 2, none⟩ = some (.slice A0_2 l0_2.length c0_2) ∧ w'.cell? ⟨gb180, 0, none⟩ = some (.int .i64 a2_0) ∧ w'.cell? ⟨gb180, 1, none⟩ = some (.int .i64 a2_1) ∧ w'.cell? ⟨gb180, 2, none⟩ = some (.string a2_2)) ∧ (Kd.R k56 56 w' w.heap.size (fun k_ => some k_ ≠ (s_.2.2.1 : Value).ownBlock ∧ k_ ≠ gb180) s_.2.1 y192) ∧ (Kd.R k56 56 w' w.heap.size (fun k_ => some k_ ≠ (s_.2.1 : Value).ownBlock ∧ k_ ≠ gb180) s_.2.2.1 y195) ∧ (w'.heap[gb179]? = some (.cells #[.int .i64 a0_0, .int .i64 a0_1, .slice A0_2 l0_2.length c0_2] 24 (0, 0))) ∧ (w'.heap[gb180]? = some (.cells #[.int .i64 a2_0, .int .i64 a2_1, .string a2_2] 56 (0, 0))) ∧ (w'.heap[gb181]? = some (.cells #[.int .i64 0, .int .i64 0, .slice none 0 0] 24 (0, 0))) ∧ (w'.heap[s_.2.2.2]? = some (.cells #[.int .i64 0, .int .i64 0, .slice none 0 0] 24 (0, 0))) ∧ (w.heap.size ≤ s_.2.2.2) ∧ (w.heap.size ≤ s_.2.2.2) ∧ (gb179 ≠ s_.2.2.2) ∧ (s_.2.2.2 ≠ gb179) ∧ (gb180 ≠ s_.2.2.2) ∧ (s_.2.2.2 ≠ gb180) ∧ (gb181 ≠ s_.2.2.2) ∧ (s_.2.2.2 ≠ gb181) ∧ (Below w.heap.size w w')) ?_ ?_
          rotate_left
          ·intro hJ4_13_15_18
           refine join_ (σ := Value × Value × Value) 4 #[true, true, true, true, true, true, true, true, true, true, true, true, true, true, true, true, false, false, false, false] (fun s_ => [(28, s_.1), (37, s_.2.1), (39, s_.2.2)]) (fun s_ w' => (w'.cell? ⟨gb179, 0, none⟩ = some (.int .i64 a0_0) ∧ w'.cell? ⟨gb179, 1, none⟩ = some (.int .i64 a0_1) ∧ w'.cell? ⟨gb179, 2, none⟩ = some (.slice A0_2 l0_2.length c0_2) ∧ w'.cell? ⟨gb180, 0, none⟩ = some (.int .i64 a2_0) ∧ w'.cell? ⟨gb180, 1, none⟩ = some (.int .i64 a2_1) ∧ w'.cell? ⟨gb180, 2, none⟩ = some (.string a2_2)) ∧ (Kd.R k56 56 w' w.heap.size (fun k_ => some k_ ≠ (s_.2.2 : Value).ownBlock ∧ k_ ≠ gb180) s_.2.1 y192) ∧ (Kd.R k56 56 w' w.heap.size (fun k_ => some k_ ≠ (s_.2.1 : Value).ownBlock ∧ k_ ≠ gb180) s_.2.2 y195) ∧ (w'.heap[gb179]? = some (.cells #[.int .i64 a0_0, .int .i64 a0_1, .slice A0_2 l0_2.length c0_2] 24 (0, 0))) ∧ (w'.heap[gb180]? = some (.cells #[.int .i64 a2_0, .int .i64 a2_1, .string a2_2] 56 (0, 0))) ∧ (w'.heap[gb181]? = some (.cells #[.int .i64 0, .int .i64 0, .slice none 0 0] 24 (0, 0))) ∧ (Below w.heap.size w w')) ?_ ?_
           rotate_left
           ·intro hJ4_13_15
            refine join_ (σ := Value × Value × Nat) 4 #[true, true, true, true, true, true, true, true, true, true, true, true, true, true, true, false, false, false, true, false] (fun s_ => [(28, s_.1), (37, s_.2.1), (8, .pointer (some ⟨s_.2.2, 0, none⟩))]) (fun s_ w' => (w'.cell? ⟨gb179, 0, none⟩ = some (.int .i64 a0_0) ∧ w'.cell? ⟨gb179, 1, none⟩ = some (.int .i64 a0_1) ∧ w'.cell? ⟨gb179, 2, none⟩ = some (.slice A0_2 l0_2.length c0_2) ∧ w'.cell? ⟨gb180, 0, none⟩ = some (.int .i64 a2_0) ∧ w'.cell? ⟨gb180, 1, none⟩ = some (.int .i64 a2_1) ∧ w'.cell? ⟨gb180, 2, none⟩ = some (.string a2_2)) ∧ (Kd.R k56 56 w' w.heap.size (fun k_ => k_ ≠ gb180) s_.2.1 y192) ∧ (w'.heap[gb179]? = some (.cells #[.int .i64 a0_0, .int .i64 a0_1, .slice A0_2 l0_2.length c0_2] 24 (0, 0))) ∧ (w'.heap[gb180]? = some (.cells #[.int .i64 a2_0, .int .i64 a2_1, .string a2_2] 56 (0, 0))) ∧ (w'.heap[gb181]? = some (.cells #[.int .i64 0, .int .i64 0, .slice none 0 0] 24 (0, 0))) ∧ (w'.heap[s_.2.2]? = some (.cells #[.int .i64 0, .int .i64 0, .slice none 0 0] 24 (0, 0))) ∧ (w.heap.size ≤ s_.2.2) ∧ (w.heap.size ≤ s_.2.2) ∧ (gb179 ≠ s_.2.2) ∧ (s_.2.2 ≠ gb179) ∧ (gb180 ≠ s_.2.2) ∧ (s_.2.2 ≠ gb180) ∧ (gb181 ≠ s_.2.2) ∧ (s_.2.2 ≠ gb181) ∧ (Below w.heap.size w w')) ?_ ?_
            rotate_left
            ·intro hJ4_13_18
             refine join_ (σ := Value × Value × Nat) 4 #[true, true, true, true, true, true, true, true, true, true, true, true, true, false, true, true, false, false, true, false] (fun s_ => [(28, s_.1), (39, s_.2.1), (8, .pointer (some ⟨s_.2.2, 0, none⟩))]) (fun s_ w' => (w'.cell? ⟨gb179, 0, none⟩ = some (.int .i64 a0_0) ∧ w'.cell? ⟨gb179, 1, none⟩ = some (.int .i64 a0_1) ∧ w'.cell? ⟨gb179, 2, none⟩ = some (.slice A0_2 l0_2.length c0_2) ∧ w'.cell? ⟨gb180, 0, none⟩ = some (.int .i64 a2_0) ∧ w'.cell? ⟨gb180, 1, none⟩ = some (.int .i64 a2_1) ∧ w'.cell? ⟨gb180, 2, none⟩ = some (.string a2_2)) ∧ (Kd.R k56 56 w' w.heap.size (fun k_ => some k_ ≠ (s_.2.1 : Value).ownBlock ∧ k_ ≠ gb180) s_.1 y185) ∧ (Kd.R k56 56 w' w.heap.size (fun k_ => some k_ ≠ (s_.1 : Value).ownBlock ∧ k_ ≠ gb180) s_.2.1 y195) ∧ (w'.heap[gb179]? = some (.cells #[.int .i64 a0_0, .int .i64 a0_1, .slice A0_2 l0_2.length c0_2] 24 (0, 0))) ∧ (w'.heap[gb180]? = some (.cells #[.int .i64 a2_0, .int .i64 a2_1, .string a2_2] 56 (0, 0))) ∧ (w'.heap[gb181]? = some (.cells #[.int .i64 0, .int .i64 0, .slice none 0 0] 24 (0, 0))) ∧ (w'.heap[s_.2.2]? = some (.cells #[.int .i64 0, .int .i64 0, .slice none 0 0] 24 (0, 0))) ∧ (w.heap.size ≤ s_.2.2) ∧ (w.heap.size ≤ s_.2.2) ∧ (gb179 ≠ s_.2.2) ∧ (s_.2.2 ≠ gb179) ∧ (gb180 ≠ s_.2.2) ∧ (s_.2.2 ≠ gb180) ∧ (gb181 ≠ s_.2.2) ∧ (s_.2.2 ≠ gb181) ∧ (Below w.heap.size w w')) ?_ ?_
             rotate_left
             ·intro hJ4_15_18
              refine join_ (σ := Value × Value) 5 #[true, true, true, true, true, true, true, true, true, true, true, true, true, true, true, false, false, false, false, false] (fun s_ => [(28, s_.1), (37, s_.2)]) (fun s_ w' => (w'.cell? ⟨gb179, 0, none⟩ = some (.int .i64 a0_0) ∧ w'.cell? ⟨gb179, 1, none⟩ = some (.int .i64 a0_1) ∧ w'.cell? ⟨gb179, 2, none⟩ = some (.slice A0_2 l0_2.length c0_2) ∧ w'.cell? ⟨gb180, 0, none⟩ = some (.int .i64 a2_0) ∧ w'.cell? ⟨gb180, 1, none⟩ = some (.int .i64 a2_1) ∧ w'.cell? ⟨gb180, 2, none⟩ = some (.string a2_2)) ∧ (Kd.R k56 56 w' w.heap.size (fun k_ => k_ ≠ gb180) s_.2 y192) ∧ (w'.heap[gb179]? = some (.cells #[.int .i64 a0_0, .int .i64 a0_1, .slice A0_2 l0_2.length c0_2] 24 (0, 0))) ∧ (w'.heap[gb180]? = some (.cells #[.int .i64 a2_0, .int .i64 a2_1, .string a2_2] 56 (0, 0))) ∧ (w'.heap[gb181]? = some (.cells #[.int .i64 0, .int .i64 0, .slice none 0 0] 24 (0, 0))) ∧ (Below w.heap.size w w')) ?_ ?_
              rotate_left
              ·intro hJ4_13
               refine join_ (σ := Value × Value) 5 #[true, true, true, true, true, true, true, true, true, true, true, true, true, false, true, true, false, false, false, false] (fun s_ => [(28, s_.1), (39, s_.2)]) (fun s_ w' => (w'.cell? ⟨gb179, 0, none⟩ = some (.int .i64 a0_0) ∧ w'.cell? ⟨gb179, 1, none⟩ = some (.int .i64 a0_1) ∧ w'.cell? ⟨gb179, 2, none⟩ = some (.slice A0_2 l0_2.length c0_2) ∧ w'.cell? ⟨gb180, 0, none⟩ = some (.int .i64 a2_0) ∧ w'.cell? ⟨gb180, 1, none⟩ = some (.int .i64 a2_1) ∧ w'.cell? ⟨gb180, 2, none⟩ = some (.string a2_2)) ∧ (Kd.R k56 56 w' w.heap.size (fun k_ => some k_ ≠ (s_.2 : Value).ownBlock ∧ k_ ≠ gb180) s_.1 y185) ∧ (Kd.R k56 56 w' w.heap.size (fun k_ => some k_ ≠ (s_.1 : Value).ownBlock ∧ k_ ≠ gb180) s_.2 y195) ∧ (w'.heap[gb179]? = some (.cells #[.int .i64 a0_0, .int .i64 a0_1, .slice A0_2 l0_2.length c0_2] 24 (0, 0))) ∧ (w'.heap[gb180]? = some (.cells #[.int .i64 a2_0, .int .i64 a2_1, .string a2_2] 56 (0, 0))) ∧ (w'.heap[gb181]? = some (.cells #[.int .i64 0, .int .i64 0, .slice none 0 0] 24 (0, 0))) ∧ (Below w.heap.size w w')) ?_ ?_
               rotate_left
               ·intro hJ4_15
                refine join_ (σ := Value × Nat) 5 #[true, true, true, true, true, true, true, true, true, true, true, true, true, false, true, false, false, false, true, false] (fun s_ => [(28, s_.1), (8, .pointer (some ⟨s_.2, 0, none⟩))]) (fun s_ w' => (w'.cell? ⟨gb179, 0, none⟩ = some (.int .i64 a0_0) ∧ w'.cell? ⟨gb179, 1, none⟩ = some (.int .i64 a0_1) ∧ w'.cell? ⟨gb179, 2, none⟩ = some (.slice A0_2 l0_2.length c0_2) ∧ w'.cell? ⟨gb180, 0, none⟩ = some (.int .i64 a2_0) ∧ w'.cell? ⟨gb180, 1, none⟩ = some (.int .i64 a2_1) ∧ w'.cell? ⟨gb180, 2, none⟩ = some (.string a2_2)) ∧ (Kd.R k56 56 w' w.heap.size (fun k_ => k_ ≠ gb180) s_.1 y185) ∧ (w'.heap[gb179]? = some (.cells #[.int .i64 a0_0, .int .i64 a0_1, .slice A0_2 l0_2.length c0_2] 24 (0, 0))) ∧ (w'.heap[gb180]? = some (.cells #[.int .i64 a2_0, .int .i64 a2_1, .string a2_2] 56 (0, 0))) ∧ (w'.heap[gb181]? = some (.cells #[.int .i64 0, .int .i64 0, .slice none 0 0] 24 (0, 0))) ∧ (w'.heap[s_.2]? = some (.cells #[.int .i64 0, .int .i64 0, .slice none 0 0] 24 (0, 0))) ∧ (w.heap.size ≤ s_.2) ∧ (w.heap.size ≤ s_.2) ∧ (gb179 ≠ s_.2) ∧ (s_.2 ≠ gb179) ∧ (gb180 ≠ s_.2) ∧ (s_.2 ≠ gb180) ∧ (gb181 ≠ s_.2) ∧ (s_.2 ≠ gb181) ∧ (Below w.heap.size w w')) ?_ ?_
                rotate_left
                ·intro hJ4_18
                 refine join_ (σ := Value × Nat) 5 #[true, true, true, true, false, true, true, true, true, true, true, true, true, false, true, true, false, false, true, false] (fun s_ => [(39, s_.1), (8, .pointer (some ⟨s_.2, 0, none⟩))]) (fun s_ w' => (w'.cell? ⟨gb179, 0, none⟩ = some (.int .i64 a0_0) ∧ w'.cell? ⟨gb179, 1, none⟩ = some (.int .i64 a0_1) ∧ w'.cell? ⟨gb179, 2, none⟩ = some (.slice A0_2 l0_2.length c0_2) ∧ w'.cell? ⟨gb180, 0, none⟩ = some (.int .i64 a2_0) ∧ w'.cell? ⟨gb180, 1, none⟩ = some (.int .i64 a2_1) ∧ w'.cell? ⟨gb180, 2, none⟩ = some (.string a2_2)) ∧ (Kd.R k56 56 w' w.heap.size (fun k_ => k_ ≠ gb180) s_.1 y195) ∧ (w'.heap[gb179]? = some (.cells #[.int .i64 a0_0, .int .i64 a0_1, .slice A0_2 l0_2.length c0_2] 24 (0, 0))) ∧ (w'.heap[gb180]? = some (.cells #[.int .i64 a2_0, .int .i64 a2_1, .string a2_2] 56 (0, 0))) ∧ (w'.heap[gb181]? = some (.cells #[.int .i64 0, .int .i64 0, .slice none 0 0] 24 (0, 0))) ∧ (w'.heap[s_.2]? = some (.cells #[.int .i64 0, .int .i64 0, .slice none 0 0] 24 (0, 0))) ∧ (w.heap.size ≤ s_.2) ∧ (w.heap.size ≤ s_.2) ∧ (gb179 ≠ s_.2) ∧ (s_.2 ≠ gb179) ∧ (gb180 ≠ s_.2) ∧ (s_.2 ≠ gb180) ∧ (gb181 ≠ s_.2) ∧ (s_.2 ≠ gb181) ∧ (Below w.heap.size w w')) ?_ ?_
                 rotate_left
                 ·intro hJ15_18
                  refine join_ (σ := Value) 6 #[true, true, true, true, true, true, true, true, true, true, true, true, true, false, true, false, false, false, false, false] (fun s_ => [(28, s_)]) (fun s_ w' => (w'.cell? ⟨gb179, 0, none⟩ = some (.int .i64 a0_0) ∧ w'.cell? ⟨gb179, 1, none⟩ = some (.int .i64 a0_1) ∧ w'.cell? ⟨gb179, 2, none⟩ = some (.slice A0_2 l0_2.length c0_2) ∧ w'.cell? ⟨gb180, 0, none⟩ = some (.int .i64 a2_0) ∧ w'.cell? ⟨gb180, 1, none⟩ = some (.int .i64 a2_1) ∧ w'.cell? ⟨gb180, 2, none⟩ = some (.string a2_2)) ∧ (Kd.R k56 56 w' w.heap.size (fun k_ => k_ ≠ gb180) s_ y185) ∧ (w'.heap[gb179]? = some (.cells #[.int .i64 a0_0, .int .i64 a0_1, .slice A0_2 l0_2.length c0_2] 24 (0, 0))) ∧ (w'.heap[gb180]? = some (.cells #[.int .i64 a2_0, .int .i64 a2_1, .string a2_2] 56 (0, 0))) ∧ (w'.heap[gb181]? = some (.cells #[.int .i64 0, .int .i64 0, .slice none 0 0] 24 (0, 0))) ∧ (Below w.heap.size w w')) ?_ ?_
                  rotate_left
                  ·intro hJ4
                   refine join_ (σ := Value) 6 #[true, true, true, true, false, true, true, true, true, true, true, true, true, false, true, true, false, false, false, false] (fun s_ => [(39, s_)]) (fun s_ w' => (w'.cell? ⟨gb179, 0, none⟩ = some (.int .i64 a0_0) ∧ w'.cell? ⟨gb179, 1, none⟩ = some (.int .i64 a0_1) ∧ w'.cell? ⟨gb179, 2, none⟩ = some (.slice A0_2 l0_2.length c0_2) ∧ w'.cell? ⟨gb180, 0, none⟩ = some (.int .i64 a2_0) ∧ w'.cell? ⟨gb180, 1, none⟩ = some (.int .i64 a2_1) ∧ w'.cell? ⟨gb180, 2, none⟩ = some (.string a2_2)) ∧ (Kd.R k56 56 w' w.heap.size (fun k_ => k_ ≠ gb180) s_ y195) ∧ (w'.heap[gb179]? = some (.cells #[.int .i64 a0_0, .int .i64 a0_1, .slice A0_2 l0_2.length c0_2] 24 (0, 0))) ∧ (w'.heap[gb180]? = some (.cells #[.int .i64 a2_0, .int .i64 a2_1, .string a2_2] 56 (0, 0))) ∧ (w'.heap[gb181]? = some (.cells #[.int .i64 0, .int .i64 0, .slice none 0 0] 24 (0, 0))) ∧ (Below w.heap.size w w')) ?_ ?_
                   rotate_left
                   ·intro hJ15
                    refine join_ (σ := Nat) 6 #[true, true, true, true, false, true, true, true, true, true, true, true, true, false, true, false, false, false, true, false] (fun s_ => [(8, .pointer (some ⟨s_, 0, none⟩))]) (fun s_ w' => (w'.cell? ⟨gb179, 0, none⟩ = some (.int .i64 a0_0) ∧ w'.cell? ⟨gb179, 1, none⟩ = some (.int .i64 a0_1) ∧ w'.cell? ⟨gb179, 2, none⟩ = some (.slice A0_2 l0_2.length c0_2) ∧ w'.cell? ⟨gb180, 0, none⟩ = some (.int .i64 a2_0) ∧ w'.cell? ⟨gb180, 1, none⟩ = some (.int .i64 a2_1) ∧ w'.cell? ⟨gb180, 2, none⟩ = some (.string a2_2)) ∧ (w'.heap[gb179]? = some (.cells #[.int .i64 a0_0, .int .i64 a0_1, .slice A0_2 l0_2.length c0_2] 24 (0, 0))) ∧ (w'.heap[gb180]? = some (.cells #[.int .i64 a2_0, .int .i64 a2_1, .string a2_2] 56 (0, 0))) ∧ (w'.heap[gb181]? = some (.cells #[.int .i64 0, .int .i64 0, .slice none 0 0] 24 (0, 0))) ∧ (w'.heap[s_]? = some (.cells #[.int .i64 0, .int .i64 0, .slice none 0 0] 24 (0, 0))) ∧ (w.heap.size ≤ s_) ∧ (w.heap.size ≤ s_) ∧ (gb179 ≠ s_) ∧ (s_ ≠ gb179) ∧ (gb180 ≠ s_) ∧ (s_ ≠ gb180) ∧ (gb181 ≠ s_) ∧ (s_ ≠ gb181) ∧ (Below w.heap.size w w')) ?_ ?_
                    rotate_left
                    ·intro hJ18
                     refine three_ (i := 4) (j := 15) (k := 18) (Ni := some 28) (Nj := some 39) (Nk := some 8) #[true, true, true, true, true, true, true, true, true, true, true, true, true, false, true, false, false, false, false, false] #[true, true, true, true, false, true, true, true, true, true, true, true, true, false, true, true, false, false, false, false] #[true, true, true, true, false, true, true, true, true, true, true, true, true, false, true, false, false, false, true, false] rfl rfl rfl rfl rfl rfl (three_of HT_.out (by kernel_rfl)) (by decide) (by decide) (by decide) (fun K hK => ?_) (fun K hK => ?_) (fun K hK => ?_)
                     ·skip
                      refine Kd.R_lit_step k56 _ 56 ?hg (N := 28) ?hd (xs := ([] : List (S56))) (inner := []) (ok := fun _ => True) (okp := fun _ => True) ?hr ?hp (fun _ hk => hk) trivial (Below.refl _ _) (Nat.le_refl _) (by simp) ?_; (case hd => rfl); (case hg => rfl); (case hr => first | (go_simp; done) | (go_simp; rfl)); (case hp => exact (Reps.none _ _))
                      intro v186 w30 ho31 hb hg_ hnew_
                      clear hg_ hnew_
                      (first | rw [← Ny185.out] at ho31 | (simp only [Int.reduceToNat] at ho31; rw [← Ny185.out] at ho31))
                      have HO187 := am (Kd.R_lower (Kd.R_newB ho31 (g := gb180) (o := .cells #[.int .i64 a2_0, .int .i64 a2_1, .string a2_2] 56 (0, 0)) (kx BK180.out)) (below_size (zb3 HB.out GE179.out GE180.out GE181.out)))
                      replace BK179 := zk hb BK179
                      replace BK180 := zk hb BK180
                      replace BK181 := zk hb BK181
                      replace HB := zs3 hb HB GE179 GE180 GE181
                      clear hb ho31
                      refine hK.out _ _ ⟨ct BK179.out 0, ct BK179.out 1, ct BK179.out 2, ct BK180.out 0, ct BK180.out 1, ct BK180.out 2⟩ (fun hHeld => ?_)
                      clear hK K
                      refine znm 28 ?_
                      exact norm_ (by first | (simp only [putAll, Act.put, List.setIfInBounds_toArray, List.set_cons_zero, List.set_cons_succ]; done) | (simp only [putAll, Act.put, List.setIfInBounds_toArray, List.set_cons_zero, List.set_cons_succ]; rfl)) (hJ4 (v186) _ ⟨hHeld, (rx (Kd.R_mono HO187.out (fun _ hk => hk.2))), (kx BK179.out), (kx BK180.out), (kx BK181.out), (zb3 HB.out GE179.out GE180.out GE181.out)⟩)
                     ·skip
                      refine Kd.R_lit_step k56 _ 56 ?hg (N := 39) ?hd (xs := ([(⟨a2_0, a2_1, a2_2⟩ : S56)] : List (S56))) (inner := [.int .i64 a2_0, .int .i64 a2_1, .string a2_2]) (ok := fun _ => True) (okp := fun _ => True) ?hr ?hp (fun _ hk => hk) trivial (Below.refl _ _) (Nat.le_refl _) (by simp) ?_; (case hd => rfl); (case hg => rfl); (case hr => first | (go_simp; done) | (go_simp; rfl)); (case hp => exact (Reps.c3 (show Kd.M k56 _ _ _ (⟨a2_0, a2_1, a2_2⟩ : S56) [.int .i64 a2_0, .int .i64 a2_1, .string a2_2] from (k56_mkM _ _ _ (⟨a2_0, a2_1, a2_2⟩ : S56) )) (Reps.none _ _)))
                      intro v196 w30 ho31 hb hg_ hnew_
                      clear hg_ hnew_
                      (first | rw [← Ny195.out] at ho31 | (simp only [Int.reduceToNat] at ho31; rw [← Ny195.out] at ho31))
                      have HO197 := am (Kd.R_lower (Kd.R_newB ho31 (g := gb180) (o := .cells #[.int .i64 a2_0, .int .i64 a2_1, .string a2_2] 56 (0, 0)) (kx BK180.out)) (below_size (zb3 HB.out GE179.out GE180.out GE181.out)))
                      replace BK179 := zk hb BK179
                      replace BK180 := zk hb BK180
                      replace BK181 := zk hb BK181
                      replace HB := zs3 hb HB GE179 GE180 GE181
                      clear hb ho31
                      refine hK.out _ _ ⟨ct BK179.out 0, ct BK179.out 1, ct BK179.out 2, ct BK180.out 0, ct BK180.out 1, ct BK180.out 2⟩ (fun hHeld => ?_)
                      clear hK K
                      refine znm 39 ?_
                      exact norm_ (by first | (simp only [putAll, Act.put, List.setIfInBounds_toArray, List.set_cons_zero, List.set_cons_succ]; done) | (simp only [putAll, Act.put, List.setIfInBounds_toArray, List.set_cons_zero, List.set_cons_succ]; rfl)) (hJ15 (v196) _ ⟨hHeld, (rx (Kd.R_mono HO197.out (fun _ hk => hk.2))), (kx BK179.out), (kx BK180.out), (kx BK181.out), (zb3 HB.out GE179.out GE180.out GE181.out)⟩)
                     ·skip
                      refine box_step ?hg (N := 8) ?hd (cs := #[.int .i64 0, .int .i64 0, .slice none 0 0]) (t := 24) ?hr ?_; (case hd => rfl); (case hg => rfl); (case hr => first | (go_simp; done) | (go_simp; rfl))
                      intro gb201 hg w30 hbox hb
                      have BK201 := am (hbox)
                      have GW201 := zge hg (zb3 HB.out GE179.out GE180.out GE181.out)
                      have GE201 := zge hg (zb3 HB.out GE179.out GE180.out GE181.out)
                      obtain ⟨NB179_201, NB201_179⟩ := zne hg BK179
                      obtain ⟨NB180_201, NB201_180⟩ := zne hg BK180
                      obtain ⟨NB181_201, NB201_181⟩ := zne hg BK181
                      replace BK179 := zk hb BK179
                      replace BK180 := zk hb BK180
                      replace BK181 := zk hb BK181
                      replace HB := zs3 hb HB GE179 GE180 GE181
                      clear hb hbox hg
                      refine hK.out _ _ ⟨ct BK179.out 0, ct BK179.out 1, ct BK179.out 2, ct BK180.out 0, ct BK180.out 1, ct BK180.out 2⟩ (fun hHeld => ?_)
                      clear hK K
                      refine znm 8 ?_
                      exact norm_ (by first | (simp only [putAll, Act.put, List.setIfInBounds_toArray, List.set_cons_zero, List.set_cons_succ]; done) | (simp only [putAll, Act.put, List.setIfInBounds_toArray, List.set_cons_zero, List.set_cons_succ]; rfl)) (hJ18 (gb201) _ ⟨hHeld, (kx BK179.out), (kx BK180.out), (kx BK181.out), (kx BK201.out), GW201.out, GE201.out, NB179_201.out, NB201_179.out, NB180_201.out, NB201_180.out, NB181_201.out, NB201_181.out, (zb4 HB.out GE179.out GE180.out GE181.out GE201.out)⟩)
                    ·skip
                     rintro gb201 w31 ⟨hS_, h0_, h1_, h2_, h3_, h4_, h5_, h6_, h7_, h8_, h9_, h10_, h11_, h12_⟩
                     have n0_ : Aside0 (w31.heap[gb179]? = some (.cells #[.int .i64 a0_0, .int .i64 a0_1, .slice A0_2 l0_2.length c0_2] 24 (0, 0))) := ⟨h0_⟩
                     have n1_ : Aside0 (w31.heap[gb180]? = some (.cells #[.int .i64 a2_0, .int .i64 a2_1, .string a2_2] 56 (0, 0))) := ⟨h1_⟩
                     have n2_ : Aside0 (w31.heap[gb181]? = some (.cells #[.int .i64 0, .int .i64 0, .slice none 0 0] 24 (0, 0))) := ⟨h2_⟩
                     have n3_ : Aside0 (w31.heap[gb201]? = some (.cells #[.int .i64 0, .int .i64 0, .slice none 0 0] 24 (0, 0))) := ⟨h3_⟩
                     have n4_ : Aside0 (w.heap.size ≤ gb201) := ⟨h4_⟩
                     have n5_ : Aside0 (w.heap.size ≤ gb201) := ⟨h5_⟩
                     have n6_ : Aside0 (gb179 ≠ gb201) := ⟨h6_⟩
                     have n7_ : Aside0 (gb201 ≠ gb179) := ⟨h7_⟩
                     have n8_ : Aside0 (gb180 ≠ gb201) := ⟨h8_⟩
                     have n9_ : Aside0 (gb201 ≠ gb180) := ⟨h9_⟩
                     have n10_ : Aside0 (gb181 ≠ gb201) := ⟨h10_⟩
                     have n11_ : Aside0 (gb201 ≠ gb181) := ⟨h11_⟩
                     have n12_ : Aside0 (Below w.heap.size w w31) := ⟨h12_⟩
                     clear BK179 BK180 BK181 HB h0_ h1_ h2_ h3_ h4_ h5_ h6_ h7_ h8_ h9_ h10_ h11_ h12_
                     have BK179 := n0_
                     have BK180 := n1_
                     have BK181 := n2_
                     have BK201 := n3_
                     have GW201 := n4_
                     have GE201 := n5_
                     have NB179_201 := n6_
                     have NB201_179 := n7_
                     have NB180_201 := n8_
                     have NB201_180 := n9_
                     have NB181_201 := n10_
                     have NB201_181 := n11_
                     have HB := n12_
                     clear n0_ n1_ n2_ n3_ n4_ n5_ n6_ n7_ n8_ n9_ n10_ n11_ n12_
                     have hHeld : w31.cell? ⟨gb179, 0, none⟩ = some (.int .i64 a0_0) ∧ w31.cell? ⟨gb179, 1, none⟩ = some (.int .i64 a0_1) ∧ w31.cell? ⟨gb179, 2, none⟩ = some (.slice A0_2 l0_2.length c0_2) ∧ w31.cell? ⟨gb180, 0, none⟩ = some (.int .i64 a2_0) ∧ w31.cell? ⟨gb180, 1, none⟩ = some (.int .i64 a2_1) ∧ w31.cell? ⟨gb180, 2, none⟩ = some (.string a2_2) := hS_
                     refine norm_ (a' := ?_) ?_ ?_
                     rotate_left
                     ·simp only [putAll, Act.put, List.setIfInBounds_toArray, List.set_cons_zero, List.set_cons_succ]
                      rfl
                     refine two_ (i := 4) (j := 15) (Ni := some 28) (Nj := some 39) #[true, true, true, true, true, true, true, true, true, true, true, true, true, false, true, false, false, false, true, false] #[true, true, true, true, false, true, true, true, true, true, true, true, true, false, true, true, false, false, true, false] rfl rfl rfl rfl (two_of HT_.out (by kernel_rfl)) (by decide) (by decide) (fun K hK => ?_) (fun K hK => ?_)
                     ·skip
                      refine Kd.R_lit_step k56 _ 56 ?hg (N := 28) ?hd (xs := ([] : List (S56))) (inner := []) (ok := fun _ => True) (okp := fun _ => True) ?hr ?hp (fun _ hk => hk) trivial (Below.refl _ _) (Nat.le_refl _) (by simp) ?_; (case hd => rfl); (case hg => rfl); (case hr => first | (go_simp; done) | (go_simp; rfl)); (case hp => exact (Reps.none _ _))
                      intro v186 w32 ho33 hb hg_ hnew_
                      clear hg_ hnew_
                      (first | rw [← Ny185.out] at ho33 | (simp only [Int.reduceToNat] at ho33; rw [← Ny185.out] at ho33))
                      have HO187 := am (Kd.R_lower (Kd.R_newB ho33 (g := gb180) (o := .cells #[.int .i64 a2_0, .int .i64 a2_1, .string a2_2] 56 (0, 0)) (kx BK180.out)) (below_size (zb4 HB.out GE179.out GE180.out GE181.out GE201.out)))
                      replace BK179 := zk hb BK179
                      replace BK180 := zk hb BK180
                      replace BK181 := zk hb BK181
                      replace BK201 := zk hb BK201
                      replace HB := zs4 hb HB GE179 GE180 GE181 GE201
                      clear hb ho33
                      refine hK.out _ _ ⟨ct BK179.out 0, ct BK179.out 1, ct BK179.out 2, ct BK180.out 0, ct BK180.out 1, ct BK180.out 2⟩ (fun hHeld => ?_)
                      clear hK K
                      refine znm 28 ?_
                      exact norm_ (by first | (simp only [putAll, Act.put, List.setIfInBounds_toArray, List.set_cons_zero, List.set_cons_succ]; done) | (simp only [putAll, Act.put, List.setIfInBounds_toArray, List.set_cons_zero, List.set_cons_succ]; rfl)) (hJ4_18 (v186, gb201) _ ⟨hHeld, (rx (Kd.R_mono HO187.out (fun _ hk => hk.2))), (kx BK179.out), (kx BK180.out), (kx BK181.out), (kx BK201.out), GW201.out, GE201.out, NB179_201.out, NB201_179.out, NB180_201.out, NB201_180.out, NB181_201.out, NB201_181.out, (zb4 HB.out GE179.out GE180.out GE181.out GE201.out)⟩)
                     ·skip
                      refine Kd.R_lit_step k56 _ 56 ?hg (N := 39) ?hd (xs := ([(⟨a2_0, a2_1, a2_2⟩ : S56)] : List (S56))) (inner := [.int .i64 a2_0, .int .i64 a2_1, .string a2_2]) (ok := fun _ => True) (okp := fun _ => True) ?hr ?hp (fun _ hk => hk) trivial (Below.refl _ _) (Nat.le_refl _) (by simp) ?_; (case hd => rfl); (case hg => rfl); (case hr => first | (go_simp; done) | (go_simp; rfl)); (case hp => exact (Reps.c3 (show Kd.M k56 _ _ _ (⟨a2_0, a2_1, a2_2⟩ : S56) [.int .i64 a2_0, .int .i64 a2_1, .string a2_2] from (k56_mkM _ _ _ (⟨a2_0, a2_1, a2_2⟩ : S56) )) (Reps.none _ _)))
                      intro v196 w32 ho33 hb hg_ hnew_
                      clear hg_ hnew_
                      (first | rw [← Ny195.out] at ho33 | (simp only [Int.reduceToNat] at ho33; rw [← Ny195.out] at ho33))
                      have HO197 := am (Kd.R_lower (Kd.R_newB ho33 (g := gb180) (o := .cells #[.int .i64 a2_0, .int .i64 a2_1, .string a2_2] 56 (0, 0)) (kx BK180.out)) (below_size (zb4 HB.out GE179.out GE180.out GE181.out GE201.out)))
                      replace BK179 := zk hb BK179
                      replace BK180 := zk hb BK180
                      replace BK181 := zk hb BK181
                      replace BK201 := zk hb BK201
                      replace HB := zs4 hb HB GE179 GE180 GE181 GE201
                      clear hb ho33
                      refine hK.out _ _ ⟨ct BK179.out 0, ct BK179.out 1, ct BK179.out 2, ct BK180.out 0, ct BK180.out 1, ct BK180.out 2⟩ (fun hHeld => ?_)
                      clear hK K
                      refine znm 39 ?_
                      exact norm_ (by first | (simp only [putAll, Act.put, List.setIfInBounds_toArray, List.set_cons_zero, List.set_cons_succ]; done) | (simp only [putAll, Act.put, List.setIfInBounds_toArray, List.set_cons_zero, List.set_cons_succ]; rfl)) (hJ15_18 (v196, gb201) _ ⟨hHeld, (rx (Kd.R_mono HO197.out (fun _ hk => hk.2))), (kx BK179.out), (kx BK180.out), (kx BK181.out), (kx BK201.out), GW201.out, GE201.out, NB179_201.out, NB201_179.out, NB180_201.out, NB201_180.out, NB181_201.out, NB201_181.out, (zb4 HB.out GE179.out GE180.out GE181.out GE201.out)⟩)
                   ·skip
                    rintro v196 w32 ⟨hS_, h0_, h1_, h2_, h3_, h4_⟩
                    have n0_ : Aside0 (Kd.R k56 56 w32 w.heap.size (fun k_ => k_ ≠ gb180) v196 y195) := ⟨h0_⟩
                    have n1_ : Aside0 (w32.heap[gb179]? = some (.cells #[.int .i64 a0_0, .int .i64 a0_1, .slice A0_2 l0_2.length c0_2] 24 (0, 0))) := ⟨h1_⟩
                    have n2_ : Aside0 (w32.heap[gb180]? = some (.cells #[.int .i64 a2_0, .int .i64 a2_1, .string a2_2] 56 (0, 0))) := ⟨h2_⟩
                    have n3_ : Aside0 (w32.heap[gb181]? = some (.cells #[.int .i64 0, .int .i64 0, .slice none 0 0] 24 (0, 0))) := ⟨h3_⟩
                    have n4_ : Aside0 (Below w.heap.size w w32) := ⟨h4_⟩
                    clear BK179 BK180 BK181 HB h0_ h1_ h2_ h3_ h4_
                    have HO197 := n0_
                    have BK179 := n1_
                    have BK180 := n2_
                    have BK181 := n3_
                    have HB := n4_
                    clear n0_ n1_ n2_ n3_ n4_
                    have hHeld : w32.cell? ⟨gb179, 0, none⟩ = some (.int .i64 a0_0) ∧ w32.cell? ⟨gb179, 1, none⟩ = some (.int .i64 a0_1) ∧ w32.cell? ⟨gb179, 2, none⟩ = some (.slice A0_2 l0_2.length c0_2) ∧ w32.cell? ⟨gb180, 0, none⟩ = some (.int .i64 a2_0) ∧ w32.cell? ⟨gb180, 1, none⟩ = some (.int .i64 a2_1) ∧ w32.cell? ⟨gb180, 2, none⟩ = some (.string a2_2) := hS_
                    refine norm_ (a' := ?_) ?_ ?_
                    rotate_left
                    ·simp only [putAll, Act.put, List.setIfInBounds_toArray, List.set_cons_zero, List.set_cons_succ]
                     rfl
                    refine two_ (i := 4) (j := 18) (Ni := some 28) (Nj := some 8) #[true, true, true, true, true, true, true, true, true, true, true, true, true, false, true, true, false, false, false, false] #[true, true, true, true, false, true, true, true, true, true, true, true, true, false, true, true, false, false, true, false] rfl rfl rfl rfl (two_of HT_.out (by kernel_rfl)) (by decide) (by decide) (fun K hK => ?_) (fun K hK => ?_)
                    ·skip
                     refine Kd.R_lit_step k56 _ 56 ?hg (N := 28) ?hd (xs := ([] : List (S56))) (inner := []) (ok := fun _ => True) (okp := fun _ => True) ?hr ?hp (fun _ hk => hk) trivial (Below.refl _ _) (Nat.le_refl _) (by simp) ?_; (case hd => rfl); (case hg => rfl); (case hr => first | (go_simp; done) | (go_simp; rfl)); (case hp => exact (Reps.none _ _))
                     intro v186 w33 ho34 hb hg_ hnew_
                     clear hg_ hnew_
                     (first | rw [← Ny185.out] at ho34 | (simp only [Int.reduceToNat] at ho34; rw [← Ny185.out] at ho34))
                     have HO187 := am (Kd.R_lower (Kd.R_newB (Kd.R_new' ho34 (Kd.R_lt (rx HO197.out))) (g := gb180) (o := .cells #[.int .i64 a2_0, .int .i64 a2_1, .string a2_2] 56 (0, 0)) (kx BK180.out)) (below_size (zb3 HB.out GE179.out GE180.out GE181.out)))
                     replace HO197 := am (Kd.R_elder' (rx HO197.out) (Kd.R_base ho34) hb)
                     replace BK179 := zk hb BK179
                     replace BK180 := zk hb BK180
                     replace BK181 := zk hb BK181
                     replace HB := zs3 hb HB GE179 GE180 GE181
                     clear hb ho34
                     refine hK.out _ _ ⟨ct BK179.out 0, ct BK179.out 1, ct BK179.out 2, ct BK180.out 0, ct BK180.out 1, ct BK180.out 2⟩ (fun hHeld => ?_)
                     clear hK K
                     refine znm 28 ?_
                     exact norm_ (by first | (simp only [putAll, Act.put, List.setIfInBounds_toArray, List.set_cons_zero, List.set_cons_succ]; done) | (simp only [putAll, Act.put, List.setIfInBounds_toArray, List.set_cons_zero, List.set_cons_succ]; rfl)) (hJ4_15 (v186, v196) _ ⟨hHeld, (rx (Kd.R_mono HO187.out (fun _ hk => ⟨hk.1.2, hk.2⟩))), (rx (Kd.R_mono HO197.out (fun _ hk => ⟨hk.2, hk.1⟩))), (kx BK179.out), (kx BK180.out), (kx BK181.out), (zb3 HB.out GE179.out GE180.out GE181.out)⟩)
                    ·skip
                     refine box_step ?hg (N := 8) ?hd (cs := #[.int .i64 0, .int .i64 0, .slice none 0 0]) (t := 24) ?hr ?_; (case hd => rfl); (case hg => rfl); (case hr => first | (go_simp; done) | (go_simp; rfl))
                     intro gb201 hg w33 hbox hb
                     have BK201 := am (hbox)
                     have GW201 := zge hg (zb3 HB.out GE179.out GE180.out GE181.out)
                     have GE201 := zge hg (zb3 HB.out GE179.out GE180.out GE181.out)
                     obtain ⟨NB179_201, NB201_179⟩ := zne hg BK179
                     obtain ⟨NB180_201, NB201_180⟩ := zne hg BK180
                     obtain ⟨NB181_201, NB201_181⟩ := zne hg BK181
                     replace HO197 := am (Kd.R_below (rx HO197.out) hb)
                     replace BK179 := zk hb BK179
                     replace BK180 := zk hb BK180
                     replace BK181 := zk hb BK181
                     replace HB := zs3 hb HB GE179 GE180 GE181
                     clear hb hbox hg
                     refine hK.out _ _ ⟨ct BK179.out 0, ct BK179.out 1, ct BK179.out 2, ct BK180.out 0, ct BK180.out 1, ct BK180.out 2⟩ (fun hHeld => ?_)
                     clear hK K
                     refine znm 8 ?_
                     exact norm_ (by first | (simp only [putAll, Act.put, List.setIfInBounds_toArray, List.set_cons_zero, List.set_cons_succ]; done) | (simp only [putAll, Act.put, List.setIfInBounds_toArray, List.set_cons_zero, List.set_cons_succ]; rfl)) (hJ15_18 (v196, gb201) _ ⟨hHeld, (rx HO197.out), (kx BK179.out), (kx BK180.out), (kx BK181.out), (kx BK201.out), GW201.out, GE201.out, NB179_201.out, NB201_179.out, NB180_201.out, NB201_180.out, NB181_201.out, NB201_181.out, (zb4 HB.out GE179.out GE180.out GE181.out GE201.out)⟩)
                  ·skip
                   rintro v186 w32 ⟨hS_, h0_, h1_, h2_, h3_, h4_⟩
                   have n0_ : Aside0 (Kd.R k56 56 w32 w.heap.size (fun k_ => k_ ≠ gb180) v186 y185) := ⟨h0_⟩
                   have n1_ : Aside0 (w32.heap[gb179]? = some (.cells #[.int .i64 a0_0, .int .i64 a0_1, .slice A0_2 l0_2.length c0_2] 24 (0, 0))) := ⟨h1_⟩
                   have n2_ : Aside0 (w32.heap[gb180]? = some (.cells #[.int .i64 a2_0, .int .i64 a2_1, .string a2_2] 56 (0, 0))) := ⟨h2_⟩
                   have n3_ : Aside0 (w32.heap[gb181]? = some (.cells #[.int .i64 0, .int .i64 0, .slice none 0 0] 24 (0, 0))) := ⟨h3_⟩
                   have n4_ : Aside0 (Below w.heap.size w w32) := ⟨h4_⟩
                   clear BK179 BK180 BK181 HB h0_ h1_ h2_ h3_ h4_
                   have HO187 := n0_
                   have BK179 := n1_
                   have BK180 := n2_
                   have BK181 := n3_
                   have HB := n4_
                   clear n0_ n1_ n2_ n3_ n4_
                   have hHeld : w32.cell? ⟨gb179, 0, none⟩ = some (.int .i64 a0_0) ∧ w32.cell? ⟨gb179, 1, none⟩ = some (.int .i64 a0_1) ∧ w32.cell? ⟨gb179, 2, none⟩ = some (.slice A0_2 l0_2.length c0_2) ∧ w32.cell? ⟨gb180, 0, none⟩ = some (.int .i64 a2_0) ∧ w32.cell? ⟨gb180, 1, none⟩ = some (.int .i64 a2_1) ∧ w32.cell? ⟨gb180, 2, none⟩ = some (.string a2_2) := hS_
                   refine norm_ (a' := ?_) ?_ ?_
                   rotate_left
                   ·simp only [putAll, Act.put, List.setIfInBounds_toArray, List.set_cons_zero, List.set_cons_succ]
                    rfl
                   refine three_ (i := 13) (j := 15) (k := 18) (Ni := some 37) (Nj := some 39) (Nk := some 8) #[true, true, true, true, true, true, true, true, true, true, true, true, true, true, true, false, false, false, false, false] #[true, true, true, true, true, true, true, true, true, true, true, true, true, false, true, true, false, false, false, false] #[true, true, true, true, true, true, true, true, true, true, true, true, true, false, true, false, false, false, true, false] rfl rfl rfl rfl rfl rfl (three_of HT_.out (by kernel_rfl)) (by decide) (by decide) (by decide) (fun K hK => ?_) (fun K hK => ?_) (fun K hK => ?_)
                   ·skip
                    refine Kd.R_append_rows_step k56 (w0 := w) w.heap.size (by rfl) (.tmp 28) (.tmp 36) 22 56 (.agg #[(.int .i64 0), (.int .i64 0), (.string ⟨#[]⟩)]) 32 rfl Try.underlying22 info56 rfl (by decide) (by omega) v186 y185 y188 _ _ _ (fun k_ => k_ ≠ gb180) (fun _ => False) rfl rfl ?aO ?aR (fun _ _ h => h) (fun _ h => h.elim) ?aF ?aB ?aS ?aL ?_
                    (case aR => repeat (first | exact (Kd.C_below HR191.out HB.out) | (with_reducible refine Kd.C_alloc ?_ _) | (with_reducible refine Kd.C_drewN ?_ _) | (with_reducible refine Kd.C_drew ?_)))
                    (case aB => exact (zb3 HB.out GE179.out GE180.out GE181.out))
                    (case aF => exact (fun k_ hk => Kd.freshB (g := gb180) (o := .cells #[.int .i64 a2_0, .int .i64 a2_1, .string a2_2] 56 (0, 0)) (kx BK180.out) k_ hk))
                    (case aO => exact (rx HO187.out))
                    (case aS => exact (below_size (zb3 HB.out GE179.out GE180.out GE181.out)))
                    (case aL => have := LMc24.out; omega)
                    intro v193 w33 ho hb hg hat
                    rw [← Ny192.out] at ho
                    have HO194 := am (ho)
                    replace BK179 := am (blk_grown (g := gb179) (o := .cells #[.int .i64 a0_0, .int .i64 a0_1, .slice A0_2 l0_2.length c0_2] 24 (0, 0)) (kx BK179.out) hg (Kd.R_ne HO187.out BK179.out (by decide)))
                    replace BK180 := am (blk_grown (g := gb180) (o := .cells #[.int .i64 a2_0, .int .i64 a2_1, .string a2_2] 56 (0, 0)) (kx BK180.out) hg (Kd.R_away HO187.out (fun _ hk => hk)))
                    replace BK181 := am (blk_grown (g := gb181) (o := .cells #[.int .i64 0, .int .i64 0, .slice none 0 0] 24 (0, 0)) (kx BK181.out) hg (Kd.R_ne HO187.out BK181.out (by decide)))
                    replace HB := am (hb)
                    clear HO187 ho hb hg hat
                    refine hK.out _ _ ⟨ct BK179.out 0, ct BK179.out 1, ct BK179.out 2, ct BK180.out 0, ct BK180.out 1, ct BK180.out 2⟩ (fun hHeld => ?_)
                    clear hK K
                    refine znm 37 ?_
                    exact norm_ (by first | (simp only [putAll, Act.put, List.setIfInBounds_toArray, List.set_cons_zero, List.set_cons_succ]; done) | (simp only [putAll, Act.put, List.setIfInBounds_toArray, List.set_cons_zero, List.set_cons_succ]; rfl)) (hJ4_13 (v186, v193) _ ⟨hHeld, (rx HO194.out), (kx BK179.out), (kx BK180.out), (kx BK181.out), (zb3 HB.out GE179.out GE180.out GE181.out)⟩)
                   ·skip
                    refine Kd.R_lit_step k56 _ 56 ?hg (N := 39) ?hd (xs := ([(⟨a2_0, a2_1, a2_2⟩ : S56)] : List (S56))) (inner := [.int .i64 a2_0, .int .i64 a2_1, .string a2_2]) (ok := fun _ => True) (okp := fun _ => True) ?hr ?hp (fun _ hk => hk) trivial (Below.refl _ _) (Nat.le_refl _) (by simp) ?_; (case hd => rfl); (case hg => rfl); (case hr => first | (go_simp; done) | (go_simp; rfl)); (case hp => exact (Reps.c3 (show Kd.M k56 _ _ _ (⟨a2_0, a2_1, a2_2⟩ : S56) [.int .i64 a2_0, .int .i64 a2_1, .string a2_2] from (k56_mkM _ _ _ (⟨a2_0, a2_1, a2_2⟩ : S56) )) (Reps.none _ _)))
                    intro v196 w33 ho34 hb hg_ hnew_
                    clear hg_ hnew_
                    (first | rw [← Ny195.out] at ho34 | (simp only [Int.reduceToNat] at ho34; rw [← Ny195.out] at ho34))
                    have HO197 := am (Kd.R_lower (Kd.R_newB (Kd.R_new' ho34 (Kd.R_lt (rx HO187.out))) (g := gb180) (o := .cells #[.int .i64 a2_0, .int .i64 a2_1, .string a2_2] 56 (0, 0)) (kx BK180.out)) (below_size (zb3 HB.out GE179.out GE180.out GE181.out)))
                    replace HO187 := am (Kd.R_elder' (rx HO187.out) (Kd.R_base ho34) hb)
                    replace BK179 := zk hb BK179
                    replace BK180 := zk hb BK180
                    replace BK181 := zk hb BK181
                    replace HB := zs3 hb HB GE179 GE180 GE181
                    clear hb ho34
                    refine hK.out _ _ ⟨ct BK179.out 0, ct BK179.out 1, ct BK179.out 2, ct BK180.out 0, ct BK180.out 1, ct BK180.out 2⟩ (fun hHeld => ?_)
                    clear hK K
                    refine znm 39 ?_
                    exact norm_ (by first | (simp only [putAll, Act.put, List.setIfInBounds_toArray, List.set_cons_zero, List.set_cons_succ]; done) | (simp only [putAll, Act.put, List.setIfInBounds_toArray, List.set_cons_zero, List.set_cons_succ]; rfl)) (hJ4_15 (v186, v196) _ ⟨hHeld, (rx (Kd.R_mono HO187.out (fun _ hk => ⟨hk.2, hk.1⟩))), (rx (Kd.R_mono HO197.out (fun _ hk => ⟨hk.1.2, hk.2⟩))), (kx BK179.out), (kx BK180.out), (kx BK181.out), (zb3 HB.out GE179.out GE180.out GE181.out)⟩)
                   ·skip
                    refine box_step ?hg (N := 8) ?hd (cs := #[.int .i64 0, .int .i64 0, .slice none 0 0]) (t := 24) ?hr ?_; (case hd => rfl); (case hg => rfl); (case hr => first | (go_simp; done) | (go_simp; rfl))
                    intro gb201 hg w33 hbox hb
                    have BK201 := am (hbox)
                    have GW201 := zge hg (zb3 HB.out GE179.out GE180.out GE181.out)
                    have GE201 := zge hg (zb3 HB.out GE179.out GE180.out GE181.out)
                    obtain ⟨NB179_201, NB201_179⟩ := zne hg BK179
                    obtain ⟨NB180_201, NB201_180⟩ := zne hg BK180
                    obtain ⟨NB181_201, NB201_181⟩ := zne hg BK181
                    replace HO187 := am (Kd.R_below (rx HO187.out) hb)
                    replace BK179 := zk hb BK179
                    replace BK180 := zk hb BK180
                    replace BK181 := zk hb BK181
                    replace HB := zs3 hb HB GE179 GE180 GE181
                    clear hb hbox hg
                    refine hK.out _ _ ⟨ct BK179.out 0, ct BK179.out 1, ct BK179.out 2, ct BK180.out 0, ct BK180.out 1, ct BK180.out 2⟩ (fun hHeld => ?_)
                    clear hK K
                    refine znm 8 ?_
                    exact norm_ (by first | (simp only [putAll, Act.put, List.setIfInBounds_toArray, List.set_cons_zero, List.set_cons_succ]; done) | (simp only [putAll, Act.put, List.setIfInBounds_toArray, List.set_cons_zero, List.set_cons_succ]; rfl)) (hJ4_18 (v186, gb201) _ ⟨hHeld, (rx HO187.out), (kx BK179.out), (kx BK180.out), (kx BK181.out), (kx BK201.out), GW201.out, GE201.out, NB179_201.out, NB201_179.out, NB180_201.out, NB201_180.out, NB181_201.out, NB201_181.out, (zb4 HB.out GE179.out GE180.out GE181.out GE201.out)⟩)
                 ·skip
                  rintro ⟨v196, gb201⟩ w33 ⟨hS_, h0_, h1_, h2_, h3_, h4_, h5_, h6_, h7_, h8_, h9_, h10_, h11_, h12_, h13_⟩
                  have n0_ : Aside0 (Kd.R k56 56 w33 w.heap.size (fun k_ => k_ ≠ gb180) v196 y195) := ⟨h0_⟩
                  have n1_ : Aside0 (w33.heap[gb179]? = some (.cells #[.int .i64 a0_0, .int .i64 a0_1, .slice A0_2 l0_2.length c0_2] 24 (0, 0))) := ⟨h1_⟩
                  have n2_ : Aside0 (w33.heap[gb180]? = some (.cells #[.int .i64 a2_0, .int .i64 a2_1, .string a2_2] 56 (0, 0))) := ⟨h2_⟩
                  have n3_ : Aside0 (w33.heap[gb181]? = some (.cells #[.int .i64 0, .int .i64 0, .slice none 0 0] 24 (0, 0))) := ⟨h3_⟩
                  have n4_ : Aside0 (w33.heap[gb201]? = some (.cells #[.int .i64 0, .int .i64 0, .slice none 0 0] 24 (0, 0))) := ⟨h4_⟩
                  have n5_ : Aside0 (w.heap.size ≤ gb201) := ⟨h5_⟩
                  have n6_ : Aside0 (w.heap.size ≤ gb201) := ⟨h6_⟩
                  have n7_ : Aside0 (gb179 ≠ gb201) := ⟨h7_⟩
                  have n8_ : Aside0 (gb201 ≠ gb179) := ⟨h8_⟩
                  have n9_ : Aside0 (gb180 ≠ gb201) := ⟨h9_⟩
                  have n10_ : Aside0 (gb201 ≠ gb180) := ⟨h10_⟩
                  have n11_ : Aside0 (gb181 ≠ gb201) := ⟨h11_⟩
                  have n12_ : Aside0 (gb201 ≠ gb181) := ⟨h12_⟩
                  have n13_ : Aside0 (Below w.heap.size w w33) := ⟨h13_⟩
                  clear BK179 BK180 BK181 HB h0_ h1_ h2_ h3_ h4_ h5_ h6_ h7_ h8_ h9_ h10_ h11_ h12_ h13_
                  have HO197 := n0_
                  have BK179 := n1_
                  have BK180 := n2_
                  have BK181 := n3_
                  have BK201 := n4_
                  have GW201 := n5_
                  have GE201 := n6_
                  have NB179_201 := n7_
                  have NB201_179 := n8_
                  have NB180_201 := n9_
                  have NB201_180 := n10_
                  have NB181_201 := n11_
                  have NB201_181 := n12_
                  have HB := n13_
                  clear n0_ n1_ n2_ n3_ n4_ n5_ n6_ n7_ n8_ n9_ n10_ n11_ n12_ n13_
                  have hHeld : w33.cell? ⟨gb179, 0, none⟩ = some (.int .i64 a0_0) ∧ w33.cell? ⟨gb179, 1, none⟩ = some (.int .i64 a0_1) ∧ w33.cell? ⟨gb179, 2, none⟩ = some (.slice A0_2 l0_2.length c0_2) ∧ w33.cell? ⟨gb180, 0, none⟩ = some (.int .i64 a2_0) ∧ w33.cell? ⟨gb180, 1, none⟩ = some (.int .i64 a2_1) ∧ w33.cell? ⟨gb180, 2, none⟩ = some (.string a2_2) := hS_
                  refine norm_ (a' := ?_) ?_ ?_
                  rotate_left
                  ·simp only [putAll, Act.put, List.setIfInBounds_toArray, List.set_cons_zero, List.set_cons_succ]
                   rfl
                  refine zon 4 #[true, true, true, true, true, true, true, true, true, true, true, true, true, false, true, true, false, false, true, false] HT_ (fun K hK => ?_)
                  refine Kd.R_lit_step k56 _ 56 ?hg (N := 28) ?hd (xs := ([] : List (S56))) (inner := []) (ok := fun _ => True) (okp := fun _ => True) ?hr ?hp (fun _ hk => hk) trivial (Below.refl _ _) (Nat.le_refl _) (by simp) ?_; (case hd => rfl); (case hg => rfl); (case hr => first | (go_simp; done) | (go_simp; rfl)); (case hp => exact (Reps.none _ _))
                  intro v186 w34 ho35 hb hg_ hnew_
                  clear hg_ hnew_
                  (first | rw [← Ny185.out] at ho35 | (simp only [Int.reduceToNat] at ho35; rw [← Ny185.out] at ho35))
                  have HO187 := am (Kd.R_lower (Kd.R_newB (Kd.R_new' ho35 (Kd.R_lt (rx HO197.out))) (g := gb180) (o := .cells #[.int .i64 a2_0, .int .i64 a2_1, .string a2_2] 56 (0, 0)) (kx BK180.out)) (below_size (zb4 HB.out GE179.out GE180.out GE181.out GE201.out)))
                  replace HO197 := am (Kd.R_elder' (rx HO197.out) (Kd.R_base ho35) hb)
                  replace BK179 := zk hb BK179
                  replace BK180 := zk hb BK180
                  replace BK181 := zk hb BK181
                  replace BK201 := zk hb BK201
                  replace HB := zs4 hb HB GE179 GE180 GE181 GE201
                  clear hb ho35
                  refine hK.out _ _ ⟨ct BK179.out 0, ct BK179.out 1, ct BK179.out 2, ct BK180.out 0, ct BK180.out 1, ct BK180.out 2⟩ (fun hHeld => ?_)
                  clear hK K
                  refine znm 28 ?_
                  exact norm_ (by first | (simp only [putAll, Act.put, List.setIfInBounds_toArray, List.set_cons_zero, List.set_cons_succ]; done) | (simp only [putAll, Act.put, List.setIfInBounds_toArray, List.set_cons_zero, List.set_cons_succ]; rfl)) (hJ4_15_18 (v186, v196, gb201) _ ⟨hHeld, (rx (Kd.R_mono HO187.out (fun _ hk => ⟨hk.1.2, hk.2⟩))), (rx (Kd.R_mono HO197.out (fun _ hk => ⟨hk.2, hk.1⟩))), (kx BK179.out), (kx BK180.out), (kx BK181.out), (kx BK201.out), GW201.out, GE201.out, NB179_201.out, NB201_179.out, NB180_201.out, NB201_180.out, NB181_201.out, NB201_181.out, (zb4 HB.out GE179.out GE180.out GE181.out GE201.out)⟩)
                ·skip
                 rintro ⟨v186, gb201⟩ w33 ⟨hS_, h0_, h1_, h2_, h3_, h4_, h5_, h6_, h7_, h8_, h9_, h10_, h11_, h12_, h13_⟩
                 have n0_ : Aside0 (Kd.R k56 56 w33 w.heap.size (fun k_ => k_ ≠ gb180) v186 y185) := ⟨h0_⟩
                 have n1_ : Aside0 (w33.heap[gb179]? = some (.cells #[.int .i64 a0_0, .int .i64 a0_1, .slice A0_2 l0_2.length c0_2] 24 (0, 0))) := ⟨h1_⟩
                 have n2_ : Aside0 (w33.heap[gb180]? = some (.cells #[.int .i64 a2_0, .int .i64 a2_1, .string a2_2] 56 (0, 0))) := ⟨h2_⟩
                 have n3_ : Aside0 (w33.heap[gb181]? = some (.cells #[.int .i64 0, .int .i64 0, .slice none 0 0] 24 (0, 0))) := ⟨h3_⟩
                 have n4_ : Aside0 (w33.heap[gb201]? = some (.cells #[.int .i64 0, .int .i64 0, .slice none 0 0] 24 (0, 0))) := ⟨h4_⟩
                 have n5_ : Aside0 (w.heap.size ≤ gb201) := ⟨h5_⟩
                 have n6_ : Aside0 (w.heap.size ≤ gb201) := ⟨h6_⟩
                 have n7_ : Aside0 (gb179 ≠ gb201) := ⟨h7_⟩
                 have n8_ : Aside0 (gb201 ≠ gb179) := ⟨h8_⟩
                 have n9_ : Aside0 (gb180 ≠ gb201) := ⟨h9_⟩
                 have n10_ : Aside0 (gb201 ≠ gb180) := ⟨h10_⟩
                 have n11_ : Aside0 (gb181 ≠ gb201) := ⟨h11_⟩
                 have n12_ : Aside0 (gb201 ≠ gb181) := ⟨h12_⟩
                 have n13_ : Aside0 (Below w.heap.size w w33) := ⟨h13_⟩
                 clear BK179 BK180 BK181 HB h0_ h1_ h2_ h3_ h4_ h5_ h6_ h7_ h8_ h9_ h10_ h11_ h12_ h13_
                 have HO187 := n0_
                 have BK179 := n1_
                 have BK180 := n2_
                 have BK181 := n3_
                 have BK201 := n4_
                 have GW201 := n5_
                 have GE201 := n6_
                 have NB179_201 := n7_
                 have NB201_179 := n8_
                 have NB180_201 := n9_
                 have NB201_180 := n10_
                 have NB181_201 := n11_
                 have NB201_181 := n12_
                 have HB := n13_
                 clear n0_ n1_ n2_ n3_ n4_ n5_ n6_ n7_ n8_ n9_ n10_ n11_ n12_ n13_
                 have hHeld : w33.cell? ⟨gb179, 0, none⟩ = some (.int .i64 a0_0) ∧ w33.cell? ⟨gb179, 1, none⟩ = some (.int .i64 a0_1) ∧ w33.cell? ⟨gb179, 2, none⟩ = some (.slice A0_2 l0_2.length c0_2) ∧ w33.cell? ⟨gb180, 0, none⟩ = some (.int .i64 a2_0) ∧ w33.cell? ⟨gb180, 1, none⟩ = some (.int .i64 a2_1) ∧ w33.cell? ⟨gb180, 2, none⟩ = some (.string a2_2) := hS_
                 refine norm_ (a' := ?_) ?_ ?_
                 rotate_left
                 ·simp only [putAll, Act.put, List.setIfInBounds_toArray, List.set_cons_zero, List.set_cons_succ]
                  rfl
                 refine two_ (i := 13) (j := 15) (Ni := some 37) (Nj := some 39) #[true, true, true, true, true, true, true, true, true, true, true, true, true, true, true, false, false, false, true, false] #[true, true, true, true, true, true, true, true, true, true, true, true, true, false, true, true, false, false, true, false] rfl rfl rfl rfl (two_of HT_.out (by kernel_rfl)) (by decide) (by decide) (fun K hK => ?_) (fun K hK => ?_)
                 ·skip
                  refine Kd.R_append_rows_step k56 (w0 := w) w.heap.size (by rfl) (.tmp 28) (.tmp 36) 22 56 (.agg #[(.int .i64 0), (.int .i64 0), (.string ⟨#[]⟩)]) 32 rfl Try.underlying22 info56 rfl (by decide) (by omega) v186 y185 y188 _ _ _ (fun k_ => k_ ≠ gb180) (fun _ => False) rfl rfl ?aO ?aR (fun _ _ h => h) (fun _ h => h.elim) ?aF ?aB ?aS ?aL ?_
                  (case aR => repeat (first | exact (Kd.C_below HR191.out HB.out) | (with_reducible refine Kd.C_alloc ?_ _) | (with_reducible refine Kd.C_drewN ?_ _) | (with_reducible refine Kd.C_drew ?_)))
                  (case aB => exact (zb4 HB.out GE179.out GE180.out GE181.out GE201.out))
                  (case aF => exact (fun k_ hk => Kd.freshB (g := gb180) (o := .cells #[.int .i64 a2_0, .int .i64 a2_1, .string a2_2] 56 (0, 0)) (kx BK180.out) k_ hk))
                  (case aO => exact (rx HO187.out))
                  (case aS => exact (below_size (zb4 HB.out GE179.out GE180.out GE181.out GE201.out)))
                  (case aL => have := LMc24.out; omega)
                  intro v193 w34 ho hb hg hat
                  rw [← Ny192.out] at ho
                  have HO194 := am (ho)
                  replace BK179 := am (blk_grown (g := gb179) (o := .cells #[.int .i64 a0_0, .int .i64 a0_1, .slice A0_2 l0_2.length c0_2] 24 (0, 0)) (kx BK179.out) hg (Kd.R_ne HO187.out BK179.out (by decide)))
                  replace BK180 := am (blk_grown (g := gb180) (o := .cells #[.int .i64 a2_0, .int .i64 a2_1, .string a2_2] 56 (0, 0)) (kx BK180.out) hg (Kd.R_away HO187.out (fun _ hk => hk)))
                  replace BK181 := am (blk_grown (g := gb181) (o := .cells #[.int .i64 0, .int .i64 0, .slice none 0 0] 24 (0, 0)) (kx BK181.out) hg (Kd.R_ne HO187.out BK181.out (by decide)))
                  replace BK201 := am (blk_grown (g := gb201) (o := .cells #[.int .i64 0, .int .i64 0, .slice none 0 0] 24 (0, 0)) (kx BK201.out) hg (Kd.R_ne HO187.out BK201.out (by decide)))
                  replace HB := am (hb)
                  clear HO187 ho hb hg hat
                  refine hK.out _ _ ⟨ct BK179.out 0, ct BK179.out 1, ct BK179.out 2, ct BK180.out 0, ct BK180.out 1, ct BK180.out 2⟩ (fun hHeld => ?_)
                  clear hK K
                  refine znm 37 ?_
                  exact norm_ (by first | (simp only [putAll, Act.put, List.setIfInBounds_toArray, List.set_cons_zero, List.set_cons_succ]; done) | (simp only [putAll, Act.put, List.setIfInBounds_toArray, List.set_cons_zero, List.set_cons_succ]; rfl)) (hJ4_13_18 (v186, v193, gb201) _ ⟨hHeld, (rx HO194.out), (kx BK179.out), (kx BK180.out), (kx BK181.out), (kx BK201.out), GW201.out, GE201.out, NB179_201.out, NB201_179.out, NB180_201.out, NB201_180.out, NB181_201.out, NB201_181.out, (zb4 HB.out GE179.out GE180.out GE181.out GE201.out)⟩)
                 ·skip
                  refine Kd.R_lit_step k56 _ 56 ?hg (N := 39) ?hd (xs := ([(⟨a2_0, a2_1, a2_2⟩ : S56)] : List (S56))) (inner := [.int .i64 a2_0, .int .i64 a2_1, .string a2_2]) (ok := fun _ => True) (okp := fun _ => True) ?hr ?hp (fun _ hk => hk) trivial (Below.refl _ _) (Nat.le_refl _) (by simp) ?_; (case hd => rfl); (case hg => rfl); (case hr => first | (go_simp; done) | (go_simp; rfl)); (case hp => exact (Reps.c3 (show Kd.M k56 _ _ _ (⟨a2_0, a2_1, a2_2⟩ : S56) [.int .i64 a2_0, .int .i64 a2_1, .string a2_2] from (k56_mkM _ _ _ (⟨a2_0, a2_1, a2_2⟩ : S56) )) (Reps.none _ _)))
                  intro v196 w34 ho35 hb hg_ hnew_
                  clear hg_ hnew_
                  (first | rw [← Ny195.out] at ho35 | (simp only [Int.reduceToNat] at ho35; rw [← Ny195.out] at ho35))
                  have HO197 := am (Kd.R_lower (Kd.R_newB (Kd.R_new' ho35 (Kd.R_lt (rx HO187.out))) (g := gb180) (o := .cells #[.int .i64 a2_0, .int .i64 a2_1, .string a2_2] 56 (0, 0)) (kx BK180.out)) (below_size (zb4 HB.out GE179.out GE180.out GE181.out GE201.out)))
                  replace HO187 := am (Kd.R_elder' (rx HO187.out) (Kd.R_base ho35) hb)
                  replace BK179 := zk hb BK179
                  replace BK180 := zk hb BK180
                  replace BK181 := zk hb BK181
                  replace BK201 := zk hb BK201
                  replace HB := zs4 hb HB GE179 GE180 GE181 GE201
                  clear hb ho35
                  refine hK.out _ _ ⟨ct BK179.out 0, ct BK179.out 1, ct BK179.out 2, ct BK180.out 0, ct BK180.out 1, ct BK180.out 2⟩ (fun hHeld => ?_)
                  clear hK K
                  refine znm 39 ?_
                  exact norm_ (by first | (simp only [putAll, Act.put, List.setIfInBounds_toArray, List.set_cons_zero, List.set_cons_succ]; done) | (simp only [putAll, Act.put, List.setIfInBounds_toArray, List.set_cons_zero, List.set_cons_succ]; rfl)) (hJ4_15_18 (v186, v196, gb201) _ ⟨hHeld, (rx (Kd.R_mono HO187.out (fun _ hk => ⟨hk.2, hk.1⟩))), (rx (Kd.R_mono HO197.out (fun _ hk => ⟨hk.1.2, hk.2⟩))), (kx BK179.out), (kx BK180.out), (kx BK181.out), (kx BK201.out), GW201.out, GE201.out, NB179_201.out, NB201_179.out, NB180_201.out, NB201_180.out, NB181_201.out, NB201_181.out, (zb4 HB.out GE179.out GE180.out GE181.out GE201.out)⟩)
               ·skip
                rintro ⟨v186, v196⟩ w34 ⟨hS_, h0_, h1_, h2_, h3_, h4_, h5_⟩
                have n0_ : Aside0 (Kd.R k56 56 w34 w.heap.size (fun k_ => some k_ ≠ (v196 : Value).ownBlock ∧ k_ ≠ gb180) v186 y185) := ⟨h0_⟩
                have n1_ : Aside0 (Kd.R k56 56 w34 w.heap.size (fun k_ => some k_ ≠ (v186 : Value).ownBlock ∧ k_ ≠ gb180) v196 y195) := ⟨h1_⟩
                have n2_ : Aside0 (w34.heap[gb179]? = some (.cells #[.int .i64 a0_0, .int .i64 a0_1, .slice A0_2 l0_2.length c0_2] 24 (0, 0))) := ⟨h2_⟩
                have n3_ : Aside0 (w34.heap[gb180]? = some (.cells #[.int .i64 a2_0, .int .i64 a2_1, .string a2_2] 56 (0, 0))) := ⟨h3_⟩
                have n4_ : Aside0 (w34.heap[gb181]? = some (.cells #[.int .i64 0, .int .i64 0, .slice none 0 0] 24 (0, 0))) := ⟨h4_⟩
                have n5_ : Aside0 (Below w.heap.size w w34) := ⟨h5_⟩
                clear BK179 BK180 BK181 HB h0_ h1_ h2_ h3_ h4_ h5_
                have HO187 := n0_
                have HO197 := n1_
                have BK179 := n2_
                have BK180 := n3_
                have BK181 := n4_
                have HB := n5_
                clear n0_ n1_ n2_ n3_ n4_ n5_
                have hHeld : w34.cell? ⟨gb179, 0, none⟩ = some (.int .i64 a0_0) ∧ w34.cell? ⟨gb179, 1, none⟩ = some (.int .i64 a0_1) ∧ w34.cell? ⟨gb179, 2, none⟩ = some (.slice A0_2 l0_2.length c0_2) ∧ w34.cell? ⟨gb180, 0, none⟩ = some (.int .i64 a2_0) ∧ w34.cell? ⟨gb180, 1, none⟩ = some (.int .i64 a2_1) ∧ w34.cell? ⟨gb180, 2, none⟩ = some (.string a2_2) := hS_
                refine norm_ (a' := ?_) ?_ ?_
                rotate_left
                ·simp only [putAll, Act.put, List.setIfInBounds_toArray, List.set_cons_zero, List.set_cons_succ]
                 rfl
                refine two_ (i := 13) (j := 18) (Ni := some 37) (Nj := some 8) #[true, true, true, true, true, true, true, true, true, true, true, true, true, true, true, true, false, false, false, false] #[true, true, true, true, true, true, true, true, true, true, true, true, true, false, true, true, false, false, true, false] rfl rfl rfl rfl (two_of HT_.out (by kernel_rfl)) (by decide) (by decide) (fun K hK => ?_) (fun K hK => ?_)
                ·skip
                 refine Kd.R_append_rows_step k56 (w0 := w) w.heap.size (by rfl) (.tmp 28) (.tmp 36) 22 56 (.agg #[(.int .i64 0), (.int .i64 0), (.string ⟨#[]⟩)]) 32 rfl Try.underlying22 info56 rfl (by decide) (by omega) v186 y185 y188 _ _ _ (fun k_ => some k_ ≠ (v196 : Value).ownBlock ∧ k_ ≠ gb180) (fun _ => False) rfl rfl ?aO ?aR (fun _ _ h => h) (fun _ h => h.elim) ?aF ?aB ?aS ?aL ?_
                 (case aR => repeat (first | exact (Kd.C_below HR191.out HB.out) | (with_reducible refine Kd.C_alloc ?_ _) | (with_reducible refine Kd.C_drewN ?_ _) | (with_reducible refine Kd.C_drew ?_)))
                 (case aB => exact (zb3 HB.out GE179.out GE180.out GE181.out))
                 (case aF => exact (fun k_ hk => ⟨Kd.fresh' (Kd.R_lt (rx HO197.out)) k_ hk, Kd.freshB (g := gb180) (o := .cells #[.int .i64 a2_0, .int .i64 a2_1, .string a2_2] 56 (0, 0)) (kx BK180.out) k_ hk⟩))
                 (case aO => exact (rx HO187.out))
                 (case aS => exact (below_size (zb3 HB.out GE179.out GE180.out GE181.out)))
                 (case aL => have := LMc24.out; omega)
                 intro v193 w35 ho hb hg hat
                 rw [← Ny192.out] at ho
                 have HO194 := am (ho)
                 replace BK179 := am (blk_grown (g := gb179) (o := .cells #[.int .i64 a0_0, .int .i64 a0_1, .slice A0_2 l0_2.length c0_2] 24 (0, 0)) (kx BK179.out) hg (Kd.R_ne HO187.out BK179.out (by decide)))
                 replace BK180 := am (blk_grown (g := gb180) (o := .cells #[.int .i64 a2_0, .int .i64 a2_1, .string a2_2] 56 (0, 0)) (kx BK180.out) hg (Kd.R_away HO187.out (fun _ hk => hk.2)))
                 replace BK181 := am (blk_grown (g := gb181) (o := .cells #[.int .i64 0, .int .i64 0, .slice none 0 0] 24 (0, 0)) (kx BK181.out) hg (Kd.R_ne HO187.out BK181.out (by decide)))
                 replace HO197 := am (Kd.R_after (ok := (fun k_ => k_ ≠ gb180)) (rx (Kd.R_mono HO197.out (fun _ hk => ⟨hk.2, hk.1⟩))) hg hat)
                 replace HB := am (hb)
                 clear HO187 ho hb hg hat
                 refine hK.out _ _ ⟨ct BK179.out 0, ct BK179.out 1, ct BK179.out 2, ct BK180.out 0, ct BK180.out 1, ct BK180.out 2⟩ (fun hHeld => ?_)
                 clear hK K
                 refine znm 37 ?_
                 exact norm_ (by first | (simp only [putAll, Act.put, List.setIfInBounds_toArray, List.set_cons_zero, List.set_cons_succ]; done) | (simp only [putAll, Act.put, List.setIfInBounds_toArray, List.set_cons_zero, List.set_cons_succ]; rfl)) (hJ4_13_15 (v186, v193, v196) _ ⟨hHeld, (rx HO194.out), (rx (Kd.R_mono HO197.out (fun _ hk => ⟨hk.2, hk.1⟩))), (kx BK179.out), (kx BK180.out), (kx BK181.out), (zb3 HB.out GE179.out GE180.out GE181.out)⟩)
                ·skip
                 refine box_step ?hg (N := 8) ?hd (cs := #[.int .i64 0, .int .i64 0, .slice none 0 0]) (t := 24) ?hr ?_; (case hd => rfl); (case hg => rfl); (case hr => first | (go_simp; done) | (go_simp; rfl))
                 intro gb201 hg w35 hbox hb
                 have BK201 := am (hbox)
                 have GW201 := zge hg (zb3 HB.out GE179.out GE180.out GE181.out)
                 have GE201 := zge hg (zb3 HB.out GE179.out GE180.out GE181.out)
                 obtain ⟨NB179_201, NB201_179⟩ := zne hg BK179
                 obtain ⟨NB180_201, NB201_180⟩ := zne hg BK180
                 obtain ⟨NB181_201, NB201_181⟩ := zne hg BK181
                 replace HO187 := am (Kd.R_below (rx HO187.out) hb)
                 replace HO197 := am (Kd.R_below (rx HO197.out) hb)
                 replace BK179 := zk hb BK179
                 replace BK180 := zk hb BK180
                 replace BK181 := zk hb BK181
                 replace HB := zs3 hb HB GE179 GE180 GE181
                 clear hb hbox hg
                 refine hK.out _ _ ⟨ct BK179.out 0, ct BK179.out 1, ct BK179.out 2, ct BK180.out 0, ct BK180.out 1, ct BK180.out 2⟩ (fun hHeld => ?_)
                 clear hK K
                 refine znm 8 ?_
                 exact norm_ (by first | (simp only [putAll, Act.put, List.setIfInBounds_toArray, List.set_cons_zero, List.set_cons_succ]; done) | (simp only [putAll, Act.put, List.setIfInBounds_toArray, List.set_cons_zero, List.set_cons_succ]; rfl)) (hJ4_15_18 (v186, v196, gb201) _ ⟨hHeld, (rx HO187.out), (rx HO197.out), (kx BK179.out), (kx BK180.out), (kx BK181.out), (kx BK201.out), GW201.out, GE201.out, NB179_201.out, NB201_179.out, NB180_201.out, NB201_180.out, NB181_201.out, NB201_181.out, (zb4 HB.out GE179.out GE180.out GE181.out GE201.out)⟩)
              ·skip
               rintro ⟨v186, v193⟩ w33 ⟨hS_, h0_, h1_, h2_, h3_, h4_⟩
               have n0_ : Aside0 (Kd.R k56 56 w33 w.heap.size (fun k_ => k_ ≠ gb180) v193 y192) := ⟨h0_⟩
               have n1_ : Aside0 (w33.heap[gb179]? = some (.cells #[.int .i64 a0_0, .int .i64 a0_1, .slice A0_2 l0_2.length c0_2] 24 (0, 0))) := ⟨h1_⟩
               have n2_ : Aside0 (w33.heap[gb180]? = some (.cells #[.int .i64 a2_0, .int .i64 a2_1, .string a2_2] 56 (0, 0))) := ⟨h2_⟩
               have n3_ : Aside0 (w33.heap[gb181]? = some (.cells #[.int .i64 0, .int .i64 0, .slice none 0 0] 24 (0, 0))) := ⟨h3_⟩
               have n4_ : Aside0 (Below w.heap.size w w33) := ⟨h4_⟩
               clear BK179 BK180 BK181 HB h0_ h1_ h2_ h3_ h4_
               have HO194 := n0_
               have BK179 := n1_
               have BK180 := n2_
               have BK181 := n3_
               have HB := n4_
               clear n0_ n1_ n2_ n3_ n4_
               have hHeld : w33.cell? ⟨gb179, 0, none⟩ = some (.int .i64 a0_0) ∧ w33.cell? ⟨gb179, 1, none⟩ = some (.int .i64 a0_1) ∧ w33.cell? ⟨gb179, 2, none⟩ = some (.slice A0_2 l0_2.length c0_2) ∧ w33.cell? ⟨gb180, 0, none⟩ = some (.int .i64 a2_0) ∧ w33.cell? ⟨gb180, 1, none⟩ = some (.int .i64 a2_1) ∧ w33.cell? ⟨gb180, 2, none⟩ = some (.string a2_2) := hS_
               refine norm_ (a' := ?_) ?_ ?_
               rotate_left
               ·simp only [putAll, Act.put, List.setIfInBounds_toArray, List.set_cons_zero, List.set_cons_succ]
                rfl
               refine two_ (i := 15) (j := 18) (Ni := some 39) (Nj := some 8) #[true, true, true, true, true, true, true, true, true, true, true, true, true, true, true, true, false, false, false, false] #[true, true, true, true, true, true, true, true, true, true, true, true, true, true, true, false, false, false, true, false] rfl rfl rfl rfl (two_of HT_.out (by kernel_rfl)) (by decide) (by decide) (fun K hK => ?_) (fun K hK => ?_)
               ·skip
                refine Kd.R_lit_step k56 _ 56 ?hg (N := 39) ?hd (xs := ([(⟨a2_0, a2_1, a2_2⟩ : S56)] : List (S56))) (inner := [.int .i64 a2_0, .int .i64 a2_1, .string a2_2]) (ok := fun _ => True) (okp := fun _ => True) ?hr ?hp (fun _ hk => hk) trivial (Below.refl _ _) (Nat.le_refl _) (by simp) ?_; (case hd => rfl); (case hg => rfl); (case hr => first | (go_simp; done) | (go_simp; rfl)); (case hp => exact (Reps.c3 (show Kd.M k56 _ _ _ (⟨a2_0, a2_1, a2_2⟩ : S56) [.int .i64 a2_0, .int .i64 a2_1, .string a2_2] from (k56_mkM _ _ _ (⟨a2_0, a2_1, a2_2⟩ : S56) )) (Reps.none _ _)))
                intro v196 w34 ho35 hb hg_ hnew_
                clear hg_ hnew_
                (first | rw [← Ny195.out] at ho35 | (simp only [Int.reduceToNat] at ho35; rw [← Ny195.out] at ho35))
                have HO197 := am (Kd.R_lower (Kd.R_newB (Kd.R_new' ho35 (Kd.R_lt (rx HO194.out))) (g := gb180) (o := .cells #[.int .i64 a2_0, .int .i64 a2_1, .string a2_2] 56 (0, 0)) (kx BK180.out)) (below_size (zb3 HB.out GE179.out GE180.out GE181.out)))
                replace HO194 := am (Kd.R_elder' (rx HO194.out) (Kd.R_base ho35) hb)
                replace BK179 := zk hb BK179
                replace BK180 := zk hb BK180
                replace BK181 := zk hb BK181
                replace HB := zs3 hb HB GE179 GE180 GE181
                clear hb ho35
                refine hK.out _ _ ⟨ct BK179.out 0, ct BK179.out 1, ct BK179.out 2, ct BK180.out 0, ct BK180.out 1, ct BK180.out 2⟩ (fun hHeld => ?_)
                clear hK K
                refine znm 39 ?_
                exact norm_ (by first | (simp only [putAll, Act.put, List.setIfInBounds_toArray, List.set_cons_zero, List.set_cons_succ]; done) | (simp only [putAll, Act.put, List.setIfInBounds_toArray, List.set_cons_zero, List.set_cons_succ]; rfl)) (hJ4_13_15 (v186, v193, v196) _ ⟨hHeld, (rx (Kd.R_mono HO194.out (fun _ hk => ⟨hk.2, hk.1⟩))), (rx (Kd.R_mono HO197.out (fun _ hk => ⟨hk.1.2, hk.2⟩))), (kx BK179.out), (kx BK180.out), (kx BK181.out), (zb3 HB.out GE179.out GE180.out GE181.out)⟩)
               ·skip
                refine box_step ?hg (N := 8) ?hd (cs := #[.int .i64 0, .int .i64 0, .slice none 0 0]) (t := 24) ?hr ?_; (case hd => rfl); (case hg => rfl); (case hr => first | (go_simp; done) | (go_simp; rfl))
                intro gb201 hg w34 hbox hb
                have BK201 := am (hbox)
                have GW201 := zge hg (zb3 HB.out GE179.out GE180.out GE181.out)
                have GE201 := zge hg (zb3 HB.out GE179.out GE180.out GE181.out)
                obtain ⟨NB179_201, NB201_179⟩ := zne hg BK179
                obtain ⟨NB180_201, NB201_180⟩ := zne hg BK180
                obtain ⟨NB181_201, NB201_181⟩ := zne hg BK181
                replace HO194 := am (Kd.R_below (rx HO194.out) hb)
                replace BK179 := zk hb BK179
                replace BK180 := zk hb BK180
                replace BK181 := zk hb BK181
                replace HB := zs3 hb HB GE179 GE180 GE181
                clear hb hbox hg
                refine hK.out _ _ ⟨ct BK179.out 0, ct BK179.out 1, ct BK179.out 2, ct BK180.out 0, ct BK180.out 1, ct BK180.out 2⟩ (fun hHeld => ?_)
                clear hK K
                refine znm 8 ?_
                exact norm_ (by first | (simp only [putAll, Act.put, List.setIfInBounds_toArray, List.set_cons_zero, List.set_cons_succ]; done) | (simp only [putAll, Act.put, List.setIfInBounds_toArray, List.set_cons_zero, List.set_cons_succ]; rfl)) (hJ4_13_18 (v186, v193, gb201) _ ⟨hHeld, (rx HO194.out), (kx BK179.out), (kx BK180.out), (kx BK181.out), (kx BK201.out), GW201.out, GE201.out, NB179_201.out, NB201_179.out, NB180_201.out, NB201_180.out, NB181_201.out, NB201_181.out, (zb4 HB.out GE179.out GE180.out GE181.out GE201.out)⟩)
             ·skip
              rintro ⟨v186, v196, gb201⟩ w35 ⟨hS_, h0_, h1_, h2_, h3_, h4_, h5_, h6_, h7_, h8_, h9_, h10_, h11_, h12_, h13_, h14_⟩
              have n0_ : Aside0 (Kd.R k56 56 w35 w.heap.size (fun k_ => some k_ ≠ (v196 : Value).ownBlock ∧ k_ ≠ gb180) v186 y185) := ⟨h0_⟩
              have n1_ : Aside0 (Kd.R k56 56 w35 w.heap.size (fun k_ => some k_ ≠ (v186 : Value).ownBlock ∧ k_ ≠ gb180) v196 y195) := ⟨h1_⟩
              have n2_ : Aside0 (w35.heap[gb179]? = some (.cells #[.int .i64 a0_0, .int .i64 a0_1, .slice A0_2 l0_2.length c0_2] 24 (0, 0))) := ⟨h2_⟩
              have n3_ : Aside0 (w35.heap[gb180]? = some (.cells #[.int .i64 a2_0, .int .i64 a2_1, .string a2_2] 56 (0, 0))) := ⟨h3_⟩
              have n4_ : Aside0 (w35.heap[gb181]? = some (.cells #[.int .i64 0, .int .i64 0, .slice none 0 0] 24 (0, 0))) := ⟨h4_⟩
              have n5_ : Aside0 (w35.heap[gb201]? = some (.cells #[.int .i64 0, .int .i64 0, .slice none 0 0] 24 (0, 0))) := ⟨h5_⟩
              have n6_ : Aside0 (w.heap.size ≤ gb201) := ⟨h6_⟩
              have n7_ : Aside0 (w.heap.size ≤ gb201) := ⟨h7_⟩
              have n8_ : Aside0 (gb179 ≠ gb201) := ⟨h8_⟩
              have n9_ : Aside0 (gb201 ≠ gb179) := ⟨h9_⟩
              have n10_ : Aside0 (gb180 ≠ gb201) := ⟨h10_⟩
              have n11_ : Aside0 (gb201 ≠ gb180) := ⟨h11_⟩
              have n12_ : Aside0 (gb181 ≠ gb201) := ⟨h12_⟩
              have n13_ : Aside0 (gb201 ≠ gb181) := ⟨h13_⟩
              have n14_ : Aside0 (Below w.heap.size w w35) := ⟨h14_⟩
              clear BK179 BK180 BK181 HB h0_ h1_ h2_ h3_ h4_ h5_ h6_ h7_ h8_ h9_ h10_ h11_ h12_ h13_ h14_
              have HO187 := n0_
              have HO197 := n1_
              have BK179 := n2_
              have BK180 := n3_
              have BK181 := n4_
              have BK201 := n5_
              have GW201 := n6_
              have GE201 := n7_
              have NB179_201 := n8_
              have NB201_179 := n9_
              have NB180_201 := n10_
              have NB201_180 := n11_
              have NB181_201 := n12_
              have NB201_181 := n13_
              have HB := n14_
              clear n0_ n1_ n2_ n3_ n4_ n5_ n6_ n7_ n8_ n9_ n10_ n11_ n12_ n13_ n14_
              have hHeld : w35.cell? ⟨gb179, 0, none⟩ = some (.int .i64 a0_0) ∧ w35.cell? ⟨gb179, 1, none⟩ = some (.int .i64 a0_1) ∧ w35.cell? ⟨gb179, 2, none⟩ = some (.slice A0_2 l0_2.length c0_2) ∧ w35.cell? ⟨gb180, 0, none⟩ = some (.int .i64 a2_0) ∧ w35.cell? ⟨gb180, 1, none⟩ = some (.int .i64 a2_1) ∧ w35.cell? ⟨gb180, 2, none⟩ = some (.string a2_2) := hS_
              refine norm_ (a' := ?_) ?_ ?_
              rotate_left
              ·simp only [putAll, Act.put, List.setIfInBounds_toArray, List.set_cons_zero, List.set_cons_succ]
               rfl
              refine zon 13 #[true, true, true, true, true, true, true, true, true, true, true, true, true, true, true, true, false, false, true, false] HT_ (fun K hK => ?_)
              refine Kd.R_append_rows_step k56 (w0 := w) w.heap.size (by rfl) (.tmp 28) (.tmp 36) 22 56 (.agg #[(.int .i64 0), (.int .i64 0), (.string ⟨#[]⟩)]) 32 rfl Try.underlying22 info56 rfl (by decide) (by omega) v186 y185 y188 _ _ _ (fun k_ => some k_ ≠ (v196 : Value).ownBlock ∧ k_ ≠ gb180) (fun _ => False) rfl rfl ?aO ?aR (fun _ _ h => h) (fun _ h => h.elim) ?aF ?aB ?aS ?aL ?_
              (case aR => repeat (first | exact (Kd.C_below HR191.out HB.out) | (with_reducible refine Kd.C_alloc ?_ _) | (with_reducible refine Kd.C_drewN ?_ _) | (with_reducible refine Kd.C_drew ?_)))
              (case aB => exact (zb4 HB.out GE179.out GE180.out GE181.out GE201.out))
              (case aF => exact (fun k_ hk => ⟨Kd.fresh' (Kd.R_lt (rx HO197.out)) k_ hk, Kd.freshB (g := gb180) (o := .cells #[.int .i64 a2_0, .int .i64 a2_1, .string a2_2] 56 (0, 0)) (kx BK180.out) k_ hk⟩))
              (case aO => exact (rx HO187.out))
              (case aS => exact (below_size (zb4 HB.out GE179.out GE180.out GE181.out GE201.out)))
              (case aL => have := LMc24.out; omega)
              intro v193 w36 ho hb hg hat
              rw [← Ny192.out] at ho
              have HO194 := am (ho)
              replace BK179 := am (blk_grown (g := gb179) (o := .cells #[.int .i64 a0_0, .int .i64 a0_1, .slice A0_2 l0_2.length c0_2] 24 (0, 0)) (kx BK179.out) hg (Kd.R_ne HO187.out BK179.out (by decide)))
              replace BK180 := am (blk_grown (g := gb180) (o := .cells #[.int .i64 a2_0, .int .i64 a2_1, .string a2_2] 56 (0, 0)) (kx BK180.out) hg (Kd.R_away HO187.out (fun _ hk => hk.2)))
              replace BK181 := am (blk_grown (g := gb181) (o := .cells #[.int .i64 0, .int .i64 0, .slice none 0 0] 24 (0, 0)) (kx BK181.out) hg (Kd.R_ne HO187.out BK181.out (by decide)))
              replace HO197 := am (Kd.R_after (ok := (fun k_ => k_ ≠ gb180)) (rx (Kd.R_mono HO197.out (fun _ hk => ⟨hk.2, hk.1⟩))) hg hat)
              replace BK201 := am (blk_grown (g := gb201) (o := .cells #[.int .i64 0, .int .i64 0, .slice none 0 0] 24 (0, 0)) (kx BK201.out) hg (Kd.R_ne HO187.out BK201.out (by decide)))
              replace HB := am (hb)
              clear HO187 ho hb hg hat
              refine hK.out _ _ ⟨ct BK179.out 0, ct BK179.out 1, ct BK179.out 2, ct BK180.out 0, ct BK180.out 1, ct BK180.out 2⟩ (fun hHeld => ?_)
              clear hK K
              refine znm 37 ?_
              exact norm_ (by first | (simp only [putAll, Act.put, List.setIfInBounds_toArray, List.set_cons_zero, List.set_cons_succ]; done) | (simp only [putAll, Act.put, List.setIfInBounds_toArray, List.set_cons_zero, List.set_cons_succ]; rfl)) (hJ4_13_15_18 (v186, v193, v196, gb201) _ ⟨hHeld, (rx HO194.out), (rx (Kd.R_mono HO197.out (fun _ hk => ⟨hk.2, hk.1⟩))), (kx BK179.out), (kx BK180.out), (kx BK181.out), (kx BK201.out), GW201.out, GE201.out, NB179_201.out, NB201_179.out, NB180_201.out, NB201_180.out, NB181_201.out, NB201_181.out, (zb4 HB.out GE179.out GE180.out GE181.out GE201.out)⟩)
            ·skip
             rintro ⟨v186, v193, gb201⟩ w34 ⟨hS_, h0_, h1_, h2_, h3_, h4_, h5_, h6_, h7_, h8_, h9_, h10_, h11_, h12_, h13_⟩
             have n0_ : Aside0 (Kd.R k56 56 w34 w.heap.size (fun k_ => k_ ≠ gb180) v193 y192) := ⟨h0_⟩
             have n1_ : Aside0 (w34.heap[gb179]? = some (.cells #[.int .i64 a0_0, .int .i64 a0_1, .slice A0_2 l0_2.length c0_2] 24 (0, 0))) := ⟨h1_⟩
             have n2_ : Aside0 (w34.heap[gb180]? = some (.cells #[.int .i64 a2_0, .int .i64 a2_1, .string a2_2] 56 (0, 0))) := ⟨h2_⟩
             have n3_ : Aside0 (w34.heap[gb181]? = some (.cells #[.int .i64 0, .int .i64 0, .slice none 0 0] 24 (0, 0))) := ⟨h3_⟩
             have n4_ : Aside0 (w34.heap[gb201]? = some (.cells #[.int .i64 0, .int .i64 0, .slice none 0 0] 24 (0, 0))) := ⟨h4_⟩
             have n5_ : Aside0 (w.heap.size ≤ gb201) := ⟨h5_⟩
             have n6_ : Aside0 (w.heap.size ≤ gb201) := ⟨h6_⟩
             have n7_ : Aside0 (gb179 ≠ gb201) := ⟨h7_⟩
             have n8_ : Aside0 (gb201 ≠ gb179) := ⟨h8_⟩
             have n9_ : Aside0 (gb180 ≠ gb201) := ⟨h9_⟩
             have n10_ : Aside0 (gb201 ≠ gb180) := ⟨h10_⟩
             have n11_ : Aside0 (gb181 ≠ gb201) := ⟨h11_⟩
             have n12_ : Aside0 (gb201 ≠ gb181) := ⟨h12_⟩
             have n13_ : Aside0 (Below w.heap.size w w34) := ⟨h13_⟩
             clear BK179 BK180 BK181 HB h0_ h1_ h2_ h3_ h4_ h5_ h6_ h7_ h8_ h9_ h10_ h11_ h12_ h13_
             have HO194 := n0_
             have BK179 := n1_
             have BK180 := n2_
             have BK181 := n3_
             have BK201 := n4_
             have GW201 := n5_
             have GE201 := n6_
             have NB179_201 := n7_
             have NB201_179 := n8_
             have NB180_201 := n9_
             have NB201_180 := n10_
             have NB181_201 := n11_
             have NB201_181 := n12_
             have HB := n13_
             clear n0_ n1_ n2_ n3_ n4_ n5_ n6_ n7_ n8_ n9_ n10_ n11_ n12_ n13_
             have hHeld : w34.cell? ⟨gb179, 0, none⟩ = some (.int .i64 a0_0) ∧ w34.cell? ⟨gb179, 1, none⟩ = some (.int .i64 a0_1) ∧ w34.cell? ⟨gb179, 2, none⟩ = some (.slice A0_2 l0_2.length c0_2) ∧ w34.cell? ⟨gb180, 0, none⟩ = some (.int .i64 a2_0) ∧ w34.cell? ⟨gb180, 1, none⟩ = some (.int .i64 a2_1) ∧ w34.cell? ⟨gb180, 2, none⟩ = some (.string a2_2) := hS_
             refine norm_ (a' := ?_) ?_ ?_
             rotate_left
             ·simp only [putAll, Act.put, List.setIfInBounds_toArray, List.set_cons_zero, List.set_cons_succ]
              rfl
             refine zon 15 #[true, true, true, true, true, true, true, true, true, true, true, true, true, true, true, true, false, false, true, false] HT_ (fun K hK => ?_)
             refine Kd.R_lit_step k56 _ 56 ?hg (N := 39) ?hd (xs := ([(⟨a2_0, a2_1, a2_2⟩ : S56)] : List (S56))) (inner := [.int .i64 a2_0, .int .i64 a2_1, .string a2_2]) (ok := fun _ => True) (okp := fun _ => True) ?hr ?hp (fun _ hk => hk) trivial (Below.refl _ _) (Nat.le_refl _) (by simp) ?_; (case hd => rfl); (case hg => rfl); (case hr => first | (go_simp; done) | (go_simp; rfl)); (case hp => exact (Reps.c3 (show Kd.M k56 _ _ _ (⟨a2_0, a2_1, a2_2⟩ : S56) [.int .i64 a2_0, .int .i64 a2_1, .string a2_2] from (k56_mkM _ _ _ (⟨a2_0, a2_1, a2_2⟩ : S56) )) (Reps.none _ _)))
             intro v196 w35 ho36 hb hg_ hnew_
             clear hg_ hnew_
             (first | rw [← Ny195.out] at ho36 | (simp only [Int.reduceToNat] at ho36; rw [← Ny195.out] at ho36))
             have HO197 := am (Kd.R_lower (Kd.R_newB (Kd.R_new' ho36 (Kd.R_lt (rx HO194.out))) (g := gb180) (o := .cells #[.int .i64 a2_0, .int .i64 a2_1, .string a2_2] 56 (0, 0)) (kx BK180.out)) (below_size (zb4 HB.out GE179.out GE180.out GE181.out GE201.out)))
             replace HO194 := am (Kd.R_elder' (rx HO194.out) (Kd.R_base ho36) hb)
             replace BK179 := zk hb BK179
             replace BK180 := zk hb BK180
             replace BK181 := zk hb BK181
             replace BK201 := zk hb BK201
             replace HB := zs4 hb HB GE179 GE180 GE181 GE201
             clear hb ho36
             refine hK.out _ _ ⟨ct BK179.out 0, ct BK179.out 1, ct BK179.out 2, ct BK180.out 0, ct BK180.out 1, ct BK180.out 2⟩ (fun hHeld => ?_)
             clear hK K
             refine znm 39 ?_
             exact norm_ (by first | (simp only [putAll, Act.put, List.setIfInBounds_toArray, List.set_cons_zero, List.set_cons_succ]; done) | (simp only [putAll, Act.put, List.setIfInBounds_toArray, List.set_cons_zero, List.set_cons_succ]; rfl)) (hJ4_13_15_18 (v186, v193, v196, gb201) _ ⟨hHeld, (rx (Kd.R_mono HO194.out (fun _ hk => ⟨hk.2, hk.1⟩))), (rx (Kd.R_mono HO197.out (fun _ hk => ⟨hk.1.2, hk.2⟩))), (kx BK179.out), (kx BK180.out), (kx BK181.out), (kx BK201.out), GW201.out, GE201.out, NB179_201.out, NB201_179.out, NB180_201.out, NB201_180.out, NB181_201.out, NB201_181.out, (zb4 HB.out GE179.out GE180.out GE181.out GE201.out)⟩)
           ·skip
            rintro ⟨v186, v193, v196⟩ w35 ⟨hS_, h0_, h1_, h2_, h3_, h4_, h5_⟩
            have n0_ : Aside0 (Kd.R k56 56 w35 w.heap.size (fun k_ => some k_ ≠ (v196 : Value).ownBlock ∧ k_ ≠ gb180) v193 y192) := ⟨h0_⟩
            have n1_ : Aside0 (Kd.R k56 56 w35 w.heap.size (fun k_ => some k_ ≠ (v193 : Value).ownBlock ∧ k_ ≠ gb180) v196 y195) := ⟨h1_⟩
            have n2_ : Aside0 (w35.heap[gb179]? = some (.cells #[.int .i64 a0_0, .int .i64 a0_1, .slice A0_2 l0_2.length c0_2] 24 (0, 0))) := ⟨h2_⟩
            have n3_ : Aside0 (w35.heap[gb180]? = some (.cells #[.int .i64 a2_0, .int .i64 a2_1, .string a2_2] 56 (0, 0))) := ⟨h3_⟩
            have n4_ : Aside0 (w35.heap[gb181]? = some (.cells #[.int .i64 0, .int .i64 0, .slice none 0 0] 24 (0, 0))) := ⟨h4_⟩
            have n5_ : Aside0 (Below w.heap.size w w35) := ⟨h5_⟩
            clear BK179 BK180 BK181 HB h0_ h1_ h2_ h3_ h4_ h5_
            have HO194 := n0_
            have HO197 := n1_
            have BK179 := n2_
            have BK180 := n3_
            have BK181 := n4_
            have HB := n5_
            clear n0_ n1_ n2_ n3_ n4_ n5_
            have hHeld : w35.cell? ⟨gb179, 0, none⟩ = some (.int .i64 a0_0) ∧ w35.cell? ⟨gb179, 1, none⟩ = some (.int .i64 a0_1) ∧ w35.cell? ⟨gb179, 2, none⟩ = some (.slice A0_2 l0_2.length c0_2) ∧ w35.cell? ⟨gb180, 0, none⟩ = some (.int .i64 a2_0) ∧ w35.cell? ⟨gb180, 1, none⟩ = some (.int .i64 a2_1) ∧ w35.cell? ⟨gb180, 2, none⟩ = some (.string a2_2) := hS_
            obtain ⟨Ao37, co37, eo37⟩ := Kd.R_slice HO197.out
            (first | subst eo37 | (injection eo37 with f1_ f2_ f3_; have f4_ := f1_.symm; have f5_ := f3_.symm; clear f1_ f2_ f3_; subst f4_; subst f5_))
            refine norm_ (a' := ?_) ?_ ?_
            rotate_left
            ·simp only [putAll, Act.put, List.setIfInBounds_toArray, List.set_cons_zero, List.set_cons_succ]
             rfl
            refine two_ (i := 16) (j := 18) (Ni := some 40) (Nj := some 8) #[true, true, true, true, true, true, true, true, true, true, true, true, true, true, true, true, true, false, false, false] #[true, true, true, true, true, true, true, true, true, true, true, true, true, true, true, true, false, false, true, false] rfl rfl rfl rfl (two_of HT_.out (by kernel_rfl)) (by decide) (by decide) (fun K hK => ?_) (fun K hK => ?_)
            ·skip
             refine Kd.R_append_rows_step k56 (w0 := w) w.heap.size (by rfl) (.tmp 37) (.tmp 39) 22 56 (.agg #[(.int .i64 0), (.int .i64 0), (.string ⟨#[]⟩)]) 32 rfl Try.underlying22 info56 rfl (by decide) (by omega) v193 y192 y195 _ _ _ (fun k_ => some k_ ≠ (.slice Ao37 y195.length co37 : Value).ownBlock ∧ k_ ≠ gb180) (fun _ => False) rfl rfl ?aO ?aR (fun _ _ h => h) (fun _ h => h.elim) ?aF ?aB ?aS ?aL ?_
             (case aR => repeat (first | exact (Kd.R_reads' HO197.out).2.2 | (with_reducible refine Kd.C_alloc ?_ _) | (with_reducible refine Kd.C_drewN ?_ _) | (with_reducible refine Kd.C_drew ?_)))
             (case aB => exact (zb3 HB.out GE179.out GE180.out GE181.out))
             (case aF => exact (fun k_ hk => ⟨Kd.fresh' (Kd.R_lt (rx HO197.out)) k_ hk, Kd.freshB (g := gb180) (o := .cells #[.int .i64 a2_0, .int .i64 a2_1, .string a2_2] 56 (0, 0)) (kx BK180.out) k_ hk⟩))
             (case aO => exact (rx HO194.out))
             (case aS => exact (below_size (zb3 HB.out GE179.out GE180.out GE181.out)))
             (case aL => have := LMc25.out; omega)
             intro v199 w36 ho hb hg hat
             rw [← Ny198.out] at ho
             have HO200 := am (ho)
             replace BK179 := am (blk_grown (g := gb179) (o := .cells #[.int .i64 a0_0, .int .i64 a0_1, .slice A0_2 l0_2.length c0_2] 24 (0, 0)) (kx BK179.out) hg (Kd.R_ne HO194.out BK179.out (by decide)))
             replace BK180 := am (blk_grown (g := gb180) (o := .cells #[.int .i64 a2_0, .int .i64 a2_1, .string a2_2] 56 (0, 0)) (kx BK180.out) hg (Kd.R_away HO194.out (fun _ hk => hk.2)))
             replace BK181 := am (blk_grown (g := gb181) (o := .cells #[.int .i64 0, .int .i64 0, .slice none 0 0] 24 (0, 0)) (kx BK181.out) hg (Kd.R_ne HO194.out BK181.out (by decide)))
             replace HO197 := am (Kd.R_after (ok := (fun k_ => k_ ≠ gb180)) (rx (Kd.R_mono HO197.out (fun _ hk => ⟨hk.2, hk.1⟩))) hg hat)
             replace HB := am (hb)
             clear HO194 ho hb hg hat
             obtain ⟨Ao38, co38, eo38⟩ := Kd.R_slice HO200.out
             (first | subst eo38 | (injection eo38 with f1_ f2_ f3_; have f4_ := f1_.symm; have f5_ := f3_.symm; clear f1_ f2_ f3_; subst f4_; subst f5_))
             refine hK.out _ _ ⟨ct BK179.out 0, ct BK179.out 1, ct BK179.out 2, ct BK180.out 0, ct BK180.out 1, ct BK180.out 2⟩ (fun hHeld => ?_)
             clear hK K
             refine znm 40 ?_
             refine zpu 17 41 #[true, true, true, true, true, true, true, true, true, true, true, true, true, true, true, true, true, true, false, false] HT_ ?_
             exact norm_ (by first | (simp only [putAll, Act.put, List.setIfInBounds_toArray, List.set_cons_zero, List.set_cons_succ]; done) | (simp only [putAll, Act.put, List.setIfInBounds_toArray, List.set_cons_zero, List.set_cons_succ]; rfl)) (hJ4_13_15_16 (v186, v193, .slice Ao37 y195.length co37, .slice Ao38 y198.length co38) _ ⟨hHeld, (rx (Kd.R_mono HO197.out (fun _ hk => ⟨hk.2, hk.1⟩))), (rx HO200.out), (kx BK179.out), (kx BK180.out), (kx BK181.out), (zb3 HB.out GE179.out GE180.out GE181.out)⟩)
            ·skip
             refine box_step ?hg (N := 8) ?hd (cs := #[.int .i64 0, .int .i64 0, .slice none 0 0]) (t := 24) ?hr ?_; (case hd => rfl); (case hg => rfl); (case hr => first | (go_simp; done) | (go_simp; rfl))
             intro gb201 hg w36 hbox hb
             have BK201 := am (hbox)
             have GW201 := zge hg (zb3 HB.out GE179.out GE180.out GE181.out)
             have GE201 := zge hg (zb3 HB.out GE179.out GE180.out GE181.out)
             obtain ⟨NB179_201, NB201_179⟩ := zne hg BK179
             obtain ⟨NB180_201, NB201_180⟩ := zne hg BK180
             obtain ⟨NB181_201, NB201_181⟩ := zne hg BK181
             replace HO194 := am (Kd.R_below (rx HO194.out) hb)
             replace HO197 := am (Kd.R_below (rx HO197.out) hb)
             replace BK179 := zk hb BK179
             replace BK180 := zk hb BK180
             replace BK181 := zk hb BK181
             replace HB := zs3 hb HB GE179 GE180 GE181
             clear hb hbox hg
             refine hK.out _ _ ⟨ct BK179.out 0, ct BK179.out 1, ct BK179.out 2, ct BK180.out 0, ct BK180.out 1, ct BK180.out 2⟩ (fun hHeld => ?_)
             clear hK K
             refine znm 8 ?_
             exact norm_ (by first | (simp only [putAll, Act.put, List.setIfInBounds_toArray, List.set_cons_zero, List.set_cons_succ]; done) | (simp only [putAll, Act.put, List.setIfInBounds_toArray, List.set_cons_zero, List.set_cons_succ]; rfl)) (hJ4_13_15_18 (v186, v193, .slice Ao37 y195.length co37, gb201) _ ⟨hHeld, (rx HO194.out), (rx HO197.out), (kx BK179.out), (kx BK180.out), (kx BK181.out), (kx BK201.out), GW201.out, GE201.out, NB179_201.out, NB201_179.out, NB180_201.out, NB201_180.out, NB181_201.out, NB201_181.out, (zb4 HB.out GE179.out GE180.out GE181.out GE201.out)⟩)
          ·skip
           rintro ⟨v186, v193, v196, gb201⟩ w36 ⟨hS_, h0_, h1_, h2_, h3_, h4_, h5_, h6_, h7_, h8_, h9_, h10_, h11_, h12_, h13_, h14_⟩
           have n0_ : Aside0 (Kd.R k56 56 w36 w.heap.size (fun k_ => some k_ ≠ (v196 : Value).ownBlock ∧ k_ ≠ gb180) v193 y192) := ⟨h0_⟩
           have n1_ : Aside0 (Kd.R k56 56 w36 w.heap.size (fun k_ => some k_ ≠ (v193 : Value).ownBlock ∧ k_ ≠ gb180) v196 y195) := ⟨h1_⟩
           have n2_ : Aside0 (w36.heap[gb179]? = some (.cells #[.int .i64 a0_0, .int .i64 a0_1, .slice A0_2 l0_2.length c0_2] 24 (0, 0))) := ⟨h2_⟩
           have n3_ : Aside0 (w36.heap[gb180]? = some (.cells #[.int .i64 a2_0, .int .i64 a2_1, .string a2_2] 56 (0, 0))) := ⟨h3_⟩
           have n4_ : Aside0 (w36.heap[gb181]? = some (.cells #[.int .i64 0, .int .i64 0, .slice none 0 0] 24 (0, 0))) := ⟨h4_⟩
           have n5_ : Aside0 (w36.heap[gb201]? = some (.cells #[.int .i64 0, .int .i64 0, .slice none 0 0] 24 (0, 0))) := ⟨h5_⟩
           have n6_ : Aside0 (w.heap.size ≤ gb201) := ⟨h6_⟩
           have n7_ : Aside0 (w.heap.size ≤ gb201) := ⟨h7_⟩
           have n8_ : Aside0 (gb179 ≠ gb201) := ⟨h8_⟩
           have n9_ : Aside0 (gb201 ≠ gb179) := ⟨h9_⟩
           have n10_ : Aside0 (gb180 ≠ gb201) := ⟨h10_⟩
           have n11_ : Aside0 (gb201 ≠ gb180) := ⟨h11_⟩
           have n12_ : Aside0 (gb181 ≠ gb201) := ⟨h12_⟩
           have n13_ : Aside0 (gb201 ≠ gb181) := ⟨h13_⟩
           have n14_ : Aside0 (Below w.heap.size w w36) := ⟨h14_⟩
           clear BK179 BK180 BK181 HB h0_ h1_ h2_ h3_ h4_ h5_ h6_ h7_ h8_ h9_ h10_ h11_ h12_ h13_ h14_
           have HO194 := n0_
           have HO197 := n1_
           have BK179 := n2_
           have BK180 := n3_
           have BK181 := n4_
           have BK201 := n5_
           have GW201 := n6_
           have GE201 := n7_
           have NB179_201 := n8_
           have NB201_179 := n9_
           have NB180_201 := n10_
           have NB201_180 := n11_
           have NB181_201 := n12_
           have NB201_181 := n13_
           have HB := n14_
           clear n0_ n1_ n2_ n3_ n4_ n5_ n6_ n7_ n8_ n9_ n10_ n11_ n12_ n13_ n14_
           have hHeld : w36.cell? ⟨gb179, 0, none⟩ = some (.int .i64 a0_0) ∧ w36.cell? ⟨gb179, 1, none⟩ = some (.int .i64 a0_1) ∧ w36.cell? ⟨gb179, 2, none⟩ = some (.slice A0_2 l0_2.length c0_2) ∧ w36.cell? ⟨gb180, 0, none⟩ = some (.int .i64 a2_0) ∧ w36.cell? ⟨gb180, 1, none⟩ = some (.int .i64 a2_1) ∧ w36.cell? ⟨gb180, 2, none⟩ = some (.string a2_2) := hS_
           obtain ⟨Ao38, co38, eo38⟩ := Kd.R_slice HO197.out
           (first | subst eo38 | (injection eo38 with f1_ f2_ f3_; have f4_ := f1_.symm; have f5_ := f3_.symm; clear f1_ f2_ f3_; subst f4_; subst f5_))
           refine norm_ (a' := ?_) ?_ ?_
           rotate_left
           ·simp only [putAll, Act.put, List.setIfInBounds_toArray, List.set_cons_zero, List.set_cons_succ]
            rfl
           refine zon 16 #[true, true, true, true, true, true, true, true, true, true, true, true, true, true, true, true, true, false, true, false] HT_ (fun K hK => ?_)
           refine Kd.R_append_rows_step k56 (w0 := w) w.heap.size (by rfl) (.tmp 37) (.tmp 39) 22 56 (.agg #[(.int .i64 0), (.int .i64 0), (.string ⟨#[]⟩)]) 32 rfl Try.underlying22 info56 rfl (by decide) (by omega) v193 y192 y195 _ _ _ (fun k_ => some k_ ≠ (.slice Ao38 y195.length co38 : Value).ownBlock ∧ k_ ≠ gb180) (fun _ => False) rfl rfl ?aO ?aR (fun _ _ h => h) (fun _ h => h.elim) ?aF ?aB ?aS ?aL ?_
           (case aR => repeat (first | exact (Kd.R_reads' HO197.out).2.2 | (with_reducible refine Kd.C_alloc ?_ _) | (with_reducible refine Kd.C_drewN ?_ _) | (with_reducible refine Kd.C_drew ?_)))
           (case aB => exact (zb4 HB.out GE179.out GE180.out GE181.out GE201.out))
           (case aF => exact (fun k_ hk => ⟨Kd.fresh' (Kd.R_lt (rx HO197.out)) k_ hk, Kd.freshB (g := gb180) (o := .cells #[.int .i64 a2_0, .int .i64 a2_1, .string a2_2] 56 (0, 0)) (kx BK180.out) k_ hk⟩))
           (case aO => exact (rx HO194.out))
           (case aS => exact (below_size (zb4 HB.out GE179.out GE180.out GE181.out GE201.out)))
           (case aL => have := LMc25.out; omega)
           intro v199 w37 ho hb hg hat
           rw [← Ny198.out] at ho
           have HO200 := am (ho)
           replace BK179 := am (blk_grown (g := gb179) (o := .cells #[.int .i64 a0_0, .int .i64 a0_1, .slice A0_2 l0_2.length c0_2] 24 (0, 0)) (kx BK179.out) hg (Kd.R_ne HO194.out BK179.out (by decide)))
           replace BK180 := am (blk_grown (g := gb180) (o := .cells #[.int .i64 a2_0, .int .i64 a2_1, .string a2_2] 56 (0, 0)) (kx BK180.out) hg (Kd.R_away HO194.out (fun _ hk => hk.2)))
           replace BK181 := am (blk_grown (g := gb181) (o := .cells #[.int .i64 0, .int .i64 0, .slice none 0 0] 24 (0, 0)) (kx BK181.out) hg (Kd.R_ne HO194.out BK181.out (by decide)))
           replace HO197 := am (Kd.R_after (ok := (fun k_ => k_ ≠ gb180)) (rx (Kd.R_mono HO197.out (fun _ hk => ⟨hk.2, hk.1⟩))) hg hat)
           replace BK201 := am (blk_grown (g := gb201) (o := .cells #[.int .i64 0, .int .i64 0, .slice none 0 0] 24 (0, 0)) (kx BK201.out) hg (Kd.R_ne HO194.out BK201.out (by decide)))
           replace HB := am (hb)
           clear HO194 ho hb hg hat
           obtain ⟨Ao39, co39, eo39⟩ := Kd.R_slice HO200.out
           (first | subst eo39 | (injection eo39 with f1_ f2_ f3_; have f4_ := f1_.symm; have f5_ := f3_.symm; clear f1_ f2_ f3_; subst f4_; subst f5_))
           refine hK.out _ _ ⟨ct BK179.out 0, ct BK179.out 1, ct BK179.out 2, ct BK180.out 0, ct BK180.out 1, ct BK180.out 2⟩ (fun hHeld => ?_)
           clear hK K
           refine znm 40 ?_
           refine zpu 17 41 #[true, true, true, true, true, true, true, true, true, true, true, true, true, true, true, true, true, true, true, false] HT_ ?_
           exact norm_ (by first | (simp only [putAll, Act.put, List.setIfInBounds_toArray, List.set_cons_zero, List.set_cons_succ]; done) | (simp only [putAll, Act.put, List.setIfInBounds_toArray, List.set_cons_zero, List.set_cons_succ]; rfl)) (hJ4_13_15_16_18 (v186, v193, .slice Ao38 y195.length co38, .slice Ao39 y198.length co39, gb201) _ ⟨hHeld, (rx (Kd.R_mono HO197.out (fun _ hk => ⟨hk.2, hk.1⟩))), (rx HO200.out), (kx BK179.out), (kx BK180.out), (kx BK181.out), (kx BK201.out), GW201.out, GE201.out, NB179_201.out, NB201_179.out, NB180_201.out, NB201_180.out, NB181_201.out, NB201_181.out, (zb4 HB.out GE179.out GE180.out GE181.out GE201.out)⟩)
         ·skip
          rintro ⟨v186, v193, v196, v199⟩ w38 ⟨hS_, h0_, h1_, h2_, h3_, h4_, h5_⟩
          have n0_ : Aside0 (Kd.R k56 56 w38 w.heap.size (fun k_ => some k_ ≠ (v199 : Value).ownBlock ∧ k_ ≠ gb180) v196 y195) := ⟨h0_⟩
          have n1_ : Aside0 (Kd.R k56 56 w38 w.heap.size (fun k_ => some k_ ≠ (v196 : Value).ownBlock ∧ k_ ≠ gb180) v199 y198) := ⟨h1_⟩
          have n2_ : Aside0 (w38.heap[gb179]? = some (.cells #[.int .i64 a0_0, .int .i64 a0_1, .slice A0_2 l0_2.length c0_2] 24 (0, 0))) := ⟨h2_⟩
          have n3_ : Aside0 (w38.heap[gb180]? = some (.cells #[.int .i64 a2_0, .int .i64 a2_1, .string a2_2] 56 (0, 0))) := ⟨h3_⟩
          have n4_ : Aside0 (w38.heap[gb181]? = some (.cells #[.int .i64 0, .int .i64 0, .slice none 0 0] 24 (0, 0))) := ⟨h4_⟩
          have n5_ : Aside0 (Below w.heap.size w w38) := ⟨h5_⟩
          clear BK179 BK180 BK181 HB h0_ h1_ h2_ h3_ h4_ h5_
          have HO197 := n0_
          have HO200 := n1_
          have BK179 := n2_
          have BK180 := n3_
          have BK181 := n4_
          have HB := n5_
          clear n0_ n1_ n2_ n3_ n4_ n5_
          have hHeld : w38.cell? ⟨gb179, 0, none⟩ = some (.int .i64 a0_0) ∧ w38.cell? ⟨gb179, 1, none⟩ = some (.int .i64 a0_1) ∧ w38.cell? ⟨gb179, 2, none⟩ = some (.slice A0_2 l0_2.length c0_2) ∧ w38.cell? ⟨gb180, 0, none⟩ = some (.int .i64 a2_0) ∧ w38.cell? ⟨gb180, 1, none⟩ = some (.int .i64 a2_1) ∧ w38.cell? ⟨gb180, 2, none⟩ = some (.string a2_2) := hS_
          obtain ⟨Ao39, co39, eo39⟩ := Kd.R_slice HO200.out
          (first | subst eo39 | (injection eo39 with f1_ f2_ f3_; have f4_ := f1_.symm; have f5_ := f3_.symm; clear f1_ f2_ f3_; subst f4_; subst f5_))
          refine norm_ (a' := ?_) ?_ ?_
          rotate_left
          ·simp only [putAll, Act.put, List.setIfInBounds_toArray, List.set_cons_zero, List.set_cons_succ]
           rfl
          refine zon 18 #[true, true, true, true, true, true, true, true, true, true, true, true, true, true, true, true, true, true, true, false] HT_ (fun K hK => ?_)
          refine box_step ?hg (N := 8) ?hd (cs := #[.int .i64 0, .int .i64 0, .slice none 0 0]) (t := 24) ?hr ?_; (case hd => rfl); (case hg => rfl); (case hr => first | (go_simp; done) | (go_simp; rfl))
          intro gb201 hg w40 hbox hb
          have BK201 := am (hbox)
          have GW201 := zge hg (zb3 HB.out GE179.out GE180.out GE181.out)
          have GE201 := zge hg (zb3 HB.out GE179.out GE180.out GE181.out)
          obtain ⟨NB179_201, NB201_179⟩ := zne hg BK179
          obtain ⟨NB180_201, NB201_180⟩ := zne hg BK180
          obtain ⟨NB181_201, NB201_181⟩ := zne hg BK181
          replace HO197 := am (Kd.R_below (rx HO197.out) hb)
          replace HO200 := am (Kd.R_below (rx HO200.out) hb)
          replace BK179 := zk hb BK179
          replace BK180 := zk hb BK180
          replace BK181 := zk hb BK181
          replace HB := zs3 hb HB GE179 GE180 GE181
          clear hb hbox hg
          refine hK.out _ _ ⟨ct BK179.out 0, ct BK179.out 1, ct BK179.out 2, ct BK180.out 0, ct BK180.out 1, ct BK180.out 2⟩ (fun hHeld => ?_)
          clear hK K
          refine znm 8 ?_
          exact norm_ (by first | (simp only [putAll, Act.put, List.setIfInBounds_toArray, List.set_cons_zero, List.set_cons_succ]; done) | (simp only [putAll, Act.put, List.setIfInBounds_toArray, List.set_cons_zero, List.set_cons_succ]; rfl)) (hJ4_13_15_16_18 (v186, v193, v196, .slice Ao39 y198.length co39, gb201) _ ⟨hHeld, (rx HO197.out), (rx HO200.out), (kx BK179.out), (kx BK180.out), (kx BK181.out), (kx BK201.out), GW201.out, GE201.out, NB179_201.out, NB201_179.out, NB180_201.out, NB201_180.out, NB181_201.out, NB201_181.out, (zb4 HB.out GE179.out GE180.out GE181.out GE201.out)⟩)
        rintro ⟨v186, v193, v196, v199, gb201⟩ w39 ⟨hS_, h0_, h1_, h2_, h3_, h4_, h5_, h6_, h7_, h8_, h9_, h10_, h11_, h12_, h13_, h14_⟩
        have n0_ : Aside0 (Kd.R k56 56 w39 w.heap.size (fun k_ => some k_ ≠ (v199 : Value).ownBlock ∧ k_ ≠ gb180) v196 y195) := ⟨h0_⟩
        have n1_ : Aside0 (Kd.R k56 56 w39 w.heap.size (fun k_ => some k_ ≠ (v196 : Value).ownBlock ∧ k_ ≠ gb180) v199 y198) := ⟨h1_⟩
        have n2_ : Aside0 (w39.heap[gb179]? = some (.cells #[.int .i64 a0_0, .int .i64 a0_1, .slice A0_2 l0_2.length c0_2] 24 (0, 0))) := ⟨h2_⟩
        have n3_ : Aside0 (w39.heap[gb180]? = some (.cells #[.int .i64 a2_0, .int .i64 a2_1, .string a2_2] 56 (0, 0))) := ⟨h3_⟩
        have n4_ : Aside0 (w39.heap[gb181]? = some (.cells #[.int .i64 0, .int .i64 0, .slice none 0 0] 24 (0, 0))) := ⟨h4_⟩
        have n5_ : Aside0 (w39.heap[gb201]? = some (.cells #[.int .i64 0, .int .i64 0, .slice none 0 0] 24 (0, 0))) := ⟨h5_⟩
        have n6_ : Aside0 (w.heap.size ≤ gb201) := ⟨h6_⟩
        have n7_ : Aside0 (w.heap.size ≤ gb201) := ⟨h7_⟩
        have n8_ : Aside0 (gb179 ≠ gb201) := ⟨h8_⟩
        have n9_ : Aside0 (gb201 ≠ gb179) := ⟨h9_⟩
        have n10_ : Aside0 (gb180 ≠ gb201) := ⟨h10_⟩
        have n11_ : Aside0 (gb201 ≠ gb180) := ⟨h11_⟩
        have n12_ : Aside0 (gb181 ≠ gb201) := ⟨h12_⟩
        have n13_ : Aside0 (gb201 ≠ gb181) := ⟨h13_⟩
        have n14_ : Aside0 (Below w.heap.size w w39) := ⟨h14_⟩
        clear BK179 BK180 BK181 HB h0_ h1_ h2_ h3_ h4_ h5_ h6_ h7_ h8_ h9_ h10_ h11_ h12_ h13_ h14_
        have HO197 := n0_
        have HO200 := n1_
        have BK179 := n2_
        have BK180 := n3_
        have BK181 := n4_
        have BK201 := n5_
        have GW201 := n6_
        have GE201 := n7_
        have NB179_201 := n8_
        have NB201_179 := n9_
        have NB180_201 := n10_
        have NB201_180 := n11_
        have NB181_201 := n12_
        have NB201_181 := n13_
        have HB := n14_
        clear n0_ n1_ n2_ n3_ n4_ n5_ n6_ n7_ n8_ n9_ n10_ n11_ n12_ n13_ n14_
        have hHeld : w39.cell? ⟨gb179, 0, none⟩ = some (.int .i64 a0_0) ∧ w39.cell? ⟨gb179, 1, none⟩ = some (.int .i64 a0_1) ∧ w39.cell? ⟨gb179, 2, none⟩ = some (.slice A0_2 l0_2.length c0_2) ∧ w39.cell? ⟨gb180, 0, none⟩ = some (.int .i64 a2_0) ∧ w39.cell? ⟨gb180, 1, none⟩ = some (.int .i64 a2_1) ∧ w39.cell? ⟨gb180, 2, none⟩ = some (.string a2_2) := hS_
        obtain ⟨Ao40, co40, eo40⟩ := Kd.R_slice HO200.out
        (first | subst eo40 | (injection eo40 with f1_ f2_ f3_; have f4_ := f1_.symm; have f5_ := f3_.symm; clear f1_ f2_ f3_; subst f4_; subst f5_))
        refine norm_ (a' := ?_) ?_ ?_
        rotate_left
        ·simp only [putAll, Act.put, List.setIfInBounds_toArray, List.set_cons_zero, List.set_cons_succ]
         rfl
        refine zon 19 #[true, true, true, true, true, true, true, true, true, true, true, true, true, true, true, true, true, true, true, true] HT_ (fun K hK => ?_)
        have hs41 : w39.cell? ⟨gb201, 0, none⟩ = some (.int .i64 0) := ct BK201.out 0
        have hfs41 := blk_frozen BK201.out 0
        have hns41_0 := NB179_201.out
        have hns41_1 := NB180_201.out
        have hns41_2 := NB181_201.out
        have hms41_0 := NB201_179.out
        have hms41_1 := NB201_180.out
        have hms41_2 := NB201_181.out
        have hs42 : w39.cell? ⟨gb201, 1, none⟩ = some (.int .i64 0) := ct BK201.out 1
        have hfs42 := blk_frozen BK201.out 1
        have hns42_0 := NB179_201.out
        have hns42_1 := NB180_201.out
        have hns42_2 := NB181_201.out
        have hms42_0 := NB201_179.out
        have hms42_1 := NB201_180.out
        have hms42_2 := NB201_181.out
        have hs43 : w39.cell? ⟨gb201, 2, none⟩ = some (.slice none 0 0) := ct BK201.out 2
        have hfs43 := blk_frozen BK201.out 2
        have hns43_0 := NB179_201.out
        have hns43_1 := NB180_201.out
        have hns43_2 := NB181_201.out
        have hms43_0 := NB201_179.out
        have hms43_1 := NB201_180.out
        have hms43_2 := NB201_181.out
        refine skip_ (w1 := ?_) (by rfl) rfl ?_ ?_
        rotate_left
        ·go_simp
         rfl
        refine hK.out _ _ ⟨((cell_far (p := ⟨gb201, _, none⟩) NB179_201.out _).trans (((cell_far (p := ⟨gb201, _, none⟩) NB179_201.out _).trans (((cell_far (p := ⟨gb201, _, none⟩) NB179_201.out _).trans (hHeld.1)))))), ((cell_far (p := ⟨gb201, _, none⟩) NB179_201.out _).trans (((cell_far (p := ⟨gb201, _, none⟩) NB179_201.out _).trans (((cell_far (p := ⟨gb201, _, none⟩) NB179_201.out _).trans (hHeld.2.1)))))), ((cell_far (p := ⟨gb201, _, none⟩) NB179_201.out _).trans (((cell_far (p := ⟨gb201, _, none⟩) NB179_201.out _).trans (((cell_far (p := ⟨gb201, _, none⟩) NB179_201.out _).trans (hHeld.2.2.1)))))), ((cell_far (p := ⟨gb201, _, none⟩) NB180_201.out _).trans (((cell_far (p := ⟨gb201, _, none⟩) NB180_201.out _).trans (((cell_far (p := ⟨gb201, _, none⟩) NB180_201.out _).trans (hHeld.2.2.2.1)))))), ((cell_far (p := ⟨gb201, _, none⟩) NB180_201.out _).trans (((cell_far (p := ⟨gb201, _, none⟩) NB180_201.out _).trans (((cell_far (p := ⟨gb201, _, none⟩) NB180_201.out _).trans (hHeld.2.2.2.2.1)))))), ((cell_far (p := ⟨gb201, _, none⟩) NB180_201.out _).trans (((cell_far (p := ⟨gb201, _, none⟩) NB180_201.out _).trans (((cell_far (p := ⟨gb201, _, none⟩) NB180_201.out _).trans (hHeld.2.2.2.2.2))))))⟩ (fun hHeld => ?_)
        clear hK K
        refine zdn HT_ ?_
        obtain ⟨hnb44, hnc44⟩ := zn2 NB201_179
        obtain ⟨hnb45, hnc45⟩ := zn2 NB201_180
        obtain ⟨hnb46, hnc46⟩ := zn2 NB201_181
        obtain ⟨hcz47_0, hcz47_1, hcz47_2, hfz47_0, hfz47_1, hfz47_2⟩ := zc3 BK201.out
        have H := HD_.out
        clear HD_
        by_cases c27 : t202 = true
        ·subst c27
         have H1 : (some (a0_0, a0_1, y198, true)) = some (r1, r2, r3, r4) := by rw [if_pos rfl] at H; exact H
         clear H
         have H := H1
         clear H1
         simp only [Option.some.injEq, Prod.mk.injEq] at H
         obtain ⟨rfl, rfl, rfl, rfl⟩ := H
         try go_wp2_with (first | ((with_reducible refine gate_callee (f := 12) rfl ?_); refine goesL_ (some 43) rfl rfl Try.func12 (by kernel_rfl) rfl #[.agg #[.int .i64 a0_0, .int .i64 a0_1, .slice Ao40 y198.length co40]] rfl zr ?_; (with_reducible refine (spec_LogOk.calls kj3 a0_0 a0_1 _ _ y198 true _ ?side1 ?side2 A26.out).mono ?_); (case side1 => refine (Kd.R_reads' (e := 56) (base := w.heap.size) (ok := fun k_ => (some k_ ≠ (v196 : Value).ownBlock ∧ k_ ≠ gb180)) (n := y198.length) (c := co40) ?_).2.2; exact (rx ((Kd.R_mono (Kd.R_far (p := ⟨gb201, 2, none⟩) (Kd.R_far (p := ⟨gb201, 1, none⟩) (Kd.R_far (p := ⟨gb201, 0, none⟩) (Kd.R_types HO200.out BK201.out (by decide)) (fun _ hk => hk.2) (.int .i64 a0_0)) (fun _ hk => hk.2) (.int .i64 a0_1)) (fun _ hk => hk.2) (.slice Ao40 y198.length co40)) (fun _ h_ => h_.1))))); (case side2 => exact (Kd.R_reads' HO200.out).2.1); rintro e w48 ⟨rfl, hb⟩; refine ⟨_, rfl, ?_⟩; replace HO197 := am (Kd.R_below (rx ((Kd.R_mono (Kd.R_far (p := ⟨gb201, 2, none⟩) (Kd.R_far (p := ⟨gb201, 1, none⟩) (Kd.R_far (p := ⟨gb201, 0, none⟩) (Kd.R_types HO197.out BK201.out (by decide)) (fun _ hk => hk.2) (.int .i64 a0_0)) (fun _ hk => hk.2) (.int .i64 a0_1)) (fun _ hk => hk.2) (.slice Ao40 y198.length co40)) (fun _ h_ => h_.1)))) hb); replace HO200 := am (Kd.R_below (rx ((Kd.R_mono (Kd.R_far (p := ⟨gb201, 2, none⟩) (Kd.R_far (p := ⟨gb201, 1, none⟩) (Kd.R_far (p := ⟨gb201, 0, none⟩) (Kd.R_types HO200.out BK201.out (by decide)) (fun _ hk => hk.2) (.int .i64 a0_0)) (fun _ hk => hk.2) (.int .i64 a0_1)) (fun _ hk => hk.2) (.slice Ao40 y198.length co40)) (fun _ h_ => h_.1)))) hb); replace BK179 := zh1 hb BK179 NB179_201; replace BK180 := zh1 hb BK180 NB180_201; replace BK181 := zh1 hb BK181 NB181_201; replace BK201 := am (blk_below (g := gb201) (o := .cells #[.int .i64 a0_0, .int .i64 a0_1, .slice Ao40 y198.length co40] 24 (0, 0)) (by (with_reducible repeat (first | refine blk_drewN ?_ _ | refine blk_drew ?_ | refine blk_alloc ?_ _)); refine blk_put (cs := #[.int .i64 a0_0, .int .i64 a0_1, .slice none 0 0]) ?_ 2 _ rfl; (with_reducible repeat (first | refine blk_drewN ?_ _ | refine blk_drew ?_ | refine blk_alloc ?_ _)); refine blk_put (cs := #[.int .i64 a0_0, .int .i64 0, .slice none 0 0]) ?_ 1 _ rfl; (with_reducible repeat (first | refine blk_drewN ?_ _ | refine blk_drew ?_ | refine blk_alloc ?_ _)); refine blk_put (cs := #[.int .i64 0, .int .i64 0, .slice none 0 0]) ?_ 0 _ rfl; (with_reducible repeat (first | refine blk_drewN ?_ _ | refine blk_drew ?_ | refine blk_alloc ?_ _)); exact BK201.out) hb); replace HB := zs4 hb HB GE179 GE180 GE181 GE201; clear hb; obtain ⟨hcz49_0, hcz49_1, hcz49_2, hfz49_0, hfz49_1, hfz49_2⟩ := zc3 BK201.out; obtain ⟨hnb50, hnc50⟩ := zn2 NB181_179; obtain ⟨hnb51, hnc51⟩ := zn2 NB181_180; obtain ⟨hcz52_0, hcz52_1, hcz52_2, hfz52_0, hfz52_1, hfz52_2⟩ := zc3 BK181.out))
         refine bodyPost_ret (results_ct rfl _ _ gb181 24 #[.int .i64 a0_0, .int .i64 a0_1, .slice Ao40 y198.length co40] (0, 0) _ rfl (by (with_reducible repeat (first | refine blk_drewN ?_ _ | refine blk_drew ?_ | refine blk_alloc ?_ _)); refine blk_put (cs := #[.int .i64 a0_0, .int .i64 a0_1, .slice none 0 0]) ?_ 2 _ rfl; (with_reducible repeat (first | refine blk_drewN ?_ _ | refine blk_drew ?_ | refine blk_alloc ?_ _)); refine blk_put (cs := #[.int .i64 a0_0, .int .i64 0, .slice none 0 0]) ?_ 1 _ rfl; (with_reducible repeat (first | refine blk_drewN ?_ _ | refine blk_drew ?_ | refine blk_alloc ?_ _)); refine blk_put (cs := #[.int .i64 0, .int .i64 0, .slice none 0 0]) ?_ 0 _ rfl; (with_reducible repeat (first | refine blk_drewN ?_ _ | refine blk_drew ?_ | refine blk_alloc ?_ _)); exact BK181.out) Try.underlying24 rfl (by kernel_rfl)) rfl ?_
         exact ⟨_, by first | rfl | (simp [errW_none, errW_some] <;> rfl) | (simp only [← hji21]; first | rfl | (simp [errW_none, errW_some] <;> rfl)) | (simp [*, errW_none, errW_some] <;> rfl), rx (Kd.R_mono (Kd.R_far (p := ⟨gb181, 2, none⟩) (Kd.R_far (p := ⟨gb181, 1, none⟩) (Kd.R_far (p := ⟨gb181, 0, none⟩) (Kd.R_types HO200.out BK181.out (by decide)) (fun _ hk => hk.2) (.int .i64 a0_0)) (fun _ hk => hk.2) (.int .i64 a0_1)) (fun _ hk => hk.2) (.slice Ao40 y198.length co40)) (fun _ hk => trivial)), zb4 HB.out GE179.out GE180.out GE181.out GE201.out⟩
        ·replace c27 := Bool.eq_false_iff.mpr c27
         subst c27
         have H1 : (some (0, 0, ([] : List (S56)), false)) = some (r1, r2, r3, r4) := by rw [if_neg (show ¬ (false = true) by decide)] at H; exact H
         clear H
         have H := H1
         clear H1
         simp only [Option.some.injEq, Prod.mk.injEq] at H
         obtain ⟨rfl, rfl, rfl, rfl⟩ := H
         try go_wp2_with (first | ((with_reducible refine gate_callee (f := 12) rfl ?_); refine goesL_ (some 43) rfl rfl Try.func12 (by kernel_rfl) rfl #[.agg #[.int .i64 a0_0, .int .i64 a0_1, .slice Ao40 y198.length co40]] rfl zr ?_; (with_reducible refine (spec_LogOk.calls kj3 a0_0 a0_1 _ _ y198 false _ ?side1 ?side2 A26.out).mono ?_); (case side1 => refine (Kd.R_reads' (e := 56) (base := w.heap.size) (ok := fun k_ => (some k_ ≠ (v196 : Value).ownBlock ∧ k_ ≠ gb180)) (n := y198.length) (c := co40) ?_).2.2; exact (rx ((Kd.R_mono (Kd.R_far (p := ⟨gb201, 2, none⟩) (Kd.R_far (p := ⟨gb201, 1, none⟩) (Kd.R_far (p := ⟨gb201, 0, none⟩) (Kd.R_types HO200.out BK201.out (by decide)) (fun _ hk => hk.2) (.int .i64 a0_0)) (fun _ hk => hk.2) (.int .i64 a0_1)) (fun _ hk => hk.2) (.slice Ao40 y198.length co40)) (fun _ h_ => h_.1))))); (case side2 => exact (Kd.R_reads' HO200.out).2.1); rintro e w73 ⟨rfl, hb⟩; refine ⟨_, rfl, ?_⟩; replace HO197 := am (Kd.R_below (rx ((Kd.R_mono (Kd.R_far (p := ⟨gb201, 2, none⟩) (Kd.R_far (p := ⟨gb201, 1, none⟩) (Kd.R_far (p := ⟨gb201, 0, none⟩) (Kd.R_types HO197.out BK201.out (by decide)) (fun _ hk => hk.2) (.int .i64 a0_0)) (fun _ hk => hk.2) (.int .i64 a0_1)) (fun _ hk => hk.2) (.slice Ao40 y198.length co40)) (fun _ h_ => h_.1)))) hb); replace HO200 := am (Kd.R_below (rx ((Kd.R_mono (Kd.R_far (p := ⟨gb201, 2, none⟩) (Kd.R_far (p := ⟨gb201, 1, none⟩) (Kd.R_far (p := ⟨gb201, 0, none⟩) (Kd.R_types HO200.out BK201.out (by decide)) (fun _ hk => hk.2) (.int .i64 a0_0)) (fun _ hk => hk.2) (.int .i64 a0_1)) (fun _ hk => hk.2) (.slice Ao40 y198.length co40)) (fun _ h_ => h_.1)))) hb); replace BK179 := zh1 hb BK179 NB179_201; replace BK180 := zh1 hb BK180 NB180_201; replace BK181 := zh1 hb BK181 NB181_201; replace BK201 := am (blk_below (g := gb201) (o := .cells #[.int .i64 a0_0, .int .i64 a0_1, .slice Ao40 y198.length co40] 24 (0, 0)) (by (with_reducible repeat (first | refine blk_drewN ?_ _ | refine blk_drew ?_ | refine blk_alloc ?_ _)); refine blk_put (cs := #[.int .i64 a0_0, .int .i64 a0_1, .slice none 0 0]) ?_ 2 _ rfl; (with_reducible repeat (first | refine blk_drewN ?_ _ | refine blk_drew ?_ | refine blk_alloc ?_ _)); refine blk_put (cs := #[.int .i64 a0_0, .int .i64 0, .slice none 0 0]) ?_ 1 _ rfl; (with_reducible repeat (first | refine blk_drewN ?_ _ | refine blk_drew ?_ | refine blk_alloc ?_ _)); refine blk_put (cs := #[.int .i64 0, .int .i64 0, .slice none 0 0]) ?_ 0 _ rfl; (with_reducible repeat (first | refine blk_drewN ?_ _ | refine blk_drew ?_ | refine blk_alloc ?_ _)); exact BK201.out) hb); replace HB := zs4 hb HB GE179 GE180 GE181 GE201; clear hb; obtain ⟨hnb74, hnc74⟩ := zn2 NB181_179; obtain ⟨hnb75, hnc75⟩ := zn2 NB181_180; obtain ⟨hcz76_0, hcz76_1, hcz76_2, hfz76_0, hfz76_1, hfz76_2⟩ := zc3 BK181.out))
         refine bodyPost_ret (results_ct rfl _ _ gb181 24 #[.int .i64 0, .int .i64 0, .slice none 0 0] (0, 0) _ rfl (by (with_reducible repeat (first | refine blk_drewN ?_ _ | refine blk_drew ?_ | refine blk_alloc ?_ _)); refine blk_put (cs := #[.int .i64 0, .int .i64 0, .slice none 0 0]) ?_ 2 _ rfl; (with_reducible repeat (first | refine blk_drewN ?_ _ | refine blk_drew ?_ | refine blk_alloc ?_ _)); refine blk_put (cs := #[.int .i64 0, .int .i64 0, .slice none 0 0]) ?_ 1 _ rfl; (with_reducible repeat (first | refine blk_drewN ?_ _ | refine blk_drew ?_ | refine blk_alloc ?_ _)); refine blk_put (cs := #[.int .i64 0, .int .i64 0, .slice none 0 0]) ?_ 0 _ rfl; (with_reducible repeat (first | refine blk_drewN ?_ _ | refine blk_drew ?_ | refine blk_alloc ?_ _)); exact BK181.out) Try.underlying24 rfl (by kernel_rfl)) rfl ?_
         exact ⟨_, by first | rfl | (simp [errW_none, errW_some] <;> rfl) | (simp only [← hji21]; first | rfl | (simp [errW_none, errW_some] <;> rfl)) | (simp [*, errW_none, errW_some] <;> rfl), by first | exact Kd.R_nil _ _ _ _ _ | exact Kd.N_nil _ _ _ _ _ | exact Kd.V_nil _ _ _ _ _ | exact Kd.Q_nil _ _ _ _ _ | exact Kd.S_nil _ _ _ _ _, zb4 HB.out GE179.out GE180.out GE181.out GE201.out⟩
       ·rw [if_neg c25] at H
        exact absurd H (by simp)
      ·rw [if_neg c24] at H
       exact absurd H (by simp)
     ·rw [if_neg c23] at H
      exact absurd H (by simp)
    ·rw [if_neg c22] at H
     exact absurd H (by simp)

end Go.Proofs.Ytogifkjkbfdocaa.QFnExactReadJournal
