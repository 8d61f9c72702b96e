/- Written by the kit's print.py, called by our own print2.sh with one import more; not by print.sh. -/
import Derived.Test.YtaainenplcokaaaQFnExactLogPutx0
import Derived.Test.YtaainenplcokaaaQFnExactLogPutx1
import Derived.Test.YtaainenplcokaaaQFnExactLogPutx2
import Derived.Test.YtaainenplcokaaaQFnExactLogPutx5
import Derived.Test.YtaainenplcokaaaQFnExactLogPutx7
namespace Go.Proofs.Ytaainenplcokaaa.QFnExactLogPut
open Go.RowKit Go.Proofs.YtaainenplcokaaaW.PrintWords Go.Proofs.YtaainenplcokaaaW.PrintLast Go.Proofs.YtaainenplcokaaaW.PrintMore
attribute [local go_sem] max2_int min2_int max_two min_two max_three min_three max_four min_four   -- for this text's walks alone
set_option linter.unusedVariables false
set_option linter.unusedSimpArgs false
section
variable {w W W1 w1 : World} {B g : Nat} {o : Obj} {α : Type} {d : Kd α} {e base : Nat} {ok : Nat → Prop} {v : Value} {xs : List α}
theorem kx (h : W.heap[g]? = some o) (k : W.heap[g]? = some o → W1.heap[g]? = some o := by first | exact id | exact fun h => blk_drewN h _ | exact fun h => blk_drew h) : W1.heap[g]? = some o := k h
theorem bx (h : Below B w W) (k : Below B w W → Below B w W1 := by first | exact id | exact fun h => pw_below_drewN h _ | exact fun h => below_drew1 h | (intro h; repeat (first | exact h | refine below_set ?_ (Aside0.out (by assumption)) | apply below_alloc | apply pw_below_drewN | apply below_drew1))) : Below B w W1 := k h
theorem rx (h : d.R e W base ok v xs) (k : d.R e W base ok v xs → d.R e W1 base ok v xs := by first | exact id | exact fun h => Kd.R_drewN h _ | exact fun h => Kd.R_drew h) : d.R e W1 base ok v xs := k h
theorem ct {t : TypeId} {cs : Array Value} {u : Value} (h : w.heap[g]? = some (.cells cs t (0, 0))) (i : Nat) (k : cs[i]? = some u := by rfl) : w.cell? ⟨g, i, none⟩ = some u := (blk_cell h i).trans k
theorem am {p : Prop} (h : p) : Aside0 p := ⟨h⟩
theorem bb (hb : Below w.heap.size w w1) (h : w.heap[g]? = some o) : w1.heap[g]? = some o := blk_below h hb
end

/-! ### laws_FnExactLogPut: function 11 -/
mutual
def laws_FnExactLogPut.j0 : Nat → Int → Bool → Bool → Bool → Int → Int → List (S88) → Int → Int → ByteArray → Int → Int → List (S67) → Int → Int → List (S67) → Int → Int → List (S67) → Option (Bool)
 | 0, _, _, _, _, _, _, _, _, _, _, _, _, _, _, _, _, _, _, _ => none
 | k + 1, x1, x9, x12, x55, x270000, x270001, x270002, x271000, x271001, x271002, x288000, x288001, x288002, x294000, x294001, x294002, x304000, x304001, x304002 => if x55 = true then (some false) else ((laws_toLog.f k x270000 x270001 x270002).bind fun bt305 => ((laws_eqLog.f k x294000 x294001 x294002 bt305.1 bt305.2.1 bt305.2.2).bind fun t310 => (if t310 = true then ((laws_markLog.f k x294000 x294001 x294002 1).bind fun bt311 => (if bt311.1 < 0 then (laws_FnExactLogPut.j1 k x1 x9 true x270000 x270001 x270002 x271000 x271001 x271002 x288000 x288001 x288002 x304000 x304001 x304002) else ((laws_eqLog.f k x304000 x304001 x304002 x288000 x288001 x288002).bind fun t313 => (if t313 = true then (laws_FnExactLogPut.j1 k x1 x9 (x12 != x9) x270000 x270001 x270002 x271000 x271001 x271002 x288000 x288001 x288002 x304000 x304001 x304002) else (laws_FnExactLogPut.j1 k x1 x9 true x270000 x270001 x270002 x271000 x271001 x271002 x288000 x288001 x288002 x304000 x304001 x304002))))) else (some false))))
def laws_FnExactLogPut.j1 : Nat → Int → Bool → Bool → Int → Int → List (S88) → Int → Int → ByteArray → Int → Int → List (S67) → Int → Int → List (S67) → Option (Bool)
 | 0, _, _, _, _, _, _, _, _, _, _, _, _, _, _, _ => none
 | k + 1, x1, x9, x76, x270000, x270001, x270002, x271000, x271001, x271002, x288000, x288001, x288002, x304000, x304001, x304002 => if x76 = true then (some false) else ((laws_markLog.f k x304000 x304001 x304002 1).bind fun bt314 => ((laws_heldLog.f k x304000 x304001 bt314.2 1).bind fun t316 => (if t316 < 0 then (some false) else (if t316 = bt314.1 then ((laws_toLog.f k x270000 x270001 x270002).bind fun bt317 => ((laws_toEntry.f x271000 x271001 x271002).bind fun bt322 => ((impl_LogPut.f k bt317.1 bt317.2.1 bt317.2.2 x1 bt322.1 bt322.2.1 bt322.2.2).bind fun bt325 => ((laws_eqLog.f k bt325.1 bt325.2.1 bt325.2.2.1 x288000 x288001 x288002).bind fun t332 => (if t332 = true then (laws_FnExactLogPut.j2 k bt314.1 (bt325.2.2.2 != x9) x304000 x304001 bt314.2) else (laws_FnExactLogPut.j2 k bt314.1 true x304000 x304001 bt314.2)))))) else (some false)))))
def laws_FnExactLogPut.j2 : Nat → Int → Bool → Int → Int → List (S67) → Option (Bool)
 | 0, _, _, _, _, _ => none
 | k + 1, x14, x105, x304000, x304001, x304002 => if x105 = true then (some false) else ((laws_heldLog.f k x304000 x304001 x304002 1).bind fun t333 => (if t333 < 0 then (some false) else (if t333 = x14 then (some true) else (some false))))
end
def laws_FnExactLogPut.f (k : Nat) (a0_0 : Int) (a0_1 : Int) (l0_2 : List (S88)) (a1 : Int) (a2_0 : Int) (a2_1 : Int) (a2_2 : ByteArray) : Option (Bool) := (laws_szLog.f k a0_0 a0_1 l0_2 1048576).bind fun t271 => (if t271 < 0 then (some true) else ((laws_szEntry.f a2_0 a2_1 a2_2 t271).bind fun t272 => (if t272 < 0 then (some true) else ((laws_toLog.f k a0_0 a0_1 l0_2).bind fun bt273 => ((laws_toEntry.f a2_0 a2_1 a2_2).bind fun bt278 => ((spec_LogPut.f k bt273.1 bt273.2.1 bt273.2.2 a1 bt278.1 bt278.2.1 bt278.2.2).bind fun bt281 => ((laws_toLog.f k a0_0 a0_1 l0_2).bind fun bt288 => ((laws_toEntry.f a2_0 a2_1 a2_2).bind fun bt294 => ((impl_LogPut.f k bt288.1 bt288.2.1 bt288.2.2 a1 bt294.1 bt294.2.1 bt294.2.2).bind fun bt297 => ((laws_eqLog.f k bt297.1 bt297.2.1 bt297.2.2.1 bt281.1 bt281.2.1 bt281.2.2.1).bind fun t304 => (if t304 = true then (laws_FnExactLogPut.j0 k a1 bt281.2.2.2 bt297.2.2.2 (bt297.2.2.2 != bt281.2.2.2) a0_0 a0_1 l0_2 a2_0 a2_1 a2_2 bt281.1 bt281.2.1 bt281.2.2.1 bt288.1 bt288.2.1 bt288.2.2 bt297.1 bt297.2.1 bt297.2.2.1) else (laws_FnExactLogPut.j0 k a1 bt281.2.2.2 bt297.2.2.2 true a0_0 a0_1 l0_2 a2_0 a2_1 a2_2 bt281.1 bt281.2.1 bt281.2.2.1 bt288.1 bt288.2.1 bt288.2.2 bt297.1 bt297.2.1 bt297.2.2.1))))))))))))
theorem laws_FnExactLogPut.mono_l : ∀ k, (∀ y0 y1 y2 y3 y4 y5 y6 y7 y8 y9 y10 y11 y12 y13 y14 y15 y16 y17 y18, LeO (laws_FnExactLogPut.j0 k y0 y1 y2 y3 y4 y5 y6 y7 y8 y9 y10 y11 y12 y13 y14 y15 y16 y17 y18) (laws_FnExactLogPut.j0 (k + 1) y0 y1 y2 y3 y4 y5 y6 y7 y8 y9 y10 y11 y12 y13 y14 y15 y16 y17 y18)) ∧ (∀ y0 y1 y2 y3 y4 y5 y6 y7 y8 y9 y10 y11 y12 y13 y14, LeO (laws_FnExactLogPut.j1 k y0 y1 y2 y3 y4 y5 y6 y7 y8 y9 y10 y11 y12 y13 y14) (laws_FnExactLogPut.j1 (k + 1) y0 y1 y2 y3 y4 y5 y6 y7 y8 y9 y10 y11 y12 y13 y14)) ∧ (∀ y0 y1 y2 y3 y4, LeO (laws_FnExactLogPut.j2 k y0 y1 y2 y3 y4) (laws_FnExactLogPut.j2 (k + 1) y0 y1 y2 y3 y4))
 | 0 => ⟨fun _ _ _ _ _ _ _ _ _ _ _ _ _ _ _ _ _ _ _ r h => by simp [laws_FnExactLogPut.j0] at h, fun _ _ _ _ _ _ _ _ _ _ _ _ _ _ _ r h => by simp [laws_FnExactLogPut.j1] at h, fun _ _ _ _ _ r h => by simp [laws_FnExactLogPut.j2] at h⟩
 | k + 1 => by
  obtain ⟨ih0, ih1, ih2⟩ := laws_FnExactLogPut.mono_l k
  refine ⟨?_, ?_, ?_⟩
  ·intro y0 y1 y2 y3 y4 y5 y6 y7 y8 y9 y10 y11 y12 y13 y14 y15 y16 y17 y18
   unfold laws_FnExactLogPut.j0
   repeat' first
   | (with_reducible exact ih0 _ _ _ _ _ _ _ _ _ _ _ _ _ _ _ _ _ _ _)
   | (with_reducible exact ih1 _ _ _ _ _ _ _ _ _ _ _ _ _ _ _)
   | (with_reducible exact ih2 _ _ _ _ _)
   | (with_reducible exact impl_LogPut.mono _ _ _ _ _ _ _ _)
   | (with_reducible exact laws_eqLog.mono _ _ _ _ _ _ _)
   | (with_reducible exact laws_heldLog.mono _ _ _ _ _)
   | (with_reducible exact laws_markLog.mono _ _ _ _ _)
   | (with_reducible exact laws_szLog.mono _ _ _ _ _)
   | (with_reducible exact laws_toLog.mono _ _ _ _)
   | (with_reducible exact spec_LogPut.mono _ _ _ _ _ _ _ _)
   | (with_reducible exact LeO.refl _)
   | (with_reducible exact LeO.none _)
   | (with_reducible refine LeO.ite ?_ ?_)
   | (with_reducible refine LeO.bind ?_ (fun _ => ?_))
   | exact ih0 _ _ _ _ _ _ _ _ _ _ _ _ _ _ _ _ _ _ _
   | exact ih1 _ _ _ _ _ _ _ _ _ _ _ _ _ _ _
   | exact ih2 _ _ _ _ _
   | exact impl_LogPut.mono _ _ _ _ _ _ _ _
   | exact laws_eqLog.mono _ _ _ _ _ _ _
   | exact laws_heldLog.mono _ _ _ _ _
   | exact laws_markLog.mono _ _ _ _ _
   | exact laws_szLog.mono _ _ _ _ _
   | exact laws_toLog.mono _ _ _ _
   | exact spec_LogPut.mono _ _ _ _ _ _ _ _
   | exact LeO.none _
   | refine LeO.ite ?_ ?_
   | refine LeO.bind ?_ (fun _ => ?_)
  ·intro y0 y1 y2 y3 y4 y5 y6 y7 y8 y9 y10 y11 y12 y13 y14
   unfold laws_FnExactLogPut.j1
   repeat' first
   | (with_reducible exact ih0 _ _ _ _ _ _ _ _ _ _ _ _ _ _ _ _ _ _ _)
   | (with_reducible exact ih1 _ _ _ _ _ _ _ _ _ _ _ _ _ _ _)
   | (with_reducible exact ih2 _ _ _ _ _)
   | (with_reducible exact impl_LogPut.mono _ _ _ _ _ _ _ _)
   | (with_reducible exact laws_eqLog.mono _ _ _ _ _ _ _)
   | (with_reducible exact laws_heldLog.mono _ _ _ _ _)
   | (with_reducible exact laws_markLog.mono _ _ _ _ _)
   | (with_reducible exact laws_szLog.mono _ _ _ _ _)
   | (with_reducible exact laws_toLog.mono _ _ _ _)
   | (with_reducible exact spec_LogPut.mono _ _ _ _ _ _ _ _)
   | (with_reducible exact LeO.refl _)
   | (with_reducible exact LeO.none _)
   | (with_reducible refine LeO.ite ?_ ?_)
   | (with_reducible refine LeO.bind ?_ (fun _ => ?_))
   | exact ih0 _ _ _ _ _ _ _ _ _ _ _ _ _ _ _ _ _ _ _
   | exact ih1 _ _ _ _ _ _ _ _ _ _ _ _ _ _ _
   | exact ih2 _ _ _ _ _
   | exact impl_LogPut.mono _ _ _ _ _ _ _ _
   | exact laws_eqLog.mono _ _ _ _ _ _ _
   | exact laws_heldLog.mono _ _ _ _ _
   | exact laws_markLog.mono _ _ _ _ _
   | exact laws_szLog.mono _ _ _ _ _
   | exact laws_toLog.mono _ _ _ _
   | exact spec_LogPut.mono _ _ _ _ _ _ _ _
   | exact LeO.none _
   | refine LeO.ite ?_ ?_
   | refine LeO.bind ?_ (fun _ => ?_)
  ·intro y0 y1 y2 y3 y4
   unfold laws_FnExactLogPut.j2
   repeat' first
   | (with_reducible exact ih0 _ _ _ _ _ _ _ _ _ _ _ _ _ _ _ _ _ _ _)
   | (with_reducible exact ih1 _ _ _ _ _ _ _ _ _ _ _ _ _ _ _)
   | (with_reducible exact ih2 _ _ _ _ _)
   | (with_reducible exact impl_LogPut.mono _ _ _ _ _ _ _ _)
   | (with_reducible exact laws_eqLog.mono _ _ _ _ _ _ _)
   | (with_reducible exact laws_heldLog.mono _ _ _ _ _)
   | (with_reducible exact laws_markLog.mono _ _ _ _ _)
   | (with_reducible exact laws_szLog.mono _ _ _ _ _)
   | (with_reducible exact laws_toLog.mono _ _ _ _)
   | (with_reducible exact spec_LogPut.mono _ _ _ _ _ _ _ _)
   | (with_reducible exact LeO.refl _)
   | (with_reducible exact LeO.none _)
   | (with_reducible refine LeO.ite ?_ ?_)
   | (with_reducible refine LeO.bind ?_ (fun _ => ?_))
   | exact ih0 _ _ _ _ _ _ _ _ _ _ _ _ _ _ _ _ _ _ _
   | exact ih1 _ _ _ _ _ _ _ _ _ _ _ _ _ _ _
   | exact ih2 _ _ _ _ _
   | exact impl_LogPut.mono _ _ _ _ _ _ _ _
   | exact laws_eqLog.mono _ _ _ _ _ _ _
   | exact laws_heldLog.mono _ _ _ _ _
   | exact laws_markLog.mono _ _ _ _ _
   | exact laws_szLog.mono _ _ _ _ _
   | exact laws_toLog.mono _ _ _ _
   | exact spec_LogPut.mono _ _ _ _ _ _ _ _
   | exact LeO.none _
   | refine LeO.ite ?_ ?_
   | refine LeO.bind ?_ (fun _ => ?_)
theorem laws_FnExactLogPut.mono : ∀ a0 a1 a2 a3 a4 a5 a6 k, LeO (laws_FnExactLogPut.f k a0 a1 a2 a3 a4 a5 a6) (laws_FnExactLogPut.f (k + 1) a0 a1 a2 a3 a4 a5 a6) := by
 intro a0 a1 a2 a3 a4 a5 a6 k
 obtain ⟨ih0, ih1, ih2⟩ := laws_FnExactLogPut.mono_l k
 unfold laws_FnExactLogPut.f
 repeat' first
   | (with_reducible exact ih0 _ _ _ _ _ _ _ _ _ _ _ _ _ _ _ _ _ _ _)
   | (with_reducible exact ih1 _ _ _ _ _ _ _ _ _ _ _ _ _ _ _)
   | (with_reducible exact ih2 _ _ _ _ _)
   | (with_reducible exact impl_LogPut.mono _ _ _ _ _ _ _ _)
   | (with_reducible exact laws_eqLog.mono _ _ _ _ _ _ _)
   | (with_reducible exact laws_heldLog.mono _ _ _ _ _)
   | (with_reducible exact laws_markLog.mono _ _ _ _ _)
   | (with_reducible exact laws_szLog.mono _ _ _ _ _)
   | (with_reducible exact laws_toLog.mono _ _ _ _)
   | (with_reducible exact spec_LogPut.mono _ _ _ _ _ _ _ _)
   | (with_reducible exact LeO.refl _)
   | (with_reducible exact LeO.none _)
   | (with_reducible refine LeO.ite ?_ ?_)
   | (with_reducible refine LeO.bind ?_ (fun _ => ?_))
   | exact ih0 _ _ _ _ _ _ _ _ _ _ _ _ _ _ _ _ _ _ _
   | exact ih1 _ _ _ _ _ _ _ _ _ _ _ _ _ _ _
   | exact ih2 _ _ _ _ _
   | exact impl_LogPut.mono _ _ _ _ _ _ _ _
   | exact laws_eqLog.mono _ _ _ _ _ _ _
   | exact laws_heldLog.mono _ _ _ _ _
   | exact laws_markLog.mono _ _ _ _ _
   | exact laws_szLog.mono _ _ _ _ _
   | exact laws_toLog.mono _ _ _ _
   | exact spec_LogPut.mono _ _ _ _ _ _ _ _
   | exact LeO.none _
   | refine LeO.ite ?_ ?_
   | refine LeO.bind ?_ (fun _ => ?_)
def laws_FnExactLogPut.T8 : Bool × List (List Nat × List Nat) := (true, [([], []), ([0], [0]), ([], []), ([], []), ([3, 1], [3]), ([1, 2, 4, 4], [1, 2, 4]), ([5], [5]), ([6], [6]), ([6], [6]), ([], []), ([9, 7, 5, 0, 1, 2, 3, 4, 5, 6, 7, 9], [7, 9]), ([8, 10, 0, 1, 2, 3, 4, 5, 6, 7, 8, 9, 10], [8])])
def laws_FnExactLogPut.B8 : List Nat := [0, 1, 0, 0, 11, 31, 63, 127, 127, 0, 767, 2047]
theorem laws_FnExactLogPut.tab8 : rtab .any (opsOf Try.f11 8) = laws_FnExactLogPut.T8 := by kernel_rfl
theorem laws_FnExactLogPut.bits8 : waitsOk laws_FnExactLogPut.T8.2 laws_FnExactLogPut.B8 = true := by kernel_rfl
def laws_FnExactLogPut.T10 : Bool × List (List Nat × List Nat) := (true, [([], []), ([], []), ([], []), ([2], [2]), ([0, 1, 3, 3], [0, 1, 3]), ([4], [4]), ([5], [5]), ([5], [5]), ([], []), ([8, 6, 4, 0, 1, 2, 3, 4, 5, 6, 8], [6, 8]), ([7, 9, 0, 1, 2, 3, 4, 5, 6, 7, 8, 9], [7])])
def laws_FnExactLogPut.B10 : List Nat := [0, 0, 0, 4, 15, 31, 63, 63, 0, 383, 1023]
theorem laws_FnExactLogPut.tab10 : rtab .any (opsOf Try.f11 10) = laws_FnExactLogPut.T10 := by kernel_rfl
theorem laws_FnExactLogPut.bits10 : waitsOk laws_FnExactLogPut.T10.2 laws_FnExactLogPut.B10 = true := by kernel_rfl
def laws_FnExactLogPut.T27 : Bool × List (List Nat × List Nat) := (true, [([], []), ([0], [0]), ([], []), ([], []), ([3, 1], [3]), ([1, 2, 4, 4], [1, 2, 4]), ([5], [5]), ([6], [6]), ([6], [6]), ([], []), ([9, 7, 5, 0, 1, 2, 3, 4, 5, 6, 7, 9], [7, 9]), ([8, 10, 0, 1, 2, 3, 4, 5, 6, 7, 8, 9, 10], [8])])
def laws_FnExactLogPut.B27 : List Nat := [0, 1, 0, 0, 11, 31, 63, 127, 127, 0, 767, 2047]
theorem laws_FnExactLogPut.tab27 : rtab .any (opsOf Try.f11 27) = laws_FnExactLogPut.T27 := by kernel_rfl
theorem laws_FnExactLogPut.bits27 : waitsOk laws_FnExactLogPut.T27.2 laws_FnExactLogPut.B27 = true := by kernel_rfl
set_option maxHeartbeats 8000000 in
set_option maxRecDepth 100000 in
theorem laws_FnExactLogPut.calls (k : Nat) (a0_0 : Int) (a0_1 : Int) (A0_2 : Option Addr) (c0_2 : Nat) (l0_2 : List (S88)) (a1 : Int) (a2_0 : Int) (a2_1 : Int) (a2_2 : ByteArray) (r : Bool) (w : World) (hr0_2 : Kd.C k88 w A0_2 l0_2.length l0_2) (hc0_2 : l0_2.length ≤ c0_2) (h : laws_FnExactLogPut.f k a0_0 a0_1 l0_2 a1 a2_0 a2_1 a2_2 = some r) (hrt : r = true := by rfl) :
  Calls Try.prog 11 #[.agg #[.int .i64 a0_0, .int .i64 a0_1, .slice A0_2 l0_2.length c0_2], .int .i64 a1, .agg #[.int .i64 a2_0, .int .i64 a2_1, .string a2_2]] w fun e w' => e = .returned (.bool r) ∧ Below w.heap.size w w' := by
 have hu78 := Try.underlying78
 have hu88 := Try.underlying88
 have hu82 := Try.underlying82
 have HR0_2 := Aside0.mk hr0_2
 have HC0_2 := Aside0.mk hc0_2
 clear hr0_2 hc0_2
 have HB := Aside0.mk (Below.refl w.heap.size w)
 have HLT := Aside0.mk hrt
 clear hrt
 have H : ((laws_szLog.f k a0_0 a0_1 l0_2 1048576).bind fun t271 => (if t271 < 0 then (some true) else ((laws_szEntry.f a2_0 a2_1 a2_2 t271).bind fun t272 => (if t272 < 0 then (some true) else ((laws_toLog.f k a0_0 a0_1 l0_2).bind fun bt273 => ((laws_toEntry.f a2_0 a2_1 a2_2).bind fun bt278 => ((spec_LogPut.f k bt273.1 bt273.2.1 bt273.2.2 a1 bt278.1 bt278.2.1 bt278.2.2).bind fun bt281 => ((laws_toLog.f k a0_0 a0_1 l0_2).bind fun bt288 => ((laws_toEntry.f a2_0 a2_1 a2_2).bind fun bt294 => ((impl_LogPut.f k bt288.1 bt288.2.1 bt288.2.2 a1 bt294.1 bt294.2.1 bt294.2.2).bind fun bt297 => ((laws_eqLog.f k bt297.1 bt297.2.1 bt297.2.2.1 bt281.1 bt281.2.1 bt281.2.2.1).bind fun t304 => (if t304 = true then (laws_FnExactLogPut.j0 k a1 bt281.2.2.2 bt297.2.2.2 (bt297.2.2.2 != bt281.2.2.2) a0_0 a0_1 l0_2 a2_0 a2_1 a2_2 bt281.1 bt281.2.1 bt281.2.2.1 bt288.1 bt288.2.1 bt288.2.2 bt297.1 bt297.2.1 bt297.2.2.1) else (laws_FnExactLogPut.j0 k a1 bt281.2.2.2 bt297.2.2.2 true a0_0 a0_1 l0_2 a2_0 a2_1 a2_2 bt281.1 bt281.2.1 bt281.2.2.1 bt288.1 bt288.2.1 bt288.2.2 bt297.1 bt297.2.1 bt297.2.2.1))))))))))))) = some r := h
 clear h
 replace H := Option.bind_eq_some_iff.mp H
 obtain ⟨t271, A40, H⟩ := H
 try dsimp only at H
 have A4 := Aside0.mk A40
 clear A40
 by_cases c5 : t271 < 0
 ·rw [if_pos c5] at H
  have c5b0 : decide (t271 < 0) = true := decide_eq_true c5
  clear c5
  obtain rfl := Option.some.inj H
  go_enter Try.func11, Try.ntmps11
  go_wp2_with (first | ((with_reducible refine gate_dst (N := 3) rfl ?_); refine box_event ?hg (N := 3) ?hd (cs := #[.int .i64 a0_0, .int .i64 a0_1, .slice A0_2 l0_2.length c0_2]) (t := 78) ?hr ?_; (case hd => rfl); (case hg => rfl); (case hr => first | (go_simp; done) | (go_simp; rfl)); intro gb269 hg w6 hbox hb; have n0_ := am (below_step (bx HB.out) hb); have n1_ := am (hbox); have n2_ := am ((by rw [hg]; exact (below_size (bx HB.out)) : w.heap.size ≤ gb269)); have n3_ := am ((by rw [hg]; exact (below_size (bx HB.out)) : w.heap.size ≤ gb269)); clear HB; have HB := n0_; have BK269 := n1_; have GW269 := n2_; have GE269 := n3_; clear n0_ n1_ n2_ n3_; clear hb hbox hg) | ((with_reducible refine gate_dst (N := 5) rfl ?_); refine box_event ?hg (N := 5) ?hd (cs := #[.int .i64 a2_0, .int .i64 a2_1, .string a2_2]) (t := 88) ?hr ?_; (case hd => rfl); (case hg => rfl); (case hr => first | (go_simp; done) | (go_simp; rfl)); intro gb270 hg w7 hbox hb; have n0_ := am (bb hb (kx BK269.out)); have n1_ := am (below_step (bx HB.out) hb); have n2_ := am (hbox); have n3_ := am ((by rw [hg]; exact (below_size (bx HB.out)) : w.heap.size ≤ gb270)); have n4_ := am ((by rw [hg]; exact (below_size (bx HB.out)) : w.heap.size ≤ gb270)); have n5_ := am ((by rw [hg]; exact Nat.ne_of_lt (blk_lt (kx BK269.out)) : gb269 ≠ gb270)); have n6_ := am ((by rw [hg]; exact Nat.ne_of_gt (blk_lt (kx BK269.out)) : gb270 ≠ gb269)); clear BK269; clear HB; have BK269 := n0_; have HB := n1_; have BK270 := n2_; have GW270 := n3_; have GE270 := n4_; have NB269_270 := n5_; have NB270_269 := n6_; clear n0_ n1_ n2_ n3_ n4_ n5_ n6_; clear hb hbox hg; have hnb8 := NB269_270.out; have hnc8 := NB270_269.out; have hcz9_0 : w7.cell? ⟨gb269, 0, none⟩ = some (.int .i64 a0_0) := ct BK269.out 0; have hcz9_1 : w7.cell? ⟨gb269, 1, none⟩ = some (.int .i64 a0_1) := ct BK269.out 1; have hcz9_2 : w7.cell? ⟨gb269, 2, none⟩ = some (.slice A0_2 l0_2.length c0_2) := ct BK269.out 2; have hfz9_0 := blk_frozen BK269.out 0; have hfz9_1 := blk_frozen BK269.out 1; have hfz9_2 := blk_frozen BK269.out 2) | ((with_reducible refine gate_callee (f := 53) rfl ?_); refine goesL_ (some 20) rfl rfl Try.func53 (by kernel_rfl) rfl #[.agg #[.int .i64 a0_0, .int .i64 a0_1, .slice A0_2 l0_2.length c0_2], .int .i64 1048576] rfl (by (try simp only [List.map_toArray, List.map_cons, List.map_nil]); first | done | rfl | (simp only [List.length_drop, List.length_take]; rfl)) ?_; (with_reducible refine (laws_szLog.calls k a0_0 a0_1 _ _ l0_2 1048576 t271 _ ?side1 ?side2 A4.out).mono ?_); (case side1 => repeat (first | exact (Kd.C_below HR0_2.out HB.out) | (with_reducible refine Kd.C_alloc ?_ _) | (with_reducible refine Kd.C_drewN ?_ _) | (with_reducible refine Kd.C_drew ?_))); (case side2 => exact HC0_2.out); rintro e w10 ⟨rfl, hb⟩; refine ⟨_, rfl, ?_⟩; have n0_ := am (bb hb (kx BK269.out)); have n1_ := am (bb hb (kx BK270.out)); have n2_ := am (below_step (bx HB.out) hb); clear BK269; clear BK270; clear HB; have BK269 := n0_; have BK270 := n1_; have HB := n2_; clear n0_ n1_ n2_; (try clear hb); (try clear hb2); (try clear hk); (try clear hi)))
  go_ret
  exact ⟨by first | rfl | (simp [errW_none, errW_some] <;> rfl) | (simp [*, errW_none, errW_some] <;> rfl), by repeat (first | (with_reducible first | exact HB.out | apply below_alloc | apply pw_below_drewN | apply below_drew1 | refine below_set ?_ GE269.out | refine below_set ?_ GE270.out) | exact HB.out)⟩
 ·rw [if_neg c5] at H
  have c5b0 : decide (t271 < 0) = false := decide_eq_false c5
  clear c5
  replace H := Option.bind_eq_some_iff.mp H
  obtain ⟨t272, A110, H⟩ := H
  try dsimp only at H
  have A11 := Aside0.mk A110
  clear A110
  by_cases c12 : t272 < 0
  ·rw [if_pos c12] at H
   have c12b0 : decide (t272 < 0) = true := decide_eq_true c12
   clear c12
   obtain rfl := Option.some.inj H
   go_enter Try.func11, Try.ntmps11
   go_wp2_with (first | ((with_reducible refine gate_dst (N := 3) rfl ?_); refine box_event ?hg (N := 3) ?hd (cs := #[.int .i64 a0_0, .int .i64 a0_1, .slice A0_2 l0_2.length c0_2]) (t := 78) ?hr ?_; (case hd => rfl); (case hg => rfl); (case hr => first | (go_simp; done) | (go_simp; rfl)); intro gb269 hg w13 hbox hb; have n0_ := am (below_step (bx HB.out) hb); have n1_ := am (hbox); have n2_ := am ((by rw [hg]; exact (below_size (bx HB.out)) : w.heap.size ≤ gb269)); have n3_ := am ((by rw [hg]; exact (below_size (bx HB.out)) : w.heap.size ≤ gb269)); clear HB; have HB := n0_; have BK269 := n1_; have GW269 := n2_; have GE269 := n3_; clear n0_ n1_ n2_ n3_; clear hb hbox hg) | ((with_reducible refine gate_dst (N := 5) rfl ?_); refine box_event ?hg (N := 5) ?hd (cs := #[.int .i64 a2_0, .int .i64 a2_1, .string a2_2]) (t := 88) ?hr ?_; (case hd => rfl); (case hg => rfl); (case hr => first | (go_simp; done) | (go_simp; rfl)); intro gb270 hg w14 hbox hb; have n0_ := am (bb hb (kx BK269.out)); have n1_ := am (below_step (bx HB.out) hb); have n2_ := am (hbox); have n3_ := am ((by rw [hg]; exact (below_size (bx HB.out)) : w.heap.size ≤ gb270)); have n4_ := am ((by rw [hg]; exact (below_size (bx HB.out)) : w.heap.size ≤ gb270)); have n5_ := am ((by rw [hg]; exact Nat.ne_of_lt (blk_lt (kx BK269.out)) : gb269 ≠ gb270)); have n6_ := am ((by rw [hg]; exact Nat.ne_of_gt (blk_lt (kx BK269.out)) : gb270 ≠ gb269)); clear BK269; clear HB; have BK269 := n0_; have HB := n1_; have BK270 := n2_; have GW270 := n3_; have GE270 := n4_; have NB269_270 := n5_; have NB270_269 := n6_; clear n0_ n1_ n2_ n3_ n4_ n5_ n6_; clear hb hbox hg; have hnb15 := NB269_270.out; have hnc15 := NB270_269.out; have hcz16_0 : w14.cell? ⟨gb269, 0, none⟩ = some (.int .i64 a0_0) := ct BK269.out 0; have hcz16_1 : w14.cell? ⟨gb269, 1, none⟩ = some (.int .i64 a0_1) := ct BK269.out 1; have hcz16_2 : w14.cell? ⟨gb269, 2, none⟩ = some (.slice A0_2 l0_2.length c0_2) := ct BK269.out 2; have hfz16_0 := blk_frozen BK269.out 0; have hfz16_1 := blk_frozen BK269.out 1; have hfz16_2 := blk_frozen BK269.out 2) | ((with_reducible refine gate_callee (f := 53) rfl ?_); refine goesL_ (some 20) rfl rfl Try.func53 (by kernel_rfl) rfl #[.agg #[.int .i64 a0_0, .int .i64 a0_1, .slice A0_2 l0_2.length c0_2], .int .i64 1048576] rfl (by (try simp only [List.map_toArray, List.map_cons, List.map_nil]); first | done | rfl | (simp only [List.length_drop, List.length_take]; rfl)) ?_; (with_reducible refine (laws_szLog.calls k a0_0 a0_1 _ _ l0_2 1048576 t271 _ ?side1 ?side2 A4.out).mono ?_); (case side1 => repeat (first | exact (Kd.C_below HR0_2.out HB.out) | (with_reducible refine Kd.C_alloc ?_ _) | (with_reducible refine Kd.C_drewN ?_ _) | (with_reducible refine Kd.C_drew ?_))); (case side2 => exact HC0_2.out); rintro e w17 ⟨rfl, hb⟩; refine ⟨_, rfl, ?_⟩; have n0_ := am (bb hb (kx BK269.out)); have n1_ := am (bb hb (kx BK270.out)); have n2_ := am (below_step (bx HB.out) hb); clear BK269; clear BK270; clear HB; have BK269 := n0_; have BK270 := n1_; have HB := n2_; clear n0_ n1_ n2_; (try clear hb); (try clear hb2); (try clear hk); (try clear hi); have hcz18_0 : w17.cell? ⟨gb270, 0, none⟩ = some (.int .i64 a2_0) := ct BK270.out 0; have hcz18_1 : w17.cell? ⟨gb270, 1, none⟩ = some (.int .i64 a2_1) := ct BK270.out 1; have hcz18_2 : w17.cell? ⟨gb270, 2, none⟩ = some (.string a2_2) := ct BK270.out 2; have hfz18_0 := blk_frozen BK270.out 0; have hfz18_1 := blk_frozen BK270.out 1; have hfz18_2 := blk_frozen BK270.out 2) | ((with_reducible refine gate_callee (f := 60) rfl ?_); refine goesL_ (some 25) rfl rfl Try.func60 (by kernel_rfl) rfl #[.agg #[.int .i64 a2_0, .int .i64 a2_1, .string a2_2], .int .i64 t271] rfl (by (try simp only [List.map_toArray, List.map_cons, List.map_nil]); first | done | rfl | (simp only [List.length_drop, List.length_take]; rfl)) ?_; (with_reducible refine (laws_szEntry.calls a2_0 a2_1 a2_2 t271 t272 _ A11.out).mono ?_); rintro e w19 ⟨rfl, hb⟩; refine ⟨_, rfl, ?_⟩; have n0_ := am (bb hb (kx BK269.out)); have n1_ := am (bb hb (kx BK270.out)); have n2_ := am (below_step (bx HB.out) hb); clear BK269; clear BK270; clear HB; have BK269 := n0_; have BK270 := n1_; have HB := n2_; clear n0_ n1_ n2_; (try clear hb); (try clear hb2); (try clear hk); (try clear hi)))
   go_ret
   exact ⟨by first | rfl | (simp [errW_none, errW_some] <;> rfl) | (simp [*, errW_none, errW_some] <;> rfl), by repeat (first | (with_reducible first | exact HB.out | apply below_alloc | apply pw_below_drewN | apply below_drew1 | refine below_set ?_ GE269.out | refine below_set ?_ GE270.out) | exact HB.out)⟩
  ·rw [if_neg c12] at H
   have c12b0 : decide (t272 < 0) = false := decide_eq_false c12
   clear c12
   replace H := Option.bind_eq_some_iff.mp H
   obtain ⟨⟨t273, t274, t275⟩, A200, H⟩ := H
   try dsimp only at H
   have A20 := Aside0.mk A200
   clear A200
   replace H := Option.bind_eq_some_iff.mp H
   obtain ⟨⟨t278, t279, t280⟩, A210, H⟩ := H
   try dsimp only at H
   have A21 := Aside0.mk A210
   clear A210
   replace H := Option.bind_eq_some_iff.mp H
   obtain ⟨⟨t281, t282, t283, t286⟩, A220, H⟩ := H
   try dsimp only at H
   have A22 := Aside0.mk A220
   clear A220
   replace H := Option.bind_eq_some_iff.mp H
   obtain ⟨⟨t288, t289, t290⟩, A230, H⟩ := H
   try dsimp only at H
   have A23 := Aside0.mk A230
   clear A230
   replace H := Option.bind_eq_some_iff.mp H
   obtain ⟨⟨t294, t295, t296⟩, A240, H⟩ := H
   try dsimp only at H
   have A24 := Aside0.mk A240
   clear A240
   replace H := Option.bind_eq_some_iff.mp H
   obtain ⟨⟨t297, t298, t299, t302⟩, A250, H⟩ := H
   try dsimp only at H
   have A25 := Aside0.mk A250
   clear A250
   have HC26 := Aside0.mk H
   clear H
   go_enter Try.func11, Try.ntmps11
   try go_wp2_with (first | ((with_reducible refine gate_dst (N := 3) rfl ?_); refine box_event ?hg (N := 3) ?hd (cs := #[.int .i64 a0_0, .int .i64 a0_1, .slice A0_2 l0_2.length c0_2]) (t := 78) ?hr ?_; (case hd => rfl); (case hg => rfl); (case hr => first | (go_simp; done) | (go_simp; rfl)); intro gb269 hg w27 hbox hb; have n0_ := am (below_step (bx HB.out) hb); have n1_ := am (hbox); have n2_ := am ((by rw [hg]; exact (below_size (bx HB.out)) : w.heap.size ≤ gb269)); have n3_ := am ((by rw [hg]; exact (below_size (bx HB.out)) : w.heap.size ≤ gb269)); clear HB; have HB := n0_; have BK269 := n1_; have GW269 := n2_; have GE269 := n3_; clear n0_ n1_ n2_ n3_; clear hb hbox hg) | ((with_reducible refine gate_dst (N := 5) rfl ?_); refine box_event ?hg (N := 5) ?hd (cs := #[.int .i64 a2_0, .int .i64 a2_1, .string a2_2]) (t := 88) ?hr ?_; (case hd => rfl); (case hg => rfl); (case hr => first | (go_simp; done) | (go_simp; rfl)); intro gb270 hg w28 hbox hb; have n0_ := am (bb hb (kx BK269.out)); have n1_ := am (below_step (bx HB.out) hb); have n2_ := am (hbox); have n3_ := am ((by rw [hg]; exact (below_size (bx HB.out)) : w.heap.size ≤ gb270)); have n4_ := am ((by rw [hg]; exact (below_size (bx HB.out)) : w.heap.size ≤ gb270)); have n5_ := am ((by rw [hg]; exact Nat.ne_of_lt (blk_lt (kx BK269.out)) : gb269 ≠ gb270)); have n6_ := am ((by rw [hg]; exact Nat.ne_of_gt (blk_lt (kx BK269.out)) : gb270 ≠ gb269)); clear BK269; clear HB; have BK269 := n0_; have HB := n1_; have BK270 := n2_; have GW270 := n3_; have GE270 := n4_; have NB269_270 := n5_; have NB270_269 := n6_; clear n0_ n1_ n2_ n3_ n4_ n5_ n6_; clear hb hbox hg; have hnb29 := NB269_270.out; have hnc29 := NB270_269.out; have hcz30_0 : w28.cell? ⟨gb269, 0, none⟩ = some (.int .i64 a0_0) := ct BK269.out 0; have hcz30_1 : w28.cell? ⟨gb269, 1, none⟩ = some (.int .i64 a0_1) := ct BK269.out 1; have hcz30_2 : w28.cell? ⟨gb269, 2, none⟩ = some (.slice A0_2 l0_2.length c0_2) := ct BK269.out 2; have hfz30_0 := blk_frozen BK269.out 0; have hfz30_1 := blk_frozen BK269.out 1; have hfz30_2 := blk_frozen BK269.out 2) | ((with_reducible refine gate_callee (f := 53) rfl ?_); refine goesL_ (some 20) rfl rfl Try.func53 (by kernel_rfl) rfl #[.agg #[.int .i64 a0_0, .int .i64 a0_1, .slice A0_2 l0_2.length c0_2], .int .i64 1048576] rfl (by (try simp only [List.map_toArray, List.map_cons, List.map_nil]); first | done | rfl | (simp only [List.length_drop, List.length_take]; rfl)) ?_; (with_reducible refine (laws_szLog.calls k a0_0 a0_1 _ _ l0_2 1048576 t271 _ ?side1 ?side2 A4.out).mono ?_); (case side1 => repeat (first | exact (Kd.C_below HR0_2.out HB.out) | (with_reducible refine Kd.C_alloc ?_ _) | (with_reducible refine Kd.C_drewN ?_ _) | (with_reducible refine Kd.C_drew ?_))); (case side2 => exact HC0_2.out); rintro e w31 ⟨rfl, hb⟩; refine ⟨_, rfl, ?_⟩; have n0_ := am (bb hb (kx BK269.out)); have n1_ := am (bb hb (kx BK270.out)); have n2_ := am (below_step (bx HB.out) hb); clear BK269; clear BK270; clear HB; have BK269 := n0_; have BK270 := n1_; have HB := n2_; clear n0_ n1_ n2_; (try clear hb); (try clear hb2); (try clear hk); (try clear hi); have hcz32_0 : w31.cell? ⟨gb270, 0, none⟩ = some (.int .i64 a2_0) := ct BK270.out 0; have hcz32_1 : w31.cell? ⟨gb270, 1, none⟩ = some (.int .i64 a2_1) := ct BK270.out 1; have hcz32_2 : w31.cell? ⟨gb270, 2, none⟩ = some (.string a2_2) := ct BK270.out 2; have hfz32_0 := blk_frozen BK270.out 0; have hfz32_1 := blk_frozen BK270.out 1; have hfz32_2 := blk_frozen BK270.out 2) | ((with_reducible refine gate_callee (f := 60) rfl ?_); refine goesL_ (some 25) rfl rfl Try.func60 (by kernel_rfl) rfl #[.agg #[.int .i64 a2_0, .int .i64 a2_1, .string a2_2], .int .i64 t271] rfl (by (try simp only [List.map_toArray, List.map_cons, List.map_nil]); first | done | rfl | (simp only [List.length_drop, List.length_take]; rfl)) ?_; (with_reducible refine (laws_szEntry.calls a2_0 a2_1 a2_2 t271 t272 _ A11.out).mono ?_); rintro e w33 ⟨rfl, hb⟩; refine ⟨_, rfl, ?_⟩; have n0_ := am (bb hb (kx BK269.out)); have n1_ := am (bb hb (kx BK270.out)); have n2_ := am (below_step (bx HB.out) hb); clear BK269; clear BK270; clear HB; have BK269 := n0_; have BK270 := n1_; have HB := n2_; clear n0_ n1_ n2_; (try clear hb); (try clear hb2); (try clear hk); (try clear hi)))
   have n0_ := am (blk_drew BK269.out)
   have n1_ := am (blk_drew BK270.out)
   have n2_ := am (below_drew1 HB.out)
   clear BK269 BK270 HB
   have BK269 := n0_
   have BK270 := n1_
   have HB := n2_
   clear n0_ n1_ n2_
   refine start_ (n := 12) (S := fun w' => w'.cell? ⟨gb269, 0, none⟩ = some (.int .i64 a0_0) ∧ w'.cell? ⟨gb269, 1, none⟩ = some (.int .i64 a0_1) ∧ w'.cell? ⟨gb269, 2, none⟩ = some (.slice A0_2 l0_2.length c0_2) ∧ w'.cell? ⟨gb270, 0, none⟩ = some (.int .i64 a2_0) ∧ w'.cell? ⟨gb270, 1, none⟩ = some (.int .i64 a2_1) ∧ w'.cell? ⟨gb270, 2, none⟩ = some (.string a2_2)) (ds := []) #[false, false, false, false, false, false, false, false, false, false, false, false] (by kernel_rfl) rfl rfl ⟨ct BK269.out 0, ct BK269.out 1, ct BK269.out 2, ct BK270.out 0, ct BK270.out 1, ct BK270.out 2⟩ (fun hHeld => ?_); refine with_tabW laws_FnExactLogPut.tab8 laws_FnExactLogPut.bits8 (fun HT_ HW_ => ?_)
   generalize w33.drew = w34 at BK269 BK270 HB hHeld ⊢
   refine pure_ (i := 2) (N := some 31) (v := ?_) (a' := ?_) #[false, false, true, false, false, false, false, false, false, false, false, false] rfl rfl (any_of HT_.out (by kernel_rfl)) (fun _ _ _ h => h) (Or.inl ⟨by rfl, ?_⟩) ?_ ?_
   rotate_left
   ·intro w'
    go_simp
    with_reducible rfl
   rotate_left
   ·simp only [Act.put, List.setIfInBounds_toArray, List.set_cons_zero, List.set_cons_succ, i64_w, i32_w]
    rfl
   refine take_ (i := 0) (N := some 29) (v := ?_) (a' := ?_) #[true, false, true, false, false, false, false, false, false, false, false, false] rfl rfl (take_ofW HT_.out HW_.out (by kernel_rfl)) (fun _ _ _ h => h) (Or.inl ⟨by rfl, ?_⟩) hHeld ?_ ?_
   rotate_left
   ·rintro w' ⟨s0, s1, s2, s3, s4, s5⟩
    go_simp
    with_reducible rfl
   rotate_left
   ·simp only [Act.put, List.setIfInBounds_toArray, List.set_cons_zero, List.set_cons_succ, i64_w, i32_w]
    rfl
   refine take_ (i := 3) (N := some 32) (v := ?_) (a' := ?_) #[true, false, true, true, false, false, false, false, false, false, false, false] rfl rfl (take_ofW HT_.out HW_.out (by kernel_rfl)) (fun _ _ _ h => h) (Or.inl ⟨by rfl, ?_⟩) hHeld ?_ ?_
   rotate_left
   ·rintro w' ⟨s0, s1, s2, s3, s4, s5⟩
    go_simp
    with_reducible rfl
   rotate_left
   ·simp only [Act.put, List.setIfInBounds_toArray, List.set_cons_zero, List.set_cons_succ, i64_w, i32_w]
    rfl
   refine join_ (σ := Value × Value × Nat) 2 #[true, true, true, true, true, true, true, true, true, true, false, false] (fun s_ => [(30, .agg #[.int .i64 t273, .int .i64 t274, s_.1]), (33, .agg #[.int .i64 t278, .int .i64 t279, .string t280]), (34, .tuple #[.agg #[.int .i64 t281, .int .i64 t282, s_.2.1], .bool t286]), (8, .pointer (some ⟨s_.2.2, 0, none⟩)), (28, .tuple #[.agg #[.int .i64 t281, .int .i64 t282, s_.2.1], .bool t286]), (35, .agg #[.int .i64 t281, .int .i64 t282, s_.2.1]), (36, .bool t286)]) (fun s_ w' => (w'.cell? ⟨gb269, 0, none⟩ = some (.int .i64 a0_0) ∧ w'.cell? ⟨gb269, 1, none⟩ = some (.int .i64 a0_1) ∧ w'.cell? ⟨gb269, 2, none⟩ = some (.slice A0_2 l0_2.length c0_2) ∧ w'.cell? ⟨gb270, 0, none⟩ = some (.int .i64 a2_0) ∧ w'.cell? ⟨gb270, 1, none⟩ = some (.int .i64 a2_1) ∧ w'.cell? ⟨gb270, 2, none⟩ = some (.string a2_2)) ∧ (Kd.R k67 67 w' w.heap.size (fun k_ => some k_ ≠ (s_.2.1 : Value).ownBlock) s_.1 t275) ∧ (Kd.R k67 67 w' w.heap.size (fun k_ => some k_ ≠ (s_.1 : Value).ownBlock) s_.2.1 t283) ∧ (w'.heap[gb269]? = some (.cells #[.int .i64 a0_0, .int .i64 a0_1, .slice A0_2 l0_2.length c0_2] 78 (0, 0))) ∧ (w'.heap[gb270]? = some (.cells #[.int .i64 a2_0, .int .i64 a2_1, .string a2_2] 88 (0, 0))) ∧ (w'.heap[s_.2.2]? = some (.cells #[.int .i64 0, .int .i64 0, .slice none 0 0] 82 (0, 0))) ∧ (w.heap.size ≤ s_.2.2) ∧ (w.heap.size ≤ s_.2.2) ∧ (gb269 ≠ s_.2.2) ∧ (s_.2.2 ≠ gb269) ∧ (gb270 ≠ s_.2.2) ∧ (s_.2.2 ≠ gb270) ∧ (Below w.heap.size w w')) ?_ ?_
   rotate_left
   ·intro hCont
    refine two_ (i := 1) (j := 9) (Ni := some 30) (Nj := some 8) #[true, true, true, true, false, false, false, false, false, false, false, false] #[true, false, true, true, false, false, false, false, false, true, false, false] rfl rfl rfl rfl (two_of HT_.out (by kernel_rfl)) (by decide) (by decide) (fun K hK => ?_) (fun K hK => ?_)
    ·skip
     refine goes_ Try.func55 (by kernel_rfl) rfl #[.agg #[.int .i64 a0_0, .int .i64 a0_1, .slice A0_2 l0_2.length c0_2]] (by rfl) rfl rfl (by (try simp only [List.map_toArray, List.map_cons, List.map_nil]); first | done | rfl | (simp only [List.length_drop, List.length_take]; rfl)) ?_
     with_reducible refine (laws_toLog.calls k a0_0 a0_1 _ _ l0_2 t273 t274 t275 _ ?side1 ?side2 A20.out).mono ?_
     (case side1 => repeat (first | exact (Kd.C_below HR0_2.out HB.out) | (with_reducible refine Kd.C_alloc ?_ _) | (with_reducible refine Kd.C_drewN ?_ _) | (with_reducible refine Kd.C_drew ?_)))
     (case side2 => exact HC0_2.out)
     rintro e w35 ⟨v276, rfl, ho0, hb⟩
     refine ⟨_, rfl, ?_⟩
     have n0_ := am (Kd.R_lower ho0 (below_size (bx HB.out)))
     have n1_ := am (bb hb (kx BK269.out))
     have n2_ := am (bb hb (kx BK270.out))
     have n3_ := am (below_step (bx HB.out) hb)
     clear BK269 BK270 HB
     have HO277 := n0_
     have BK269 := n1_
     have BK270 := n2_
     have HB := n3_
     clear n0_ n1_ n2_ n3_
     (try clear hb)
     (try clear hb2)
     (try clear hk)
     (try clear hi)
     (try clear ho0)
     refine hK.out _ _ ⟨ct BK269.out 0, ct BK269.out 1, ct BK269.out 2, ct BK270.out 0, ct BK270.out 1, ct BK270.out 2⟩ (fun hHeld => ?_)
     clear hK K
     refine norm_ (a' := ?_) ?_ ?_
     rotate_left
     ·show Act.put _ (some 30) _ = _
      simp only [Act.put, List.setIfInBounds_toArray, List.set_cons_zero, List.set_cons_succ, i64_w, i32_w]
      rfl
     refine two_ (i := 4) (j := 9) (Ni := some 33) (Nj := some 8) #[true, true, true, true, true, false, false, false, false, false, false, false] #[true, true, true, true, false, false, false, false, false, true, false, false] rfl rfl rfl rfl (two_of HT_.out (by kernel_rfl)) (by decide) (by decide) (fun K hK => ?_) (fun K hK => ?_)
     ·skip
      refine goes_ Try.func62 (by kernel_rfl) rfl #[.agg #[.int .i64 a2_0, .int .i64 a2_1, .string a2_2]] (by rfl) rfl rfl (by (try simp only [List.map_toArray, List.map_cons, List.map_nil]); first | done | rfl | (simp only [List.length_drop, List.length_take]; rfl)) ?_
      with_reducible refine (laws_toEntry.calls a2_0 a2_1 a2_2 t278 t279 t280 _ A21.out).mono ?_
      rintro e w36 ⟨rfl, hb⟩
      refine ⟨_, rfl, ?_⟩
      have n0_ := am (Kd.R_below (rx HO277.out) hb)
      have n1_ := am (bb hb (kx BK269.out))
      have n2_ := am (bb hb (kx BK270.out))
      have n3_ := am (below_step (bx HB.out) hb)
      clear HO277 BK269 BK270 HB
      have HO277 := n0_
      have BK269 := n1_
      have BK270 := n2_
      have HB := n3_
      clear n0_ n1_ n2_ n3_
      (try clear hb)
      (try clear hb2)
      (try clear hk)
      (try clear hi)
      obtain ⟨Ao37, co37, eo37⟩ := Kd.R_slice HO277.out
      (first | subst eo37 | (injection eo37 with f1_ f2_ f3_; have f4_ := f1_.symm; have f5_ := f3_.symm; clear f1_ f2_ f3_; subst f4_; subst f5_))
      refine hK.out _ _ ⟨ct BK269.out 0, ct BK269.out 1, ct BK269.out 2, ct BK270.out 0, ct BK270.out 1, ct BK270.out 2⟩ (fun hHeld => ?_)
      clear hK K
      refine norm_ (a' := ?_) ?_ ?_
      rotate_left
      ·show Act.put _ (some 33) _ = _
       simp only [Act.put, List.setIfInBounds_toArray, List.set_cons_zero, List.set_cons_succ, i64_w, i32_w]
       rfl
      refine two_ (i := 5) (j := 9) (Ni := some 34) (Nj := some 8) #[true, true, true, true, true, true, false, false, false, false, false, false] #[true, true, true, true, true, false, false, false, false, true, false, false] rfl rfl rfl rfl (two_of HT_.out (by kernel_rfl)) (by decide) (by decide) (fun K hK => ?_) (fun K hK => ?_)
      ·skip
       refine goes_ Try.func61 (by kernel_rfl) rfl #[.agg #[.int .i64 t273, .int .i64 t274, .slice Ao37 t275.length co37], .int .i64 a1, .agg #[.int .i64 t278, .int .i64 t279, .string t280]] (by rfl) rfl rfl (by (try simp only [List.map_toArray, List.map_cons, List.map_nil]); first | done | rfl | (simp only [List.length_drop, List.length_take]; rfl)) ?_
       with_reducible refine (spec_LogPut.calls k t273 t274 _ _ t275 a1 t278 t279 t280 t281 t282 t283 t286 _ ?side1 ?side2 A22.out).mono ?_
       (case side1 => repeat (first | exact (Kd.R_reads' HO277.out).2.2 | (with_reducible refine Kd.C_alloc ?_ _) | (with_reducible refine Kd.C_drewN ?_ _) | (with_reducible refine Kd.C_drew ?_)))
       (case side2 => exact (Kd.R_reads' HO277.out).2.1)
       rintro e w38 ⟨v284, rfl, ho0, hb⟩
       refine ⟨_, rfl, ?_⟩
       have n0_ := am (Kd.R_elder' (rx HO277.out) (Kd.R_base ho0) hb)
       have n1_ := am (Kd.R_lower (Kd.R_new' ho0 (Kd.R_lt (rx HO277.out))) (below_size (bx HB.out)))
       have n2_ := am (bb hb (kx BK269.out))
       have n3_ := am (bb hb (kx BK270.out))
       have n4_ := am (below_step (bx HB.out) hb)
       clear HO277 BK269 BK270 HB
       have HO277 := n0_
       have HO285 := n1_
       have BK269 := n2_
       have BK270 := n3_
       have HB := n4_
       clear n0_ n1_ n2_ n3_ n4_
       (try clear hb)
       (try clear hb2)
       (try clear hk)
       (try clear hi)
       (try clear ho0)
       refine hK.out _ _ ⟨ct BK269.out 0, ct BK269.out 1, ct BK269.out 2, ct BK270.out 0, ct BK270.out 1, ct BK270.out 2⟩ (fun hHeld => ?_)
       clear hK K
       refine norm_ (a' := ?_) ?_ ?_
       rotate_left
       ·show Act.put _ (some 34) _ = _
        simp only [Act.put, List.setIfInBounds_toArray, List.set_cons_zero, List.set_cons_succ, i64_w, i32_w]
        rfl
       refine pure_ (i := 6) (N := some 28) (v := ?_) (a' := ?_) #[true, true, true, true, true, true, true, false, false, false, false, false] rfl rfl (any_of HT_.out (by kernel_rfl)) (fun _ _ _ h => h) (Or.inl ⟨by rfl, ?_⟩) ?_ ?_
       rotate_left
       ·intro w'
        go_simp
        with_reducible rfl
       rotate_left
       ·simp only [Act.put, List.setIfInBounds_toArray, List.set_cons_zero, List.set_cons_succ, i64_w, i32_w]
        rfl
       refine pure_ (i := 7) (N := some 35) (v := ?_) (a' := ?_) #[true, true, true, true, true, true, true, true, false, false, false, false] rfl rfl (any_of HT_.out (by kernel_rfl)) (fun _ _ _ h => h) (Or.inl ⟨by rfl, ?_⟩) ?_ ?_
       rotate_left
       ·intro w'
        go_simp
        with_reducible rfl
       rotate_left
       ·simp only [Act.put, List.setIfInBounds_toArray, List.set_cons_zero, List.set_cons_succ, i64_w, i32_w]
        rfl
       refine pure_ (i := 8) (N := some 36) (v := ?_) (a' := ?_) #[true, true, true, true, true, true, true, true, true, false, false, false] rfl rfl (any_of HT_.out (by kernel_rfl)) (fun _ _ _ h => h) (Or.inl ⟨by rfl, ?_⟩) ?_ ?_
       rotate_left
       ·intro w'
        go_simp
        with_reducible rfl
       rotate_left
       ·simp only [Act.put, List.setIfInBounds_toArray, List.set_cons_zero, List.set_cons_succ, i64_w, i32_w]
        rfl
       refine one_ (i := 9) (N := some 8) #[true, true, true, true, true, true, true, true, true, true, false, false] rfl rfl (one_of HT_.out (by kernel_rfl)) (by decide) (fun K hK => ?_)
       refine box_step ?hg (N := 8) ?hd (cs := #[.int .i64 0, .int .i64 0, .slice none 0 0]) (t := 82) ?hr ?_; (case hd => rfl); (case hg => rfl); (case hr => first | (go_simp; done) | (go_simp; rfl))
       intro gb287 hg w39 hbox hb
       have n0_ := am (Kd.R_below (rx HO277.out) hb)
       have n1_ := am (Kd.R_below (rx HO285.out) hb)
       have n2_ := am (bb hb (kx BK269.out))
       have n3_ := am (bb hb (kx BK270.out))
       have n4_ := am (below_step (bx HB.out) hb)
       have n5_ := am (hbox)
       have n6_ := am ((by rw [hg]; exact (below_size (bx HB.out)) : w.heap.size ≤ gb287))
       have n7_ := am ((by rw [hg]; exact (below_size (bx HB.out)) : w.heap.size ≤ gb287))
       have n8_ := am ((by rw [hg]; exact Nat.ne_of_lt (blk_lt (kx BK269.out)) : gb269 ≠ gb287))
       have n9_ := am ((by rw [hg]; exact Nat.ne_of_gt (blk_lt (kx BK269.out)) : gb287 ≠ gb269))
       have n10_ := am ((by rw [hg]; exact Nat.ne_of_lt (blk_lt (kx BK270.out)) : gb270 ≠ gb287))
       have n11_ := am ((by rw [hg]; exact Nat.ne_of_gt (blk_lt (kx BK270.out)) : gb287 ≠ gb270))
       clear HO277 HO285 BK269 BK270 HB
       have HO277 := n0_
       have HO285 := n1_
       have BK269 := n2_
       have BK270 := n3_
       have HB := n4_
       have BK287 := n5_
       have GW287 := n6_
       have GE287 := n7_
       have NB269_287 := n8_
       have NB287_269 := n9_
       have NB270_287 := n10_
       have NB287_270 := n11_
       clear n0_ n1_ n2_ n3_ n4_ n5_ n6_ n7_ n8_ n9_ n10_ n11_ hb hbox hg
       refine hK.out _ _ ⟨ct BK269.out 0, ct BK269.out 1, ct BK269.out 2, ct BK270.out 0, ct BK270.out 1, ct BK270.out 2⟩ (fun hHeld => ?_)
       clear hK K
       refine norm_ (a' := ?_) ?_ ?_
       rotate_left
       ·show Act.put _ (some 8) _ = _
        simp only [Act.put, List.setIfInBounds_toArray, List.set_cons_zero, List.set_cons_succ, i64_w, i32_w]
        rfl
       exact norm_ (by simp only [putAll, Act.put, List.setIfInBounds_toArray, List.set_cons_zero, List.set_cons_succ]) (hCont (.slice Ao37 t275.length co37, v284, gb287) _ ⟨hHeld, (by (with_reducible repeat (first | apply Kd.R_alloc | apply Kd.R_drewN | apply Kd.R_drew)); exact Kd.R_mono HO277.out (fun _ hk => hk.2)), (by (with_reducible repeat (first | apply Kd.R_alloc | apply Kd.R_drewN | apply Kd.R_drew)); exact Kd.R_mono HO285.out (fun _ hk => hk.2)), (kx BK269.out), (kx BK270.out), (kx BK287.out), GW287.out, GE287.out, NB269_287.out, NB287_269.out, NB270_287.out, NB287_270.out, (bx HB.out)⟩)
      ·skip
       refine box_step ?hg (N := 8) ?hd (cs := #[.int .i64 0, .int .i64 0, .slice none 0 0]) (t := 82) ?hr ?_; (case hd => rfl); (case hg => rfl); (case hr => first | (go_simp; done) | (go_simp; rfl))
       intro gb287 hg w37 hbox hb
       have n0_ := am (Kd.R_below (rx HO277.out) hb)
       have n1_ := am (bb hb (kx BK269.out))
       have n2_ := am (bb hb (kx BK270.out))
       have n3_ := am (below_step (bx HB.out) hb)
       have n4_ := am (hbox)
       have n5_ := am ((by rw [hg]; exact (below_size (bx HB.out)) : w.heap.size ≤ gb287))
       have n6_ := am ((by rw [hg]; exact (below_size (bx HB.out)) : w.heap.size ≤ gb287))
       have n7_ := am ((by rw [hg]; exact Nat.ne_of_lt (blk_lt (kx BK269.out)) : gb269 ≠ gb287))
       have n8_ := am ((by rw [hg]; exact Nat.ne_of_gt (blk_lt (kx BK269.out)) : gb287 ≠ gb269))
       have n9_ := am ((by rw [hg]; exact Nat.ne_of_lt (blk_lt (kx BK270.out)) : gb270 ≠ gb287))
       have n10_ := am ((by rw [hg]; exact Nat.ne_of_gt (blk_lt (kx BK270.out)) : gb287 ≠ gb270))
       clear HO277 BK269 BK270 HB
       have HO277 := n0_
       have BK269 := n1_
       have BK270 := n2_
       have HB := n3_
       have BK287 := n4_
       have GW287 := n5_
       have GE287 := n6_
       have NB269_287 := n7_
       have NB287_269 := n8_
       have NB270_287 := n9_
       have NB287_270 := n10_
       clear n0_ n1_ n2_ n3_ n4_ n5_ n6_ n7_ n8_ n9_ n10_ hb hbox hg
       obtain ⟨Ao38, co38, eo38⟩ := Kd.R_slice HO277.out
       (first | subst eo38 | (injection eo38 with f1_ f2_ f3_; have f4_ := f1_.symm; have f5_ := f3_.symm; clear f1_ f2_ f3_; subst f4_; subst f5_))
       refine hK.out _ _ ⟨ct BK269.out 0, ct BK269.out 1, ct BK269.out 2, ct BK270.out 0, ct BK270.out 1, ct BK270.out 2⟩ (fun hHeld => ?_)
       clear hK K
       refine norm_ (a' := ?_) ?_ ?_
       rotate_left
       ·show Act.put _ (some 8) _ = _
        simp only [Act.put, List.setIfInBounds_toArray, List.set_cons_zero, List.set_cons_succ, i64_w, i32_w]
        rfl
       refine one_ (i := 5) (N := some 34) #[true, true, true, true, true, true, false, false, false, true, false, false] rfl rfl (one_of HT_.out (by kernel_rfl)) (by decide) (fun K hK => ?_)
       refine goes_ Try.func61 (by kernel_rfl) rfl #[.agg #[.int .i64 t273, .int .i64 t274, .slice Ao38 t275.length co38], .int .i64 a1, .agg #[.int .i64 t278, .int .i64 t279, .string t280]] (by rfl) rfl rfl (by (try simp only [List.map_toArray, List.map_cons, List.map_nil]); first | done | rfl | (simp only [List.length_drop, List.length_take]; rfl)) ?_
       with_reducible refine (spec_LogPut.calls k t273 t274 _ _ t275 a1 t278 t279 t280 t281 t282 t283 t286 _ ?side1 ?side2 A22.out).mono ?_
       (case side1 => repeat (first | exact (Kd.R_reads' HO277.out).2.2 | (with_reducible refine Kd.C_alloc ?_ _) | (with_reducible refine Kd.C_drewN ?_ _) | (with_reducible refine Kd.C_drew ?_)))
       (case side2 => exact (Kd.R_reads' HO277.out).2.1)
       rintro e w39 ⟨v284, rfl, ho0, hb⟩
       refine ⟨_, rfl, ?_⟩
       have n0_ := am (Kd.R_elder' (rx HO277.out) (Kd.R_base ho0) hb)
       have n1_ := am (Kd.R_lower (Kd.R_new' ho0 (Kd.R_lt (rx HO277.out))) (below_size (bx HB.out)))
       have n2_ := am (bb hb (kx BK269.out))
       have n3_ := am (bb hb (kx BK270.out))
       have n4_ := am (bb hb (kx BK287.out))
       have n5_ := am (below_step (bx HB.out) hb)
       clear HO277 BK269 BK270 BK287 HB
       have HO277 := n0_
       have HO285 := n1_
       have BK269 := n2_
       have BK270 := n3_
       have BK287 := n4_
       have HB := n5_
       clear n0_ n1_ n2_ n3_ n4_ n5_
       (try clear hb)
       (try clear hb2)
       (try clear hk)
       (try clear hi)
       (try clear ho0)
       refine hK.out _ _ ⟨ct BK269.out 0, ct BK269.out 1, ct BK269.out 2, ct BK270.out 0, ct BK270.out 1, ct BK270.out 2⟩ (fun hHeld => ?_)
       clear hK K
       refine norm_ (a' := ?_) ?_ ?_
       rotate_left
       ·show Act.put _ (some 34) _ = _
        simp only [Act.put, List.setIfInBounds_toArray, List.set_cons_zero, List.set_cons_succ, i64_w, i32_w]
        rfl
       refine pure_ (i := 6) (N := some 28) (v := ?_) (a' := ?_) #[true, true, true, true, true, true, true, false, false, true, false, false] rfl rfl (any_of HT_.out (by kernel_rfl)) (fun _ _ _ h => h) (Or.inl ⟨by rfl, ?_⟩) ?_ ?_
       rotate_left
       ·intro w'
        go_simp
        with_reducible rfl
       rotate_left
       ·simp only [Act.put, List.setIfInBounds_toArray, List.set_cons_zero, List.set_cons_succ, i64_w, i32_w]
        rfl
       refine pure_ (i := 7) (N := some 35) (v := ?_) (a' := ?_) #[true, true, true, true, true, true, true, true, false, true, false, false] rfl rfl (any_of HT_.out (by kernel_rfl)) (fun _ _ _ h => h) (Or.inl ⟨by rfl, ?_⟩) ?_ ?_
       rotate_left
       ·intro w'
        go_simp
        with_reducible rfl
       rotate_left
       ·simp only [Act.put, List.setIfInBounds_toArray, List.set_cons_zero, List.set_cons_succ, i64_w, i32_w]
        rfl
       refine pure_ (i := 8) (N := some 36) (v := ?_) (a' := ?_) #[true, true, true, true, true, true, true, true, true, true, false, false] rfl rfl (any_of HT_.out (by kernel_rfl)) (fun _ _ _ h => h) (Or.inl ⟨by rfl, ?_⟩) ?_ ?_
       rotate_left
       ·intro w'
        go_simp
        with_reducible rfl
       rotate_left
       ·simp only [Act.put, List.setIfInBounds_toArray, List.set_cons_zero, List.set_cons_succ, i64_w, i32_w]
        rfl
       exact norm_ (by simp only [putAll, Act.put, List.setIfInBounds_toArray, List.set_cons_zero, List.set_cons_succ]) (hCont (.slice Ao38 t275.length co38, v284, gb287) _ ⟨hHeld, (by (with_reducible repeat (first | apply Kd.R_alloc | apply Kd.R_drewN | apply Kd.R_drew)); exact Kd.R_mono HO277.out (fun _ hk => hk.2)), (by (with_reducible repeat (first | apply Kd.R_alloc | apply Kd.R_drewN | apply Kd.R_drew)); exact Kd.R_mono HO285.out (fun _ hk => hk.2)), (kx BK269.out), (kx BK270.out), (kx BK287.out), GW287.out, GE287.out, NB269_287.out, NB287_269.out, NB270_287.out, NB287_270.out, (bx HB.out)⟩)
     ·skip
      refine box_step ?hg (N := 8) ?hd (cs := #[.int .i64 0, .int .i64 0, .slice none 0 0]) (t := 82) ?hr ?_; (case hd => rfl); (case hg => rfl); (case hr => first | (go_simp; done) | (go_simp; rfl))
      intro gb287 hg w36 hbox hb
      have n0_ := am (Kd.R_below (rx HO277.out) hb)
      have n1_ := am (bb hb (kx BK269.out))
      have n2_ := am (bb hb (kx BK270.out))
      have n3_ := am (below_step (bx HB.out) hb)
      have n4_ := am (hbox)
      have n5_ := am ((by rw [hg]; exact (below_size (bx HB.out)) : w.heap.size ≤ gb287))
      have n6_ := am ((by rw [hg]; exact (below_size (bx HB.out)) : w.heap.size ≤ gb287))
      have n7_ := am ((by rw [hg]; exact Nat.ne_of_lt (blk_lt (kx BK269.out)) : gb269 ≠ gb287))
      have n8_ := am ((by rw [hg]; exact Nat.ne_of_gt (blk_lt (kx BK269.out)) : gb287 ≠ gb269))
      have n9_ := am ((by rw [hg]; exact Nat.ne_of_lt (blk_lt (kx BK270.out)) : gb270 ≠ gb287))
      have n10_ := am ((by rw [hg]; exact Nat.ne_of_gt (blk_lt (kx BK270.out)) : gb287 ≠ gb270))
      clear HO277 BK269 BK270 HB
      have HO277 := n0_
      have BK269 := n1_
      have BK270 := n2_
      have HB := n3_
      have BK287 := n4_
      have GW287 := n5_
      have GE287 := n6_
      have NB269_287 := n7_
      have NB287_269 := n8_
      have NB270_287 := n9_
      have NB287_270 := n10_
      clear n0_ n1_ n2_ n3_ n4_ n5_ n6_ n7_ n8_ n9_ n10_ hb hbox hg
      refine hK.out _ _ ⟨ct BK269.out 0, ct BK269.out 1, ct BK269.out 2, ct BK270.out 0, ct BK270.out 1, ct BK270.out 2⟩ (fun hHeld => ?_)
      clear hK K
      refine norm_ (a' := ?_) ?_ ?_
      rotate_left
      ·show Act.put _ (some 8) _ = _
       simp only [Act.put, List.setIfInBounds_toArray, List.set_cons_zero, List.set_cons_succ, i64_w, i32_w]
       rfl
      refine one_ (i := 4) (N := some 33) #[true, true, true, true, true, false, false, false, false, true, false, false] rfl rfl (one_of HT_.out (by kernel_rfl)) (by decide) (fun K hK => ?_)
      refine goes_ Try.func62 (by kernel_rfl) rfl #[.agg #[.int .i64 a2_0, .int .i64 a2_1, .string a2_2]] (by rfl) rfl rfl (by (try simp only [List.map_toArray, List.map_cons, List.map_nil]); first | done | rfl | (simp only [List.length_drop, List.length_take]; rfl)) ?_
      with_reducible refine (laws_toEntry.calls a2_0 a2_1 a2_2 t278 t279 t280 _ A21.out).mono ?_
      rintro e w37 ⟨rfl, hb⟩
      refine ⟨_, rfl, ?_⟩
      have n0_ := am (Kd.R_below (rx HO277.out) hb)
      have n1_ := am (bb hb (kx BK269.out))
      have n2_ := am (bb hb (kx BK270.out))
      have n3_ := am (bb hb (kx BK287.out))
      have n4_ := am (below_step (bx HB.out) hb)
      clear HO277 BK269 BK270 BK287 HB
      have HO277 := n0_
      have BK269 := n1_
      have BK270 := n2_
      have BK287 := n3_
      have HB := n4_
      clear n0_ n1_ n2_ n3_ n4_
      (try clear hb)
      (try clear hb2)
      (try clear hk)
      (try clear hi)
      obtain ⟨Ao38, co38, eo38⟩ := Kd.R_slice HO277.out
      (first | subst eo38 | (injection eo38 with f1_ f2_ f3_; have f4_ := f1_.symm; have f5_ := f3_.symm; clear f1_ f2_ f3_; subst f4_; subst f5_))
      refine hK.out _ _ ⟨ct BK269.out 0, ct BK269.out 1, ct BK269.out 2, ct BK270.out 0, ct BK270.out 1, ct BK270.out 2⟩ (fun hHeld => ?_)
      clear hK K
      refine norm_ (a' := ?_) ?_ ?_
      rotate_left
      ·show Act.put _ (some 33) _ = _
       simp only [Act.put, List.setIfInBounds_toArray, List.set_cons_zero, List.set_cons_succ, i64_w, i32_w]
       rfl
      refine one_ (i := 5) (N := some 34) #[true, true, true, true, true, true, false, false, false, true, false, false] rfl rfl (one_of HT_.out (by kernel_rfl)) (by decide) (fun K hK => ?_)
      refine goes_ Try.func61 (by kernel_rfl) rfl #[.agg #[.int .i64 t273, .int .i64 t274, .slice Ao38 t275.length co38], .int .i64 a1, .agg #[.int .i64 t278, .int .i64 t279, .string t280]] (by rfl) rfl rfl (by (try simp only [List.map_toArray, List.map_cons, List.map_nil]); first | done | rfl | (simp only [List.length_drop, List.length_take]; rfl)) ?_
      with_reducible refine (spec_LogPut.calls k t273 t274 _ _ t275 a1 t278 t279 t280 t281 t282 t283 t286 _ ?side1 ?side2 A22.out).mono ?_
      (case side1 => repeat (first | exact (Kd.R_reads' HO277.out).2.2 | (with_reducible refine Kd.C_alloc ?_ _) | (with_reducible refine Kd.C_drewN ?_ _) | (with_reducible refine Kd.C_drew ?_)))
      (case side2 => exact (Kd.R_reads' HO277.out).2.1)
      rintro e w39 ⟨v284, rfl, ho0, hb⟩
      refine ⟨_, rfl, ?_⟩
      have n0_ := am (Kd.R_elder' (rx HO277.out) (Kd.R_base ho0) hb)
      have n1_ := am (Kd.R_lower (Kd.R_new' ho0 (Kd.R_lt (rx HO277.out))) (below_size (bx HB.out)))
      have n2_ := am (bb hb (kx BK269.out))
      have n3_ := am (bb hb (kx BK270.out))
      have n4_ := am (bb hb (kx BK287.out))
      have n5_ := am (below_step (bx HB.out) hb)
      clear HO277 BK269 BK270 BK287 HB
      have HO277 := n0_
      have HO285 := n1_
      have BK269 := n2_
      have BK270 := n3_
      have BK287 := n4_
      have HB := n5_
      clear n0_ n1_ n2_ n3_ n4_ n5_
      (try clear hb)
      (try clear hb2)
      (try clear hk)
      (try clear hi)
      (try clear ho0)
      refine hK.out _ _ ⟨ct BK269.out 0, ct BK269.out 1, ct BK269.out 2, ct BK270.out 0, ct BK270.out 1, ct BK270.out 2⟩ (fun hHeld => ?_)
      clear hK K
      refine norm_ (a' := ?_) ?_ ?_
      rotate_left
      ·show Act.put _ (some 34) _ = _
       simp only [Act.put, List.setIfInBounds_toArray, List.set_cons_zero, List.set_cons_succ, i64_w, i32_w]
       rfl
      refine pure_ (i := 6) (N := some 28) (v := ?_) (a' := ?_) #[true, true, true, true, true, true, true, false, false, true, false, false] rfl rfl (any_of HT_.out (by kernel_rfl)) (fun _ _ _ h => h) (Or.inl ⟨by rfl, ?_⟩) ?_ ?_
      rotate_left
      ·intro w'
       go_simp
       with_reducible rfl
      rotate_left
      ·simp only [Act.put, List.setIfInBounds_toArray, List.set_cons_zero, List.set_cons_succ, i64_w, i32_w]
       rfl
      refine pure_ (i := 7) (N := some 35) (v := ?_) (a' := ?_) #[true, true, true, true, true, true, true, true, false, true, false, false] rfl rfl (any_of HT_.out (by kernel_rfl)) (fun _ _ _ h => h) (Or.inl ⟨by rfl, ?_⟩) ?_ ?_
      rotate_left
      ·intro w'
       go_simp
       with_reducible rfl
      rotate_left
      ·simp only [Act.put, List.setIfInBounds_toArray, List.set_cons_zero, List.set_cons_succ, i64_w, i32_w]
       rfl
      refine pure_ (i := 8) (N := some 36) (v := ?_) (a' := ?_) #[true, true, true, true, true, true, true, true, true, true, false, false] rfl rfl (any_of HT_.out (by kernel_rfl)) (fun _ _ _ h => h) (Or.inl ⟨by rfl, ?_⟩) ?_ ?_
      rotate_left
      ·intro w'
       go_simp
       with_reducible rfl
      rotate_left
      ·simp only [Act.put, List.setIfInBounds_toArray, List.set_cons_zero, List.set_cons_succ, i64_w, i32_w]
       rfl
      exact norm_ (by simp only [putAll, Act.put, List.setIfInBounds_toArray, List.set_cons_zero, List.set_cons_succ]) (hCont (.slice Ao38 t275.length co38, v284, gb287) _ ⟨hHeld, (by (with_reducible repeat (first | apply Kd.R_alloc | apply Kd.R_drewN | apply Kd.R_drew)); exact Kd.R_mono HO277.out (fun _ hk => hk.2)), (by (with_reducible repeat (first | apply Kd.R_alloc | apply Kd.R_drewN | apply Kd.R_drew)); exact Kd.R_mono HO285.out (fun _ hk => hk.2)), (kx BK269.out), (kx BK270.out), (kx BK287.out), GW287.out, GE287.out, NB269_287.out, NB287_269.out, NB270_287.out, NB287_270.out, (bx HB.out)⟩)
    ·skip
     refine box_step ?hg (N := 8) ?hd (cs := #[.int .i64 0, .int .i64 0, .slice none 0 0]) (t := 82) ?hr ?_; (case hd => rfl); (case hg => rfl); (case hr => first | (go_simp; done) | (go_simp; rfl))
     intro gb287 hg w35 hbox hb
     have n0_ := am (bb hb (kx BK269.out))
     have n1_ := am (bb hb (kx BK270.out))
     have n2_ := am (below_step (bx HB.out) hb)
     have n3_ := am (hbox)
     have n4_ := am ((by rw [hg]; exact (below_size (bx HB.out)) : w.heap.size ≤ gb287))
     have n5_ := am ((by rw [hg]; exact (below_size (bx HB.out)) : w.heap.size ≤ gb287))
     have n6_ := am ((by rw [hg]; exact Nat.ne_of_lt (blk_lt (kx BK269.out)) : gb269 ≠ gb287))
     have n7_ := am ((by rw [hg]; exact Nat.ne_of_gt (blk_lt (kx BK269.out)) : gb287 ≠ gb269))
     have n8_ := am ((by rw [hg]; exact Nat.ne_of_lt (blk_lt (kx BK270.out)) : gb270 ≠ gb287))
     have n9_ := am ((by rw [hg]; exact Nat.ne_of_gt (blk_lt (kx BK270.out)) : gb287 ≠ gb270))
     clear BK269 BK270 HB
     have BK269 := n0_
     have BK270 := n1_
     have HB := n2_
     have BK287 := n3_
     have GW287 := n4_
     have GE287 := n5_
     have NB269_287 := n6_
     have NB287_269 := n7_
     have NB270_287 := n8_
     have NB287_270 := n9_
     clear n0_ n1_ n2_ n3_ n4_ n5_ n6_ n7_ n8_ n9_ hb hbox hg
     refine hK.out _ _ ⟨ct BK269.out 0, ct BK269.out 1, ct BK269.out 2, ct BK270.out 0, ct BK270.out 1, ct BK270.out 2⟩ (fun hHeld => ?_)
     clear hK K
     refine norm_ (a' := ?_) ?_ ?_
     rotate_left
     ·show Act.put _ (some 8) _ = _
      simp only [Act.put, List.setIfInBounds_toArray, List.set_cons_zero, List.set_cons_succ, i64_w, i32_w]
      rfl
     refine one_ (i := 1) (N := some 30) #[true, true, true, true, false, false, false, false, false, true, false, false] rfl rfl (one_of HT_.out (by kernel_rfl)) (by decide) (fun K hK => ?_)
     refine goes_ Try.func55 (by kernel_rfl) rfl #[.agg #[.int .i64 a0_0, .int .i64 a0_1, .slice A0_2 l0_2.length c0_2]] (by rfl) rfl rfl (by (try simp only [List.map_toArray, List.map_cons, List.map_nil]); first | done | rfl | (simp only [List.length_drop, List.length_take]; rfl)) ?_
     with_reducible refine (laws_toLog.calls k a0_0 a0_1 _ _ l0_2 t273 t274 t275 _ ?side1 ?side2 A20.out).mono ?_
     (case side1 => repeat (first | exact (Kd.C_below HR0_2.out HB.out) | (with_reducible refine Kd.C_alloc ?_ _) | (with_reducible refine Kd.C_drewN ?_ _) | (with_reducible refine Kd.C_drew ?_)))
     (case side2 => exact HC0_2.out)
     rintro e w36 ⟨v276, rfl, ho0, hb⟩
     refine ⟨_, rfl, ?_⟩
     have n0_ := am (Kd.R_lower ho0 (below_size (bx HB.out)))
     have n1_ := am (bb hb (kx BK269.out))
     have n2_ := am (bb hb (kx BK270.out))
     have n3_ := am (bb hb (kx BK287.out))
     have n4_ := am (below_step (bx HB.out) hb)
     clear BK269 BK270 BK287 HB
     have HO277 := n0_
     have BK269 := n1_
     have BK270 := n2_
     have BK287 := n3_
     have HB := n4_
     clear n0_ n1_ n2_ n3_ n4_
     (try clear hb)
     (try clear hb2)
     (try clear hk)
     (try clear hi)
     (try clear ho0)
     refine hK.out _ _ ⟨ct BK269.out 0, ct BK269.out 1, ct BK269.out 2, ct BK270.out 0, ct BK270.out 1, ct BK270.out 2⟩ (fun hHeld => ?_)
     clear hK K
     refine norm_ (a' := ?_) ?_ ?_
     rotate_left
     ·show Act.put _ (some 30) _ = _
      simp only [Act.put, List.setIfInBounds_toArray, List.set_cons_zero, List.set_cons_succ, i64_w, i32_w]
      rfl
     refine one_ (i := 4) (N := some 33) #[true, true, true, true, true, false, false, false, false, true, false, false] rfl rfl (one_of HT_.out (by kernel_rfl)) (by decide) (fun K hK => ?_)
     refine goes_ Try.func62 (by kernel_rfl) rfl #[.agg #[.int .i64 a2_0, .int .i64 a2_1, .string a2_2]] (by rfl) rfl rfl (by (try simp only [List.map_toArray, List.map_cons, List.map_nil]); first | done | rfl | (simp only [List.length_drop, List.length_take]; rfl)) ?_
     with_reducible refine (laws_toEntry.calls a2_0 a2_1 a2_2 t278 t279 t280 _ A21.out).mono ?_
     rintro e w37 ⟨rfl, hb⟩
     refine ⟨_, rfl, ?_⟩
     have n0_ := am (Kd.R_below (rx HO277.out) hb)
     have n1_ := am (bb hb (kx BK269.out))
     have n2_ := am (bb hb (kx BK270.out))
     have n3_ := am (bb hb (kx BK287.out))
     have n4_ := am (below_step (bx HB.out) hb)
     clear HO277 BK269 BK270 BK287 HB
     have HO277 := n0_
     have BK269 := n1_
     have BK270 := n2_
     have BK287 := n3_
     have HB := n4_
     clear n0_ n1_ n2_ n3_ n4_
     (try clear hb)
     (try clear hb2)
     (try clear hk)
     (try clear hi)
     obtain ⟨Ao38, co38, eo38⟩ := Kd.R_slice HO277.out
     (first | subst eo38 | (injection eo38 with f1_ f2_ f3_; have f4_ := f1_.symm; have f5_ := f3_.symm; clear f1_ f2_ f3_; subst f4_; subst f5_))
     refine hK.out _ _ ⟨ct BK269.out 0, ct BK269.out 1, ct BK269.out 2, ct BK270.out 0, ct BK270.out 1, ct BK270.out 2⟩ (fun hHeld => ?_)
     clear hK K
     refine norm_ (a' := ?_) ?_ ?_
     rotate_left
     ·show Act.put _ (some 33) _ = _
      simp only [Act.put, List.setIfInBounds_toArray, List.set_cons_zero, List.set_cons_succ, i64_w, i32_w]
      rfl
     refine one_ (i := 5) (N := some 34) #[true, true, true, true, true, true, false, false, false, true, false, false] rfl rfl (one_of HT_.out (by kernel_rfl)) (by decide) (fun K hK => ?_)
     refine goes_ Try.func61 (by kernel_rfl) rfl #[.agg #[.int .i64 t273, .int .i64 t274, .slice Ao38 t275.length co38], .int .i64 a1, .agg #[.int .i64 t278, .int .i64 t279, .string t280]] (by rfl) rfl rfl (by (try simp only [List.map_toArray, List.map_cons, List.map_nil]); first | done | rfl | (simp only [List.length_drop, List.length_take]; rfl)) ?_
     with_reducible refine (spec_LogPut.calls k t273 t274 _ _ t275 a1 t278 t279 t280 t281 t282 t283 t286 _ ?side1 ?side2 A22.out).mono ?_
     (case side1 => repeat (first | exact (Kd.R_reads' HO277.out).2.2 | (with_reducible refine Kd.C_alloc ?_ _) | (with_reducible refine Kd.C_drewN ?_ _) | (with_reducible refine Kd.C_drew ?_)))
     (case side2 => exact (Kd.R_reads' HO277.out).2.1)
     rintro e w39 ⟨v284, rfl, ho0, hb⟩
     refine ⟨_, rfl, ?_⟩
     have n0_ := am (Kd.R_elder' (rx HO277.out) (Kd.R_base ho0) hb)
     have n1_ := am (Kd.R_lower (Kd.R_new' ho0 (Kd.R_lt (rx HO277.out))) (below_size (bx HB.out)))
     have n2_ := am (bb hb (kx BK269.out))
     have n3_ := am (bb hb (kx BK270.out))
     have n4_ := am (bb hb (kx BK287.out))
     have n5_ := am (below_step (bx HB.out) hb)
     clear HO277 BK269 BK270 BK287 HB
     have HO277 := n0_
     have HO285 := n1_
     have BK269 := n2_
     have BK270 := n3_
     have BK287 := n4_
     have HB := n5_
     clear n0_ n1_ n2_ n3_ n4_ n5_
     (try clear hb)
     (try clear hb2)
     (try clear hk)
     (try clear hi)
     (try clear ho0)
     refine hK.out _ _ ⟨ct BK269.out 0, ct BK269.out 1, ct BK269.out 2, ct BK270.out 0, ct BK270.out 1, ct BK270.out 2⟩ (fun hHeld => ?_)
     clear hK K
     refine norm_ (a' := ?_) ?_ ?_
     rotate_left
     ·show Act.put _ (some 34) _ = _
      simp only [Act.put, List.setIfInBounds_toArray, List.set_cons_zero, List.set_cons_succ, i64_w, i32_w]
      rfl
     refine pure_ (i := 6) (N := some 28) (v := ?_) (a' := ?_) #[true, true, true, true, true, true, true, false, false, true, false, false] rfl rfl (any_of HT_.out (by kernel_rfl)) (fun _ _ _ h => h) (Or.inl ⟨by rfl, ?_⟩) ?_ ?_
     rotate_left
     ·intro w'
      go_simp
      with_reducible rfl
     rotate_left
     ·simp only [Act.put, List.setIfInBounds_toArray, List.set_cons_zero, List.set_cons_succ, i64_w, i32_w]
      rfl
     refine pure_ (i := 7) (N := some 35) (v := ?_) (a' := ?_) #[true, true, true, true, true, true, true, true, false, true, false, false] rfl rfl (any_of HT_.out (by kernel_rfl)) (fun _ _ _ h => h) (Or.inl ⟨by rfl, ?_⟩) ?_ ?_
     rotate_left
     ·intro w'
      go_simp
      with_reducible rfl
     rotate_left
     ·simp only [Act.put, List.setIfInBounds_toArray, List.set_cons_zero, List.set_cons_succ, i64_w, i32_w]
      rfl
     refine pure_ (i := 8) (N := some 36) (v := ?_) (a' := ?_) #[true, true, true, true, true, true, true, true, true, true, false, false] rfl rfl (any_of HT_.out (by kernel_rfl)) (fun _ _ _ h => h) (Or.inl ⟨by rfl, ?_⟩) ?_ ?_
     rotate_left
     ·intro w'
      go_simp
      with_reducible rfl
     rotate_left
     ·simp only [Act.put, List.setIfInBounds_toArray, List.set_cons_zero, List.set_cons_succ, i64_w, i32_w]
      rfl
     exact norm_ (by simp only [putAll, Act.put, List.setIfInBounds_toArray, List.set_cons_zero, List.set_cons_succ]) (hCont (.slice Ao38 t275.length co38, v284, gb287) _ ⟨hHeld, (by (with_reducible repeat (first | apply Kd.R_alloc | apply Kd.R_drewN | apply Kd.R_drew)); exact Kd.R_mono HO277.out (fun _ hk => hk.2)), (by (with_reducible repeat (first | apply Kd.R_alloc | apply Kd.R_drewN | apply Kd.R_drew)); exact Kd.R_mono HO285.out (fun _ hk => hk.2)), (kx BK269.out), (kx BK270.out), (kx BK287.out), GW287.out, GE287.out, NB269_287.out, NB287_269.out, NB270_287.out, NB287_270.out, (bx HB.out)⟩)
   rintro ⟨v276, v284, gb287⟩ w40 ⟨hS_, h0_, h1_, h2_, h3_, h4_, h5_, h6_, h7_, h8_, h9_, h10_, h11_⟩
   have n0_ : Aside0 (Kd.R k67 67 w40 w.heap.size (fun k_ => some k_ ≠ (v284 : Value).ownBlock) v276 t275) := ⟨h0_⟩
   have n1_ : Aside0 (Kd.R k67 67 w40 w.heap.size (fun k_ => some k_ ≠ (v276 : Value).ownBlock) v284 t283) := ⟨h1_⟩
   have n2_ : Aside0 (w40.heap[gb269]? = some (.cells #[.int .i64 a0_0, .int .i64 a0_1, .slice A0_2 l0_2.length c0_2] 78 (0, 0))) := ⟨h2_⟩
   have n3_ : Aside0 (w40.heap[gb270]? = some (.cells #[.int .i64 a2_0, .int .i64 a2_1, .string a2_2] 88 (0, 0))) := ⟨h3_⟩
   have n4_ : Aside0 (w40.heap[gb287]? = some (.cells #[.int .i64 0, .int .i64 0, .slice none 0 0] 82 (0, 0))) := ⟨h4_⟩
   have n5_ : Aside0 (w.heap.size ≤ gb287) := ⟨h5_⟩
   have n6_ : Aside0 (w.heap.size ≤ gb287) := ⟨h6_⟩
   have n7_ : Aside0 (gb269 ≠ gb287) := ⟨h7_⟩
   have n8_ : Aside0 (gb287 ≠ gb269) := ⟨h8_⟩
   have n9_ : Aside0 (gb270 ≠ gb287) := ⟨h9_⟩
   have n10_ : Aside0 (gb287 ≠ gb270) := ⟨h10_⟩
   have n11_ : Aside0 (Below w.heap.size w w40) := ⟨h11_⟩
   clear BK269 BK270 HB h0_ h1_ h2_ h3_ h4_ h5_ h6_ h7_ h8_ h9_ h10_ h11_
   have HO277 := n0_
   have HO285 := n1_
   have BK269 := n2_
   have BK270 := n3_
   have BK287 := n4_
   have GW287 := n5_
   have GE287 := n6_
   have NB269_287 := n7_
   have NB287_269 := n8_
   have NB270_287 := n9_
   have NB287_270 := n10_
   have HB := n11_
   clear n0_ n1_ n2_ n3_ n4_ n5_ n6_ n7_ n8_ n9_ n10_ n11_
   have hHeld : w40.cell? ⟨gb269, 0, none⟩ = some (.int .i64 a0_0) ∧ w40.cell? ⟨gb269, 1, none⟩ = some (.int .i64 a0_1) ∧ w40.cell? ⟨gb269, 2, none⟩ = some (.slice A0_2 l0_2.length c0_2) ∧ w40.cell? ⟨gb270, 0, none⟩ = some (.int .i64 a2_0) ∧ w40.cell? ⟨gb270, 1, none⟩ = some (.int .i64 a2_1) ∧ w40.cell? ⟨gb270, 2, none⟩ = some (.string a2_2) := hS_
   obtain ⟨Ao43, co43, eo43⟩ := Kd.R_slice HO285.out
   (first | subst eo43 | (injection eo43 with f1_ f2_ f3_; have f4_ := f1_.symm; have f5_ := f3_.symm; clear f1_ f2_ f3_; subst f4_; subst f5_))
   refine norm_ (a' := ?_) ?_ ?_
   rotate_left
   ·simp only [putAll, Act.put, List.setIfInBounds_toArray, List.set_cons_zero, List.set_cons_succ]
    rfl
   refine one_ (i := 10) (N := none) #[true, true, true, true, true, true, true, true, true, true, true, false] rfl rfl (one_of HT_.out (by kernel_rfl)) (by decide) (fun K hK => ?_)
   have hs41 : w40.cell? ⟨gb287, 0, none⟩ = some (.int .i64 0) := ct BK287.out 0
   have hfs41 := blk_frozen BK287.out 0
   have hns41_0 := NB269_287.out
   have hns41_1 := NB270_287.out
   have hms41_0 := NB287_269.out
   have hms41_1 := NB287_270.out
   have hs42 : w40.cell? ⟨gb287, 1, none⟩ = some (.int .i64 0) := ct BK287.out 1
   have hfs42 := blk_frozen BK287.out 1
   have hns42_0 := NB269_287.out
   have hns42_1 := NB270_287.out
   have hms42_0 := NB287_269.out
   have hms42_1 := NB287_270.out
   have hs44 : w40.cell? ⟨gb287, 2, none⟩ = some (.slice none 0 0) := ct BK287.out 2
   have hfs44 := blk_frozen BK287.out 2
   have hns44_0 := NB269_287.out
   have hns44_1 := NB270_287.out
   have hms44_0 := NB287_269.out
   have hms44_1 := NB287_270.out
   refine skip_ (w1 := ?_) (by rfl) rfl ?_ ?_
   rotate_left
   ·go_simp
    rfl
   refine hK.out _ _ ⟨((cell_far (p := ⟨gb287, _, none⟩) NB269_287.out _).trans (((cell_far (p := ⟨gb287, _, none⟩) NB269_287.out _).trans (((cell_far (p := ⟨gb287, _, none⟩) NB269_287.out _).trans (hHeld.1)))))), ((cell_far (p := ⟨gb287, _, none⟩) NB269_287.out _).trans (((cell_far (p := ⟨gb287, _, none⟩) NB269_287.out _).trans (((cell_far (p := ⟨gb287, _, none⟩) NB269_287.out _).trans (hHeld.2.1)))))), ((cell_far (p := ⟨gb287, _, none⟩) NB269_287.out _).trans (((cell_far (p := ⟨gb287, _, none⟩) NB269_287.out _).trans (((cell_far (p := ⟨gb287, _, none⟩) NB269_287.out _).trans (hHeld.2.2.1)))))), ((cell_far (p := ⟨gb287, _, none⟩) NB270_287.out _).trans (((cell_far (p := ⟨gb287, _, none⟩) NB270_287.out _).trans (((cell_far (p := ⟨gb287, _, none⟩) NB270_287.out _).trans (hHeld.2.2.2.1)))))), ((cell_far (p := ⟨gb287, _, none⟩) NB270_287.out _).trans (((cell_far (p := ⟨gb287, _, none⟩) NB270_287.out _).trans (((cell_far (p := ⟨gb287, _, none⟩) NB270_287.out _).trans (hHeld.2.2.2.2.1)))))), ((cell_far (p := ⟨gb287, _, none⟩) NB270_287.out _).trans (((cell_far (p := ⟨gb287, _, none⟩) NB270_287.out _).trans (((cell_far (p := ⟨gb287, _, none⟩) NB270_287.out _).trans (hHeld.2.2.2.2.2))))))⟩ (fun hHeld => ?_)
   clear hK K
   refine pure_ (i := 11) (N := some 9) (v := ?_) (a' := ?_) #[true, true, true, true, true, true, true, true, true, true, true, true] rfl rfl (any_of HT_.out (by kernel_rfl)) (fun _ _ _ h => h) (Or.inl ⟨by rfl, ?_⟩) ?_ ?_
   rotate_left
   ·intro w'
    go_simp
    with_reducible rfl
   rotate_left
   ·simp only [Act.put, List.setIfInBounds_toArray, List.set_cons_zero, List.set_cons_succ, i64_w, i32_w]
    rfl
   refine done_ (done_of HT_.out (by kernel_rfl)) ?_
   have hnb45 := NB269_287.out
   have hnc45 := NB287_269.out
   have hcz46_0 : w40.cell? ⟨gb269, 0, none⟩ = some (.int .i64 a0_0) := ct BK269.out 0
   have hcz46_1 : w40.cell? ⟨gb269, 1, none⟩ = some (.int .i64 a0_1) := ct BK269.out 1
   have hcz46_2 : w40.cell? ⟨gb269, 2, none⟩ = some (.slice A0_2 l0_2.length c0_2) := ct BK269.out 2
   have hfz46_0 := blk_frozen BK269.out 0
   have hfz46_1 := blk_frozen BK269.out 1
   have hfz46_2 := blk_frozen BK269.out 2
   try go_wp2_with (first | ((with_reducible refine gate_callee (f := 55) rfl ?_); refine goesL_ (some 38) rfl rfl Try.func55 (by kernel_rfl) rfl #[.agg #[.int .i64 a0_0, .int .i64 a0_1, .slice A0_2 l0_2.length c0_2]] rfl (by (try simp only [List.map_toArray, List.map_cons, List.map_nil]); first | done | rfl | (simp only [List.length_drop, List.length_take]; rfl)) ?_; (with_reducible refine (laws_toLog.calls k a0_0 a0_1 _ _ l0_2 t288 t289 t290 _ ?side1 ?side2 A23.out).mono ?_); (case side1 => exact Kd.C_below HR0_2.out (bx HB.out)); (case side2 => exact HC0_2.out); rintro e w47 ⟨v291, rfl, ho0, hb⟩; refine ⟨_, rfl, ?_⟩; have n0_ := am (Kd.R_elder' (by (with_reducible repeat (first | apply Kd.R_alloc | apply Kd.R_drewN | apply Kd.R_drew)); exact (Kd.R_mono (Kd.R_far (p := ⟨gb287, 2, none⟩) (Kd.R_far (p := ⟨gb287, 1, none⟩) (Kd.R_far (p := ⟨gb287, 0, none⟩) (Kd.R_types HO277.out BK287.out (by decide)) (fun _ hk => hk.2) (.int .i64 t281)) (fun _ hk => hk.2) (.int .i64 t282)) (fun _ hk => hk.2) (.slice Ao43 t283.length co43)) (fun _ h_ => h_.1))) (Kd.R_base ho0) hb); have n1_ := am (Kd.R_elder' (by (with_reducible repeat (first | apply Kd.R_alloc | apply Kd.R_drewN | apply Kd.R_drew)); exact (Kd.R_mono (Kd.R_far (p := ⟨gb287, 2, none⟩) (Kd.R_far (p := ⟨gb287, 1, none⟩) (Kd.R_far (p := ⟨gb287, 0, none⟩) (Kd.R_types HO285.out BK287.out (by decide)) (fun _ hk => hk.2) (.int .i64 t281)) (fun _ hk => hk.2) (.int .i64 t282)) (fun _ hk => hk.2) (.slice Ao43 t283.length co43)) (fun _ h_ => h_.1))) (Kd.R_base ho0) hb); have n2_ := am (Kd.R_lower (Kd.R_new' (Kd.R_new' ho0 (Kd.R_lt (by (with_reducible repeat (first | apply Kd.R_alloc | apply Kd.R_drewN | apply Kd.R_drew)); exact (Kd.R_mono (Kd.R_far (p := ⟨gb287, 2, none⟩) (Kd.R_far (p := ⟨gb287, 1, none⟩) (Kd.R_far (p := ⟨gb287, 0, none⟩) (Kd.R_types HO277.out BK287.out (by decide)) (fun _ hk => hk.2) (.int .i64 t281)) (fun _ hk => hk.2) (.int .i64 t282)) (fun _ hk => hk.2) (.slice Ao43 t283.length co43)) (fun _ h_ => h_.1))))) (Kd.R_lt (by (with_reducible repeat (first | apply Kd.R_alloc | apply Kd.R_drewN | apply Kd.R_drew)); exact (Kd.R_mono (Kd.R_far (p := ⟨gb287, 2, none⟩) (Kd.R_far (p := ⟨gb287, 1, none⟩) (Kd.R_far (p := ⟨gb287, 0, none⟩) (Kd.R_types HO285.out BK287.out (by decide)) (fun _ hk => hk.2) (.int .i64 t281)) (fun _ hk => hk.2) (.int .i64 t282)) (fun _ hk => hk.2) (.slice Ao43 t283.length co43)) (fun _ h_ => h_.1))))) (below_size (bx HB.out))); have n3_ := am (blk_below (g := gb269) (o := .cells #[.int .i64 a0_0, .int .i64 a0_1, .slice A0_2 l0_2.length c0_2] 78 (0, 0)) (by (with_reducible repeat (first | refine blk_drewN ?_ _ | refine blk_drew ?_ | refine blk_alloc ?_ _)); refine blk_far ?_ NB269_287.out _; (with_reducible repeat (first | refine blk_drewN ?_ _ | refine blk_drew ?_ | refine blk_alloc ?_ _)); refine blk_far ?_ NB269_287.out _; (with_reducible repeat (first | refine blk_drewN ?_ _ | refine blk_drew ?_ | refine blk_alloc ?_ _)); refine blk_far ?_ NB269_287.out _; (with_reducible repeat (first | refine blk_drewN ?_ _ | refine blk_drew ?_ | refine blk_alloc ?_ _)); exact BK269.out) hb); have n4_ := am (blk_below (g := gb270) (o := .cells #[.int .i64 a2_0, .int .i64 a2_1, .string a2_2] 88 (0, 0)) (by (with_reducible repeat (first | refine blk_drewN ?_ _ | refine blk_drew ?_ | refine blk_alloc ?_ _)); refine blk_far ?_ NB270_287.out _; (with_reducible repeat (first | refine blk_drewN ?_ _ | refine blk_drew ?_ | refine blk_alloc ?_ _)); refine blk_far ?_ NB270_287.out _; (with_reducible repeat (first | refine blk_drewN ?_ _ | refine blk_drew ?_ | refine blk_alloc ?_ _)); refine blk_far ?_ NB270_287.out _; (with_reducible repeat (first | refine blk_drewN ?_ _ | refine blk_drew ?_ | refine blk_alloc ?_ _)); exact BK270.out) hb); have n5_ := am (blk_below (g := gb287) (o := .cells #[.int .i64 t281, .int .i64 t282, .slice Ao43 t283.length co43] 82 (0, 0)) (by (with_reducible repeat (first | refine blk_drewN ?_ _ | refine blk_drew ?_ | refine blk_alloc ?_ _)); refine blk_put (cs := #[.int .i64 t281, .int .i64 t282, .slice none 0 0]) ?_ 2 _ rfl; (with_reducible repeat (first | refine blk_drewN ?_ _ | refine blk_drew ?_ | refine blk_alloc ?_ _)); refine blk_put (cs := #[.int .i64 t281, .int .i64 0, .slice none 0 0]) ?_ 1 _ rfl; (with_reducible repeat (first | refine blk_drewN ?_ _ | refine blk_drew ?_ | refine blk_alloc ?_ _)); refine blk_put (cs := #[.int .i64 0, .int .i64 0, .slice none 0 0]) ?_ 0 _ rfl; (with_reducible repeat (first | refine blk_drewN ?_ _ | refine blk_drew ?_ | refine blk_alloc ?_ _)); exact BK287.out) hb); have n6_ := am (below_step (bx HB.out) hb); clear HO277; clear HO285; clear BK269; clear BK270; clear BK287; clear HB; have HO277 := n0_; have HO285 := n1_; have HO292 := n2_; have BK269 := n3_; have BK270 := n4_; have BK287 := n5_; have HB := n6_; clear n0_ n1_ n2_ n3_ n4_ n5_ n6_; (try clear hb); (try clear hb2); (try clear hk); (try clear hi); (try clear ho0)) | ((with_reducible refine gate_dst (N := 10) rfl ?_); refine box_event ?hg (N := 10) ?hd (cs := #[.int .i64 0, .int .i64 0, .slice none 0 0]) (t := 82) ?hr ?_; (case hd => rfl); (case hg => rfl); (case hr => first | (go_simp; done) | (go_simp; rfl)); intro gb293 hg w48 hbox hb; have n0_ := am (Kd.R_below (rx HO277.out) hb); have n1_ := am (Kd.R_below (rx HO285.out) hb); have n2_ := am (Kd.R_below (rx HO292.out) hb); have n3_ := am (bb hb (kx BK269.out)); have n4_ := am (bb hb (kx BK270.out)); have n5_ := am (bb hb (kx BK287.out)); have n6_ := am (below_step (bx HB.out) hb); have n7_ := am (hbox); have n8_ := am ((by rw [hg]; exact (below_size (bx HB.out)) : w.heap.size ≤ gb293)); have n9_ := am ((by rw [hg]; exact (below_size (bx HB.out)) : w.heap.size ≤ gb293)); have n10_ := am ((by rw [hg]; exact Nat.ne_of_lt (blk_lt (kx BK269.out)) : gb269 ≠ gb293)); have n11_ := am ((by rw [hg]; exact Nat.ne_of_gt (blk_lt (kx BK269.out)) : gb293 ≠ gb269)); have n12_ := am ((by rw [hg]; exact Nat.ne_of_lt (blk_lt (kx BK270.out)) : gb270 ≠ gb293)); have n13_ := am ((by rw [hg]; exact Nat.ne_of_gt (blk_lt (kx BK270.out)) : gb293 ≠ gb270)); have n14_ := am ((by rw [hg]; exact Nat.ne_of_lt (blk_lt (kx BK287.out)) : gb287 ≠ gb293)); have n15_ := am ((by rw [hg]; exact Nat.ne_of_gt (blk_lt (kx BK287.out)) : gb293 ≠ gb287)); clear HO277; clear HO285; clear HO292; clear BK269; clear BK270; clear BK287; clear HB; have HO277 := n0_; have HO285 := n1_; have HO292 := n2_; have BK269 := n3_; have BK270 := n4_; have BK287 := n5_; have HB := n6_; have BK293 := n7_; have GW293 := n8_; have GE293 := n9_; have NB269_293 := n10_; have NB293_269 := n11_; have NB270_293 := n12_; have NB293_270 := n13_; have NB287_293 := n14_; have NB293_287 := n15_; clear n0_ n1_ n2_ n3_ n4_ n5_ n6_ n7_ n8_ n9_ n10_ n11_ n12_ n13_ n14_ n15_; clear hb hbox hg; have hnb49 := NB293_269.out; have hnc49 := NB269_293.out; have hnb50 := NB293_270.out; have hnc50 := NB270_293.out; have hnb51 := NB293_287.out; have hnc51 := NB287_293.out; have hcz52_0 : w48.cell? ⟨gb293, 0, none⟩ = some (.int .i64 0) := ct BK293.out 0; have hcz52_1 : w48.cell? ⟨gb293, 1, none⟩ = some (.int .i64 0) := ct BK293.out 1; have hcz52_2 : w48.cell? ⟨gb293, 2, none⟩ = some (.slice none 0 0) := ct BK293.out 2; have hfz52_0 := blk_frozen BK293.out 0; have hfz52_1 := blk_frozen BK293.out 1; have hfz52_2 := blk_frozen BK293.out 2; obtain ⟨Ao53, co53, eo53⟩ := Kd.R_slice HO292.out; subst eo53))
   have n0_ : Aside0 (Kd.R k67 67 (((w48.setCell ⟨gb293, 0, none⟩ (.int .i64 t288)).setCell ⟨gb293, 1, none⟩ (.int .i64 t289)).setCell ⟨gb293, 2, none⟩ (.slice Ao53 t290.length co53)) w.heap.size (fun k_ => some k_ ≠ (.slice Ao43 t283.length co43 : Value).ownBlock ∧ some k_ ≠ (.slice Ao53 t290.length co53 : Value).ownBlock) v276 t275) := ⟨by (with_reducible repeat (first | apply Kd.R_alloc | apply Kd.R_drewN | apply Kd.R_drew)); exact Kd.R_mono (Kd.R_far (p := ⟨gb293, 2, none⟩) (Kd.R_far (p := ⟨gb293, 1, none⟩) (Kd.R_far (p := ⟨gb293, 0, none⟩) (Kd.R_types HO277.out BK293.out (by decide)) (fun _ hk => hk.2) (.int .i64 t288)) (fun _ hk => hk.2) (.int .i64 t289)) (fun _ hk => hk.2) (.slice Ao53 t290.length co53)) (fun _ hk => ⟨hk.1.1, hk.1.2⟩)⟩
   have n1_ : Aside0 (Kd.R k67 67 (((w48.setCell ⟨gb293, 0, none⟩ (.int .i64 t288)).setCell ⟨gb293, 1, none⟩ (.int .i64 t289)).setCell ⟨gb293, 2, none⟩ (.slice Ao53 t290.length co53)) w.heap.size (fun k_ => some k_ ≠ (v276 : Value).ownBlock ∧ some k_ ≠ (.slice Ao53 t290.length co53 : Value).ownBlock) (.slice Ao43 t283.length co43) t283) := ⟨by (with_reducible repeat (first | apply Kd.R_alloc | apply Kd.R_drewN | apply Kd.R_drew)); exact Kd.R_mono (Kd.R_far (p := ⟨gb293, 2, none⟩) (Kd.R_far (p := ⟨gb293, 1, none⟩) (Kd.R_far (p := ⟨gb293, 0, none⟩) (Kd.R_types HO285.out BK293.out (by decide)) (fun _ hk => hk.2) (.int .i64 t288)) (fun _ hk => hk.2) (.int .i64 t289)) (fun _ hk => hk.2) (.slice Ao53 t290.length co53)) (fun _ hk => ⟨hk.1.1, hk.1.2⟩)⟩
   have n2_ : Aside0 (Kd.R k67 67 (((w48.setCell ⟨gb293, 0, none⟩ (.int .i64 t288)).setCell ⟨gb293, 1, none⟩ (.int .i64 t289)).setCell ⟨gb293, 2, none⟩ (.slice Ao53 t290.length co53)) w.heap.size (fun k_ => some k_ ≠ (v276 : Value).ownBlock ∧ some k_ ≠ (.slice Ao43 t283.length co43 : Value).ownBlock) (.slice Ao53 t290.length co53) t290) := ⟨by (with_reducible repeat (first | apply Kd.R_alloc | apply Kd.R_drewN | apply Kd.R_drew)); exact Kd.R_mono (Kd.R_far (p := ⟨gb293, 2, none⟩) (Kd.R_far (p := ⟨gb293, 1, none⟩) (Kd.R_far (p := ⟨gb293, 0, none⟩) (Kd.R_types HO292.out BK293.out (by decide)) (fun _ hk => hk.2) (.int .i64 t288)) (fun _ hk => hk.2) (.int .i64 t289)) (fun _ hk => hk.2) (.slice Ao53 t290.length co53)) (fun _ hk => ⟨hk.1.1.2, hk.1.2⟩)⟩
   have n3_ : Aside0 ((((w48.setCell ⟨gb293, 0, none⟩ (.int .i64 t288)).setCell ⟨gb293, 1, none⟩ (.int .i64 t289)).setCell ⟨gb293, 2, none⟩ (.slice Ao53 t290.length co53)).heap[gb269]? = some (.cells #[.int .i64 a0_0, .int .i64 a0_1, .slice A0_2 l0_2.length c0_2] 78 (0, 0))) := ⟨by (with_reducible repeat (first | refine blk_drewN ?_ _ | refine blk_drew ?_ | refine blk_alloc ?_ _)); refine blk_far ?_ NB269_293.out _; (with_reducible repeat (first | refine blk_drewN ?_ _ | refine blk_drew ?_ | refine blk_alloc ?_ _)); refine blk_far ?_ NB269_293.out _; (with_reducible repeat (first | refine blk_drewN ?_ _ | refine blk_drew ?_ | refine blk_alloc ?_ _)); refine blk_far ?_ NB269_293.out _; (with_reducible repeat (first | refine blk_drewN ?_ _ | refine blk_drew ?_ | refine blk_alloc ?_ _)); exact BK269.out⟩
   have n4_ : Aside0 ((((w48.setCell ⟨gb293, 0, none⟩ (.int .i64 t288)).setCell ⟨gb293, 1, none⟩ (.int .i64 t289)).setCell ⟨gb293, 2, none⟩ (.slice Ao53 t290.length co53)).heap[gb270]? = some (.cells #[.int .i64 a2_0, .int .i64 a2_1, .string a2_2] 88 (0, 0))) := ⟨by (with_reducible repeat (first | refine blk_drewN ?_ _ | refine blk_drew ?_ | refine blk_alloc ?_ _)); refine blk_far ?_ NB270_293.out _; (with_reducible repeat (first | refine blk_drewN ?_ _ | refine blk_drew ?_ | refine blk_alloc ?_ _)); refine blk_far ?_ NB270_293.out _; (with_reducible repeat (first | refine blk_drewN ?_ _ | refine blk_drew ?_ | refine blk_alloc ?_ _)); refine blk_far ?_ NB270_293.out _; (with_reducible repeat (first | refine blk_drewN ?_ _ | refine blk_drew ?_ | refine blk_alloc ?_ _)); exact BK270.out⟩
   have n5_ : Aside0 ((((w48.setCell ⟨gb293, 0, none⟩ (.int .i64 t288)).setCell ⟨gb293, 1, none⟩ (.int .i64 t289)).setCell ⟨gb293, 2, none⟩ (.slice Ao53 t290.length co53)).heap[gb287]? = some (.cells #[.int .i64 t281, .int .i64 t282, .slice Ao43 t283.length co43] 82 (0, 0))) := ⟨by (with_reducible repeat (first | refine blk_drewN ?_ _ | refine blk_drew ?_ | refine blk_alloc ?_ _)); refine blk_far ?_ NB287_293.out _; (with_reducible repeat (first | refine blk_drewN ?_ _ | refine blk_drew ?_ | refine blk_alloc ?_ _)); refine blk_far ?_ NB287_293.out _; (with_reducible repeat (first | refine blk_drewN ?_ _ | refine blk_drew ?_ | refine blk_alloc ?_ _)); refine blk_far ?_ NB287_293.out _; (with_reducible repeat (first | refine blk_drewN ?_ _ | refine blk_drew ?_ | refine blk_alloc ?_ _)); exact BK287.out⟩
   have n6_ : Aside0 ((((w48.setCell ⟨gb293, 0, none⟩ (.int .i64 t288)).setCell ⟨gb293, 1, none⟩ (.int .i64 t289)).setCell ⟨gb293, 2, none⟩ (.slice Ao53 t290.length co53)).heap[gb293]? = some (.cells #[.int .i64 t288, .int .i64 t289, .slice Ao53 t290.length co53] 82 (0, 0))) := ⟨by (with_reducible repeat (first | refine blk_drewN ?_ _ | refine blk_drew ?_ | refine blk_alloc ?_ _)); refine blk_put (cs := #[.int .i64 t288, .int .i64 t289, .slice none 0 0]) ?_ 2 _ rfl; (with_reducible repeat (first | refine blk_drewN ?_ _ | refine blk_drew ?_ | refine blk_alloc ?_ _)); refine blk_put (cs := #[.int .i64 t288, .int .i64 0, .slice none 0 0]) ?_ 1 _ rfl; (with_reducible repeat (first | refine blk_drewN ?_ _ | refine blk_drew ?_ | refine blk_alloc ?_ _)); refine blk_put (cs := #[.int .i64 0, .int .i64 0, .slice none 0 0]) ?_ 0 _ rfl; (with_reducible repeat (first | refine blk_drewN ?_ _ | refine blk_drew ?_ | refine blk_alloc ?_ _)); exact BK293.out⟩
   have n7_ : Aside0 (Below w.heap.size w (((w48.setCell ⟨gb293, 0, none⟩ (.int .i64 t288)).setCell ⟨gb293, 1, none⟩ (.int .i64 t289)).setCell ⟨gb293, 2, none⟩ (.slice Ao53 t290.length co53))) := ⟨bx HB.out⟩
   (try clear HO277)
   (try clear HO285)
   (try clear HO292)
   (try clear BK269)
   (try clear BK270)
   (try clear BK287)
   (try clear BK293)
   (try clear HB)
   generalize (((w48.setCell ⟨gb293, 0, none⟩ (.int .i64 t288)).setCell ⟨gb293, 1, none⟩ (.int .i64 t289)).setCell ⟨gb293, 2, none⟩ (.slice Ao53 t290.length co53)) = w54 at n0_ n1_ n2_ n3_ n4_ n5_ n6_ n7_ ⊢
   have HO277 := n0_
   have HO285 := n1_
   have HO292 := n2_
   have BK269 := n3_
   have BK270 := n4_
   have BK287 := n5_
   have BK293 := n6_
   have HB := n7_
   clear n0_ n1_ n2_ n3_ n4_ n5_ n6_ n7_
   have n0_ := am (Kd.R_drew HO277.out)
   have n1_ := am (Kd.R_drew HO285.out)
   have n2_ := am (Kd.R_drew HO292.out)
   have n3_ := am (blk_drew BK269.out)
   have n4_ := am (blk_drew BK270.out)
   have n5_ := am (blk_drew BK287.out)
   have n6_ := am (blk_drew BK293.out)
   have n7_ := am (below_drew1 HB.out)
   clear HO277 HO285 HO292 BK269 BK270 BK287 BK293 HB
   have HO277 := n0_
   have HO285 := n1_
   have HO292 := n2_
   have BK269 := n3_
   have BK270 := n4_
   have BK287 := n5_
   have BK293 := n6_
   have HB := n7_
   clear n0_ n1_ n2_ n3_ n4_ n5_ n6_ n7_
   refine start_ (n := 11) (S := fun w' => w'.cell? ⟨gb293, 0, none⟩ = some (.int .i64 t288) ∧ w'.cell? ⟨gb293, 1, none⟩ = some (.int .i64 t289) ∧ w'.cell? ⟨gb293, 2, none⟩ = some (.slice Ao53 t290.length co53) ∧ w'.cell? ⟨gb270, 0, none⟩ = some (.int .i64 a2_0) ∧ w'.cell? ⟨gb270, 1, none⟩ = some (.int .i64 a2_1) ∧ w'.cell? ⟨gb270, 2, none⟩ = some (.string a2_2)) (ds := []) #[false, false, false, false, false, false, false, false, false, false, false] (by kernel_rfl) rfl rfl ⟨ct BK293.out 0, ct BK293.out 1, ct BK293.out 2, ct BK270.out 0, ct BK270.out 1, ct BK270.out 2⟩ (fun hHeld => ?_); refine with_tabW laws_FnExactLogPut.tab10 laws_FnExactLogPut.bits10 (fun HT_ HW_ => ?_)
   generalize w54.drew = w55 at HO277 HO285 HO292 BK269 BK270 BK287 BK293 HB hHeld ⊢
   refine pure_ (i := 1) (N := some 41) (v := ?_) (a' := ?_) #[false, true, false, false, false, false, false, false, false, false, false] rfl rfl (any_of HT_.out (by kernel_rfl)) (fun _ _ _ h => h) (Or.inl ⟨by rfl, ?_⟩) ?_ ?_
   rotate_left
   ·intro w'
    go_simp
    with_reducible rfl
   rotate_left
   ·simp only [Act.put, List.setIfInBounds_toArray, List.set_cons_zero, List.set_cons_succ, i64_w, i32_w]
    rfl
   refine take_ (i := 0) (N := some 40) (v := ?_) (a' := ?_) #[true, true, false, false, false, false, false, false, false, false, false] rfl rfl (take_ofW HT_.out HW_.out (by kernel_rfl)) (fun _ _ _ h => h) (Or.inl ⟨by rfl, ?_⟩) hHeld ?_ ?_
   rotate_left
   ·rintro w' ⟨s0, s1, s2, s3, s4, s5⟩
    go_simp
    with_reducible rfl
   rotate_left
   ·simp only [Act.put, List.setIfInBounds_toArray, List.set_cons_zero, List.set_cons_succ, i64_w, i32_w]
    rfl
   refine take_ (i := 2) (N := some 42) (v := ?_) (a' := ?_) #[true, true, true, false, false, false, false, false, false, false, false] rfl rfl (take_ofW HT_.out HW_.out (by kernel_rfl)) (fun _ _ _ h => h) (Or.inl ⟨by rfl, ?_⟩) hHeld ?_ ?_
   rotate_left
   ·rintro w' ⟨s0, s1, s2, s3, s4, s5⟩
    go_simp
    with_reducible rfl
   rotate_left
   ·simp only [Act.put, List.setIfInBounds_toArray, List.set_cons_zero, List.set_cons_succ, i64_w, i32_w]
    rfl
   refine join_ (σ := Value × Nat) 2 #[true, true, true, true, true, true, true, true, true, false, false] (fun s_ => [(43, .agg #[.int .i64 t294, .int .i64 t295, .string t296]), (44, .tuple #[.agg #[.int .i64 t297, .int .i64 t298, s_.1], .bool t302]), (11, .pointer (some ⟨s_.2, 0, none⟩)), (39, .tuple #[.agg #[.int .i64 t297, .int .i64 t298, s_.1], .bool t302]), (45, .agg #[.int .i64 t297, .int .i64 t298, s_.1]), (46, .bool t302)]) (fun s_ w' => (w'.cell? ⟨gb293, 0, none⟩ = some (.int .i64 t288) ∧ w'.cell? ⟨gb293, 1, none⟩ = some (.int .i64 t289) ∧ w'.cell? ⟨gb293, 2, none⟩ = some (.slice Ao53 t290.length co53) ∧ w'.cell? ⟨gb270, 0, none⟩ = some (.int .i64 a2_0) ∧ w'.cell? ⟨gb270, 1, none⟩ = some (.int .i64 a2_1) ∧ w'.cell? ⟨gb270, 2, none⟩ = some (.string a2_2)) ∧ (Kd.R k67 67 w' w.heap.size (fun k_ => some k_ ≠ (.slice Ao43 t283.length co43 : Value).ownBlock ∧ some k_ ≠ (.slice Ao53 t290.length co53 : Value).ownBlock ∧ some k_ ≠ (s_.1 : Value).ownBlock) v276 t275) ∧ (Kd.R k67 67 w' w.heap.size (fun k_ => some k_ ≠ (v276 : Value).ownBlock ∧ some k_ ≠ (.slice Ao53 t290.length co53 : Value).ownBlock ∧ some k_ ≠ (s_.1 : Value).ownBlock) (.slice Ao43 t283.length co43) t283) ∧ (Kd.R k67 67 w' w.heap.size (fun k_ => some k_ ≠ (v276 : Value).ownBlock ∧ some k_ ≠ (.slice Ao43 t283.length co43 : Value).ownBlock ∧ some k_ ≠ (s_.1 : Value).ownBlock) (.slice Ao53 t290.length co53) t290) ∧ (Kd.R k67 67 w' w.heap.size (fun k_ => some k_ ≠ (v276 : Value).ownBlock ∧ some k_ ≠ (.slice Ao43 t283.length co43 : Value).ownBlock ∧ some k_ ≠ (.slice Ao53 t290.length co53 : Value).ownBlock) s_.1 t299) ∧ (w'.heap[gb269]? = some (.cells #[.int .i64 a0_0, .int .i64 a0_1, .slice A0_2 l0_2.length c0_2] 78 (0, 0))) ∧ (w'.heap[gb270]? = some (.cells #[.int .i64 a2_0, .int .i64 a2_1, .string a2_2] 88 (0, 0))) ∧ (w'.heap[gb287]? = some (.cells #[.int .i64 t281, .int .i64 t282, .slice Ao43 t283.length co43] 82 (0, 0))) ∧ (w'.heap[gb293]? = some (.cells #[.int .i64 t288, .int .i64 t289, .slice Ao53 t290.length co53] 82 (0, 0))) ∧ (w'.heap[s_.2]? = some (.cells #[.int .i64 0, .int .i64 0, .slice none 0 0] 82 (0, 0))) ∧ (w.heap.size ≤ s_.2) ∧ (w.heap.size ≤ s_.2) ∧ (gb269 ≠ s_.2) ∧ (s_.2 ≠ gb269) ∧ (gb270 ≠ s_.2) ∧ (s_.2 ≠ gb270) ∧ (gb287 ≠ s_.2) ∧ (s_.2 ≠ gb287) ∧ (gb293 ≠ s_.2) ∧ (s_.2 ≠ gb293) ∧ (Below w.heap.size w w')) ?_ ?_
   rotate_left
   ·intro hCont
    refine two_ (i := 3) (j := 8) (Ni := some 43) (Nj := some 11) #[true, true, true, true, false, false, false, false, false, false, false] #[true, true, true, false, false, false, false, false, true, false, false] rfl rfl rfl rfl (two_of HT_.out (by kernel_rfl)) (by decide) (by decide) (fun K hK => ?_) (fun K hK => ?_)
    ·skip
     refine goes_ Try.func62 (by kernel_rfl) rfl #[.agg #[.int .i64 a2_0, .int .i64 a2_1, .string a2_2]] (by rfl) rfl rfl (by (try simp only [List.map_toArray, List.map_cons, List.map_nil]); first | done | rfl | (simp only [List.length_drop, List.length_take]; rfl)) ?_
     with_reducible refine (laws_toEntry.calls a2_0 a2_1 a2_2 t294 t295 t296 _ A24.out).mono ?_
     rintro e w56 ⟨rfl, hb⟩
     refine ⟨_, rfl, ?_⟩
     have n0_ := am (Kd.R_below (rx HO277.out) hb)
     have n1_ := am (Kd.R_below (rx HO285.out) hb)
     have n2_ := am (Kd.R_below (rx HO292.out) hb)
     have n3_ := am (bb hb (kx BK269.out))
     have n4_ := am (bb hb (kx BK270.out))
     have n5_ := am (bb hb (kx BK287.out))
     have n6_ := am (bb hb (kx BK293.out))
     have n7_ := am (below_step (bx HB.out) hb)
     clear HO277 HO285 HO292 BK269 BK270 BK287 BK293 HB
     have HO277 := n0_
     have HO285 := n1_
     have HO292 := n2_
     have BK269 := n3_
     have BK270 := n4_
     have BK287 := n5_
     have BK293 := n6_
     have HB := n7_
     clear n0_ n1_ n2_ n3_ n4_ n5_ n6_ n7_
     (try clear hb)
     (try clear hb2)
     (try clear hk)
     (try clear hi)
     refine hK.out _ _ ⟨ct BK293.out 0, ct BK293.out 1, ct BK293.out 2, ct BK270.out 0, ct BK270.out 1, ct BK270.out 2⟩ (fun hHeld => ?_)
     clear hK K
     refine norm_ (a' := ?_) ?_ ?_
     rotate_left
     ·show Act.put _ (some 43) _ = _
      simp only [Act.put, List.setIfInBounds_toArray, List.set_cons_zero, List.set_cons_succ, i64_w, i32_w]
      rfl
     refine two_ (i := 4) (j := 8) (Ni := some 44) (Nj := some 11) #[true, true, true, true, true, false, false, false, false, false, false] #[true, true, true, true, false, false, false, false, true, false, false] rfl rfl rfl rfl (two_of HT_.out (by kernel_rfl)) (by decide) (by decide) (fun K hK => ?_) (fun K hK => ?_)
     ·skip
      refine goes_ Try.func63 (by kernel_rfl) rfl #[.agg #[.int .i64 t288, .int .i64 t289, .slice Ao53 t290.length co53], .int .i64 a1, .agg #[.int .i64 t294, .int .i64 t295, .string t296]] (by rfl) rfl rfl (by (try simp only [List.map_toArray, List.map_cons, List.map_nil]); first | done | rfl | (simp only [List.length_drop, List.length_take]; rfl)) ?_
      with_reducible refine (impl_LogPut.calls k t288 t289 _ _ t290 a1 t294 t295 t296 t297 t298 t299 t302 _ ?side1 ?side2 A25.out).mono ?_
      (case side1 => repeat (first | exact (Kd.R_reads' HO292.out).2.2 | (with_reducible refine Kd.C_alloc ?_ _) | (with_reducible refine Kd.C_drewN ?_ _) | (with_reducible refine Kd.C_drew ?_)))
      (case side2 => exact (Kd.R_reads' HO292.out).2.1)
      rintro e w57 ⟨v300, rfl, ho0, hb⟩
      refine ⟨_, rfl, ?_⟩
      have n0_ := am (Kd.R_elder' (rx HO277.out) (Kd.R_base ho0) hb)
      have n1_ := am (Kd.R_elder' (rx HO285.out) (Kd.R_base ho0) hb)
      have n2_ := am (Kd.R_elder' (rx HO292.out) (Kd.R_base ho0) hb)
      have n3_ := am (Kd.R_lower (Kd.R_new' (Kd.R_new' (Kd.R_new' ho0 (Kd.R_lt (rx HO277.out))) (Kd.R_lt (rx HO285.out))) (Kd.R_lt (rx HO292.out))) (below_size (bx HB.out)))
      have n4_ := am (bb hb (kx BK269.out))
      have n5_ := am (bb hb (kx BK270.out))
      have n6_ := am (bb hb (kx BK287.out))
      have n7_ := am (bb hb (kx BK293.out))
      have n8_ := am (below_step (bx HB.out) hb)
      clear HO277 HO285 HO292 BK269 BK270 BK287 BK293 HB
      have HO277 := n0_
      have HO285 := n1_
      have HO292 := n2_
      have HO301 := n3_
      have BK269 := n4_
      have BK270 := n5_
      have BK287 := n6_
      have BK293 := n7_
      have HB := n8_
      clear n0_ n1_ n2_ n3_ n4_ n5_ n6_ n7_ n8_
      (try clear hb)
      (try clear hb2)
      (try clear hk)
      (try clear hi)
      (try clear ho0)
      refine hK.out _ _ ⟨ct BK293.out 0, ct BK293.out 1, ct BK293.out 2, ct BK270.out 0, ct BK270.out 1, ct BK270.out 2⟩ (fun hHeld => ?_)
      clear hK K
      refine norm_ (a' := ?_) ?_ ?_
      rotate_left
      ·show Act.put _ (some 44) _ = _
       simp only [Act.put, List.setIfInBounds_toArray, List.set_cons_zero, List.set_cons_succ, i64_w, i32_w]
       rfl
      refine pure_ (i := 5) (N := some 39) (v := ?_) (a' := ?_) #[true, true, true, true, true, true, false, false, false, false, false] rfl rfl (any_of HT_.out (by kernel_rfl)) (fun _ _ _ h => h) (Or.inl ⟨by rfl, ?_⟩) ?_ ?_
      rotate_left
      ·intro w'
       go_simp
       with_reducible rfl
      rotate_left
      ·simp only [Act.put, List.setIfInBounds_toArray, List.set_cons_zero, List.set_cons_succ, i64_w, i32_w]
       rfl
      refine pure_ (i := 6) (N := some 45) (v := ?_) (a' := ?_) #[true, true, true, true, true, true, true, false, false, false, false] rfl rfl (any_of HT_.out (by kernel_rfl)) (fun _ _ _ h => h) (Or.inl ⟨by rfl, ?_⟩) ?_ ?_
      rotate_left
      ·intro w'
       go_simp
       with_reducible rfl
      rotate_left
      ·simp only [Act.put, List.setIfInBounds_toArray, List.set_cons_zero, List.set_cons_succ, i64_w, i32_w]
       rfl
      refine pure_ (i := 7) (N := some 46) (v := ?_) (a' := ?_) #[true, true, true, true, true, true, true, true, false, false, false] rfl rfl (any_of HT_.out (by kernel_rfl)) (fun _ _ _ h => h) (Or.inl ⟨by rfl, ?_⟩) ?_ ?_
      rotate_left
      ·intro w'
       go_simp
       with_reducible rfl
      rotate_left
      ·simp only [Act.put, List.setIfInBounds_toArray, List.set_cons_zero, List.set_cons_succ, i64_w, i32_w]
       rfl
      refine one_ (i := 8) (N := some 11) #[true, true, true, true, true, true, true, true, true, false, false] rfl rfl (one_of HT_.out (by kernel_rfl)) (by decide) (fun K hK => ?_)
      refine box_step ?hg (N := 11) ?hd (cs := #[.int .i64 0, .int .i64 0, .slice none 0 0]) (t := 82) ?hr ?_; (case hd => rfl); (case hg => rfl); (case hr => first | (go_simp; done) | (go_simp; rfl))
      intro gb303 hg w58 hbox hb
      have n0_ := am (Kd.R_below (rx HO277.out) hb)
      have n1_ := am (Kd.R_below (rx HO285.out) hb)
      have n2_ := am (Kd.R_below (rx HO292.out) hb)
      have n3_ := am (Kd.R_below (rx HO301.out) hb)
      have n4_ := am (bb hb (kx BK269.out))
      have n5_ := am (bb hb (kx BK270.out))
      have n6_ := am (bb hb (kx BK287.out))
      have n7_ := am (bb hb (kx BK293.out))
      have n8_ := am (below_step (bx HB.out) hb)
      have n9_ := am (hbox)
      have n10_ := am ((by rw [hg]; exact (below_size (bx HB.out)) : w.heap.size ≤ gb303))
      have n11_ := am ((by rw [hg]; exact (below_size (bx HB.out)) : w.heap.size ≤ gb303))
      have n12_ := am ((by rw [hg]; exact Nat.ne_of_lt (blk_lt (kx BK269.out)) : gb269 ≠ gb303))
      have n13_ := am ((by rw [hg]; exact Nat.ne_of_gt (blk_lt (kx BK269.out)) : gb303 ≠ gb269))
      have n14_ := am ((by rw [hg]; exact Nat.ne_of_lt (blk_lt (kx BK270.out)) : gb270 ≠ gb303))
      have n15_ := am ((by rw [hg]; exact Nat.ne_of_gt (blk_lt (kx BK270.out)) : gb303 ≠ gb270))
      have n16_ := am ((by rw [hg]; exact Nat.ne_of_lt (blk_lt (kx BK287.out)) : gb287 ≠ gb303))
      have n17_ := am ((by rw [hg]; exact Nat.ne_of_gt (blk_lt (kx BK287.out)) : gb303 ≠ gb287))
      have n18_ := am ((by rw [hg]; exact Nat.ne_of_lt (blk_lt (kx BK293.out)) : gb293 ≠ gb303))
      have n19_ := am ((by rw [hg]; exact Nat.ne_of_gt (blk_lt (kx BK293.out)) : gb303 ≠ gb293))
      clear HO277 HO285 HO292 HO301 BK269 BK270 BK287 BK293 HB
      have HO277 := n0_
      have HO285 := n1_
      have HO292 := n2_
      have HO301 := n3_
      have BK269 := n4_
      have BK270 := n5_
      have BK287 := n6_
      have BK293 := n7_
      have HB := n8_
      have BK303 := n9_
      have GW303 := n10_
      have GE303 := n11_
      have NB269_303 := n12_
      have NB303_269 := n13_
      have NB270_303 := n14_
      have NB303_270 := n15_
      have NB287_303 := n16_
      have NB303_287 := n17_
      have NB293_303 := n18_
      have NB303_293 := n19_
      clear n0_ n1_ n2_ n3_ n4_ n5_ n6_ n7_ n8_ n9_ n10_ n11_ n12_ n13_ n14_ n15_ n16_ n17_ n18_ n19_ hb hbox hg
      refine hK.out _ _ ⟨ct BK293.out 0, ct BK293.out 1, ct BK293.out 2, ct BK270.out 0, ct BK270.out 1, ct BK270.out 2⟩ (fun hHeld => ?_)
      clear hK K
      refine norm_ (a' := ?_) ?_ ?_
      rotate_left
      ·show Act.put _ (some 11) _ = _
       simp only [Act.put, List.setIfInBounds_toArray, List.set_cons_zero, List.set_cons_succ, i64_w, i32_w]
       rfl
      exact norm_ (by simp only [putAll, Act.put, List.setIfInBounds_toArray, List.set_cons_zero, List.set_cons_succ]) (hCont (v300, gb303) _ ⟨hHeld, (by (with_reducible repeat (first | apply Kd.R_alloc | apply Kd.R_drewN | apply Kd.R_drew)); exact Kd.R_mono HO277.out (fun _ hk => ⟨hk.1.1, ⟨hk.1.2, hk.2⟩⟩)), (by (with_reducible repeat (first | apply Kd.R_alloc | apply Kd.R_drewN | apply Kd.R_drew)); exact Kd.R_mono HO285.out (fun _ hk => ⟨hk.1.1, ⟨hk.1.2, hk.2⟩⟩)), (by (with_reducible repeat (first | apply Kd.R_alloc | apply Kd.R_drewN | apply Kd.R_drew)); exact Kd.R_mono HO292.out (fun _ hk => ⟨hk.1.1, ⟨hk.1.2, hk.2⟩⟩)), (by (with_reducible repeat (first | apply Kd.R_alloc | apply Kd.R_drewN | apply Kd.R_drew)); exact Kd.R_mono HO301.out (fun _ hk => ⟨hk.1.1.2, ⟨hk.1.2, hk.2⟩⟩)), (kx BK269.out), (kx BK270.out), (kx BK287.out), (kx BK293.out), (kx BK303.out), GW303.out, GE303.out, NB269_303.out, NB303_269.out, NB270_303.out, NB303_270.out, NB287_303.out, NB303_287.out, NB293_303.out, NB303_293.out, (bx HB.out)⟩)
     ·skip
      refine box_step ?hg (N := 11) ?hd (cs := #[.int .i64 0, .int .i64 0, .slice none 0 0]) (t := 82) ?hr ?_; (case hd => rfl); (case hg => rfl); (case hr => first | (go_simp; done) | (go_simp; rfl))
      intro gb303 hg w57 hbox hb
      have n0_ := am (Kd.R_below (rx HO277.out) hb)
      have n1_ := am (Kd.R_below (rx HO285.out) hb)
      have n2_ := am (Kd.R_below (rx HO292.out) hb)
      have n3_ := am (bb hb (kx BK269.out))
      have n4_ := am (bb hb (kx BK270.out))
      have n5_ := am (bb hb (kx BK287.out))
      have n6_ := am (bb hb (kx BK293.out))
      have n7_ := am (below_step (bx HB.out) hb)
      have n8_ := am (hbox)
      have n9_ := am ((by rw [hg]; exact (below_size (bx HB.out)) : w.heap.size ≤ gb303))
      have n10_ := am ((by rw [hg]; exact (below_size (bx HB.out)) : w.heap.size ≤ gb303))
      have n11_ := am ((by rw [hg]; exact Nat.ne_of_lt (blk_lt (kx BK269.out)) : gb269 ≠ gb303))
      have n12_ := am ((by rw [hg]; exact Nat.ne_of_gt (blk_lt (kx BK269.out)) : gb303 ≠ gb269))
      have n13_ := am ((by rw [hg]; exact Nat.ne_of_lt (blk_lt (kx BK270.out)) : gb270 ≠ gb303))
      have n14_ := am ((by rw [hg]; exact Nat.ne_of_gt (blk_lt (kx BK270.out)) : gb303 ≠ gb270))
      have n15_ := am ((by rw [hg]; exact Nat.ne_of_lt (blk_lt (kx BK287.out)) : gb287 ≠ gb303))
      have n16_ := am ((by rw [hg]; exact Nat.ne_of_gt (blk_lt (kx BK287.out)) : gb303 ≠ gb287))
      have n17_ := am ((by rw [hg]; exact Nat.ne_of_lt (blk_lt (kx BK293.out)) : gb293 ≠ gb303))
      have n18_ := am ((by rw [hg]; exact Nat.ne_of_gt (blk_lt (kx BK293.out)) : gb303 ≠ gb293))
      clear HO277 HO285 HO292 BK269 BK270 BK287 BK293 HB
      have HO277 := n0_
      have HO285 := n1_
      have HO292 := n2_
      have BK269 := n3_
      have BK270 := n4_
      have BK287 := n5_
      have BK293 := n6_
      have HB := n7_
      have BK303 := n8_
      have GW303 := n9_
      have GE303 := n10_
      have NB269_303 := n11_
      have NB303_269 := n12_
      have NB270_303 := n13_
      have NB303_270 := n14_
      have NB287_303 := n15_
      have NB303_287 := n16_
      have NB293_303 := n17_
      have NB303_293 := n18_
      clear n0_ n1_ n2_ n3_ n4_ n5_ n6_ n7_ n8_ n9_ n10_ n11_ n12_ n13_ n14_ n15_ n16_ n17_ n18_ hb hbox hg
      refine hK.out _ _ ⟨ct BK293.out 0, ct BK293.out 1, ct BK293.out 2, ct BK270.out 0, ct BK270.out 1, ct BK270.out 2⟩ (fun hHeld => ?_)
      clear hK K
      refine norm_ (a' := ?_) ?_ ?_
      rotate_left
      ·show Act.put _ (some 11) _ = _
       simp only [Act.put, List.setIfInBounds_toArray, List.set_cons_zero, List.set_cons_succ, i64_w, i32_w]
       rfl
      refine one_ (i := 4) (N := some 44) #[true, true, true, true, true, false, false, false, true, false, false] rfl rfl (one_of HT_.out (by kernel_rfl)) (by decide) (fun K hK => ?_)
      refine goes_ Try.func63 (by kernel_rfl) rfl #[.agg #[.int .i64 t288, .int .i64 t289, .slice Ao53 t290.length co53], .int .i64 a1, .agg #[.int .i64 t294, .int .i64 t295, .string t296]] (by rfl) rfl rfl (by (try simp only [List.map_toArray, List.map_cons, List.map_nil]); first | done | rfl | (simp only [List.length_drop, List.length_take]; rfl)) ?_
      with_reducible refine (impl_LogPut.calls k t288 t289 _ _ t290 a1 t294 t295 t296 t297 t298 t299 t302 _ ?side1 ?side2 A25.out).mono ?_
      (case side1 => repeat (first | exact (Kd.R_reads' HO292.out).2.2 | (with_reducible refine Kd.C_alloc ?_ _) | (with_reducible refine Kd.C_drewN ?_ _) | (with_reducible refine Kd.C_drew ?_)))
      (case side2 => exact (Kd.R_reads' HO292.out).2.1)
      rintro e w58 ⟨v300, rfl, ho0, hb⟩
      refine ⟨_, rfl, ?_⟩
      have n0_ := am (Kd.R_elder' (rx HO277.out) (Kd.R_base ho0) hb)
      have n1_ := am (Kd.R_elder' (rx HO285.out) (Kd.R_base ho0) hb)
      have n2_ := am (Kd.R_elder' (rx HO292.out) (Kd.R_base ho0) hb)
      have n3_ := am (Kd.R_lower (Kd.R_new' (Kd.R_new' (Kd.R_new' ho0 (Kd.R_lt (rx HO277.out))) (Kd.R_lt (rx HO285.out))) (Kd.R_lt (rx HO292.out))) (below_size (bx HB.out)))
      have n4_ := am (bb hb (kx BK269.out))
      have n5_ := am (bb hb (kx BK270.out))
      have n6_ := am (bb hb (kx BK287.out))
      have n7_ := am (bb hb (kx BK293.out))
      have n8_ := am (bb hb (kx BK303.out))
      have n9_ := am (below_step (bx HB.out) hb)
      clear HO277 HO285 HO292 BK269 BK270 BK287 BK293 BK303 HB
      have HO277 := n0_
      have HO285 := n1_
      have HO292 := n2_
      have HO301 := n3_
      have BK269 := n4_
      have BK270 := n5_
      have BK287 := n6_
      have BK293 := n7_
      have BK303 := n8_
      have HB := n9_
      clear n0_ n1_ n2_ n3_ n4_ n5_ n6_ n7_ n8_ n9_
      (try clear hb)
      (try clear hb2)
      (try clear hk)
      (try clear hi)
      (try clear ho0)
      refine hK.out _ _ ⟨ct BK293.out 0, ct BK293.out 1, ct BK293.out 2, ct BK270.out 0, ct BK270.out 1, ct BK270.out 2⟩ (fun hHeld => ?_)
      clear hK K
      refine norm_ (a' := ?_) ?_ ?_
      rotate_left
      ·show Act.put _ (some 44) _ = _
       simp only [Act.put, List.setIfInBounds_toArray, List.set_cons_zero, List.set_cons_succ, i64_w, i32_w]
       rfl
      refine pure_ (i := 5) (N := some 39) (v := ?_) (a' := ?_) #[true, true, true, true, true, true, false, false, true, false, false] rfl rfl (any_of HT_.out (by kernel_rfl)) (fun _ _ _ h => h) (Or.inl ⟨by rfl, ?_⟩) ?_ ?_
      rotate_left
      ·intro w'
       go_simp
       with_reducible rfl
      rotate_left
      ·simp only [Act.put, List.setIfInBounds_toArray, List.set_cons_zero, List.set_cons_succ, i64_w, i32_w]
       rfl
      refine pure_ (i := 6) (N := some 45) (v := ?_) (a' := ?_) #[true, true, true, true, true, true, true, false, true, false, false] rfl rfl (any_of HT_.out (by kernel_rfl)) (fun _ _ _ h => h) (Or.inl ⟨by rfl, ?_⟩) ?_ ?_
      rotate_left
      ·intro w'
       go_simp
       with_reducible rfl
      rotate_left
      ·simp only [Act.put, List.setIfInBounds_toArray, List.set_cons_zero, List.set_cons_succ, i64_w, i32_w]
       rfl
      refine pure_ (i := 7) (N := some 46) (v := ?_) (a' := ?_) #[true, true, true, true, true, true, true, true, true, false, false] rfl rfl (any_of HT_.out (by kernel_rfl)) (fun _ _ _ h => h) (Or.inl ⟨by rfl, ?_⟩) ?_ ?_
      rotate_left
      ·intro w'
       go_simp
       with_reducible rfl
      rotate_left
      ·simp only [Act.put, List.setIfInBounds_toArray, List.set_cons_zero, List.set_cons_succ, i64_w, i32_w]
       rfl
      exact norm_ (by simp only [putAll, Act.put, List.setIfInBounds_toArray, List.set_cons_zero, List.set_cons_succ]) (hCont (v300, gb303) _ ⟨hHeld, (by (with_reducible repeat (first | apply Kd.R_alloc | apply Kd.R_drewN | apply Kd.R_drew)); exact Kd.R_mono HO277.out (fun _ hk => ⟨hk.1.1, ⟨hk.1.2, hk.2⟩⟩)), (by (with_reducible repeat (first | apply Kd.R_alloc | apply Kd.R_drewN | apply Kd.R_drew)); exact Kd.R_mono HO285.out (fun _ hk => ⟨hk.1.1, ⟨hk.1.2, hk.2⟩⟩)), (by (with_reducible repeat (first | apply Kd.R_alloc | apply Kd.R_drewN | apply Kd.R_drew)); exact Kd.R_mono HO292.out (fun _ hk => ⟨hk.1.1, ⟨hk.1.2, hk.2⟩⟩)), (by (with_reducible repeat (first | apply Kd.R_alloc | apply Kd.R_drewN | apply Kd.R_drew)); exact Kd.R_mono HO301.out (fun _ hk => ⟨hk.1.1.2, ⟨hk.1.2, hk.2⟩⟩)), (kx BK269.out), (kx BK270.out), (kx BK287.out), (kx BK293.out), (kx BK303.out), GW303.out, GE303.out, NB269_303.out, NB303_269.out, NB270_303.out, NB303_270.out, NB287_303.out, NB303_287.out, NB293_303.out, NB303_293.out, (bx HB.out)⟩)
    ·skip
     refine box_step ?hg (N := 11) ?hd (cs := #[.int .i64 0, .int .i64 0, .slice none 0 0]) (t := 82) ?hr ?_; (case hd => rfl); (case hg => rfl); (case hr => first | (go_simp; done) | (go_simp; rfl))
     intro gb303 hg w56 hbox hb
     have n0_ := am (Kd.R_below (rx HO277.out) hb)
     have n1_ := am (Kd.R_below (rx HO285.out) hb)
     have n2_ := am (Kd.R_below (rx HO292.out) hb)
     have n3_ := am (bb hb (kx BK269.out))
     have n4_ := am (bb hb (kx BK270.out))
     have n5_ := am (bb hb (kx BK287.out))
     have n6_ := am (bb hb (kx BK293.out))
     have n7_ := am (below_step (bx HB.out) hb)
     have n8_ := am (hbox)
     have n9_ := am ((by rw [hg]; exact (below_size (bx HB.out)) : w.heap.size ≤ gb303))
     have n10_ := am ((by rw [hg]; exact (below_size (bx HB.out)) : w.heap.size ≤ gb303))
     have n11_ := am ((by rw [hg]; exact Nat.ne_of_lt (blk_lt (kx BK269.out)) : gb269 ≠ gb303))
     have n12_ := am ((by rw [hg]; exact Nat.ne_of_gt (blk_lt (kx BK269.out)) : gb303 ≠ gb269))
     have n13_ := am ((by rw [hg]; exact Nat.ne_of_lt (blk_lt (kx BK270.out)) : gb270 ≠ gb303))
     have n14_ := am ((by rw [hg]; exact Nat.ne_of_gt (blk_lt (kx BK270.out)) : gb303 ≠ gb270))
     have n15_ := am ((by rw [hg]; exact Nat.ne_of_lt (blk_lt (kx BK287.out)) : gb287 ≠ gb303))
     have n16_ := am ((by rw [hg]; exact Nat.ne_of_gt (blk_lt (kx BK287.out)) : gb303 ≠ gb287))
     have n17_ := am ((by rw [hg]; exact Nat.ne_of_lt (blk_lt (kx BK293.out)) : gb293 ≠ gb303))
     have n18_ := am ((by rw [hg]; exact Nat.ne_of_gt (blk_lt (kx BK293.out)) : gb303 ≠ gb293))
     clear HO277 HO285 HO292 BK269 BK270 BK287 BK293 HB
     have HO277 := n0_
     have HO285 := n1_
     have HO292 := n2_
     have BK269 := n3_
     have BK270 := n4_
     have BK287 := n5_
     have BK293 := n6_
     have HB := n7_
     have BK303 := n8_
     have GW303 := n9_
     have GE303 := n10_
     have NB269_303 := n11_
     have NB303_269 := n12_
     have NB270_303 := n13_
     have NB303_270 := n14_
     have NB287_303 := n15_
     have NB303_287 := n16_
     have NB293_303 := n17_
     have NB303_293 := n18_
     clear n0_ n1_ n2_ n3_ n4_ n5_ n6_ n7_ n8_ n9_ n10_ n11_ n12_ n13_ n14_ n15_ n16_ n17_ n18_ hb hbox hg
     refine hK.out _ _ ⟨ct BK293.out 0, ct BK293.out 1, ct BK293.out 2, ct BK270.out 0, ct BK270.out 1, ct BK270.out 2⟩ (fun hHeld => ?_)
     clear hK K
     refine norm_ (a' := ?_) ?_ ?_
     rotate_left
     ·show Act.put _ (some 11) _ = _
      simp only [Act.put, List.setIfInBounds_toArray, List.set_cons_zero, List.set_cons_succ, i64_w, i32_w]
      rfl
     refine one_ (i := 3) (N := some 43) #[true, true, true, true, false, false, false, false, true, false, false] rfl rfl (one_of HT_.out (by kernel_rfl)) (by decide) (fun K hK => ?_)
     refine goes_ Try.func62 (by kernel_rfl) rfl #[.agg #[.int .i64 a2_0, .int .i64 a2_1, .string a2_2]] (by rfl) rfl rfl (by (try simp only [List.map_toArray, List.map_cons, List.map_nil]); first | done | rfl | (simp only [List.length_drop, List.length_take]; rfl)) ?_
     with_reducible refine (laws_toEntry.calls a2_0 a2_1 a2_2 t294 t295 t296 _ A24.out).mono ?_
     rintro e w57 ⟨rfl, hb⟩
     refine ⟨_, rfl, ?_⟩
     have n0_ := am (Kd.R_below (rx HO277.out) hb)
     have n1_ := am (Kd.R_below (rx HO285.out) hb)
     have n2_ := am (Kd.R_below (rx HO292.out) hb)
     have n3_ := am (bb hb (kx BK269.out))
     have n4_ := am (bb hb (kx BK270.out))
     have n5_ := am (bb hb (kx BK287.out))
     have n6_ := am (bb hb (kx BK293.out))
     have n7_ := am (bb hb (kx BK303.out))
     have n8_ := am (below_step (bx HB.out) hb)
     clear HO277 HO285 HO292 BK269 BK270 BK287 BK293 BK303 HB
     have HO277 := n0_
     have HO285 := n1_
     have HO292 := n2_
     have BK269 := n3_
     have BK270 := n4_
     have BK287 := n5_
     have BK293 := n6_
     have BK303 := n7_
     have HB := n8_
     clear n0_ n1_ n2_ n3_ n4_ n5_ n6_ n7_ n8_
     (try clear hb)
     (try clear hb2)
     (try clear hk)
     (try clear hi)
     refine hK.out _ _ ⟨ct BK293.out 0, ct BK293.out 1, ct BK293.out 2, ct BK270.out 0, ct BK270.out 1, ct BK270.out 2⟩ (fun hHeld => ?_)
     clear hK K
     refine norm_ (a' := ?_) ?_ ?_
     rotate_left
     ·show Act.put _ (some 43) _ = _
      simp only [Act.put, List.setIfInBounds_toArray, List.set_cons_zero, List.set_cons_succ, i64_w, i32_w]
      rfl
     refine one_ (i := 4) (N := some 44) #[true, true, true, true, true, false, false, false, true, false, false] rfl rfl (one_of HT_.out (by kernel_rfl)) (by decide) (fun K hK => ?_)
     refine goes_ Try.func63 (by kernel_rfl) rfl #[.agg #[.int .i64 t288, .int .i64 t289, .slice Ao53 t290.length co53], .int .i64 a1, .agg #[.int .i64 t294, .int .i64 t295, .string t296]] (by rfl) rfl rfl (by (try simp only [List.map_toArray, List.map_cons, List.map_nil]); first | done | rfl | (simp only [List.length_drop, List.length_take]; rfl)) ?_
     with_reducible refine (impl_LogPut.calls k t288 t289 _ _ t290 a1 t294 t295 t296 t297 t298 t299 t302 _ ?side1 ?side2 A25.out).mono ?_
     (case side1 => repeat (first | exact (Kd.R_reads' HO292.out).2.2 | (with_reducible refine Kd.C_alloc ?_ _) | (with_reducible refine Kd.C_drewN ?_ _) | (with_reducible refine Kd.C_drew ?_)))
     (case side2 => exact (Kd.R_reads' HO292.out).2.1)
     rintro e w58 ⟨v300, rfl, ho0, hb⟩
     refine ⟨_, rfl, ?_⟩
     have n0_ := am (Kd.R_elder' (rx HO277.out) (Kd.R_base ho0) hb)
     have n1_ := am (Kd.R_elder' (rx HO285.out) (Kd.R_base ho0) hb)
     have n2_ := am (Kd.R_elder' (rx HO292.out) (Kd.R_base ho0) hb)
     have n3_ := am (Kd.R_lower (Kd.R_new' (Kd.R_new' (Kd.R_new' ho0 (Kd.R_lt (rx HO277.out))) (Kd.R_lt (rx HO285.out))) (Kd.R_lt (rx HO292.out))) (below_size (bx HB.out)))
     have n4_ := am (bb hb (kx BK269.out))
     have n5_ := am (bb hb (kx BK270.out))
     have n6_ := am (bb hb (kx BK287.out))
     have n7_ := am (bb hb (kx BK293.out))
     have n8_ := am (bb hb (kx BK303.out))
     have n9_ := am (below_step (bx HB.out) hb)
     clear HO277 HO285 HO292 BK269 BK270 BK287 BK293 BK303 HB
     have HO277 := n0_
     have HO285 := n1_
     have HO292 := n2_
     have HO301 := n3_
     have BK269 := n4_
     have BK270 := n5_
     have BK287 := n6_
     have BK293 := n7_
     have BK303 := n8_
     have HB := n9_
     clear n0_ n1_ n2_ n3_ n4_ n5_ n6_ n7_ n8_ n9_
     (try clear hb)
     (try clear hb2)
     (try clear hk)
     (try clear hi)
     (try clear ho0)
     refine hK.out _ _ ⟨ct BK293.out 0, ct BK293.out 1, ct BK293.out 2, ct BK270.out 0, ct BK270.out 1, ct BK270.out 2⟩ (fun hHeld => ?_)
     clear hK K
     refine norm_ (a' := ?_) ?_ ?_
     rotate_left
     ·show Act.put _ (some 44) _ = _
      simp only [Act.put, List.setIfInBounds_toArray, List.set_cons_zero, List.set_cons_succ, i64_w, i32_w]
      rfl
     refine pure_ (i := 5) (N := some 39) (v := ?_) (a' := ?_) #[true, true, true, true, true, true, false, false, true, false, false] rfl rfl (any_of HT_.out (by kernel_rfl)) (fun _ _ _ h => h) (Or.inl ⟨by rfl, ?_⟩) ?_ ?_
     rotate_left
     ·intro w'
      go_simp
      with_reducible rfl
     rotate_left
     ·simp only [Act.put, List.setIfInBounds_toArray, List.set_cons_zero, List.set_cons_succ, i64_w, i32_w]
      rfl
     refine pure_ (i := 6) (N := some 45) (v := ?_) (a' := ?_) #[true, true, true, true, true, true, true, false, true, false, false] rfl rfl (any_of HT_.out (by kernel_rfl)) (fun _ _ _ h => h) (Or.inl ⟨by rfl, ?_⟩) ?_ ?_
     rotate_left
     ·intro w'
      go_simp
      with_reducible rfl
     rotate_left
     ·simp only [Act.put, List.setIfInBounds_toArray, List.set_cons_zero, List.set_cons_succ, i64_w, i32_w]
      rfl
     refine pure_ (i := 7) (N := some 46) (v := ?_) (a' := ?_) #[true, true, true, true, true, true, true, true, true, false, false] rfl rfl (any_of HT_.out (by kernel_rfl)) (fun _ _ _ h => h) (Or.inl ⟨by rfl, ?_⟩) ?_ ?_
     rotate_left
     ·intro w'
      go_simp
      with_reducible rfl
     rotate_left
     ·simp only [Act.put, List.setIfInBounds_toArray, List.set_cons_zero, List.set_cons_succ, i64_w, i32_w]
      rfl
     exact norm_ (by simp only [putAll, Act.put, List.setIfInBounds_toArray, List.set_cons_zero, List.set_cons_succ]) (hCont (v300, gb303) _ ⟨hHeld, (by (with_reducible repeat (first | apply Kd.R_alloc | apply Kd.R_drewN | apply Kd.R_drew)); exact Kd.R_mono HO277.out (fun _ hk => ⟨hk.1.1, ⟨hk.1.2, hk.2⟩⟩)), (by (with_reducible repeat (first | apply Kd.R_alloc | apply Kd.R_drewN | apply Kd.R_drew)); exact Kd.R_mono HO285.out (fun _ hk => ⟨hk.1.1, ⟨hk.1.2, hk.2⟩⟩)), (by (with_reducible repeat (first | apply Kd.R_alloc | apply Kd.R_drewN | apply Kd.R_drew)); exact Kd.R_mono HO292.out (fun _ hk => ⟨hk.1.1, ⟨hk.1.2, hk.2⟩⟩)), (by (with_reducible repeat (first | apply Kd.R_alloc | apply Kd.R_drewN | apply Kd.R_drew)); exact Kd.R_mono HO301.out (fun _ hk => ⟨hk.1.1.2, ⟨hk.1.2, hk.2⟩⟩)), (kx BK269.out), (kx BK270.out), (kx BK287.out), (kx BK293.out), (kx BK303.out), GW303.out, GE303.out, NB269_303.out, NB303_269.out, NB270_303.out, NB303_270.out, NB287_303.out, NB303_287.out, NB293_303.out, NB303_293.out, (bx HB.out)⟩)
   rintro ⟨v300, gb303⟩ w59 ⟨hS_, h0_, h1_, h2_, h3_, h4_, h5_, h6_, h7_, h8_, h9_, h10_, h11_, h12_, h13_, h14_, h15_, h16_, h17_, h18_, h19_⟩
   have n0_ : Aside0 (Kd.R k67 67 w59 w.heap.size (fun k_ => some k_ ≠ (.slice Ao43 t283.length co43 : Value).ownBlock ∧ some k_ ≠ (.slice Ao53 t290.length co53 : Value).ownBlock ∧ some k_ ≠ (v300 : Value).ownBlock) v276 t275) := ⟨h0_⟩
   have n1_ : Aside0 (Kd.R k67 67 w59 w.heap.size (fun k_ => some k_ ≠ (v276 : Value).ownBlock ∧ some k_ ≠ (.slice Ao53 t290.length co53 : Value).ownBlock ∧ some k_ ≠ (v300 : Value).ownBlock) (.slice Ao43 t283.length co43) t283) := ⟨h1_⟩
   have n2_ : Aside0 (Kd.R k67 67 w59 w.heap.size (fun k_ => some k_ ≠ (v276 : Value).ownBlock ∧ some k_ ≠ (.slice Ao43 t283.length co43 : Value).ownBlock ∧ some k_ ≠ (v300 : Value).ownBlock) (.slice Ao53 t290.length co53) t290) := ⟨h2_⟩
   have n3_ : Aside0 (Kd.R k67 67 w59 w.heap.size (fun k_ => some k_ ≠ (v276 : Value).ownBlock ∧ some k_ ≠ (.slice Ao43 t283.length co43 : Value).ownBlock ∧ some k_ ≠ (.slice Ao53 t290.length co53 : Value).ownBlock) v300 t299) := ⟨h3_⟩
   have n4_ : Aside0 (w59.heap[gb269]? = some (.cells #[.int .i64 a0_0, .int .i64 a0_1, .slice A0_2 l0_2.length c0_2] 78 (0, 0))) := ⟨h4_⟩
   have n5_ : Aside0 (w59.heap[gb270]? = some (.cells #[.int .i64 a2_0, .int .i64 a2_1, .string a2_2] 88 (0, 0))) := ⟨h5_⟩
   have n6_ : Aside0 (w59.heap[gb287]? = some (.cells #[.int .i64 t281, .int .i64 t282, .slice Ao43 t283.length co43] 82 (0, 0))) := ⟨h6_⟩
   have n7_ : Aside0 (w59.heap[gb293]? = some (.cells #[.int .i64 t288, .int .i64 t289, .slice Ao53 t290.length co53] 82 (0, 0))) := ⟨h7_⟩
   have n8_ : Aside0 (w59.heap[gb303]? = some (.cells #[.int .i64 0, .int .i64 0, .slice none 0 0] 82 (0, 0))) := ⟨h8_⟩
   have n9_ : Aside0 (w.heap.size ≤ gb303) := ⟨h9_⟩
   have n10_ : Aside0 (w.heap.size ≤ gb303) := ⟨h10_⟩
   have n11_ : Aside0 (gb269 ≠ gb303) := ⟨h11_⟩
   have n12_ : Aside0 (gb303 ≠ gb269) := ⟨h12_⟩
   have n13_ : Aside0 (gb270 ≠ gb303) := ⟨h13_⟩
   have n14_ : Aside0 (gb303 ≠ gb270) := ⟨h14_⟩
   have n15_ : Aside0 (gb287 ≠ gb303) := ⟨h15_⟩
   have n16_ : Aside0 (gb303 ≠ gb287) := ⟨h16_⟩
   have n17_ : Aside0 (gb293 ≠ gb303) := ⟨h17_⟩
   have n18_ : Aside0 (gb303 ≠ gb293) := ⟨h18_⟩
   have n19_ : Aside0 (Below w.heap.size w w59) := ⟨h19_⟩
   clear HO277 HO285 HO292 BK269 BK270 BK287 BK293 HB h0_ h1_ h2_ h3_ h4_ h5_ h6_ h7_ h8_ h9_ h10_ h11_ h12_ h13_ h14_ h15_ h16_ h17_ h18_ h19_
   have HO277 := n0_
   have HO285 := n1_
   have HO292 := n2_
   have HO301 := n3_
   have BK269 := n4_
   have BK270 := n5_
   have BK287 := n6_
   have BK293 := n7_
   have BK303 := n8_
   have GW303 := n9_
   have GE303 := n10_
   have NB269_303 := n11_
   have NB303_269 := n12_
   have NB270_303 := n13_
   have NB303_270 := n14_
   have NB287_303 := n15_
   have NB303_287 := n16_
   have NB293_303 := n17_
   have NB303_293 := n18_
   have HB := n19_
   clear n0_ n1_ n2_ n3_ n4_ n5_ n6_ n7_ n8_ n9_ n10_ n11_ n12_ n13_ n14_ n15_ n16_ n17_ n18_ n19_
   have hHeld : w59.cell? ⟨gb293, 0, none⟩ = some (.int .i64 t288) ∧ w59.cell? ⟨gb293, 1, none⟩ = some (.int .i64 t289) ∧ w59.cell? ⟨gb293, 2, none⟩ = some (.slice Ao53 t290.length co53) ∧ w59.cell? ⟨gb270, 0, none⟩ = some (.int .i64 a2_0) ∧ w59.cell? ⟨gb270, 1, none⟩ = some (.int .i64 a2_1) ∧ w59.cell? ⟨gb270, 2, none⟩ = some (.string a2_2) := hS_
   obtain ⟨Ao62, co62, eo62⟩ := Kd.R_slice HO301.out
   (first | subst eo62 | (injection eo62 with f1_ f2_ f3_; have f4_ := f1_.symm; have f5_ := f3_.symm; clear f1_ f2_ f3_; subst f4_; subst f5_))
   refine norm_ (a' := ?_) ?_ ?_
   rotate_left
   ·simp only [putAll, Act.put, List.setIfInBounds_toArray, List.set_cons_zero, List.set_cons_succ]
    rfl
   refine one_ (i := 9) (N := none) #[true, true, true, true, true, true, true, true, true, true, false] rfl rfl (one_of HT_.out (by kernel_rfl)) (by decide) (fun K hK => ?_)
   have hs60 : w59.cell? ⟨gb303, 0, none⟩ = some (.int .i64 0) := ct BK303.out 0
   have hfs60 := blk_frozen BK303.out 0
   have hns60_0 := NB269_303.out
   have hns60_1 := NB270_303.out
   have hns60_2 := NB287_303.out
   have hns60_3 := NB293_303.out
   have hms60_0 := NB303_269.out
   have hms60_1 := NB303_270.out
   have hms60_2 := NB303_287.out
   have hms60_3 := NB303_293.out
   have hs61 : w59.cell? ⟨gb303, 1, none⟩ = some (.int .i64 0) := ct BK303.out 1
   have hfs61 := blk_frozen BK303.out 1
   have hns61_0 := NB269_303.out
   have hns61_1 := NB270_303.out
   have hns61_2 := NB287_303.out
   have hns61_3 := NB293_303.out
   have hms61_0 := NB303_269.out
   have hms61_1 := NB303_270.out
   have hms61_2 := NB303_287.out
   have hms61_3 := NB303_293.out
   have hs63 : w59.cell? ⟨gb303, 2, none⟩ = some (.slice none 0 0) := ct BK303.out 2
   have hfs63 := blk_frozen BK303.out 2
   have hns63_0 := NB269_303.out
   have hns63_1 := NB270_303.out
   have hns63_2 := NB287_303.out
   have hns63_3 := NB293_303.out
   have hms63_0 := NB303_269.out
   have hms63_1 := NB303_270.out
   have hms63_2 := NB303_287.out
   have hms63_3 := NB303_293.out
   refine skip_ (w1 := ?_) (by rfl) rfl ?_ ?_
   rotate_left
   ·go_simp
    rfl
   refine hK.out _ _ ⟨((cell_far (p := ⟨gb303, _, none⟩) NB293_303.out _).trans (((cell_far (p := ⟨gb303, _, none⟩) NB293_303.out _).trans (((cell_far (p := ⟨gb303, _, none⟩) NB293_303.out _).trans (hHeld.1)))))), ((cell_far (p := ⟨gb303, _, none⟩) NB293_303.out _).trans (((cell_far (p := ⟨gb303, _, none⟩) NB293_303.out _).trans (((cell_far (p := ⟨gb303, _, none⟩) NB293_303.out _).trans (hHeld.2.1)))))), ((cell_far (p := ⟨gb303, _, none⟩) NB293_303.out _).trans (((cell_far (p := ⟨gb303, _, none⟩) NB293_303.out _).trans (((cell_far (p := ⟨gb303, _, none⟩) NB293_303.out _).trans (hHeld.2.2.1)))))), ((cell_far (p := ⟨gb303, _, none⟩) NB270_303.out _).trans (((cell_far (p := ⟨gb303, _, none⟩) NB270_303.out _).trans (((cell_far (p := ⟨gb303, _, none⟩) NB270_303.out _).trans (hHeld.2.2.2.1)))))), ((cell_far (p := ⟨gb303, _, none⟩) NB270_303.out _).trans (((cell_far (p := ⟨gb303, _, none⟩) NB270_303.out _).trans (((cell_far (p := ⟨gb303, _, none⟩) NB270_303.out _).trans (hHeld.2.2.2.2.1)))))), ((cell_far (p := ⟨gb303, _, none⟩) NB270_303.out _).trans (((cell_far (p := ⟨gb303, _, none⟩) NB270_303.out _).trans (((cell_far (p := ⟨gb303, _, none⟩) NB270_303.out _).trans (hHeld.2.2.2.2.2))))))⟩ (fun hHeld => ?_)
   clear hK K
   refine pure_ (i := 10) (N := some 12) (v := ?_) (a' := ?_) #[true, true, true, true, true, true, true, true, true, true, true] rfl rfl (any_of HT_.out (by kernel_rfl)) (fun _ _ _ h => h) (Or.inl ⟨by rfl, ?_⟩) ?_ ?_
   rotate_left
   ·intro w'
    go_simp
    with_reducible rfl
   rotate_left
   ·simp only [Act.put, List.setIfInBounds_toArray, List.set_cons_zero, List.set_cons_succ, i64_w, i32_w]
    rfl
   refine done_ (done_of HT_.out (by kernel_rfl)) ?_
   go_upto_region 11 with (fail)
   go_cut [55] (fun v55 wc => ∃ (kq : Nat) (x55_25 : Bool), v55 = .bool x55_25 ∧ Aside0 (laws_FnExactLogPut.j0 kq a1 t286 t302 x55_25 a0_0 a0_1 l0_2 a2_0 a2_1 a2_2 t281 t282 t283 t288 t289 t290 t297 t298 t299 = some r) ∧ Aside0 (kq ≤ k) ∧ Aside0 (Kd.R k67 67 wc w.heap.size (fun k_ => some k_ ≠ ((.slice Ao53 t290.length co53) : Value).ownBlock ∧ some k_ ≠ ((.slice Ao62 t299.length co62) : Value).ownBlock) (.slice Ao43 t283.length co43) t283) ∧ Aside0 (Kd.R k67 67 wc w.heap.size (fun k_ => some k_ ≠ ((.slice Ao43 t283.length co43) : Value).ownBlock ∧ some k_ ≠ ((.slice Ao62 t299.length co62) : Value).ownBlock) (.slice Ao53 t290.length co53) t290) ∧ Aside0 (Kd.R k67 67 wc w.heap.size (fun k_ => some k_ ≠ ((.slice Ao43 t283.length co43) : Value).ownBlock ∧ some k_ ≠ ((.slice Ao53 t290.length co53) : Value).ownBlock) (.slice Ao62 t299.length co62) t299) ∧ Aside0 (wc.heap[gb269]? = some (.cells #[.int .i64 a0_0, .int .i64 a0_1, (.slice A0_2 l0_2.length c0_2)] 78 (0, 0))) ∧ Aside0 (wc.heap[gb270]? = some (.cells #[.int .i64 a2_0, .int .i64 a2_1, .string a2_2] 88 (0, 0))) ∧ Aside0 (wc.heap[gb287]? = some (.cells #[.int .i64 t281, .int .i64 t282, (.slice Ao43 t283.length co43)] 82 (0, 0))) ∧ Aside0 (wc.heap[gb293]? = some (.cells #[.int .i64 t288, .int .i64 t289, (.slice Ao53 t290.length co53)] 82 (0, 0))) ∧ Aside0 (wc.heap[gb303]? = some (.cells #[.int .i64 t297, .int .i64 t298, (.slice Ao62 t299.length co62)] 82 (0, 0))) ∧ Aside0 (Below w.heap.size w wc))
   case first =>
    have H := HC26.out
    clear HC26
    replace H := Option.bind_eq_some_iff.mp H
    obtain ⟨t304, A640, H⟩ := H
    try dsimp only at H
    have A64 := Aside0.mk A640
    clear A640
    by_cases c65 : t304 = true
    ·subst c65
     have H1 : (laws_FnExactLogPut.j0 k a1 t286 t302 (t302 != t286) a0_0 a0_1 l0_2 a2_0 a2_1 a2_2 t281 t282 t283 t288 t289 t290 t297 t298 t299) = some r := by rw [if_pos rfl] at H; exact H
     clear H
     have H := H1
     clear H1
     have H' := Aside0.mk H
     clear H
     have hnb66 := NB303_269.out
     have hnc66 := NB269_303.out
     have hnb67 := NB303_270.out
     have hnc67 := NB270_303.out
     have hnb68 := NB303_287.out
     have hnc68 := NB287_303.out
     have hnb69 := NB303_293.out
     have hnc69 := NB293_303.out
     have hcz70_0 : w59.cell? ⟨gb303, 0, none⟩ = some (.int .i64 0) := ct BK303.out 0
     have hcz70_1 : w59.cell? ⟨gb303, 1, none⟩ = some (.int .i64 0) := ct BK303.out 1
     have hcz70_2 : w59.cell? ⟨gb303, 2, none⟩ = some (.slice none 0 0) := ct BK303.out 2
     have hfz70_0 := blk_frozen BK303.out 0
     have hfz70_1 := blk_frozen BK303.out 1
     have hfz70_2 := blk_frozen BK303.out 2
     have hnb71 := NB287_269.out
     have hnc71 := NB269_287.out
     have hnb72 := NB287_270.out
     have hnc72 := NB270_287.out
     have hnb73 := NB287_293.out
     have hnc73 := NB293_287.out
     have hcz74_0 : w59.cell? ⟨gb287, 0, none⟩ = some (.int .i64 t281) := ct BK287.out 0
     have hcz74_1 : w59.cell? ⟨gb287, 1, none⟩ = some (.int .i64 t282) := ct BK287.out 1
     have hcz74_2 : w59.cell? ⟨gb287, 2, none⟩ = some (.slice Ao43 t283.length co43) := ct BK287.out 2
     have hfz74_0 := blk_frozen BK287.out 0
     have hfz74_1 := blk_frozen BK287.out 1
     have hfz74_2 := blk_frozen BK287.out 2
     go_wp2_with (first | ((with_reducible refine gate_callee (f := 57) rfl ?_); refine goesL_ (some 49) rfl rfl Try.func57 (by kernel_rfl) rfl #[.agg #[.int .i64 t297, .int .i64 t298, .slice Ao62 t299.length co62], .agg #[.int .i64 t281, .int .i64 t282, .slice Ao43 t283.length co43]] rfl (by (try simp only [List.map_toArray, List.map_cons, List.map_nil]); first | done | rfl | (simp only [List.length_drop, List.length_take]; rfl)) ?_; (with_reducible refine (laws_eqLog.calls k t297 t298 _ _ t299 t281 t282 _ _ t283 true _ ?side1 ?side2 ?side3 ?side4 A64.out).mono ?_); (case side1 => refine (Kd.R_reads' (e := 67) (base := w.heap.size) (ok := fun k_ => (some k_ ≠ (v276 : Value).ownBlock ∧ (some k_ ≠ (.slice Ao43 t283.length co43 : Value).ownBlock ∧ some k_ ≠ (.slice Ao53 t290.length co53 : Value).ownBlock))) (n := t299.length) (c := co62) ?_).2.2; exact (by (with_reducible repeat (first | apply Kd.R_alloc | apply Kd.R_drewN | apply Kd.R_drew)); exact (Kd.R_mono (Kd.R_far (p := ⟨gb303, 2, none⟩) (Kd.R_far (p := ⟨gb303, 1, none⟩) (Kd.R_far (p := ⟨gb303, 0, none⟩) (Kd.R_types HO301.out BK303.out (by decide)) (fun _ hk => hk.2) (.int .i64 t297)) (fun _ hk => hk.2) (.int .i64 t298)) (fun _ hk => hk.2) (.slice Ao62 t299.length co62)) (fun _ h_ => h_.1)))); (case side2 => exact (Kd.R_reads' HO301.out).2.1); (case side3 => refine (Kd.R_reads' (e := 67) (base := w.heap.size) (ok := fun k_ => (some k_ ≠ (v276 : Value).ownBlock ∧ (some k_ ≠ (.slice Ao53 t290.length co53 : Value).ownBlock ∧ some k_ ≠ (.slice Ao62 t299.length co62 : Value).ownBlock))) (n := t283.length) (c := co43) ?_).2.2; exact (by (with_reducible repeat (first | apply Kd.R_alloc | apply Kd.R_drewN | apply Kd.R_drew)); exact (Kd.R_mono (Kd.R_far (p := ⟨gb303, 2, none⟩) (Kd.R_far (p := ⟨gb303, 1, none⟩) (Kd.R_far (p := ⟨gb303, 0, none⟩) (Kd.R_types HO285.out BK303.out (by decide)) (fun _ hk => hk.2) (.int .i64 t297)) (fun _ hk => hk.2) (.int .i64 t298)) (fun _ hk => hk.2) (.slice Ao62 t299.length co62)) (fun _ h_ => h_.1)))); (case side4 => exact (Kd.R_reads' HO285.out).2.1); rintro e w75 ⟨rfl, hb⟩; refine ⟨_, rfl, ?_⟩; have n0_ := am (Kd.R_below (by (with_reducible repeat (first | apply Kd.R_alloc | apply Kd.R_drewN | apply Kd.R_drew)); exact (Kd.R_mono (Kd.R_far (p := ⟨gb303, 2, none⟩) (Kd.R_far (p := ⟨gb303, 1, none⟩) (Kd.R_far (p := ⟨gb303, 0, none⟩) (Kd.R_types HO277.out BK303.out (by decide)) (fun _ hk => hk.2) (.int .i64 t297)) (fun _ hk => hk.2) (.int .i64 t298)) (fun _ hk => hk.2) (.slice Ao62 t299.length co62)) (fun _ h_ => h_.1))) hb); have n1_ := am (Kd.R_below (by (with_reducible repeat (first | apply Kd.R_alloc | apply Kd.R_drewN | apply Kd.R_drew)); exact (Kd.R_mono (Kd.R_far (p := ⟨gb303, 2, none⟩) (Kd.R_far (p := ⟨gb303, 1, none⟩) (Kd.R_far (p := ⟨gb303, 0, none⟩) (Kd.R_types HO285.out BK303.out (by decide)) (fun _ hk => hk.2) (.int .i64 t297)) (fun _ hk => hk.2) (.int .i64 t298)) (fun _ hk => hk.2) (.slice Ao62 t299.length co62)) (fun _ h_ => h_.1))) hb); have n2_ := am (Kd.R_below (by (with_reducible repeat (first | apply Kd.R_alloc | apply Kd.R_drewN | apply Kd.R_drew)); exact (Kd.R_mono (Kd.R_far (p := ⟨gb303, 2, none⟩) (Kd.R_far (p := ⟨gb303, 1, none⟩) (Kd.R_far (p := ⟨gb303, 0, none⟩) (Kd.R_types HO292.out BK303.out (by decide)) (fun _ hk => hk.2) (.int .i64 t297)) (fun _ hk => hk.2) (.int .i64 t298)) (fun _ hk => hk.2) (.slice Ao62 t299.length co62)) (fun _ h_ => h_.1))) hb); have n3_ := am (Kd.R_below (by (with_reducible repeat (first | apply Kd.R_alloc | apply Kd.R_drewN | apply Kd.R_drew)); exact (Kd.R_mono (Kd.R_far (p := ⟨gb303, 2, none⟩) (Kd.R_far (p := ⟨gb303, 1, none⟩) (Kd.R_far (p := ⟨gb303, 0, none⟩) (Kd.R_types HO301.out BK303.out (by decide)) (fun _ hk => hk.2) (.int .i64 t297)) (fun _ hk => hk.2) (.int .i64 t298)) (fun _ hk => hk.2) (.slice Ao62 t299.length co62)) (fun _ h_ => h_.1))) hb); have n4_ := am (blk_below (g := gb269) (o := .cells #[.int .i64 a0_0, .int .i64 a0_1, .slice A0_2 l0_2.length c0_2] 78 (0, 0)) (by (with_reducible repeat (first | refine blk_drewN ?_ _ | refine blk_drew ?_ | refine blk_alloc ?_ _)); refine blk_far ?_ NB269_303.out _; (with_reducible repeat (first | refine blk_drewN ?_ _ | refine blk_drew ?_ | refine blk_alloc ?_ _)); refine blk_far ?_ NB269_303.out _; (with_reducible repeat (first | refine blk_drewN ?_ _ | refine blk_drew ?_ | refine blk_alloc ?_ _)); refine blk_far ?_ NB269_303.out _; (with_reducible repeat (first | refine blk_drewN ?_ _ | refine blk_drew ?_ | refine blk_alloc ?_ _)); exact BK269.out) hb); have n5_ := am (blk_below (g := gb270) (o := .cells #[.int .i64 a2_0, .int .i64 a2_1, .string a2_2] 88 (0, 0)) (by (with_reducible repeat (first | refine blk_drewN ?_ _ | refine blk_drew ?_ | refine blk_alloc ?_ _)); refine blk_far ?_ NB270_303.out _; (with_reducible repeat (first | refine blk_drewN ?_ _ | refine blk_drew ?_ | refine blk_alloc ?_ _)); refine blk_far ?_ NB270_303.out _; (with_reducible repeat (first | refine blk_drewN ?_ _ | refine blk_drew ?_ | refine blk_alloc ?_ _)); refine blk_far ?_ NB270_303.out _; (with_reducible repeat (first | refine blk_drewN ?_ _ | refine blk_drew ?_ | refine blk_alloc ?_ _)); exact BK270.out) hb); have n6_ := am (blk_below (g := gb287) (o := .cells #[.int .i64 t281, .int .i64 t282, .slice Ao43 t283.length co43] 82 (0, 0)) (by (with_reducible repeat (first | refine blk_drewN ?_ _ | refine blk_drew ?_ | refine blk_alloc ?_ _)); refine blk_far ?_ NB287_303.out _; (with_reducible repeat (first | refine blk_drewN ?_ _ | refine blk_drew ?_ | refine blk_alloc ?_ _)); refine blk_far ?_ NB287_303.out _; (with_reducible repeat (first | refine blk_drewN ?_ _ | refine blk_drew ?_ | refine blk_alloc ?_ _)); refine blk_far ?_ NB287_303.out _; (with_reducible repeat (first | refine blk_drewN ?_ _ | refine blk_drew ?_ | refine blk_alloc ?_ _)); exact BK287.out) hb); have n7_ := am (blk_below (g := gb293) (o := .cells #[.int .i64 t288, .int .i64 t289, .slice Ao53 t290.length co53] 82 (0, 0)) (by (with_reducible repeat (first | refine blk_drewN ?_ _ | refine blk_drew ?_ | refine blk_alloc ?_ _)); refine blk_far ?_ NB293_303.out _; (with_reducible repeat (first | refine blk_drewN ?_ _ | refine blk_drew ?_ | refine blk_alloc ?_ _)); refine blk_far ?_ NB293_303.out _; (with_reducible repeat (first | refine blk_drewN ?_ _ | refine blk_drew ?_ | refine blk_alloc ?_ _)); refine blk_far ?_ NB293_303.out _; (with_reducible repeat (first | refine blk_drewN ?_ _ | refine blk_drew ?_ | refine blk_alloc ?_ _)); exact BK293.out) hb); have n8_ := am (blk_below (g := gb303) (o := .cells #[.int .i64 t297, .int .i64 t298, .slice Ao62 t299.length co62] 82 (0, 0)) (by (with_reducible repeat (first | refine blk_drewN ?_ _ | refine blk_drew ?_ | refine blk_alloc ?_ _)); refine blk_put (cs := #[.int .i64 t297, .int .i64 t298, .slice none 0 0]) ?_ 2 _ rfl; (with_reducible repeat (first | refine blk_drewN ?_ _ | refine blk_drew ?_ | refine blk_alloc ?_ _)); refine blk_put (cs := #[.int .i64 t297, .int .i64 0, .slice none 0 0]) ?_ 1 _ rfl; (with_reducible repeat (first | refine blk_drewN ?_ _ | refine blk_drew ?_ | refine blk_alloc ?_ _)); refine blk_put (cs := #[.int .i64 0, .int .i64 0, .slice none 0 0]) ?_ 0 _ rfl; (with_reducible repeat (first | refine blk_drewN ?_ _ | refine blk_drew ?_ | refine blk_alloc ?_ _)); exact BK303.out) hb); have n9_ := am (below_step (bx HB.out) hb); clear HO277; clear HO285; clear HO292; clear HO301; clear BK269; clear BK270; clear BK287; clear BK293; clear BK303; clear HB; have HO277 := n0_; have HO285 := n1_; have HO292 := n2_; have HO301 := n3_; have BK269 := n4_; have BK270 := n5_; have BK287 := n6_; have BK293 := n7_; have BK303 := n8_; have HB := n9_; clear n0_ n1_ n2_ n3_ n4_ n5_ n6_ n7_ n8_ n9_; (try clear hb); (try clear hb2); (try clear hk); (try clear hi)))
     go_meet
     case rel => exact ⟨_, ((t302 != t286)), (by first | rfl | (simp; done) | (simp [*]; done)), H', ⟨by first | omega | exact Nat.le_refl _⟩, ⟨by (with_reducible repeat (first | apply Kd.R_alloc | apply Kd.R_drewN | apply Kd.R_drew)); exact Kd.R_mono HO285.out (fun _ hk => ⟨hk.2.1, hk.2.2⟩)⟩, ⟨by (with_reducible repeat (first | apply Kd.R_alloc | apply Kd.R_drewN | apply Kd.R_drew)); exact Kd.R_mono HO292.out (fun _ hk => ⟨hk.2.1, hk.2.2⟩)⟩, ⟨by (with_reducible repeat (first | apply Kd.R_alloc | apply Kd.R_drewN | apply Kd.R_drew)); exact Kd.R_mono HO301.out (fun _ hk => ⟨hk.2.1, hk.2.2⟩)⟩, ⟨kx BK269.out⟩, ⟨kx BK270.out⟩, ⟨kx BK287.out⟩, ⟨kx BK293.out⟩, ⟨kx BK303.out⟩, ⟨bx HB.out⟩⟩
    ·replace c65 := Bool.eq_false_iff.mpr c65
     subst c65
     have H1 : (laws_FnExactLogPut.j0 k a1 t286 t302 true a0_0 a0_1 l0_2 a2_0 a2_1 a2_2 t281 t282 t283 t288 t289 t290 t297 t298 t299) = some r := by rw [if_neg (show ¬ (false = true) by decide)] at H; exact H
     clear H
     have H := H1
     clear H1
     have H' := Aside0.mk H
     clear H
     have hnb76 := NB303_269.out
     have hnc76 := NB269_303.out
     have hnb77 := NB303_270.out
     have hnc77 := NB270_303.out
     have hnb78 := NB303_287.out
     have hnc78 := NB287_303.out
     have hnb79 := NB303_293.out
     have hnc79 := NB293_303.out
     have hcz80_0 : w59.cell? ⟨gb303, 0, none⟩ = some (.int .i64 0) := ct BK303.out 0
     have hcz80_1 : w59.cell? ⟨gb303, 1, none⟩ = some (.int .i64 0) := ct BK303.out 1
     have hcz80_2 : w59.cell? ⟨gb303, 2, none⟩ = some (.slice none 0 0) := ct BK303.out 2
     have hfz80_0 := blk_frozen BK303.out 0
     have hfz80_1 := blk_frozen BK303.out 1
     have hfz80_2 := blk_frozen BK303.out 2
     have hnb81 := NB287_269.out
     have hnc81 := NB269_287.out
     have hnb82 := NB287_270.out
     have hnc82 := NB270_287.out
     have hnb83 := NB287_293.out
     have hnc83 := NB293_287.out
     have hcz84_0 : w59.cell? ⟨gb287, 0, none⟩ = some (.int .i64 t281) := ct BK287.out 0
     have hcz84_1 : w59.cell? ⟨gb287, 1, none⟩ = some (.int .i64 t282) := ct BK287.out 1
     have hcz84_2 : w59.cell? ⟨gb287, 2, none⟩ = some (.slice Ao43 t283.length co43) := ct BK287.out 2
     have hfz84_0 := blk_frozen BK287.out 0
     have hfz84_1 := blk_frozen BK287.out 1
     have hfz84_2 := blk_frozen BK287.out 2
     go_wp2_with (first | ((with_reducible refine gate_callee (f := 57) rfl ?_); refine goesL_ (some 49) rfl rfl Try.func57 (by kernel_rfl) rfl #[.agg #[.int .i64 t297, .int .i64 t298, .slice Ao62 t299.length co62], .agg #[.int .i64 t281, .int .i64 t282, .slice Ao43 t283.length co43]] rfl (by (try simp only [List.map_toArray, List.map_cons, List.map_nil]); first | done | rfl | (simp only [List.length_drop, List.length_take]; rfl)) ?_; (with_reducible refine (laws_eqLog.calls k t297 t298 _ _ t299 t281 t282 _ _ t283 false _ ?side1 ?side2 ?side3 ?side4 A64.out).mono ?_); (case side1 => refine (Kd.R_reads' (e := 67) (base := w.heap.size) (ok := fun k_ => (some k_ ≠ (v276 : Value).ownBlock ∧ (some k_ ≠ (.slice Ao43 t283.length co43 : Value).ownBlock ∧ some k_ ≠ (.slice Ao53 t290.length co53 : Value).ownBlock))) (n := t299.length) (c := co62) ?_).2.2; exact (by (with_reducible repeat (first | apply Kd.R_alloc | apply Kd.R_drewN | apply Kd.R_drew)); exact (Kd.R_mono (Kd.R_far (p := ⟨gb303, 2, none⟩) (Kd.R_far (p := ⟨gb303, 1, none⟩) (Kd.R_far (p := ⟨gb303, 0, none⟩) (Kd.R_types HO301.out BK303.out (by decide)) (fun _ hk => hk.2) (.int .i64 t297)) (fun _ hk => hk.2) (.int .i64 t298)) (fun _ hk => hk.2) (.slice Ao62 t299.length co62)) (fun _ h_ => h_.1)))); (case side2 => exact (Kd.R_reads' HO301.out).2.1); (case side3 => refine (Kd.R_reads' (e := 67) (base := w.heap.size) (ok := fun k_ => (some k_ ≠ (v276 : Value).ownBlock ∧ (some k_ ≠ (.slice Ao53 t290.length co53 : Value).ownBlock ∧ some k_ ≠ (.slice Ao62 t299.length co62 : Value).ownBlock))) (n := t283.length) (c := co43) ?_).2.2; exact (by (with_reducible repeat (first | apply Kd.R_alloc | apply Kd.R_drewN | apply Kd.R_drew)); exact (Kd.R_mono (Kd.R_far (p := ⟨gb303, 2, none⟩) (Kd.R_far (p := ⟨gb303, 1, none⟩) (Kd.R_far (p := ⟨gb303, 0, none⟩) (Kd.R_types HO285.out BK303.out (by decide)) (fun _ hk => hk.2) (.int .i64 t297)) (fun _ hk => hk.2) (.int .i64 t298)) (fun _ hk => hk.2) (.slice Ao62 t299.length co62)) (fun _ h_ => h_.1)))); (case side4 => exact (Kd.R_reads' HO285.out).2.1); rintro e w85 ⟨rfl, hb⟩; refine ⟨_, rfl, ?_⟩; have n0_ := am (Kd.R_below (by (with_reducible repeat (first | apply Kd.R_alloc | apply Kd.R_drewN | apply Kd.R_drew)); exact (Kd.R_mono (Kd.R_far (p := ⟨gb303, 2, none⟩) (Kd.R_far (p := ⟨gb303, 1, none⟩) (Kd.R_far (p := ⟨gb303, 0, none⟩) (Kd.R_types HO277.out BK303.out (by decide)) (fun _ hk => hk.2) (.int .i64 t297)) (fun _ hk => hk.2) (.int .i64 t298)) (fun _ hk => hk.2) (.slice Ao62 t299.length co62)) (fun _ h_ => h_.1))) hb); have n1_ := am (Kd.R_below (by (with_reducible repeat (first | apply Kd.R_alloc | apply Kd.R_drewN | apply Kd.R_drew)); exact (Kd.R_mono (Kd.R_far (p := ⟨gb303, 2, none⟩) (Kd.R_far (p := ⟨gb303, 1, none⟩) (Kd.R_far (p := ⟨gb303, 0, none⟩) (Kd.R_types HO285.out BK303.out (by decide)) (fun _ hk => hk.2) (.int .i64 t297)) (fun _ hk => hk.2) (.int .i64 t298)) (fun _ hk => hk.2) (.slice Ao62 t299.length co62)) (fun _ h_ => h_.1))) hb); have n2_ := am (Kd.R_below (by (with_reducible repeat (first | apply Kd.R_alloc | apply Kd.R_drewN | apply Kd.R_drew)); exact (Kd.R_mono (Kd.R_far (p := ⟨gb303, 2, none⟩) (Kd.R_far (p := ⟨gb303, 1, none⟩) (Kd.R_far (p := ⟨gb303, 0, none⟩) (Kd.R_types HO292.out BK303.out (by decide)) (fun _ hk => hk.2) (.int .i64 t297)) (fun _ hk => hk.2) (.int .i64 t298)) (fun _ hk => hk.2) (.slice Ao62 t299.length co62)) (fun _ h_ => h_.1))) hb); have n3_ := am (Kd.R_below (by (with_reducible repeat (first | apply Kd.R_alloc | apply Kd.R_drewN | apply Kd.R_drew)); exact (Kd.R_mono (Kd.R_far (p := ⟨gb303, 2, none⟩) (Kd.R_far (p := ⟨gb303, 1, none⟩) (Kd.R_far (p := ⟨gb303, 0, none⟩) (Kd.R_types HO301.out BK303.out (by decide)) (fun _ hk => hk.2) (.int .i64 t297)) (fun _ hk => hk.2) (.int .i64 t298)) (fun _ hk => hk.2) (.slice Ao62 t299.length co62)) (fun _ h_ => h_.1))) hb); have n4_ := am (blk_below (g := gb269) (o := .cells #[.int .i64 a0_0, .int .i64 a0_1, .slice A0_2 l0_2.length c0_2] 78 (0, 0)) (by (with_reducible repeat (first | refine blk_drewN ?_ _ | refine blk_drew ?_ | refine blk_alloc ?_ _)); refine blk_far ?_ NB269_303.out _; (with_reducible repeat (first | refine blk_drewN ?_ _ | refine blk_drew ?_ | refine blk_alloc ?_ _)); refine blk_far ?_ NB269_303.out _; (with_reducible repeat (first | refine blk_drewN ?_ _ | refine blk_drew ?_ | refine blk_alloc ?_ _)); refine blk_far ?_ NB269_303.out _; (with_reducible repeat (first | refine blk_drewN ?_ _ | refine blk_drew ?_ | refine blk_alloc ?_ _)); exact BK269.out) hb); have n5_ := am (blk_below (g := gb270) (o := .cells #[.int .i64 a2_0, .int .i64 a2_1, .string a2_2] 88 (0, 0)) (by (with_reducible repeat (first | refine blk_drewN ?_ _ | refine blk_drew ?_ | refine blk_alloc ?_ _)); refine blk_far ?_ NB270_303.out _; (with_reducible repeat (first | refine blk_drewN ?_ _ | refine blk_drew ?_ | refine blk_alloc ?_ _)); refine blk_far ?_ NB270_303.out _; (with_reducible repeat (first | refine blk_drewN ?_ _ | refine blk_drew ?_ | refine blk_alloc ?_ _)); refine blk_far ?_ NB270_303.out _; (with_reducible repeat (first | refine blk_drewN ?_ _ | refine blk_drew ?_ | refine blk_alloc ?_ _)); exact BK270.out) hb); have n6_ := am (blk_below (g := gb287) (o := .cells #[.int .i64 t281, .int .i64 t282, .slice Ao43 t283.length co43] 82 (0, 0)) (by (with_reducible repeat (first | refine blk_drewN ?_ _ | refine blk_drew ?_ | refine blk_alloc ?_ _)); refine blk_far ?_ NB287_303.out _; (with_reducible repeat (first | refine blk_drewN ?_ _ | refine blk_drew ?_ | refine blk_alloc ?_ _)); refine blk_far ?_ NB287_303.out _; (with_reducible repeat (first | refine blk_drewN ?_ _ | refine blk_drew ?_ | refine blk_alloc ?_ _)); refine blk_far ?_ NB287_303.out _; (with_reducible repeat (first | refine blk_drewN ?_ _ | refine blk_drew ?_ | refine blk_alloc ?_ _)); exact BK287.out) hb); have n7_ := am (blk_below (g := gb293) (o := .cells #[.int .i64 t288, .int .i64 t289, .slice Ao53 t290.length co53] 82 (0, 0)) (by (with_reducible repeat (first | refine blk_drewN ?_ _ | refine blk_drew ?_ | refine blk_alloc ?_ _)); refine blk_far ?_ NB293_303.out _; (with_reducible repeat (first | refine blk_drewN ?_ _ | refine blk_drew ?_ | refine blk_alloc ?_ _)); refine blk_far ?_ NB293_303.out _; (with_reducible repeat (first | refine blk_drewN ?_ _ | refine blk_drew ?_ | refine blk_alloc ?_ _)); refine blk_far ?_ NB293_303.out _; (with_reducible repeat (first | refine blk_drewN ?_ _ | refine blk_drew ?_ | refine blk_alloc ?_ _)); exact BK293.out) hb); have n8_ := am (blk_below (g := gb303) (o := .cells #[.int .i64 t297, .int .i64 t298, .slice Ao62 t299.length co62] 82 (0, 0)) (by (with_reducible repeat (first | refine blk_drewN ?_ _ | refine blk_drew ?_ | refine blk_alloc ?_ _)); refine blk_put (cs := #[.int .i64 t297, .int .i64 t298, .slice none 0 0]) ?_ 2 _ rfl; (with_reducible repeat (first | refine blk_drewN ?_ _ | refine blk_drew ?_ | refine blk_alloc ?_ _)); refine blk_put (cs := #[.int .i64 t297, .int .i64 0, .slice none 0 0]) ?_ 1 _ rfl; (with_reducible repeat (first | refine blk_drewN ?_ _ | refine blk_drew ?_ | refine blk_alloc ?_ _)); refine blk_put (cs := #[.int .i64 0, .int .i64 0, .slice none 0 0]) ?_ 0 _ rfl; (with_reducible repeat (first | refine blk_drewN ?_ _ | refine blk_drew ?_ | refine blk_alloc ?_ _)); exact BK303.out) hb); have n9_ := am (below_step (bx HB.out) hb); clear HO277; clear HO285; clear HO292; clear HO301; clear BK269; clear BK270; clear BK287; clear BK293; clear BK303; clear HB; have HO277 := n0_; have HO285 := n1_; have HO292 := n2_; have HO301 := n3_; have BK269 := n4_; have BK270 := n5_; have BK287 := n6_; have BK293 := n7_; have BK303 := n8_; have HB := n9_; clear n0_ n1_ n2_ n3_ n4_ n5_ n6_ n7_ n8_ n9_; (try clear hb); (try clear hb2); (try clear hk); (try clear hi)))
     go_meet
     case rel => exact ⟨_, (true), (by first | rfl | (simp; done) | (simp [*]; done)), H', ⟨by first | omega | exact Nat.le_refl _⟩, ⟨by (with_reducible repeat (first | apply Kd.R_alloc | apply Kd.R_drewN | apply Kd.R_drew)); exact Kd.R_mono HO285.out (fun _ hk => ⟨hk.2.1, hk.2.2⟩)⟩, ⟨by (with_reducible repeat (first | apply Kd.R_alloc | apply Kd.R_drewN | apply Kd.R_drew)); exact Kd.R_mono HO292.out (fun _ hk => ⟨hk.2.1, hk.2.2⟩)⟩, ⟨by (with_reducible repeat (first | apply Kd.R_alloc | apply Kd.R_drewN | apply Kd.R_drew)); exact Kd.R_mono HO301.out (fun _ hk => ⟨hk.2.1, hk.2.2⟩)⟩, ⟨kx BK269.out⟩, ⟨kx BK270.out⟩, ⟨kx BK287.out⟩, ⟨kx BK293.out⟩, ⟨kx BK303.out⟩, ⟨bx HB.out⟩⟩
   case rest =>
    clear HC26
    try clear p2
    try clear c5
    try clear c6
    try clear c7
    try clear c8
    try clear c57
    try clear c62
    try clear c63
    try clear c65
    try clear c66
    try clear c67
    try clear c68
    try clear c69
    try clear c71
    try clear c72
    try clear c73
    try clear c76
    try clear c77
    try clear c78
    try clear c79
    try clear c81
    try clear c82
    try clear c83
    try clear hcz70_0
    try clear hcz70_1
    try clear hcz70_2
    try clear hcz74_0
    try clear hcz74_1
    try clear hcz74_2
    try clear hcz80_0
    try clear hcz80_1
    try clear hcz80_2
    try clear hcz84_0
    try clear hcz84_1
    try clear hcz84_2
    try clear hfz70_0
    try clear hfz70_1
    try clear hfz70_2
    try clear hfz74_0
    try clear hfz74_1
    try clear hfz74_2
    try clear hfz80_0
    try clear hfz80_1
    try clear hfz80_2
    try clear hfz84_0
    try clear hfz84_1
    try clear hfz84_2
    obtain ⟨kq, x55_25, rfl, HA, HJ25, HO_288002, HO_294002, HO_304002, BK269, BK270, BK287, BK293, BK303, HB⟩ := hcut
    cases kq with
    | zero => exact absurd HA.out (by simp [laws_FnExactLogPut.j0])
    | succ kj25 =>
     have H := HA.out
     clear HA
     simp only [laws_FnExactLogPut.j0] at H
     by_cases c86 : x55_25 = true
     ·subst c86
      have H1 : (some false) = some r := by rw [if_pos rfl] at H; exact H
      clear H
      have H := H1
      clear H1
      exact absurd ((Option.some.inj H).trans HLT.out) (by decide)
     ·replace c86 := Bool.eq_false_iff.mpr c86
      subst c86
      have H1 : ((laws_toLog.f kj25 a0_0 a0_1 l0_2).bind fun bt305 => ((laws_eqLog.f kj25 t288 t289 t290 bt305.1 bt305.2.1 bt305.2.2).bind fun t310 => (if t310 = true then ((laws_markLog.f kj25 t288 t289 t290 1).bind fun bt311 => (if bt311.1 < 0 then (laws_FnExactLogPut.j1 kj25 a1 t286 true a0_0 a0_1 l0_2 a2_0 a2_1 a2_2 t281 t282 t283 t297 t298 t299) else ((laws_eqLog.f kj25 t297 t298 t299 t281 t282 t283).bind fun t313 => (if t313 = true then (laws_FnExactLogPut.j1 kj25 a1 t286 (t302 != t286) a0_0 a0_1 l0_2 a2_0 a2_1 a2_2 t281 t282 t283 t297 t298 t299) else (laws_FnExactLogPut.j1 kj25 a1 t286 true a0_0 a0_1 l0_2 a2_0 a2_1 a2_2 t281 t282 t283 t297 t298 t299))))) else (some false)))) = some r := by rw [if_neg (show ¬ (false = true) by decide)] at H; exact H
      clear H
      have H := H1
      clear H1
      replace H := Option.bind_eq_some_iff.mp H
      obtain ⟨⟨t305, t306, t307⟩, A870, H⟩ := H
      try dsimp only at H
      have A87 := Aside0.mk A870
      clear A870
      replace H := Option.bind_eq_some_iff.mp H
      obtain ⟨t310, A880, H⟩ := H
      try dsimp only at H
      have A88 := Aside0.mk A880
      clear A880
      by_cases c89 : t310 = true
      ·subst c89
       have H1 : ((laws_markLog.f kj25 t288 t289 t290 1).bind fun bt311 => (if bt311.1 < 0 then (laws_FnExactLogPut.j1 kj25 a1 t286 true a0_0 a0_1 l0_2 a2_0 a2_1 a2_2 t281 t282 t283 t297 t298 t299) else ((laws_eqLog.f kj25 t297 t298 t299 t281 t282 t283).bind fun t313 => (if t313 = true then (laws_FnExactLogPut.j1 kj25 a1 t286 (t302 != t286) a0_0 a0_1 l0_2 a2_0 a2_1 a2_2 t281 t282 t283 t297 t298 t299) else (laws_FnExactLogPut.j1 kj25 a1 t286 true a0_0 a0_1 l0_2 a2_0 a2_1 a2_2 t281 t282 t283 t297 t298 t299))))) = some r := by rw [if_pos rfl] at H; exact H
       clear H
       have H := H1
       clear H1
       replace H := Option.bind_eq_some_iff.mp H
       obtain ⟨⟨t311, t312⟩, A900, H⟩ := H
       try dsimp only at H
       have A90 := Aside0.mk A900
       clear A900
       have HC91 := Aside0.mk H
       clear H
       try go_wp2
       have n0_ := am (Kd.R_drew HO_288002.out)
       have n1_ := am (Kd.R_drew HO_294002.out)
       have n2_ := am (Kd.R_drew HO_304002.out)
       have n3_ := am (blk_drew BK269.out)
       have n4_ := am (blk_drew BK270.out)
       have n5_ := am (blk_drew BK287.out)
       have n6_ := am (blk_drew BK293.out)
       have n7_ := am (blk_drew BK303.out)
       have n8_ := am (below_drew1 HB.out)
       clear HO_288002 HO_294002 HO_304002 BK269 BK270 BK287 BK293 BK303 HB
       have HO_288002 := n0_
       have HO_294002 := n1_
       have HO_304002 := n2_
       have BK269 := n3_
       have BK270 := n4_
       have BK287 := n5_
       have BK293 := n6_
       have BK303 := n7_
       have HB := n8_
       clear n0_ n1_ n2_ n3_ n4_ n5_ n6_ n7_ n8_
       refine start_ (n := 5) (S := fun w' => w'.cell? ⟨gb293, 0, none⟩ = some (.int .i64 t288) ∧ w'.cell? ⟨gb293, 1, none⟩ = some (.int .i64 t289) ∧ w'.cell? ⟨gb293, 2, none⟩ = some (.slice Ao53 t290.length co53) ∧ w'.cell? ⟨gb269, 0, none⟩ = some (.int .i64 a0_0) ∧ w'.cell? ⟨gb269, 1, none⟩ = some (.int .i64 a0_1) ∧ w'.cell? ⟨gb269, 2, none⟩ = some (.slice A0_2 l0_2.length c0_2)) (ds := []) #[false, false, false, false, false] (by kernel_rfl) rfl rfl ⟨ct BK293.out 0, ct BK293.out 1, ct BK293.out 2, ct BK269.out 0, ct BK269.out 1, ct BK269.out 2⟩ (fun hHeld => ?_)
       generalize wc.drew = w92 at HO_288002 HO_294002 HO_304002 BK269 BK270 BK287 BK293 BK303 HB hHeld ⊢
       refine take_ (i := 0) (N := some 56) (v := ?_) (a' := ?_) #[true, false, false, false, false] rfl rfl (by kernel_rfl) (fun _ _ _ h => h) (Or.inl ⟨by rfl, ?_⟩) hHeld ?_ ?_
       rotate_left
       ·rintro w' ⟨s0, s1, s2, s3, s4, s5⟩
        go_simp
        with_reducible rfl
       rotate_left
       ·simp only [Act.put, List.setIfInBounds_toArray, List.set_cons_zero, List.set_cons_succ, i64_w, i32_w]
        rfl
       refine take_ (i := 1) (N := some 57) (v := ?_) (a' := ?_) #[true, true, false, false, false] rfl rfl (by kernel_rfl) (fun _ _ _ h => h) (Or.inl ⟨by rfl, ?_⟩) hHeld ?_ ?_
       rotate_left
       ·rintro w' ⟨s0, s1, s2, s3, s4, s5⟩
        go_simp
        with_reducible rfl
       rotate_left
       ·simp only [Act.put, List.setIfInBounds_toArray, List.set_cons_zero, List.set_cons_succ, i64_w, i32_w]
        rfl
       refine one_ (i := 2) (N := some 58) #[true, true, true, false, false] rfl rfl (by kernel_rfl) (by decide) (fun K hK => ?_)
       refine goes_ Try.func55 (by kernel_rfl) rfl #[.agg #[.int .i64 a0_0, .int .i64 a0_1, .slice A0_2 l0_2.length c0_2]] (by rfl) rfl rfl (by (try simp only [List.map_toArray, List.map_cons, List.map_nil]); first | done | rfl | (simp only [List.length_drop, List.length_take]; rfl)) ?_
       with_reducible refine (laws_toLog.calls kj25 a0_0 a0_1 _ _ l0_2 t305 t306 t307 _ ?side1 ?side2 A87.out).mono ?_
       (case side1 => repeat (first | exact (Kd.C_below HR0_2.out HB.out) | (with_reducible refine Kd.C_alloc ?_ _) | (with_reducible refine Kd.C_drewN ?_ _) | (with_reducible refine Kd.C_drew ?_)))
       (case side2 => exact HC0_2.out)
       rintro e w93 ⟨v308, rfl, ho0, hb⟩
       refine ⟨_, rfl, ?_⟩
       have n0_ := am (Kd.R_elder' (rx HO_288002.out) (Kd.R_base ho0) hb)
       have n1_ := am (Kd.R_elder' (rx HO_294002.out) (Kd.R_base ho0) hb)
       have n2_ := am (Kd.R_elder' (rx HO_304002.out) (Kd.R_base ho0) hb)
       have n3_ := am (Kd.R_lower (Kd.R_new' (Kd.R_new' (Kd.R_new' ho0 (Kd.R_lt (rx HO_288002.out))) (Kd.R_lt (rx HO_294002.out))) (Kd.R_lt (rx HO_304002.out))) (below_size (bx HB.out)))
       have n4_ := am (bb hb (kx BK269.out))
       have n5_ := am (bb hb (kx BK270.out))
       have n6_ := am (bb hb (kx BK287.out))
       have n7_ := am (bb hb (kx BK293.out))
       have n8_ := am (bb hb (kx BK303.out))
       have n9_ := am (below_step (bx HB.out) hb)
       clear HO_288002 HO_294002 HO_304002 BK269 BK270 BK287 BK293 BK303 HB
       have HO_288002 := n0_
       have HO_294002 := n1_
       have HO_304002 := n2_
       have HO309 := n3_
       have BK269 := n4_
       have BK270 := n5_
       have BK287 := n6_
       have BK293 := n7_
       have BK303 := n8_
       have HB := n9_
       clear n0_ n1_ n2_ n3_ n4_ n5_ n6_ n7_ n8_ n9_
       (try clear hb)
       (try clear hb2)
       (try clear hk)
       (try clear hi)
       (try clear ho0)
       obtain ⟨Ao94, co94, eo94⟩ := Kd.R_slice HO309.out
       (first | subst eo94 | (injection eo94 with f1_ f2_ f3_; have f4_ := f1_.symm; have f5_ := f3_.symm; clear f1_ f2_ f3_; subst f4_; subst f5_))
       refine hK.out _ _ ⟨ct BK293.out 0, ct BK293.out 1, ct BK293.out 2, ct BK269.out 0, ct BK269.out 1, ct BK269.out 2⟩ (fun hHeld => ?_)
       clear hK K
       refine norm_ (a' := ?_) ?_ ?_
       rotate_left
       ·show Act.put _ (some 58) _ = _
        simp only [Act.put, List.setIfInBounds_toArray, List.set_cons_zero, List.set_cons_succ, i64_w, i32_w]
        rfl
       refine one_ (i := 3) (N := some 59) #[true, true, true, true, false] rfl rfl (by kernel_rfl) (by decide) (fun K hK => ?_)
       refine goes_ Try.func57 (by kernel_rfl) rfl #[.agg #[.int .i64 t288, .int .i64 t289, .slice Ao53 t290.length co53], .agg #[.int .i64 t305, .int .i64 t306, .slice Ao94 t307.length co94]] (by rfl) rfl rfl (by (try simp only [List.map_toArray, List.map_cons, List.map_nil]); first | done | rfl | (simp only [List.length_drop, List.length_take]; rfl)) ?_
       with_reducible refine (laws_eqLog.calls kj25 t288 t289 _ _ t290 t305 t306 _ _ t307 true _ ?side1 ?side2 ?side3 ?side4 A88.out).mono ?_
       (case side1 => repeat (first | exact (Kd.R_reads' HO_294002.out).2.2 | (with_reducible refine Kd.C_alloc ?_ _) | (with_reducible refine Kd.C_drewN ?_ _) | (with_reducible refine Kd.C_drew ?_)))
       (case side2 => exact (Kd.R_reads' HO_294002.out).2.1)
       (case side3 => repeat (first | exact (Kd.R_reads' HO309.out).2.2 | (with_reducible refine Kd.C_alloc ?_ _) | (with_reducible refine Kd.C_drewN ?_ _) | (with_reducible refine Kd.C_drew ?_)))
       (case side4 => exact (Kd.R_reads' HO309.out).2.1)
       rintro e w95 ⟨rfl, hb⟩
       refine ⟨_, rfl, ?_⟩
       have n0_ := am (Kd.R_below (rx HO_288002.out) hb)
       have n1_ := am (Kd.R_below (rx HO_294002.out) hb)
       have n2_ := am (Kd.R_below (rx HO_304002.out) hb)
       have n3_ := am (Kd.R_below (rx HO309.out) hb)
       have n4_ := am (bb hb (kx BK269.out))
       have n5_ := am (bb hb (kx BK270.out))
       have n6_ := am (bb hb (kx BK287.out))
       have n7_ := am (bb hb (kx BK293.out))
       have n8_ := am (bb hb (kx BK303.out))
       have n9_ := am (below_step (bx HB.out) hb)
       clear HO_288002 HO_294002 HO_304002 HO309 BK269 BK270 BK287 BK293 BK303 HB
       have HO_288002 := n0_
       have HO_294002 := n1_
       have HO_304002 := n2_
       have HO309 := n3_
       have BK269 := n4_
       have BK270 := n5_
       have BK287 := n6_
       have BK293 := n7_
       have BK303 := n8_
       have HB := n9_
       clear n0_ n1_ n2_ n3_ n4_ n5_ n6_ n7_ n8_ n9_
       (try clear hb)
       (try clear hb2)
       (try clear hk)
       (try clear hi)
       refine hK.out _ _ ⟨ct BK293.out 0, ct BK293.out 1, ct BK293.out 2, ct BK269.out 0, ct BK269.out 1, ct BK269.out 2⟩ (fun hHeld => ?_)
       clear hK K
       refine norm_ (a' := ?_) ?_ ?_
       rotate_left
       ·show Act.put _ (some 59) _ = _
        simp only [Act.put, List.setIfInBounds_toArray, List.set_cons_zero, List.set_cons_succ, i64_w, i32_w]
        rfl
       refine pure_ (i := 4) (N := some 60) (v := ?_) (a' := ?_) #[true, true, true, true, true] rfl rfl (by kernel_rfl) (fun _ _ _ h => h) (Or.inl ⟨by rfl, ?_⟩) ?_ ?_
       rotate_left
       ·intro w'
        go_simp
        with_reducible rfl
       rotate_left
       ·simp only [Act.put, List.setIfInBounds_toArray, List.set_cons_zero, List.set_cons_succ, i64_w, i32_w]
        rfl
       refine done_ (by kernel_rfl) ?_
       have hnb96 := NB293_269.out
       have hnc96 := NB269_293.out
       have hnb97 := NB293_270.out
       have hnc97 := NB270_293.out
       have hnb98 := NB293_287.out
       have hnc98 := NB287_293.out
       have hnb99 := NB293_303.out
       have hnc99 := NB303_293.out
       have hcz100_0 : w95.cell? ⟨gb293, 0, none⟩ = some (.int .i64 t288) := ct BK293.out 0
       have hcz100_1 : w95.cell? ⟨gb293, 1, none⟩ = some (.int .i64 t289) := ct BK293.out 1
       have hcz100_2 : w95.cell? ⟨gb293, 2, none⟩ = some (.slice Ao53 t290.length co53) := ct BK293.out 2
       have hfz100_0 := blk_frozen BK293.out 0
       have hfz100_1 := blk_frozen BK293.out 1
       have hfz100_2 := blk_frozen BK293.out 2
       go_upto_region 17 with (first | ((with_reducible refine gate_callee (f := 58) rfl ?_); refine goesL_ (some 63) rfl rfl Try.func58 (by kernel_rfl) rfl #[.agg #[.int .i64 t288, .int .i64 t289, .slice Ao53 t290.length co53], .int .i64 1] rfl (by (try simp only [List.map_toArray, List.map_cons, List.map_nil]); first | done | rfl | (simp only [List.length_drop, List.length_take]; rfl)) ?_; (with_reducible refine (laws_markLog.calls kj25 t288 t289 (fun k_ => some k_ = (.slice Ao53 t290.length co53 : Value).ownBlock) (.slice Ao53 t290.length co53) t290 1 t311 t312 w _ ?side1 ?side2 A90.out).mono ?_); (case side1 => repeat (first | (with_reducible first | exact HB.out | apply below_alloc | apply pw_below_drewN | apply below_drew1 | refine below_set ?_ GE269.out | refine below_set ?_ GE270.out | refine below_set ?_ GE287.out | refine below_set ?_ GE293.out | refine below_set ?_ GE303.out) | exact HB.out)); (case side2 => exact Kd.R_tight rfl HO_294002.out); rintro e w101 ⟨rfl, hy0, hb, hkp⟩; refine ⟨_, rfl, ?_⟩; have n0_ := am (Kd.R_mono (ok' := fun k_ => some k_ ≠ (.slice Ao53 t290.length co53 : Value).ownBlock ∧ some k_ ≠ (.slice Ao62 t299.length co62 : Value).ownBlock ∧ some k_ ≠ (.slice Ao94 t307.length co94 : Value).ownBlock) (Kd.R_keptB (HO_288002.out) hkp (fun k_ hk_ hs_ => (hk_.1.1) hs_)) (fun k_ hk_ => ⟨hk_.1.1.1, hk_.1.1.2, hk_.1.2⟩)); have n1_ := am (Kd.R_reok rfl hy0 (fun k_ e_ => HO_294002.out.1 k_ e_)); have n2_ := am (Kd.R_mono (ok' := fun k_ => some k_ ≠ (.slice Ao43 t283.length co43 : Value).ownBlock ∧ some k_ ≠ (.slice Ao53 t290.length co53 : Value).ownBlock ∧ some k_ ≠ (.slice Ao94 t307.length co94 : Value).ownBlock) (Kd.R_keptB (HO_304002.out) hkp (fun k_ hk_ hs_ => (hk_.1.2) hs_)) (fun k_ hk_ => ⟨hk_.1.1.1, hk_.1.1.2, hk_.1.2⟩)); have n3_ := am (blk_kept (g := gb269) (kx BK269.out) hkp (fun hs_ => (fun e_ => (Kd.R_ne HO_294002.out BK269.out (by decide)) e_) hs_)); have n4_ := am (blk_kept (g := gb270) (kx BK270.out) hkp (fun hs_ => (fun e_ => (Kd.R_ne HO_294002.out BK270.out (by decide)) e_) hs_)); have n5_ := am (blk_kept (g := gb287) (kx BK287.out) hkp (fun hs_ => (fun e_ => (Kd.R_ne HO_294002.out BK287.out (by decide)) e_) hs_)); have n6_ := am (blk_kept (g := gb293) (kx BK293.out) hkp (fun hs_ => (fun e_ => (Kd.R_ne HO_294002.out BK293.out (by decide)) e_) hs_)); have n7_ := am (blk_kept (g := gb303) (kx BK303.out) hkp (fun hs_ => (fun e_ => (Kd.R_ne HO_294002.out BK303.out (by decide)) e_) hs_)); have n8_ := am (Kd.R_mono (ok' := fun k_ => some k_ ≠ (.slice Ao43 t283.length co43 : Value).ownBlock ∧ some k_ ≠ (.slice Ao53 t290.length co53 : Value).ownBlock ∧ some k_ ≠ (.slice Ao62 t299.length co62 : Value).ownBlock) (Kd.R_keptB (HO309.out) hkp (fun k_ hk_ hs_ => (hk_.1.2) hs_)) (fun k_ hk_ => ⟨hk_.1.1.1.2, hk_.1.1.2, hk_.1.2⟩)); have n9_ := am (hb); clear HO_288002; clear HO_294002; clear HO_304002; clear BK269; clear BK270; clear BK287; clear BK293; clear BK303; clear HO309; clear HB; have HO_288002 := n0_; have HO_294002 := n1_; have HO_304002 := n2_; have BK269 := n3_; have BK270 := n4_; have BK287 := n5_; have BK293 := n6_; have BK303 := n7_; have HO309 := n8_; have HB := n9_; clear n0_ n1_ n2_ n3_ n4_ n5_ n6_ n7_ n8_ n9_; (try clear hb); (try clear hkp); (try clear hy0)))
       (try simp only [Act.put, List.setIfInBounds_toArray, List.set_cons_zero, List.set_cons_succ])
       go_cut [76] (fun v76 wc => ∃ (kq : Nat) (x76_90 : Bool), v76 = .bool x76_90 ∧ Aside0 (laws_FnExactLogPut.j1 kq a1 t286 x76_90 a0_0 a0_1 l0_2 a2_0 a2_1 a2_2 t281 t282 t283 t297 t298 t299 = some r) ∧ Aside0 (kq ≤ kj25) ∧ Aside0 (Kd.R k67 67 wc w.heap.size (fun k_ => some k_ ≠ ((.slice Ao53 t290.length co53) : Value).ownBlock ∧ some k_ ≠ ((.slice Ao62 t299.length co62) : Value).ownBlock) (.slice Ao43 t283.length co43) t283) ∧ Aside0 (Kd.R k67 67 wc w.heap.size (fun k_ => some k_ ≠ ((.slice Ao43 t283.length co43) : Value).ownBlock ∧ some k_ ≠ ((.slice Ao62 t299.length co62) : Value).ownBlock) (.slice Ao53 t290.length co53) t312) ∧ Aside0 (Kd.R k67 67 wc w.heap.size (fun k_ => some k_ ≠ ((.slice Ao43 t283.length co43) : Value).ownBlock ∧ some k_ ≠ ((.slice Ao53 t290.length co53) : Value).ownBlock) (.slice Ao62 t299.length co62) t299) ∧ Aside0 (wc.heap[gb269]? = some (.cells #[.int .i64 a0_0, .int .i64 a0_1, (.slice A0_2 l0_2.length c0_2)] 78 (0, 0))) ∧ Aside0 (wc.heap[gb270]? = some (.cells #[.int .i64 a2_0, .int .i64 a2_1, .string a2_2] 88 (0, 0))) ∧ Aside0 (wc.heap[gb287]? = some (.cells #[.int .i64 t281, .int .i64 t282, (.slice Ao43 t283.length co43)] 82 (0, 0))) ∧ Aside0 (wc.heap[gb293]? = some (.cells #[.int .i64 t288, .int .i64 t289, (.slice Ao53 t290.length co53)] 82 (0, 0))) ∧ Aside0 (wc.heap[gb303]? = some (.cells #[.int .i64 t297, .int .i64 t298, (.slice Ao62 t299.length co62)] 82 (0, 0))) ∧ Aside0 (Below w.heap.size w wc))
       case first =>
        have H := HC91.out
        clear HC91
        by_cases c102 : t311 < 0
        ·rw [if_pos c102] at H
         have c102b0 : decide (t311 < 0) = true := decide_eq_true c102
         clear c102
         (first | rw [c102b0] | (simp only [i64_w, i32_w]; rw [c102b0]) | skip)
         have H' := Aside0.mk H
         clear H
         go_wp2
         go_meet
         case rel => exact ⟨_, (true), (by first | rfl | (simp; done) | (simp [*]; done)), H', ⟨by have := HJ25.out; first | omega | exact Nat.le_refl _⟩, ⟨by (with_reducible repeat (first | apply Kd.R_alloc | apply Kd.R_drewN | apply Kd.R_drew)); exact Kd.R_mono HO_288002.out (fun _ hk => ⟨hk.1, hk.2.1⟩)⟩, ⟨by (with_reducible repeat (first | apply Kd.R_alloc | apply Kd.R_drewN | apply Kd.R_drew)); exact Kd.R_mono HO_294002.out (fun _ hk => ⟨hk.1.1, hk.1.2⟩)⟩, ⟨by (with_reducible repeat (first | apply Kd.R_alloc | apply Kd.R_drewN | apply Kd.R_drew)); exact Kd.R_mono HO_304002.out (fun _ hk => ⟨hk.1, hk.2.1⟩)⟩, ⟨kx BK269.out⟩, ⟨kx BK270.out⟩, ⟨kx BK287.out⟩, ⟨kx BK293.out⟩, ⟨kx BK303.out⟩, ⟨bx HB.out⟩⟩
        ·rw [if_neg c102] at H
         have c102b0 : decide (t311 < 0) = false := decide_eq_false c102
         clear c102
         (first | rw [c102b0] | (simp only [i64_w, i32_w]; rw [c102b0]) | skip)
         replace H := Option.bind_eq_some_iff.mp H
         obtain ⟨t313, A1030, H⟩ := H
         try dsimp only at H
         have A103 := Aside0.mk A1030
         clear A1030
         by_cases c104 : t313 = true
         ·subst c104
          have H1 : (laws_FnExactLogPut.j1 kj25 a1 t286 (t302 != t286) a0_0 a0_1 l0_2 a2_0 a2_1 a2_2 t281 t282 t283 t297 t298 t299) = some r := by rw [if_pos rfl] at H; exact H
          clear H
          have H := H1
          clear H1
          have H' := Aside0.mk H
          clear H
          have hnb105 := NB303_269.out
          have hnc105 := NB269_303.out
          have hnb106 := NB303_270.out
          have hnc106 := NB270_303.out
          have hnb107 := NB303_287.out
          have hnc107 := NB287_303.out
          have hnb108 := NB303_293.out
          have hnc108 := NB293_303.out
          have hcz109_0 : w101.cell? ⟨gb303, 0, none⟩ = some (.int .i64 t297) := ct BK303.out 0
          have hcz109_1 : w101.cell? ⟨gb303, 1, none⟩ = some (.int .i64 t298) := ct BK303.out 1
          have hcz109_2 : w101.cell? ⟨gb303, 2, none⟩ = some (.slice Ao62 t299.length co62) := ct BK303.out 2
          have hfz109_0 := blk_frozen BK303.out 0
          have hfz109_1 := blk_frozen BK303.out 1
          have hfz109_2 := blk_frozen BK303.out 2
          have hnb110 := NB287_269.out
          have hnc110 := NB269_287.out
          have hnb111 := NB287_270.out
          have hnc111 := NB270_287.out
          have hnb112 := NB287_293.out
          have hnc112 := NB293_287.out
          have hcz113_0 : w101.cell? ⟨gb287, 0, none⟩ = some (.int .i64 t281) := ct BK287.out 0
          have hcz113_1 : w101.cell? ⟨gb287, 1, none⟩ = some (.int .i64 t282) := ct BK287.out 1
          have hcz113_2 : w101.cell? ⟨gb287, 2, none⟩ = some (.slice Ao43 t283.length co43) := ct BK287.out 2
          have hfz113_0 := blk_frozen BK287.out 0
          have hfz113_1 := blk_frozen BK287.out 1
          have hfz113_2 := blk_frozen BK287.out 2
          go_wp2_with (first | (go_at_call 57; (with_reducible refine (laws_eqLog.calls kj25 t297 t298 _ _ t299 t281 t282 _ _ t283 true _ ?side1 ?side2 ?side3 ?side4 A103.out).mono ?_); (case side1 => repeat (first | exact (Kd.R_reads' HO_304002.out).2.2 | (with_reducible refine Kd.C_alloc ?_ _) | (with_reducible refine Kd.C_drewN ?_ _) | (with_reducible refine Kd.C_drew ?_))); (case side2 => exact (Kd.R_reads' HO_304002.out).2.1); (case side3 => repeat (first | exact (Kd.R_reads' HO_288002.out).2.2 | (with_reducible refine Kd.C_alloc ?_ _) | (with_reducible refine Kd.C_drewN ?_ _) | (with_reducible refine Kd.C_drew ?_))); (case side4 => exact (Kd.R_reads' HO_288002.out).2.1); rintro e w114 ⟨rfl, hb⟩; have n0_ := am (Kd.R_below (rx HO_288002.out) hb); have n1_ := am (Kd.R_below (rx HO_294002.out) hb); have n2_ := am (Kd.R_below (rx HO_304002.out) hb); have n3_ := am (Kd.R_below (rx HO309.out) hb); have n4_ := am (bb hb (kx BK269.out)); have n5_ := am (bb hb (kx BK270.out)); have n6_ := am (bb hb (kx BK287.out)); have n7_ := am (bb hb (kx BK293.out)); have n8_ := am (bb hb (kx BK303.out)); have n9_ := am (below_step (bx HB.out) hb); clear HO_288002; clear HO_294002; clear HO_304002; clear HO309; clear BK269; clear BK270; clear BK287; clear BK293; clear BK303; clear HB; have HO_288002 := n0_; have HO_294002 := n1_; have HO_304002 := n2_; have HO309 := n3_; have BK269 := n4_; have BK270 := n5_; have BK287 := n6_; have BK293 := n7_; have BK303 := n8_; have HB := n9_; clear n0_ n1_ n2_ n3_ n4_ n5_ n6_ n7_ n8_ n9_; (try clear hb); (try clear hb2); (try clear hk); (try clear hi)))
          go_meet
          case rel => exact ⟨_, ((t302 != t286)), (by first | rfl | (simp; done) | (simp [*]; done)), H', ⟨by have := HJ25.out; first | omega | exact Nat.le_refl _⟩, ⟨by (with_reducible repeat (first | apply Kd.R_alloc | apply Kd.R_drewN | apply Kd.R_drew)); exact Kd.R_mono HO_288002.out (fun _ hk => ⟨hk.1, hk.2.1⟩)⟩, ⟨by (with_reducible repeat (first | apply Kd.R_alloc | apply Kd.R_drewN | apply Kd.R_drew)); exact Kd.R_mono HO_294002.out (fun _ hk => ⟨hk.1.1, hk.1.2⟩)⟩, ⟨by (with_reducible repeat (first | apply Kd.R_alloc | apply Kd.R_drewN | apply Kd.R_drew)); exact Kd.R_mono HO_304002.out (fun _ hk => ⟨hk.1, hk.2.1⟩)⟩, ⟨kx BK269.out⟩, ⟨kx BK270.out⟩, ⟨kx BK287.out⟩, ⟨kx BK293.out⟩, ⟨kx BK303.out⟩, ⟨bx HB.out⟩⟩
         ·replace c104 := Bool.eq_false_iff.mpr c104
          subst c104
          have H1 : (laws_FnExactLogPut.j1 kj25 a1 t286 true a0_0 a0_1 l0_2 a2_0 a2_1 a2_2 t281 t282 t283 t297 t298 t299) = some r := by rw [if_neg (show ¬ (false = true) by decide)] at H; exact H
          clear H
          have H := H1
          clear H1
          have H' := Aside0.mk H
          clear H
          have hnb115 := NB303_269.out
          have hnc115 := NB269_303.out
          have hnb116 := NB303_270.out
          have hnc116 := NB270_303.out
          have hnb117 := NB303_287.out
          have hnc117 := NB287_303.out
          have hnb118 := NB303_293.out
          have hnc118 := NB293_303.out
          have hcz119_0 : w101.cell? ⟨gb303, 0, none⟩ = some (.int .i64 t297) := ct BK303.out 0
          have hcz119_1 : w101.cell? ⟨gb303, 1, none⟩ = some (.int .i64 t298) := ct BK303.out 1
          have hcz119_2 : w101.cell? ⟨gb303, 2, none⟩ = some (.slice Ao62 t299.length co62) := ct BK303.out 2
          have hfz119_0 := blk_frozen BK303.out 0
          have hfz119_1 := blk_frozen BK303.out 1
          have hfz119_2 := blk_frozen BK303.out 2
          have hnb120 := NB287_269.out
          have hnc120 := NB269_287.out
          have hnb121 := NB287_270.out
          have hnc121 := NB270_287.out
          have hnb122 := NB287_293.out
          have hnc122 := NB293_287.out
          have hcz123_0 : w101.cell? ⟨gb287, 0, none⟩ = some (.int .i64 t281) := ct BK287.out 0
          have hcz123_1 : w101.cell? ⟨gb287, 1, none⟩ = some (.int .i64 t282) := ct BK287.out 1
          have hcz123_2 : w101.cell? ⟨gb287, 2, none⟩ = some (.slice Ao43 t283.length co43) := ct BK287.out 2
          have hfz123_0 := blk_frozen BK287.out 0
          have hfz123_1 := blk_frozen BK287.out 1
          have hfz123_2 := blk_frozen BK287.out 2
          go_wp2_with (first | (go_at_call 57; (with_reducible refine (laws_eqLog.calls kj25 t297 t298 _ _ t299 t281 t282 _ _ t283 false _ ?side1 ?side2 ?side3 ?side4 A103.out).mono ?_); (case side1 => repeat (first | exact (Kd.R_reads' HO_304002.out).2.2 | (with_reducible refine Kd.C_alloc ?_ _) | (with_reducible refine Kd.C_drewN ?_ _) | (with_reducible refine Kd.C_drew ?_))); (case side2 => exact (Kd.R_reads' HO_304002.out).2.1); (case side3 => repeat (first | exact (Kd.R_reads' HO_288002.out).2.2 | (with_reducible refine Kd.C_alloc ?_ _) | (with_reducible refine Kd.C_drewN ?_ _) | (with_reducible refine Kd.C_drew ?_))); (case side4 => exact (Kd.R_reads' HO_288002.out).2.1); rintro e w124 ⟨rfl, hb⟩; have n0_ := am (Kd.R_below (rx HO_288002.out) hb); have n1_ := am (Kd.R_below (rx HO_294002.out) hb); have n2_ := am (Kd.R_below (rx HO_304002.out) hb); have n3_ := am (Kd.R_below (rx HO309.out) hb); have n4_ := am (bb hb (kx BK269.out)); have n5_ := am (bb hb (kx BK270.out)); have n6_ := am (bb hb (kx BK287.out)); have n7_ := am (bb hb (kx BK293.out)); have n8_ := am (bb hb (kx BK303.out)); have n9_ := am (below_step (bx HB.out) hb); clear HO_288002; clear HO_294002; clear HO_304002; clear HO309; clear BK269; clear BK270; clear BK287; clear BK293; clear BK303; clear HB; have HO_288002 := n0_; have HO_294002 := n1_; have HO_304002 := n2_; have HO309 := n3_; have BK269 := n4_; have BK270 := n5_; have BK287 := n6_; have BK293 := n7_; have BK303 := n8_; have HB := n9_; clear n0_ n1_ n2_ n3_ n4_ n5_ n6_ n7_ n8_ n9_; (try clear hb); (try clear hb2); (try clear hk); (try clear hi)))
          go_meet
          case rel => exact ⟨_, (true), (by first | rfl | (simp; done) | (simp [*]; done)), H', ⟨by have := HJ25.out; first | omega | exact Nat.le_refl _⟩, ⟨by (with_reducible repeat (first | apply Kd.R_alloc | apply Kd.R_drewN | apply Kd.R_drew)); exact Kd.R_mono HO_288002.out (fun _ hk => ⟨hk.1, hk.2.1⟩)⟩, ⟨by (with_reducible repeat (first | apply Kd.R_alloc | apply Kd.R_drewN | apply Kd.R_drew)); exact Kd.R_mono HO_294002.out (fun _ hk => ⟨hk.1.1, hk.1.2⟩)⟩, ⟨by (with_reducible repeat (first | apply Kd.R_alloc | apply Kd.R_drewN | apply Kd.R_drew)); exact Kd.R_mono HO_304002.out (fun _ hk => ⟨hk.1, hk.2.1⟩)⟩, ⟨kx BK269.out⟩, ⟨kx BK270.out⟩, ⟨kx BK287.out⟩, ⟨kx BK293.out⟩, ⟨kx BK303.out⟩, ⟨bx HB.out⟩⟩
       case rest =>
        clear HC91
        try clear c1
        try clear p2
        try clear c5
        try clear c6
        try clear c7
        try clear c8
        try clear c9
        try clear c10
        try clear c11
        try clear c12
        try clear c55
        try clear c57
        try clear c58
        try clear c62
        try clear c63
        try clear c65
        try clear c66
        try clear c67
        try clear c68
        try clear c69
        try clear c71
        try clear c72
        try clear c73
        try clear c76
        try clear c77
        try clear c78
        try clear c79
        try clear c81
        try clear c82
        try clear c83
        try clear c86
        try clear c89
        try clear c96
        try clear c97
        try clear c98
        try clear c99
        try clear c102
        try clear c102b0
        try clear c104
        try clear c105
        try clear c106
        try clear c107
        try clear c108
        try clear c110
        try clear c111
        try clear c112
        try clear c115
        try clear c116
        try clear c117
        try clear c118
        try clear c120
        try clear c121
        try clear c122
        try clear hcz100_0
        try clear hcz100_1
        try clear hcz100_2
        try clear hcz109_0
        try clear hcz109_1
        try clear hcz109_2
        try clear hcz113_0
        try clear hcz113_1
        try clear hcz113_2
        try clear hcz119_0
        try clear hcz119_1
        try clear hcz119_2
        try clear hcz123_0
        try clear hcz123_1
        try clear hcz123_2
        try clear hcz70_0
        try clear hcz70_1
        try clear hcz70_2
        try clear hcz74_0
        try clear hcz74_1
        try clear hcz74_2
        try clear hcz80_0
        try clear hcz80_1
        try clear hcz80_2
        try clear hcz84_0
        try clear hcz84_1
        try clear hcz84_2
        try clear hfz100_0
        try clear hfz100_1
        try clear hfz100_2
        try clear hfz109_0
        try clear hfz109_1
        try clear hfz109_2
        try clear hfz113_0
        try clear hfz113_1
        try clear hfz113_2
        try clear hfz119_0
        try clear hfz119_1
        try clear hfz119_2
        try clear hfz123_0
        try clear hfz123_1
        try clear hfz123_2
        try clear hfz70_0
        try clear hfz70_1
        try clear hfz70_2
        try clear hfz74_0
        try clear hfz74_1
        try clear hfz74_2
        try clear hfz80_0
        try clear hfz80_1
        try clear hfz80_2
        try clear hfz84_0
        try clear hfz84_1
        try clear hfz84_2
        try clear p2
        obtain ⟨kq, x76_90, rfl, HA, HJ90, HO_288002, HO_294002, HO_304002, BK269, BK270, BK287, BK293, BK303, HB⟩ := hcut
        have hl294002_90 := (Kd.R_reads' HO_294002.out).1
        rw [hl294002_90] at HO_294002
        (try simp only [hl294002_90])
        (try simp only [hl294002_90] at BK269)
        (try simp only [hl294002_90] at BK270)
        (try simp only [hl294002_90] at BK287)
        (try simp only [hl294002_90] at BK293)
        (try simp only [hl294002_90] at BK303)
        (try simp only [hl294002_90] at HO_288002)
        (try simp only [hl294002_90] at HO_304002)
        cases kq with
        | zero => exact absurd HA.out (by simp [laws_FnExactLogPut.j1])
        | succ kj90 =>
         have H := HA.out
         clear HA
         simp only [laws_FnExactLogPut.j1] at H
         by_cases c125 : x76_90 = true
         ·subst c125
          have H1 : (some false) = some r := by rw [if_pos rfl] at H; exact H
          clear H
          have H := H1
          clear H1
          exact absurd ((Option.some.inj H).trans HLT.out) (by decide)
         ·replace c125 := Bool.eq_false_iff.mpr c125
          subst c125
          have H1 : ((laws_markLog.f kj90 t297 t298 t299 1).bind fun bt314 => ((laws_heldLog.f kj90 t297 t298 bt314.2 1).bind fun t316 => (if t316 < 0 then (some false) else (if t316 = bt314.1 then ((laws_toLog.f kj90 a0_0 a0_1 l0_2).bind fun bt317 => ((laws_toEntry.f a2_0 a2_1 a2_2).bind fun bt322 => ((impl_LogPut.f kj90 bt317.1 bt317.2.1 bt317.2.2 a1 bt322.1 bt322.2.1 bt322.2.2).bind fun bt325 => ((laws_eqLog.f kj90 bt325.1 bt325.2.1 bt325.2.2.1 t281 t282 t283).bind fun t332 => (if t332 = true then (laws_FnExactLogPut.j2 kj90 bt314.1 (bt325.2.2.2 != t286) t297 t298 bt314.2) else (laws_FnExactLogPut.j2 kj90 bt314.1 true t297 t298 bt314.2)))))) else (some false))))) = some r := by rw [if_neg (show ¬ (false = true) by decide)] at H; exact H
          clear H
          have H := H1
          clear H1
          replace H := Option.bind_eq_some_iff.mp H
          obtain ⟨⟨t314, t315⟩, A1260, H⟩ := H
          try dsimp only at H
          have A126 := Aside0.mk A1260
          clear A1260
          replace H := Option.bind_eq_some_iff.mp H
          obtain ⟨t316, A1270, H⟩ := H
          try dsimp only at H
          have A127 := Aside0.mk A1270
          clear A1270
          by_cases c128 : t316 < 0
          ·rw [if_pos c128] at H
           have c128b0 : decide (t316 < 0) = true := decide_eq_true c128
           clear c128
           exact absurd ((Option.some.inj H).trans HLT.out) (by decide)
          ·rw [if_neg c128] at H
           have c128b0 : decide (t316 < 0) = false := decide_eq_false c128
           clear c128
           by_cases c129 : t316 = t314
           ·rw [if_pos c129] at H
            have c129b0 : (t316 == t314) = true := beq_iff_eq.mpr c129
            have c129b1 : (t316 != t314) = false := bne_eq_false_iff_eq.mpr c129
            clear c129
            replace H := Option.bind_eq_some_iff.mp H
            obtain ⟨⟨t317, t318, t319⟩, A1300, H⟩ := H
            try dsimp only at H
            have A130 := Aside0.mk A1300
            clear A1300
            replace H := Option.bind_eq_some_iff.mp H
            obtain ⟨⟨t322, t323, t324⟩, A1310, H⟩ := H
            try dsimp only at H
            have A131 := Aside0.mk A1310
            clear A1310
            replace H := Option.bind_eq_some_iff.mp H
            obtain ⟨⟨t325, t326, t327, t330⟩, A1320, H⟩ := H
            try dsimp only at H
            have A132 := Aside0.mk A1320
            clear A1320
            have HC133 := Aside0.mk H
            clear H
            have hnb134 := NB303_269.out
            have hnc134 := NB269_303.out
            have hnb135 := NB303_270.out
            have hnc135 := NB270_303.out
            have hnb136 := NB303_287.out
            have hnc136 := NB287_303.out
            have hnb137 := NB303_293.out
            have hnc137 := NB293_303.out
            have hcz138_0 : wc.cell? ⟨gb303, 0, none⟩ = some (.int .i64 t297) := ct BK303.out 0
            have hcz138_1 : wc.cell? ⟨gb303, 1, none⟩ = some (.int .i64 t298) := ct BK303.out 1
            have hcz138_2 : wc.cell? ⟨gb303, 2, none⟩ = some (.slice Ao62 t299.length co62) := ct BK303.out 2
            have hfz138_0 := blk_frozen BK303.out 0
            have hfz138_1 := blk_frozen BK303.out 1
            have hfz138_2 := blk_frozen BK303.out 2
            try go_wp2_with (first | ((with_reducible refine gate_callee (f := 58) rfl ?_); refine goesL_ (some 79) rfl rfl Try.func58 (by kernel_rfl) rfl #[.agg #[.int .i64 t297, .int .i64 t298, .slice Ao62 t299.length co62], .int .i64 1] rfl (by (try simp only [List.map_toArray, List.map_cons, List.map_nil]); first | done | rfl | (simp only [List.length_drop, List.length_take]; rfl)) ?_; (with_reducible refine (laws_markLog.calls kj90 t297 t298 (fun k_ => some k_ = (.slice Ao62 t299.length co62 : Value).ownBlock) (.slice Ao62 t299.length co62) t299 1 t314 t315 w _ ?side1 ?side2 A126.out).mono ?_); (case side1 => repeat (first | (with_reducible first | exact HB.out | apply below_alloc | apply pw_below_drewN | apply below_drew1 | refine below_set ?_ GE269.out | refine below_set ?_ GE270.out | refine below_set ?_ GE287.out | refine below_set ?_ GE293.out | refine below_set ?_ GE303.out) | exact HB.out)); (case side2 => exact Kd.R_tight rfl HO_304002.out); rintro e w139 ⟨rfl, hy0, hb, hkp⟩; refine ⟨_, rfl, ?_⟩; have n0_ := am (Kd.R_mono (ok' := fun k_ => some k_ ≠ (.slice Ao53 t312.length co53 : Value).ownBlock ∧ some k_ ≠ (.slice Ao62 t299.length co62 : Value).ownBlock) (Kd.R_keptB (HO_288002.out) hkp (fun k_ hk_ hs_ => (hk_.2) hs_)) (fun k_ hk_ => ⟨hk_.1.1, hk_.1.2⟩)); have n1_ := am (Kd.R_mono (ok' := fun k_ => some k_ ≠ (.slice Ao43 t283.length co43 : Value).ownBlock ∧ some k_ ≠ (.slice Ao62 t299.length co62 : Value).ownBlock) (Kd.R_keptB (HO_294002.out) hkp (fun k_ hk_ hs_ => (hk_.2) hs_)) (fun k_ hk_ => ⟨hk_.1.1, hk_.1.2⟩)); have n2_ := am (Kd.R_reok rfl hy0 (fun k_ e_ => HO_304002.out.1 k_ e_)); have n3_ := am (blk_kept (g := gb269) (kx BK269.out) hkp (fun hs_ => (fun e_ => (Kd.R_ne HO_304002.out BK269.out (by decide)) e_) hs_)); have n4_ := am (blk_kept (g := gb270) (kx BK270.out) hkp (fun hs_ => (fun e_ => (Kd.R_ne HO_304002.out BK270.out (by decide)) e_) hs_)); have n5_ := am (blk_kept (g := gb287) (kx BK287.out) hkp (fun hs_ => (fun e_ => (Kd.R_ne HO_304002.out BK287.out (by decide)) e_) hs_)); have n6_ := am (blk_kept (g := gb293) (kx BK293.out) hkp (fun hs_ => (fun e_ => (Kd.R_ne HO_304002.out BK293.out (by decide)) e_) hs_)); have n7_ := am (blk_kept (g := gb303) (kx BK303.out) hkp (fun hs_ => (fun e_ => (Kd.R_ne HO_304002.out BK303.out (by decide)) e_) hs_)); have n8_ := am (hb); clear HO_288002; clear HO_294002; clear HO_304002; clear BK269; clear BK270; clear BK287; clear BK293; clear BK303; clear HB; have HO_288002 := n0_; have HO_294002 := n1_; have HO_304002 := n2_; have BK269 := n3_; have BK270 := n4_; have BK287 := n5_; have BK293 := n6_; have BK303 := n7_; have HB := n8_; clear n0_ n1_ n2_ n3_ n4_ n5_ n6_ n7_ n8_; (try clear hb); (try clear hkp); (try clear hy0); have hcz140_0 : w139.cell? ⟨gb303, 0, none⟩ = some (.int .i64 t297) := ct BK303.out 0; have hcz140_1 : w139.cell? ⟨gb303, 1, none⟩ = some (.int .i64 t298) := ct BK303.out 1; have hcz140_2 : w139.cell? ⟨gb303, 2, none⟩ = some (.slice Ao62 t299.length co62) := ct BK303.out 2; have hfz140_0 := blk_frozen BK303.out 0; have hfz140_1 := blk_frozen BK303.out 1; have hfz140_2 := blk_frozen BK303.out 2) | ((with_reducible refine gate_callee (f := 59) rfl ?_); refine goesL_ (some 82) rfl rfl Try.func59 (by kernel_rfl) rfl #[.agg #[.int .i64 t297, .int .i64 t298, .slice Ao62 t315.length co62], .int .i64 1] rfl (by (try simp only [List.map_toArray, List.map_cons, List.map_nil]); first | done | (rw [show t315.length = t299.length from (Kd.R_reads' HO_304002.out).1.symm] <;> rfl) | rfl | (simp only [List.length_drop, List.length_take]; rfl)) ?_; (with_reducible refine (laws_heldLog.calls kj90 t297 t298 _ _ t315 1 t316 _ ?side1 ?side2 A127.out).mono ?_); (case side1 => repeat (first | exact (Kd.R_reads' HO_304002.out).2.2 | (with_reducible refine Kd.C_alloc ?_ _) | (with_reducible refine Kd.C_drewN ?_ _) | (with_reducible refine Kd.C_drew ?_))); (case side2 => rw [show t315.length = t299.length from (Kd.R_reads' HO_304002.out).1.symm]; exact (Kd.R_reads' HO_304002.out).2.1); rintro e w141 ⟨rfl, hb⟩; refine ⟨_, rfl, ?_⟩; have n0_ := am (Kd.R_below (rx HO_288002.out) hb); have n1_ := am (Kd.R_below (rx HO_294002.out) hb); have n2_ := am (Kd.R_below (rx HO_304002.out) hb); have n3_ := am (bb hb (kx BK269.out)); have n4_ := am (bb hb (kx BK270.out)); have n5_ := am (bb hb (kx BK287.out)); have n6_ := am (bb hb (kx BK293.out)); have n7_ := am (bb hb (kx BK303.out)); have n8_ := am (below_step (bx HB.out) hb); clear HO_288002; clear HO_294002; clear HO_304002; clear BK269; clear BK270; clear BK287; clear BK293; clear BK303; clear HB; have HO_288002 := n0_; have HO_294002 := n1_; have HO_304002 := n2_; have BK269 := n3_; have BK270 := n4_; have BK287 := n5_; have BK293 := n6_; have BK303 := n7_; have HB := n8_; clear n0_ n1_ n2_ n3_ n4_ n5_ n6_ n7_ n8_; (try clear hb); (try clear hb2); (try clear hk); (try clear hi)))
            have n0_ := am (Kd.R_drew HO_288002.out)
            have n1_ := am (Kd.R_drew HO_294002.out)
            have n2_ := am (Kd.R_drew HO_304002.out)
            have n3_ := am (blk_drew BK269.out)
            have n4_ := am (blk_drew BK270.out)
            have n5_ := am (blk_drew BK287.out)
            have n6_ := am (blk_drew BK293.out)
            have n7_ := am (blk_drew BK303.out)
            have n8_ := am (below_drew1 HB.out)
            clear HO_288002 HO_294002 HO_304002 BK269 BK270 BK287 BK293 BK303 HB
            have HO_288002 := n0_
            have HO_294002 := n1_
            have HO_304002 := n2_
            have BK269 := n3_
            have BK270 := n4_
            have BK287 := n5_
            have BK293 := n6_
            have BK303 := n7_
            have HB := n8_
            clear n0_ n1_ n2_ n3_ n4_ n5_ n6_ n7_ n8_
            refine start_ (n := 12) (S := fun w' => w'.cell? ⟨gb269, 0, none⟩ = some (.int .i64 a0_0) ∧ w'.cell? ⟨gb269, 1, none⟩ = some (.int .i64 a0_1) ∧ w'.cell? ⟨gb269, 2, none⟩ = some (.slice A0_2 l0_2.length c0_2) ∧ w'.cell? ⟨gb270, 0, none⟩ = some (.int .i64 a2_0) ∧ w'.cell? ⟨gb270, 1, none⟩ = some (.int .i64 a2_1) ∧ w'.cell? ⟨gb270, 2, none⟩ = some (.string a2_2)) (ds := []) #[false, false, false, false, false, false, false, false, false, false, false, false] (by kernel_rfl) rfl rfl ⟨ct BK269.out 0, ct BK269.out 1, ct BK269.out 2, ct BK270.out 0, ct BK270.out 1, ct BK270.out 2⟩ (fun hHeld => ?_); refine with_tabW laws_FnExactLogPut.tab27 laws_FnExactLogPut.bits27 (fun HT_ HW_ => ?_)
            generalize w141.drew = w142 at HO_288002 HO_294002 HO_304002 BK269 BK270 BK287 BK293 BK303 HB hHeld ⊢
            refine pure_ (i := 2) (N := some 91) (v := ?_) (a' := ?_) #[false, false, true, false, false, false, false, false, false, false, false, false] rfl rfl (any_of HT_.out (by kernel_rfl)) (fun _ _ _ h => h) (Or.inl ⟨by rfl, ?_⟩) ?_ ?_
            rotate_left
            ·intro w'
             go_simp
             with_reducible rfl
            rotate_left
            ·simp only [Act.put, List.setIfInBounds_toArray, List.set_cons_zero, List.set_cons_succ, i64_w, i32_w]
             rfl
            refine take_ (i := 0) (N := some 89) (v := ?_) (a' := ?_) #[true, false, true, false, false, false, false, false, false, false, false, false] rfl rfl (take_ofW HT_.out HW_.out (by kernel_rfl)) (fun _ _ _ h => h) (Or.inl ⟨by rfl, ?_⟩) hHeld ?_ ?_
            rotate_left
            ·rintro w' ⟨s0, s1, s2, s3, s4, s5⟩
             go_simp
             with_reducible rfl
            rotate_left
            ·simp only [Act.put, List.setIfInBounds_toArray, List.set_cons_zero, List.set_cons_succ, i64_w, i32_w]
             rfl
            refine take_ (i := 3) (N := some 92) (v := ?_) (a' := ?_) #[true, false, true, true, false, false, false, false, false, false, false, false] rfl rfl (take_ofW HT_.out HW_.out (by kernel_rfl)) (fun _ _ _ h => h) (Or.inl ⟨by rfl, ?_⟩) hHeld ?_ ?_
            rotate_left
            ·rintro w' ⟨s0, s1, s2, s3, s4, s5⟩
             go_simp
             with_reducible rfl
            rotate_left
            ·simp only [Act.put, List.setIfInBounds_toArray, List.set_cons_zero, List.set_cons_succ, i64_w, i32_w]
             rfl
            refine join_ (σ := Value × Value × Nat) 2 #[true, true, true, true, true, true, true, true, true, true, false, false] (fun s_ => [(90, .agg #[.int .i64 t317, .int .i64 t318, s_.1]), (93, .agg #[.int .i64 t322, .int .i64 t323, .string t324]), (94, .tuple #[.agg #[.int .i64 t325, .int .i64 t326, s_.2.1], .bool t330]), (16, .pointer (some ⟨s_.2.2, 0, none⟩)), (88, .tuple #[.agg #[.int .i64 t325, .int .i64 t326, s_.2.1], .bool t330]), (95, .agg #[.int .i64 t325, .int .i64 t326, s_.2.1]), (96, .bool t330)]) (fun s_ w' => (w'.cell? ⟨gb269, 0, none⟩ = some (.int .i64 a0_0) ∧ w'.cell? ⟨gb269, 1, none⟩ = some (.int .i64 a0_1) ∧ w'.cell? ⟨gb269, 2, none⟩ = some (.slice A0_2 l0_2.length c0_2) ∧ w'.cell? ⟨gb270, 0, none⟩ = some (.int .i64 a2_0) ∧ w'.cell? ⟨gb270, 1, none⟩ = some (.int .i64 a2_1) ∧ w'.cell? ⟨gb270, 2, none⟩ = some (.string a2_2)) ∧ (Kd.R k67 67 w' w.heap.size (fun k_ => some k_ ≠ (s_.2.1 : Value).ownBlock ∧ some k_ ≠ (.slice Ao43 t283.length co43 : Value).ownBlock ∧ some k_ ≠ (.slice Ao53 t312.length co53 : Value).ownBlock ∧ some k_ ≠ (.slice Ao62 t299.length co62 : Value).ownBlock) s_.1 t319) ∧ (Kd.R k67 67 w' w.heap.size (fun k_ => some k_ ≠ (s_.1 : Value).ownBlock ∧ some k_ ≠ (.slice Ao43 t283.length co43 : Value).ownBlock ∧ some k_ ≠ (.slice Ao53 t312.length co53 : Value).ownBlock ∧ some k_ ≠ (.slice Ao62 t299.length co62 : Value).ownBlock) s_.2.1 t327) ∧ (Kd.R k67 67 w' w.heap.size (fun k_ => some k_ ≠ (s_.1 : Value).ownBlock ∧ some k_ ≠ (s_.2.1 : Value).ownBlock ∧ some k_ ≠ (.slice Ao53 t312.length co53 : Value).ownBlock ∧ some k_ ≠ (.slice Ao62 t299.length co62 : Value).ownBlock) (.slice Ao43 t283.length co43) t283) ∧ (Kd.R k67 67 w' w.heap.size (fun k_ => some k_ ≠ (s_.1 : Value).ownBlock ∧ some k_ ≠ (s_.2.1 : Value).ownBlock ∧ some k_ ≠ (.slice Ao43 t283.length co43 : Value).ownBlock ∧ some k_ ≠ (.slice Ao62 t299.length co62 : Value).ownBlock) (.slice Ao53 t312.length co53) t312) ∧ (Kd.R k67 67 w' w.heap.size (fun k_ => some k_ ≠ (s_.1 : Value).ownBlock ∧ some k_ ≠ (s_.2.1 : Value).ownBlock ∧ some k_ ≠ (.slice Ao43 t283.length co43 : Value).ownBlock ∧ some k_ ≠ (.slice Ao53 t312.length co53 : Value).ownBlock) (.slice Ao62 t299.length co62) t315) ∧ (w'.heap[gb269]? = some (.cells #[.int .i64 a0_0, .int .i64 a0_1, .slice A0_2 l0_2.length c0_2] 78 (0, 0))) ∧ (w'.heap[gb270]? = some (.cells #[.int .i64 a2_0, .int .i64 a2_1, .string a2_2] 88 (0, 0))) ∧ (w'.heap[gb287]? = some (.cells #[.int .i64 t281, .int .i64 t282, .slice Ao43 t283.length co43] 82 (0, 0))) ∧ (w'.heap[gb293]? = some (.cells #[.int .i64 t288, .int .i64 t289, .slice Ao53 t312.length co53] 82 (0, 0))) ∧ (w'.heap[gb303]? = some (.cells #[.int .i64 t297, .int .i64 t298, .slice Ao62 t299.length co62] 82 (0, 0))) ∧ (w'.heap[s_.2.2]? = some (.cells #[.int .i64 0, .int .i64 0, .slice none 0 0] 82 (0, 0))) ∧ (w.heap.size ≤ s_.2.2) ∧ (w.heap.size ≤ s_.2.2) ∧ (gb269 ≠ s_.2.2) ∧ (s_.2.2 ≠ gb269) ∧ (gb270 ≠ s_.2.2) ∧ (s_.2.2 ≠ gb270) ∧ (gb287 ≠ s_.2.2) ∧ (s_.2.2 ≠ gb287) ∧ (gb293 ≠ s_.2.2) ∧ (s_.2.2 ≠ gb293) ∧ (gb303 ≠ s_.2.2) ∧ (s_.2.2 ≠ gb303) ∧ (Below w.heap.size w w')) ?_ ?_
            rotate_left
            ·intro hCont
             refine two_ (i := 1) (j := 9) (Ni := some 90) (Nj := some 16) #[true, true, true, true, false, false, false, false, false, false, false, false] #[true, false, true, true, false, false, false, false, false, true, false, false] rfl rfl rfl rfl (two_of HT_.out (by kernel_rfl)) (by decide) (by decide) (fun K hK => ?_) (fun K hK => ?_)
             ·skip
              refine goes_ Try.func55 (by kernel_rfl) rfl #[.agg #[.int .i64 a0_0, .int .i64 a0_1, .slice A0_2 l0_2.length c0_2]] (by rfl) rfl rfl (by (try simp only [List.map_toArray, List.map_cons, List.map_nil]); first | done | rfl | (simp only [List.length_drop, List.length_take]; rfl)) ?_
              with_reducible refine (laws_toLog.calls kj90 a0_0 a0_1 _ _ l0_2 t317 t318 t319 _ ?side1 ?side2 A130.out).mono ?_
              (case side1 => repeat (first | exact (Kd.C_below HR0_2.out HB.out) | (with_reducible refine Kd.C_alloc ?_ _) | (with_reducible refine Kd.C_drewN ?_ _) | (with_reducible refine Kd.C_drew ?_)))
              (case side2 => exact HC0_2.out)
              rintro e w143 ⟨v320, rfl, ho0, hb⟩
              refine ⟨_, rfl, ?_⟩
              have n0_ := am (Kd.R_elder' (rx HO_288002.out) (Kd.R_base ho0) hb)
              have n1_ := am (Kd.R_elder' (rx HO_294002.out) (Kd.R_base ho0) hb)
              have n2_ := am (Kd.R_elder' (rx HO_304002.out) (Kd.R_base ho0) hb)
              have n3_ := am (Kd.R_lower (Kd.R_new' (Kd.R_new' (Kd.R_new' ho0 (Kd.R_lt (rx HO_288002.out))) (Kd.R_lt (rx HO_294002.out))) (Kd.R_lt (rx HO_304002.out))) (below_size (bx HB.out)))
              have n4_ := am (bb hb (kx BK269.out))
              have n5_ := am (bb hb (kx BK270.out))
              have n6_ := am (bb hb (kx BK287.out))
              have n7_ := am (bb hb (kx BK293.out))
              have n8_ := am (bb hb (kx BK303.out))
              have n9_ := am (below_step (bx HB.out) hb)
              clear HO_288002 HO_294002 HO_304002 BK269 BK270 BK287 BK293 BK303 HB
              have HO_288002 := n0_
              have HO_294002 := n1_
              have HO_304002 := n2_
              have HO321 := n3_
              have BK269 := n4_
              have BK270 := n5_
              have BK287 := n6_
              have BK293 := n7_
              have BK303 := n8_
              have HB := n9_
              clear n0_ n1_ n2_ n3_ n4_ n5_ n6_ n7_ n8_ n9_
              (try clear hb)
              (try clear hb2)
              (try clear hk)
              (try clear hi)
              (try clear ho0)
              refine hK.out _ _ ⟨ct BK269.out 0, ct BK269.out 1, ct BK269.out 2, ct BK270.out 0, ct BK270.out 1, ct BK270.out 2⟩ (fun hHeld => ?_)
              clear hK K
              refine norm_ (a' := ?_) ?_ ?_
              rotate_left
              ·show Act.put _ (some 90) _ = _
               simp only [Act.put, List.setIfInBounds_toArray, List.set_cons_zero, List.set_cons_succ, i64_w, i32_w]
               rfl
              refine two_ (i := 4) (j := 9) (Ni := some 93) (Nj := some 16) #[true, true, true, true, true, false, false, false, false, false, false, false] #[true, true, true, true, false, false, false, false, false, true, false, false] rfl rfl rfl rfl (two_of HT_.out (by kernel_rfl)) (by decide) (by decide) (fun K hK => ?_) (fun K hK => ?_)
              ·skip
               refine goes_ Try.func62 (by kernel_rfl) rfl #[.agg #[.int .i64 a2_0, .int .i64 a2_1, .string a2_2]] (by rfl) rfl rfl (by (try simp only [List.map_toArray, List.map_cons, List.map_nil]); first | done | rfl | (simp only [List.length_drop, List.length_take]; rfl)) ?_
               with_reducible refine (laws_toEntry.calls a2_0 a2_1 a2_2 t322 t323 t324 _ A131.out).mono ?_
               rintro e w144 ⟨rfl, hb⟩
               refine ⟨_, rfl, ?_⟩
               have n0_ := am (Kd.R_below (rx HO_288002.out) hb)
               have n1_ := am (Kd.R_below (rx HO_294002.out) hb)
               have n2_ := am (Kd.R_below (rx HO_304002.out) hb)
               have n3_ := am (Kd.R_below (rx HO321.out) hb)
               have n4_ := am (bb hb (kx BK269.out))
               have n5_ := am (bb hb (kx BK270.out))
               have n6_ := am (bb hb (kx BK287.out))
               have n7_ := am (bb hb (kx BK293.out))
               have n8_ := am (bb hb (kx BK303.out))
               have n9_ := am (below_step (bx HB.out) hb)
               clear HO_288002 HO_294002 HO_304002 HO321 BK269 BK270 BK287 BK293 BK303 HB
               have HO_288002 := n0_
               have HO_294002 := n1_
               have HO_304002 := n2_
               have HO321 := n3_
               have BK269 := n4_
               have BK270 := n5_
               have BK287 := n6_
               have BK293 := n7_
               have BK303 := n8_
               have HB := n9_
               clear n0_ n1_ n2_ n3_ n4_ n5_ n6_ n7_ n8_ n9_
               (try clear hb)
               (try clear hb2)
               (try clear hk)
               (try clear hi)
               obtain ⟨Ao145, co145, eo145⟩ := Kd.R_slice HO321.out
               (first | subst eo145 | (injection eo145 with f1_ f2_ f3_; have f4_ := f1_.symm; have f5_ := f3_.symm; clear f1_ f2_ f3_; subst f4_; subst f5_))
               refine hK.out _ _ ⟨ct BK269.out 0, ct BK269.out 1, ct BK269.out 2, ct BK270.out 0, ct BK270.out 1, ct BK270.out 2⟩ (fun hHeld => ?_)
               clear hK K
               refine norm_ (a' := ?_) ?_ ?_
               rotate_left
               ·show Act.put _ (some 93) _ = _
                simp only [Act.put, List.setIfInBounds_toArray, List.set_cons_zero, List.set_cons_succ, i64_w, i32_w]
                rfl
               refine two_ (i := 5) (j := 9) (Ni := some 94) (Nj := some 16) #[true, true, true, true, true, true, false, false, false, false, false, false] #[true, true, true, true, true, false, false, false, false, true, false, false] rfl rfl rfl rfl (two_of HT_.out (by kernel_rfl)) (by decide) (by decide) (fun K hK => ?_) (fun K hK => ?_)
               ·skip
                refine goes_ Try.func63 (by kernel_rfl) rfl #[.agg #[.int .i64 t317, .int .i64 t318, .slice Ao145 t319.length co145], .int .i64 a1, .agg #[.int .i64 t322, .int .i64 t323, .string t324]] (by rfl) rfl rfl (by (try simp only [List.map_toArray, List.map_cons, List.map_nil]); first | done | rfl | (simp only [List.length_drop, List.length_take]; rfl)) ?_
                with_reducible refine (impl_LogPut.calls kj90 t317 t318 _ _ t319 a1 t322 t323 t324 t325 t326 t327 t330 _ ?side1 ?side2 A132.out).mono ?_
                (case side1 => repeat (first | exact (Kd.R_reads' HO321.out).2.2 | (with_reducible refine Kd.C_alloc ?_ _) | (with_reducible refine Kd.C_drewN ?_ _) | (with_reducible refine Kd.C_drew ?_)))
                (case side2 => exact (Kd.R_reads' HO321.out).2.1)
                rintro e w146 ⟨v328, rfl, ho0, hb⟩
                refine ⟨_, rfl, ?_⟩
                have n0_ := am (Kd.R_elder' (rx HO_288002.out) (Kd.R_base ho0) hb)
                have n1_ := am (Kd.R_elder' (rx HO_294002.out) (Kd.R_base ho0) hb)
                have n2_ := am (Kd.R_elder' (rx HO_304002.out) (Kd.R_base ho0) hb)
                have n3_ := am (Kd.R_elder' (rx HO321.out) (Kd.R_base ho0) hb)
                have n4_ := am (Kd.R_lower (Kd.R_new' (Kd.R_new' (Kd.R_new' (Kd.R_new' ho0 (Kd.R_lt (rx HO_288002.out))) (Kd.R_lt (rx HO_294002.out))) (Kd.R_lt (rx HO_304002.out))) (Kd.R_lt (rx HO321.out))) (below_size (bx HB.out)))
                have n5_ := am (bb hb (kx BK269.out))
                have n6_ := am (bb hb (kx BK270.out))
                have n7_ := am (bb hb (kx BK287.out))
                have n8_ := am (bb hb (kx BK293.out))
                have n9_ := am (bb hb (kx BK303.out))
                have n10_ := am (below_step (bx HB.out) hb)
                clear HO_288002 HO_294002 HO_304002 HO321 BK269 BK270 BK287 BK293 BK303 HB
                have HO_288002 := n0_
                have HO_294002 := n1_
                have HO_304002 := n2_
                have HO321 := n3_
                have HO329 := n4_
                have BK269 := n5_
                have BK270 := n6_
                have BK287 := n7_
                have BK293 := n8_
                have BK303 := n9_
                have HB := n10_
                clear n0_ n1_ n2_ n3_ n4_ n5_ n6_ n7_ n8_ n9_ n10_
                (try clear hb)
                (try clear hb2)
                (try clear hk)
                (try clear hi)
                (try clear ho0)
                refine hK.out _ _ ⟨ct BK269.out 0, ct BK269.out 1, ct BK269.out 2, ct BK270.out 0, ct BK270.out 1, ct BK270.out 2⟩ (fun hHeld => ?_)
                clear hK K
                refine norm_ (a' := ?_) ?_ ?_
                rotate_left
                ·show Act.put _ (some 94) _ = _
                 simp only [Act.put, List.setIfInBounds_toArray, List.set_cons_zero, List.set_cons_succ, i64_w, i32_w]
                 rfl
                refine pure_ (i := 6) (N := some 88) (v := ?_) (a' := ?_) #[true, true, true, true, true, true, true, false, false, false, false, false] rfl rfl (any_of HT_.out (by kernel_rfl)) (fun _ _ _ h => h) (Or.inl ⟨by rfl, ?_⟩) ?_ ?_
                rotate_left
                ·intro w'
                 go_simp
                 with_reducible rfl
                rotate_left
                ·simp only [Act.put, List.setIfInBounds_toArray, List.set_cons_zero, List.set_cons_succ, i64_w, i32_w]
                 rfl
                refine pure_ (i := 7) (N := some 95) (v := ?_) (a' := ?_) #[true, true, true, true, true, true, true, true, false, false, false, false] rfl rfl (any_of HT_.out (by kernel_rfl)) (fun _ _ _ h => h) (Or.inl ⟨by rfl, ?_⟩) ?_ ?_
                rotate_left
                ·intro w'
                 go_simp
                 with_reducible rfl
                rotate_left
                ·simp only [Act.put, List.setIfInBounds_toArray, List.set_cons_zero, List.set_cons_succ, i64_w, i32_w]
                 rfl
                refine pure_ (i := 8) (N := some 96) (v := ?_) (a' := ?_) #[true, true, true, true, true, true, true, true, true, false, false, false] rfl rfl (any_of HT_.out (by kernel_rfl)) (fun _ _ _ h => h) (Or.inl ⟨by rfl, ?_⟩) ?_ ?_
                rotate_left
                ·intro w'
                 go_simp
                 with_reducible rfl
                rotate_left
                ·simp only [Act.put, List.setIfInBounds_toArray, List.set_cons_zero, List.set_cons_succ, i64_w, i32_w]
                 rfl
                refine one_ (i := 9) (N := some 16) #[true, true, true, true, true, true, true, true, true, true, false, false] rfl rfl (one_of HT_.out (by kernel_rfl)) (by decide) (fun K hK => ?_)
                refine box_step ?hg (N := 16) ?hd (cs := #[.int .i64 0, .int .i64 0, .slice none 0 0]) (t := 82) ?hr ?_; (case hd => rfl); (case hg => rfl); (case hr => first | (go_simp; done) | (go_simp; rfl))
                intro gb331 hg w147 hbox hb
                have n0_ := am (Kd.R_below (rx HO_288002.out) hb)
                have n1_ := am (Kd.R_below (rx HO_294002.out) hb)
                have n2_ := am (Kd.R_below (rx HO_304002.out) hb)
                have n3_ := am (Kd.R_below (rx HO321.out) hb)
                have n4_ := am (Kd.R_below (rx HO329.out) hb)
                have n5_ := am (bb hb (kx BK269.out))
                have n6_ := am (bb hb (kx BK270.out))
                have n7_ := am (bb hb (kx BK287.out))
                have n8_ := am (bb hb (kx BK293.out))
                have n9_ := am (bb hb (kx BK303.out))
                have n10_ := am (below_step (bx HB.out) hb)
                have n11_ := am (hbox)
                have n12_ := am ((by rw [hg]; exact (below_size (bx HB.out)) : w.heap.size ≤ gb331))
                have n13_ := am ((by rw [hg]; exact (below_size (bx HB.out)) : w.heap.size ≤ gb331))
                have n14_ := am ((by rw [hg]; exact Nat.ne_of_lt (blk_lt (kx BK269.out)) : gb269 ≠ gb331))
                have n15_ := am ((by rw [hg]; exact Nat.ne_of_gt (blk_lt (kx BK269.out)) : gb331 ≠ gb269))
                have n16_ := am ((by rw [hg]; exact Nat.ne_of_lt (blk_lt (kx BK270.out)) : gb270 ≠ gb331))
                have n17_ := am ((by rw [hg]; exact Nat.ne_of_gt (blk_lt (kx BK270.out)) : gb331 ≠ gb270))
                have n18_ := am ((by rw [hg]; exact Nat.ne_of_lt (blk_lt (kx BK287.out)) : gb287 ≠ gb331))
                have n19_ := am ((by rw [hg]; exact Nat.ne_of_gt (blk_lt (kx BK287.out)) : gb331 ≠ gb287))
                have n20_ := am ((by rw [hg]; exact Nat.ne_of_lt (blk_lt (kx BK293.out)) : gb293 ≠ gb331))
                have n21_ := am ((by rw [hg]; exact Nat.ne_of_gt (blk_lt (kx BK293.out)) : gb331 ≠ gb293))
                have n22_ := am ((by rw [hg]; exact Nat.ne_of_lt (blk_lt (kx BK303.out)) : gb303 ≠ gb331))
                have n23_ := am ((by rw [hg]; exact Nat.ne_of_gt (blk_lt (kx BK303.out)) : gb331 ≠ gb303))
                clear HO_288002 HO_294002 HO_304002 HO321 HO329 BK269 BK270 BK287 BK293 BK303 HB
                have HO_288002 := n0_
                have HO_294002 := n1_
                have HO_304002 := n2_
                have HO321 := n3_
                have HO329 := n4_
                have BK269 := n5_
                have BK270 := n6_
                have BK287 := n7_
                have BK293 := n8_
                have BK303 := n9_
                have HB := n10_
                have BK331 := n11_
                have GW331 := n12_
                have GE331 := n13_
                have NB269_331 := n14_
                have NB331_269 := n15_
                have NB270_331 := n16_
                have NB331_270 := n17_
                have NB287_331 := n18_
                have NB331_287 := n19_
                have NB293_331 := n20_
                have NB331_293 := n21_
                have NB303_331 := n22_
                have NB331_303 := n23_
                clear n0_ n1_ n2_ n3_ n4_ n5_ n6_ n7_ n8_ n9_ n10_ n11_ n12_ n13_ n14_ n15_ n16_ n17_ n18_ n19_ n20_ n21_ n22_ n23_ hb hbox hg
                refine hK.out _ _ ⟨ct BK269.out 0, ct BK269.out 1, ct BK269.out 2, ct BK270.out 0, ct BK270.out 1, ct BK270.out 2⟩ (fun hHeld => ?_)
                clear hK K
                refine norm_ (a' := ?_) ?_ ?_
                rotate_left
                ·show Act.put _ (some 16) _ = _
                 simp only [Act.put, List.setIfInBounds_toArray, List.set_cons_zero, List.set_cons_succ, i64_w, i32_w]
                 rfl
                exact norm_ (by simp only [putAll, Act.put, List.setIfInBounds_toArray, List.set_cons_zero, List.set_cons_succ]) (hCont (.slice Ao145 t319.length co145, v328, gb331) _ ⟨hHeld, (by (with_reducible repeat (first | apply Kd.R_alloc | apply Kd.R_drewN | apply Kd.R_drew)); exact Kd.R_mono HO321.out (fun _ hk => ⟨hk.2, ⟨hk.1.1.1.2, ⟨hk.1.1.2, hk.1.2⟩⟩⟩)), (by (with_reducible repeat (first | apply Kd.R_alloc | apply Kd.R_drewN | apply Kd.R_drew)); exact Kd.R_mono HO329.out (fun _ hk => ⟨hk.2, ⟨hk.1.1.1.2, ⟨hk.1.1.2, hk.1.2⟩⟩⟩)), (by (with_reducible repeat (first | apply Kd.R_alloc | apply Kd.R_drewN | apply Kd.R_drew)); exact Kd.R_mono HO_288002.out (fun _ hk => ⟨hk.1.2, ⟨hk.2, ⟨hk.1.1.1, hk.1.1.2⟩⟩⟩)), (by (with_reducible repeat (first | apply Kd.R_alloc | apply Kd.R_drewN | apply Kd.R_drew)); exact Kd.R_mono HO_294002.out (fun _ hk => ⟨hk.1.2, ⟨hk.2, ⟨hk.1.1.1, hk.1.1.2⟩⟩⟩)), (by (with_reducible repeat (first | apply Kd.R_alloc | apply Kd.R_drewN | apply Kd.R_drew)); exact Kd.R_mono HO_304002.out (fun _ hk => ⟨hk.1.2, ⟨hk.2, ⟨hk.1.1.1, hk.1.1.2⟩⟩⟩)), (kx BK269.out), (kx BK270.out), (kx BK287.out), (kx BK293.out), (kx BK303.out), (kx BK331.out), GW331.out, GE331.out, NB269_331.out, NB331_269.out, NB270_331.out, NB331_270.out, NB287_331.out, NB331_287.out, NB293_331.out, NB331_293.out, NB303_331.out, NB331_303.out, (bx HB.out)⟩)
               ·skip
                refine box_step ?hg (N := 16) ?hd (cs := #[.int .i64 0, .int .i64 0, .slice none 0 0]) (t := 82) ?hr ?_; (case hd => rfl); (case hg => rfl); (case hr => first | (go_simp; done) | (go_simp; rfl))
                intro gb331 hg w145 hbox hb
                have n0_ := am (Kd.R_below (rx HO_288002.out) hb)
                have n1_ := am (Kd.R_below (rx HO_294002.out) hb)
                have n2_ := am (Kd.R_below (rx HO_304002.out) hb)
                have n3_ := am (Kd.R_below (rx HO321.out) hb)
                have n4_ := am (bb hb (kx BK269.out))
                have n5_ := am (bb hb (kx BK270.out))
                have n6_ := am (bb hb (kx BK287.out))
                have n7_ := am (bb hb (kx BK293.out))
                have n8_ := am (bb hb (kx BK303.out))
                have n9_ := am (below_step (bx HB.out) hb)
                have n10_ := am (hbox)
                have n11_ := am ((by rw [hg]; exact (below_size (bx HB.out)) : w.heap.size ≤ gb331))
                have n12_ := am ((by rw [hg]; exact (below_size (bx HB.out)) : w.heap.size ≤ gb331))
                have n13_ := am ((by rw [hg]; exact Nat.ne_of_lt (blk_lt (kx BK269.out)) : gb269 ≠ gb331))
                have n14_ := am ((by rw [hg]; exact Nat.ne_of_gt (blk_lt (kx BK269.out)) : gb331 ≠ gb269))
                have n15_ := am ((by rw [hg]; exact Nat.ne_of_lt (blk_lt (kx BK270.out)) : gb270 ≠ gb331))
                have n16_ := am ((by rw [hg]; exact Nat.ne_of_gt (blk_lt (kx BK270.out)) : gb331 ≠ gb270))
                have n17_ := am ((by rw [hg]; exact Nat.ne_of_lt (blk_lt (kx BK287.out)) : gb287 ≠ gb331))
                have n18_ := am ((by rw [hg]; exact Nat.ne_of_gt (blk_lt (kx BK287.out)) : gb331 ≠ gb287))
                have n19_ := am ((by rw [hg]; exact Nat.ne_of_lt (blk_lt (kx BK293.out)) : gb293 ≠ gb331))
                have n20_ := am ((by rw [hg]; exact Nat.ne_of_gt (blk_lt (kx BK293.out)) : gb331 ≠ gb293))
                have n21_ := am ((by rw [hg]; exact Nat.ne_of_lt (blk_lt (kx BK303.out)) : gb303 ≠ gb331))
                have n22_ := am ((by rw [hg]; exact Nat.ne_of_gt (blk_lt (kx BK303.out)) : gb331 ≠ gb303))
                clear HO_288002 HO_294002 HO_304002 HO321 BK269 BK270 BK287 BK293 BK303 HB
                have HO_288002 := n0_
                have HO_294002 := n1_
                have HO_304002 := n2_
                have HO321 := n3_
                have BK269 := n4_
                have BK270 := n5_
                have BK287 := n6_
                have BK293 := n7_
                have BK303 := n8_
                have HB := n9_
                have BK331 := n10_
                have GW331 := n11_
                have GE331 := n12_
                have NB269_331 := n13_
                have NB331_269 := n14_
                have NB270_331 := n15_
                have NB331_270 := n16_
                have NB287_331 := n17_
                have NB331_287 := n18_
                have NB293_331 := n19_
                have NB331_293 := n20_
                have NB303_331 := n21_
                have NB331_303 := n22_
                clear n0_ n1_ n2_ n3_ n4_ n5_ n6_ n7_ n8_ n9_ n10_ n11_ n12_ n13_ n14_ n15_ n16_ n17_ n18_ n19_ n20_ n21_ n22_ hb hbox hg
                obtain ⟨Ao146, co146, eo146⟩ := Kd.R_slice HO321.out
                (first | subst eo146 | (injection eo146 with f1_ f2_ f3_; have f4_ := f1_.symm; have f5_ := f3_.symm; clear f1_ f2_ f3_; subst f4_; subst f5_))
                refine hK.out _ _ ⟨ct BK269.out 0, ct BK269.out 1, ct BK269.out 2, ct BK270.out 0, ct BK270.out 1, ct BK270.out 2⟩ (fun hHeld => ?_)
                clear hK K
                refine norm_ (a' := ?_) ?_ ?_
                rotate_left
                ·show Act.put _ (some 16) _ = _
                 simp only [Act.put, List.setIfInBounds_toArray, List.set_cons_zero, List.set_cons_succ, i64_w, i32_w]
                 rfl
                refine one_ (i := 5) (N := some 94) #[true, true, true, true, true, true, false, false, false, true, false, false] rfl rfl (one_of HT_.out (by kernel_rfl)) (by decide) (fun K hK => ?_)
                refine goes_ Try.func63 (by kernel_rfl) rfl #[.agg #[.int .i64 t317, .int .i64 t318, .slice Ao146 t319.length co146], .int .i64 a1, .agg #[.int .i64 t322, .int .i64 t323, .string t324]] (by rfl) rfl rfl (by (try simp only [List.map_toArray, List.map_cons, List.map_nil]); first | done | rfl | (simp only [List.length_drop, List.length_take]; rfl)) ?_
                with_reducible refine (impl_LogPut.calls kj90 t317 t318 _ _ t319 a1 t322 t323 t324 t325 t326 t327 t330 _ ?side1 ?side2 A132.out).mono ?_
                (case side1 => repeat (first | exact (Kd.R_reads' HO321.out).2.2 | (with_reducible refine Kd.C_alloc ?_ _) | (with_reducible refine Kd.C_drewN ?_ _) | (with_reducible refine Kd.C_drew ?_)))
                (case side2 => exact (Kd.R_reads' HO321.out).2.1)
                rintro e w147 ⟨v328, rfl, ho0, hb⟩
                refine ⟨_, rfl, ?_⟩
                have n0_ := am (Kd.R_elder' (rx HO_288002.out) (Kd.R_base ho0) hb)
                have n1_ := am (Kd.R_elder' (rx HO_294002.out) (Kd.R_base ho0) hb)
                have n2_ := am (Kd.R_elder' (rx HO_304002.out) (Kd.R_base ho0) hb)
                have n3_ := am (Kd.R_elder' (rx HO321.out) (Kd.R_base ho0) hb)
                have n4_ := am (Kd.R_lower (Kd.R_new' (Kd.R_new' (Kd.R_new' (Kd.R_new' ho0 (Kd.R_lt (rx HO_288002.out))) (Kd.R_lt (rx HO_294002.out))) (Kd.R_lt (rx HO_304002.out))) (Kd.R_lt (rx HO321.out))) (below_size (bx HB.out)))
                have n5_ := am (bb hb (kx BK269.out))
                have n6_ := am (bb hb (kx BK270.out))
                have n7_ := am (bb hb (kx BK287.out))
                have n8_ := am (bb hb (kx BK293.out))
                have n9_ := am (bb hb (kx BK303.out))
                have n10_ := am (bb hb (kx BK331.out))
                have n11_ := am (below_step (bx HB.out) hb)
                clear HO_288002 HO_294002 HO_304002 HO321 BK269 BK270 BK287 BK293 BK303 BK331 HB
                have HO_288002 := n0_
                have HO_294002 := n1_
                have HO_304002 := n2_
                have HO321 := n3_
                have HO329 := n4_
                have BK269 := n5_
                have BK270 := n6_
                have BK287 := n7_
                have BK293 := n8_
                have BK303 := n9_
                have BK331 := n10_
                have HB := n11_
                clear n0_ n1_ n2_ n3_ n4_ n5_ n6_ n7_ n8_ n9_ n10_ n11_
                (try clear hb)
                (try clear hb2)
                (try clear hk)
                (try clear hi)
                (try clear ho0)
                refine hK.out _ _ ⟨ct BK269.out 0, ct BK269.out 1, ct BK269.out 2, ct BK270.out 0, ct BK270.out 1, ct BK270.out 2⟩ (fun hHeld => ?_)
                clear hK K
                refine norm_ (a' := ?_) ?_ ?_
                rotate_left
                ·show Act.put _ (some 94) _ = _
                 simp only [Act.put, List.setIfInBounds_toArray, List.set_cons_zero, List.set_cons_succ, i64_w, i32_w]
                 rfl
                refine pure_ (i := 6) (N := some 88) (v := ?_) (a' := ?_) #[true, true, true, true, true, true, true, false, false, true, false, false] rfl rfl (any_of HT_.out (by kernel_rfl)) (fun _ _ _ h => h) (Or.inl ⟨by rfl, ?_⟩) ?_ ?_
                rotate_left
                ·intro w'
                 go_simp
                 with_reducible rfl
                rotate_left
                ·simp only [Act.put, List.setIfInBounds_toArray, List.set_cons_zero, List.set_cons_succ, i64_w, i32_w]
                 rfl
                refine pure_ (i := 7) (N := some 95) (v := ?_) (a' := ?_) #[true, true, true, true, true, true, true, true, false, true, false, false] rfl rfl (any_of HT_.out (by kernel_rfl)) (fun _ _ _ h => h) (Or.inl ⟨by rfl, ?_⟩) ?_ ?_
                rotate_left
                ·intro w'
                 go_simp
                 with_reducible rfl
                rotate_left
                ·simp only [Act.put, List.setIfInBounds_toArray, List.set_cons_zero, List.set_cons_succ, i64_w, i32_w]
                 rfl
                refine pure_ (i := 8) (N := some 96) (v := ?_) (a' := ?_) #[true, true, true, true, true, true, true, true, true, true, false, false] rfl rfl (any_of HT_.out (by kernel_rfl)) (fun _ _ _ h => h) (Or.inl ⟨by rfl, ?_⟩) ?_ ?_
                rotate_left
                ·intro w'
                 go_simp
                 with_reducible rfl
                rotate_left
                ·simp only [Act.put, List.setIfInBounds_toArray, List.set_cons_zero, List.set_cons_succ, i64_w, i32_w]
                 rfl
                exact norm_ (by simp only [putAll, Act.put, List.setIfInBounds_toArray, List.set_cons_zero, List.set_cons_succ]) (hCont (.slice Ao146 t319.length co146, v328, gb331) _ ⟨hHeld, (by (with_reducible repeat (first | apply Kd.R_alloc | apply Kd.R_drewN | apply Kd.R_drew)); exact Kd.R_mono HO321.out (fun _ hk => ⟨hk.2, ⟨hk.1.1.1.2, ⟨hk.1.1.2, hk.1.2⟩⟩⟩)), (by (with_reducible repeat (first | apply Kd.R_alloc | apply Kd.R_drewN | apply Kd.R_drew)); exact Kd.R_mono HO329.out (fun _ hk => ⟨hk.2, ⟨hk.1.1.1.2, ⟨hk.1.1.2, hk.1.2⟩⟩⟩)), (by (with_reducible repeat (first | apply Kd.R_alloc | apply Kd.R_drewN | apply Kd.R_drew)); exact Kd.R_mono HO_288002.out (fun _ hk => ⟨hk.1.2, ⟨hk.2, ⟨hk.1.1.1, hk.1.1.2⟩⟩⟩)), (by (with_reducible repeat (first | apply Kd.R_alloc | apply Kd.R_drewN | apply Kd.R_drew)); exact Kd.R_mono HO_294002.out (fun _ hk => ⟨hk.1.2, ⟨hk.2, ⟨hk.1.1.1, hk.1.1.2⟩⟩⟩)), (by (with_reducible repeat (first | apply Kd.R_alloc | apply Kd.R_drewN | apply Kd.R_drew)); exact Kd.R_mono HO_304002.out (fun _ hk => ⟨hk.1.2, ⟨hk.2, ⟨hk.1.1.1, hk.1.1.2⟩⟩⟩)), (kx BK269.out), (kx BK270.out), (kx BK287.out), (kx BK293.out), (kx BK303.out), (kx BK331.out), GW331.out, GE331.out, NB269_331.out, NB331_269.out, NB270_331.out, NB331_270.out, NB287_331.out, NB331_287.out, NB293_331.out, NB331_293.out, NB303_331.out, NB331_303.out, (bx HB.out)⟩)
              ·skip
               refine box_step ?hg (N := 16) ?hd (cs := #[.int .i64 0, .int .i64 0, .slice none 0 0]) (t := 82) ?hr ?_; (case hd => rfl); (case hg => rfl); (case hr => first | (go_simp; done) | (go_simp; rfl))
               intro gb331 hg w144 hbox hb
               have n0_ := am (Kd.R_below (rx HO_288002.out) hb)
               have n1_ := am (Kd.R_below (rx HO_294002.out) hb)
               have n2_ := am (Kd.R_below (rx HO_304002.out) hb)
               have n3_ := am (Kd.R_below (rx HO321.out) hb)
               have n4_ := am (bb hb (kx BK269.out))
               have n5_ := am (bb hb (kx BK270.out))
               have n6_ := am (bb hb (kx BK287.out))
               have n7_ := am (bb hb (kx BK293.out))
               have n8_ := am (bb hb (kx BK303.out))
               have n9_ := am (below_step (bx HB.out) hb)
               have n10_ := am (hbox)
               have n11_ := am ((by rw [hg]; exact (below_size (bx HB.out)) : w.heap.size ≤ gb331))
               have n12_ := am ((by rw [hg]; exact (below_size (bx HB.out)) : w.heap.size ≤ gb331))
               have n13_ := am ((by rw [hg]; exact Nat.ne_of_lt (blk_lt (kx BK269.out)) : gb269 ≠ gb331))
               have n14_ := am ((by rw [hg]; exact Nat.ne_of_gt (blk_lt (kx BK269.out)) : gb331 ≠ gb269))
               have n15_ := am ((by rw [hg]; exact Nat.ne_of_lt (blk_lt (kx BK270.out)) : gb270 ≠ gb331))
               have n16_ := am ((by rw [hg]; exact Nat.ne_of_gt (blk_lt (kx BK270.out)) : gb331 ≠ gb270))
               have n17_ := am ((by rw [hg]; exact Nat.ne_of_lt (blk_lt (kx BK287.out)) : gb287 ≠ gb331))
               have n18_ := am ((by rw [hg]; exact Nat.ne_of_gt (blk_lt (kx BK287.out)) : gb331 ≠ gb287))
               have n19_ := am ((by rw [hg]; exact Nat.ne_of_lt (blk_lt (kx BK293.out)) : gb293 ≠ gb331))
               have n20_ := am ((by rw [hg]; exact Nat.ne_of_gt (blk_lt (kx BK293.out)) : gb331 ≠ gb293))
               have n21_ := am ((by rw [hg]; exact Nat.ne_of_lt (blk_lt (kx BK303.out)) : gb303 ≠ gb331))
               have n22_ := am ((by rw [hg]; exact Nat.ne_of_gt (blk_lt (kx BK303.out)) : gb331 ≠ gb303))
               clear HO_288002 HO_294002 HO_304002 HO321 BK269 BK270 BK287 BK293 BK303 HB
               have HO_288002 := n0_
               have HO_294002 := n1_
               have HO_304002 := n2_
               have HO321 := n3_
               have BK269 := n4_
               have BK270 := n5_
               have BK287 := n6_
               have BK293 := n7_
               have BK303 := n8_
               have HB := n9_
               have BK331 := n10_
               have GW331 := n11_
               have GE331 := n12_
               have NB269_331 := n13_
               have NB331_269 := n14_
               have NB270_331 := n15_
               have NB331_270 := n16_
               have NB287_331 := n17_
               have NB331_287 := n18_
               have NB293_331 := n19_
               have NB331_293 := n20_
               have NB303_331 := n21_
               have NB331_303 := n22_
               clear n0_ n1_ n2_ n3_ n4_ n5_ n6_ n7_ n8_ n9_ n10_ n11_ n12_ n13_ n14_ n15_ n16_ n17_ n18_ n19_ n20_ n21_ n22_ hb hbox hg
               refine hK.out _ _ ⟨ct BK269.out 0, ct BK269.out 1, ct BK269.out 2, ct BK270.out 0, ct BK270.out 1, ct BK270.out 2⟩ (fun hHeld => ?_)
               clear hK K
               refine norm_ (a' := ?_) ?_ ?_
               rotate_left
               ·show Act.put _ (some 16) _ = _
                simp only [Act.put, List.setIfInBounds_toArray, List.set_cons_zero, List.set_cons_succ, i64_w, i32_w]
                rfl
               refine one_ (i := 4) (N := some 93) #[true, true, true, true, true, false, false, false, false, true, false, false] rfl rfl (one_of HT_.out (by kernel_rfl)) (by decide) (fun K hK => ?_)
               refine goes_ Try.func62 (by kernel_rfl) rfl #[.agg #[.int .i64 a2_0, .int .i64 a2_1, .string a2_2]] (by rfl) rfl rfl (by (try simp only [List.map_toArray, List.map_cons, List.map_nil]); first | done | rfl | (simp only [List.length_drop, List.length_take]; rfl)) ?_
               with_reducible refine (laws_toEntry.calls a2_0 a2_1 a2_2 t322 t323 t324 _ A131.out).mono ?_
               rintro e w145 ⟨rfl, hb⟩
               refine ⟨_, rfl, ?_⟩
               have n0_ := am (Kd.R_below (rx HO_288002.out) hb)
               have n1_ := am (Kd.R_below (rx HO_294002.out) hb)
               have n2_ := am (Kd.R_below (rx HO_304002.out) hb)
               have n3_ := am (Kd.R_below (rx HO321.out) hb)
               have n4_ := am (bb hb (kx BK269.out))
               have n5_ := am (bb hb (kx BK270.out))
               have n6_ := am (bb hb (kx BK287.out))
               have n7_ := am (bb hb (kx BK293.out))
               have n8_ := am (bb hb (kx BK303.out))
               have n9_ := am (bb hb (kx BK331.out))
               have n10_ := am (below_step (bx HB.out) hb)
               clear HO_288002 HO_294002 HO_304002 HO321 BK269 BK270 BK287 BK293 BK303 BK331 HB
               have HO_288002 := n0_
               have HO_294002 := n1_
               have HO_304002 := n2_
               have HO321 := n3_
               have BK269 := n4_
               have BK270 := n5_
               have BK287 := n6_
               have BK293 := n7_
               have BK303 := n8_
               have BK331 := n9_
               have HB := n10_
               clear n0_ n1_ n2_ n3_ n4_ n5_ n6_ n7_ n8_ n9_ n10_
               (try clear hb)
               (try clear hb2)
               (try clear hk)
               (try clear hi)
               obtain ⟨Ao146, co146, eo146⟩ := Kd.R_slice HO321.out
               (first | subst eo146 | (injection eo146 with f1_ f2_ f3_; have f4_ := f1_.symm; have f5_ := f3_.symm; clear f1_ f2_ f3_; subst f4_; subst f5_))
               refine hK.out _ _ ⟨ct BK269.out 0, ct BK269.out 1, ct BK269.out 2, ct BK270.out 0, ct BK270.out 1, ct BK270.out 2⟩ (fun hHeld => ?_)
               clear hK K
               refine norm_ (a' := ?_) ?_ ?_
               rotate_left
               ·show Act.put _ (some 93) _ = _
                simp only [Act.put, List.setIfInBounds_toArray, List.set_cons_zero, List.set_cons_succ, i64_w, i32_w]
                rfl
               refine one_ (i := 5) (N := some 94) #[true, true, true, true, true, true, false, false, false, true, false, false] rfl rfl (one_of HT_.out (by kernel_rfl)) (by decide) (fun K hK => ?_)
               refine goes_ Try.func63 (by kernel_rfl) rfl #[.agg #[.int .i64 t317, .int .i64 t318, .slice Ao146 t319.length co146], .int .i64 a1, .agg #[.int .i64 t322, .int .i64 t323, .string t324]] (by rfl) rfl rfl (by (try simp only [List.map_toArray, List.map_cons, List.map_nil]); first | done | rfl | (simp only [List.length_drop, List.length_take]; rfl)) ?_
               with_reducible refine (impl_LogPut.calls kj90 t317 t318 _ _ t319 a1 t322 t323 t324 t325 t326 t327 t330 _ ?side1 ?side2 A132.out).mono ?_
               (case side1 => repeat (first | exact (Kd.R_reads' HO321.out).2.2 | (with_reducible refine Kd.C_alloc ?_ _) | (with_reducible refine Kd.C_drewN ?_ _) | (with_reducible refine Kd.C_drew ?_)))
               (case side2 => exact (Kd.R_reads' HO321.out).2.1)
               rintro e w147 ⟨v328, rfl, ho0, hb⟩
               refine ⟨_, rfl, ?_⟩
               have n0_ := am (Kd.R_elder' (rx HO_288002.out) (Kd.R_base ho0) hb)
               have n1_ := am (Kd.R_elder' (rx HO_294002.out) (Kd.R_base ho0) hb)
               have n2_ := am (Kd.R_elder' (rx HO_304002.out) (Kd.R_base ho0) hb)
               have n3_ := am (Kd.R_elder' (rx HO321.out) (Kd.R_base ho0) hb)
               have n4_ := am (Kd.R_lower (Kd.R_new' (Kd.R_new' (Kd.R_new' (Kd.R_new' ho0 (Kd.R_lt (rx HO_288002.out))) (Kd.R_lt (rx HO_294002.out))) (Kd.R_lt (rx HO_304002.out))) (Kd.R_lt (rx HO321.out))) (below_size (bx HB.out)))
               have n5_ := am (bb hb (kx BK269.out))
               have n6_ := am (bb hb (kx BK270.out))
               have n7_ := am (bb hb (kx BK287.out))
               have n8_ := am (bb hb (kx BK293.out))
               have n9_ := am (bb hb (kx BK303.out))
               have n10_ := am (bb hb (kx BK331.out))
               have n11_ := am (below_step (bx HB.out) hb)
               clear HO_288002 HO_294002 HO_304002 HO321 BK269 BK270 BK287 BK293 BK303 BK331 HB
               have HO_288002 := n0_
               have HO_294002 := n1_
               have HO_304002 := n2_
               have HO321 := n3_
               have HO329 := n4_
               have BK269 := n5_
               have BK270 := n6_
               have BK287 := n7_
               have BK293 := n8_
               have BK303 := n9_
               have BK331 := n10_
               have HB := n11_
               clear n0_ n1_ n2_ n3_ n4_ n5_ n6_ n7_ n8_ n9_ n10_ n11_
               (try clear hb)
               (try clear hb2)
               (try clear hk)
               (try clear hi)
               (try clear ho0)
               refine hK.out _ _ ⟨ct BK269.out 0, ct BK269.out 1, ct BK269.out 2, ct BK270.out 0, ct BK270.out 1, ct BK270.out 2⟩ (fun hHeld => ?_)
               clear hK K
               refine norm_ (a' := ?_) ?_ ?_
               rotate_left
               ·show Act.put _ (some 94) _ = _
                simp only [Act.put, List.setIfInBounds_toArray, List.set_cons_zero, List.set_cons_succ, i64_w, i32_w]
                rfl
               refine pure_ (i := 6) (N := some 88) (v := ?_) (a' := ?_) #[true, true, true, true, true, true, true, false, false, true, false, false] rfl rfl (any_of HT_.out (by kernel_rfl)) (fun _ _ _ h => h) (Or.inl ⟨by rfl, ?_⟩) ?_ ?_
               rotate_left
               ·intro w'
                go_simp
                with_reducible rfl
               rotate_left
               ·simp only [Act.put, List.setIfInBounds_toArray, List.set_cons_zero, List.set_cons_succ, i64_w, i32_w]
                rfl
               refine pure_ (i := 7) (N := some 95) (v := ?_) (a' := ?_) #[true, true, true, true, true, true, true, true, false, true, false, false] rfl rfl (any_of HT_.out (by kernel_rfl)) (fun _ _ _ h => h) (Or.inl ⟨by rfl, ?_⟩) ?_ ?_
               rotate_left
               ·intro w'
                go_simp
                with_reducible rfl
               rotate_left
               ·simp only [Act.put, List.setIfInBounds_toArray, List.set_cons_zero, List.set_cons_succ, i64_w, i32_w]
                rfl
               refine pure_ (i := 8) (N := some 96) (v := ?_) (a' := ?_) #[true, true, true, true, true, true, true, true, true, true, false, false] rfl rfl (any_of HT_.out (by kernel_rfl)) (fun _ _ _ h => h) (Or.inl ⟨by rfl, ?_⟩) ?_ ?_
               rotate_left
               ·intro w'
                go_simp
                with_reducible rfl
               rotate_left
               ·simp only [Act.put, List.setIfInBounds_toArray, List.set_cons_zero, List.set_cons_succ, i64_w, i32_w]
                rfl
               exact norm_ (by simp only [putAll, Act.put, List.setIfInBounds_toArray, List.set_cons_zero, List.set_cons_succ]) (hCont (.slice Ao146 t319.length co146, v328, gb331) _ ⟨hHeld, (by (with_reducible repeat (first | apply Kd.R_alloc | apply Kd.R_drewN | apply Kd.R_drew)); exact Kd.R_mono HO321.out (fun _ hk => ⟨hk.2, ⟨hk.1.1.1.2, ⟨hk.1.1.2, hk.1.2⟩⟩⟩)), (by (with_reducible repeat (first | apply Kd.R_alloc | apply Kd.R_drewN | apply Kd.R_drew)); exact Kd.R_mono HO329.out (fun _ hk => ⟨hk.2, ⟨hk.1.1.1.2, ⟨hk.1.1.2, hk.1.2⟩⟩⟩)), (by (with_reducible repeat (first | apply Kd.R_alloc | apply Kd.R_drewN | apply Kd.R_drew)); exact Kd.R_mono HO_288002.out (fun _ hk => ⟨hk.1.2, ⟨hk.2, ⟨hk.1.1.1, hk.1.1.2⟩⟩⟩)), (by (with_reducible repeat (first | apply Kd.R_alloc | apply Kd.R_drewN | apply Kd.R_drew)); exact Kd.R_mono HO_294002.out (fun _ hk => ⟨hk.1.2, ⟨hk.2, ⟨hk.1.1.1, hk.1.1.2⟩⟩⟩)), (by (with_reducible repeat (first | apply Kd.R_alloc | apply Kd.R_drewN | apply Kd.R_drew)); exact Kd.R_mono HO_304002.out (fun _ hk => ⟨hk.1.2, ⟨hk.2, ⟨hk.1.1.1, hk.1.1.2⟩⟩⟩)), (kx BK269.out), (kx BK270.out), (kx BK287.out), (kx BK293.out), (kx BK303.out), (kx BK331.out), GW331.out, GE331.out, NB269_331.out, NB331_269.out, NB270_331.out, NB331_270.out, NB287_331.out, NB331_287.out, NB293_331.out, NB331_293.out, NB303_331.out, NB331_303.out, (bx HB.out)⟩)
             ·skip
              refine box_step ?hg (N := 16) ?hd (cs := #[.int .i64 0, .int .i64 0, .slice none 0 0]) (t := 82) ?hr ?_; (case hd => rfl); (case hg => rfl); (case hr => first | (go_simp; done) | (go_simp; rfl))
              intro gb331 hg w143 hbox hb
              have n0_ := am (Kd.R_below (rx HO_288002.out) hb)
              have n1_ := am (Kd.R_below (rx HO_294002.out) hb)
              have n2_ := am (Kd.R_below (rx HO_304002.out) hb)
              have n3_ := am (bb hb (kx BK269.out))
              have n4_ := am (bb hb (kx BK270.out))
              have n5_ := am (bb hb (kx BK287.out))
              have n6_ := am (bb hb (kx BK293.out))
              have n7_ := am (bb hb (kx BK303.out))
              have n8_ := am (below_step (bx HB.out) hb)
              have n9_ := am (hbox)
              have n10_ := am ((by rw [hg]; exact (below_size (bx HB.out)) : w.heap.size ≤ gb331))
              have n11_ := am ((by rw [hg]; exact (below_size (bx HB.out)) : w.heap.size ≤ gb331))
              have n12_ := am ((by rw [hg]; exact Nat.ne_of_lt (blk_lt (kx BK269.out)) : gb269 ≠ gb331))
              have n13_ := am ((by rw [hg]; exact Nat.ne_of_gt (blk_lt (kx BK269.out)) : gb331 ≠ gb269))
              have n14_ := am ((by rw [hg]; exact Nat.ne_of_lt (blk_lt (kx BK270.out)) : gb270 ≠ gb331))
              have n15_ := am ((by rw [hg]; exact Nat.ne_of_gt (blk_lt (kx BK270.out)) : gb331 ≠ gb270))
              have n16_ := am ((by rw [hg]; exact Nat.ne_of_lt (blk_lt (kx BK287.out)) : gb287 ≠ gb331))
              have n17_ := am ((by rw [hg]; exact Nat.ne_of_gt (blk_lt (kx BK287.out)) : gb331 ≠ gb287))
              have n18_ := am ((by rw [hg]; exact Nat.ne_of_lt (blk_lt (kx BK293.out)) : gb293 ≠ gb331))
              have n19_ := am ((by rw [hg]; exact Nat.ne_of_gt (blk_lt (kx BK293.out)) : gb331 ≠ gb293))
              have n20_ := am ((by rw [hg]; exact Nat.ne_of_lt (blk_lt (kx BK303.out)) : gb303 ≠ gb331))
              have n21_ := am ((by rw [hg]; exact Nat.ne_of_gt (blk_lt (kx BK303.out)) : gb331 ≠ gb303))
              clear HO_288002 HO_294002 HO_304002 BK269 BK270 BK287 BK293 BK303 HB
              have HO_288002 := n0_
              have HO_294002 := n1_
              have HO_304002 := n2_
              have BK269 := n3_
              have BK270 := n4_
              have BK287 := n5_
              have BK293 := n6_
              have BK303 := n7_
              have HB := n8_
              have BK331 := n9_
              have GW331 := n10_
              have GE331 := n11_
              have NB269_331 := n12_
              have NB331_269 := n13_
              have NB270_331 := n14_
              have NB331_270 := n15_
              have NB287_331 := n16_
              have NB331_287 := n17_
              have NB293_331 := n18_
              have NB331_293 := n19_
              have NB303_331 := n20_
              have NB331_303 := n21_
              clear n0_ n1_ n2_ n3_ n4_ n5_ n6_ n7_ n8_ n9_ n10_ n11_ n12_ n13_ n14_ n15_ n16_ n17_ n18_ n19_ n20_ n21_ hb hbox hg
              refine hK.out _ _ ⟨ct BK269.out 0, ct BK269.out 1, ct BK269.out 2, ct BK270.out 0, ct BK270.out 1, ct BK270.out 2⟩ (fun hHeld => ?_)
              clear hK K
              refine norm_ (a' := ?_) ?_ ?_
              rotate_left
              ·show Act.put _ (some 16) _ = _
               simp only [Act.put, List.setIfInBounds_toArray, List.set_cons_zero, List.set_cons_succ, i64_w, i32_w]
               rfl
              refine one_ (i := 1) (N := some 90) #[true, true, true, true, false, false, false, false, false, true, false, false] rfl rfl (one_of HT_.out (by kernel_rfl)) (by decide) (fun K hK => ?_)
              refine goes_ Try.func55 (by kernel_rfl) rfl #[.agg #[.int .i64 a0_0, .int .i64 a0_1, .slice A0_2 l0_2.length c0_2]] (by rfl) rfl rfl (by (try simp only [List.map_toArray, List.map_cons, List.map_nil]); first | done | rfl | (simp only [List.length_drop, List.length_take]; rfl)) ?_
              with_reducible refine (laws_toLog.calls kj90 a0_0 a0_1 _ _ l0_2 t317 t318 t319 _ ?side1 ?side2 A130.out).mono ?_
              (case side1 => repeat (first | exact (Kd.C_below HR0_2.out HB.out) | (with_reducible refine Kd.C_alloc ?_ _) | (with_reducible refine Kd.C_drewN ?_ _) | (with_reducible refine Kd.C_drew ?_)))
              (case side2 => exact HC0_2.out)
              rintro e w144 ⟨v320, rfl, ho0, hb⟩
              refine ⟨_, rfl, ?_⟩
              have n0_ := am (Kd.R_elder' (rx HO_288002.out) (Kd.R_base ho0) hb)
              have n1_ := am (Kd.R_elder' (rx HO_294002.out) (Kd.R_base ho0) hb)
              have n2_ := am (Kd.R_elder' (rx HO_304002.out) (Kd.R_base ho0) hb)
              have n3_ := am (Kd.R_lower (Kd.R_new' (Kd.R_new' (Kd.R_new' ho0 (Kd.R_lt (rx HO_288002.out))) (Kd.R_lt (rx HO_294002.out))) (Kd.R_lt (rx HO_304002.out))) (below_size (bx HB.out)))
              have n4_ := am (bb hb (kx BK269.out))
              have n5_ := am (bb hb (kx BK270.out))
              have n6_ := am (bb hb (kx BK287.out))
              have n7_ := am (bb hb (kx BK293.out))
              have n8_ := am (bb hb (kx BK303.out))
              have n9_ := am (bb hb (kx BK331.out))
              have n10_ := am (below_step (bx HB.out) hb)
              clear HO_288002 HO_294002 HO_304002 BK269 BK270 BK287 BK293 BK303 BK331 HB
              have HO_288002 := n0_
              have HO_294002 := n1_
              have HO_304002 := n2_
              have HO321 := n3_
              have BK269 := n4_
              have BK270 := n5_
              have BK287 := n6_
              have BK293 := n7_
              have BK303 := n8_
              have BK331 := n9_
              have HB := n10_
              clear n0_ n1_ n2_ n3_ n4_ n5_ n6_ n7_ n8_ n9_ n10_
              (try clear hb)
              (try clear hb2)
              (try clear hk)
              (try clear hi)
              (try clear ho0)
              refine hK.out _ _ ⟨ct BK269.out 0, ct BK269.out 1, ct BK269.out 2, ct BK270.out 0, ct BK270.out 1, ct BK270.out 2⟩ (fun hHeld => ?_)
              clear hK K
              refine norm_ (a' := ?_) ?_ ?_
              rotate_left
              ·show Act.put _ (some 90) _ = _
               simp only [Act.put, List.setIfInBounds_toArray, List.set_cons_zero, List.set_cons_succ, i64_w, i32_w]
               rfl
              refine one_ (i := 4) (N := some 93) #[true, true, true, true, true, false, false, false, false, true, false, false] rfl rfl (one_of HT_.out (by kernel_rfl)) (by decide) (fun K hK => ?_)
              refine goes_ Try.func62 (by kernel_rfl) rfl #[.agg #[.int .i64 a2_0, .int .i64 a2_1, .string a2_2]] (by rfl) rfl rfl (by (try simp only [List.map_toArray, List.map_cons, List.map_nil]); first | done | rfl | (simp only [List.length_drop, List.length_take]; rfl)) ?_
              with_reducible refine (laws_toEntry.calls a2_0 a2_1 a2_2 t322 t323 t324 _ A131.out).mono ?_
              rintro e w145 ⟨rfl, hb⟩
              refine ⟨_, rfl, ?_⟩
              have n0_ := am (Kd.R_below (rx HO_288002.out) hb)
              have n1_ := am (Kd.R_below (rx HO_294002.out) hb)
              have n2_ := am (Kd.R_below (rx HO_304002.out) hb)
              have n3_ := am (Kd.R_below (rx HO321.out) hb)
              have n4_ := am (bb hb (kx BK269.out))
              have n5_ := am (bb hb (kx BK270.out))
              have n6_ := am (bb hb (kx BK287.out))
              have n7_ := am (bb hb (kx BK293.out))
              have n8_ := am (bb hb (kx BK303.out))
              have n9_ := am (bb hb (kx BK331.out))
              have n10_ := am (below_step (bx HB.out) hb)
              clear HO_288002 HO_294002 HO_304002 HO321 BK269 BK270 BK287 BK293 BK303 BK331 HB
              have HO_288002 := n0_
              have HO_294002 := n1_
              have HO_304002 := n2_
              have HO321 := n3_
              have BK269 := n4_
              have BK270 := n5_
              have BK287 := n6_
              have BK293 := n7_
              have BK303 := n8_
              have BK331 := n9_
              have HB := n10_
              clear n0_ n1_ n2_ n3_ n4_ n5_ n6_ n7_ n8_ n9_ n10_
              (try clear hb)
              (try clear hb2)
              (try clear hk)
              (try clear hi)
              obtain ⟨Ao146, co146, eo146⟩ := Kd.R_slice HO321.out
              (first | subst eo146 | (injection eo146 with f1_ f2_ f3_; have f4_ := f1_.symm; have f5_ := f3_.symm; clear f1_ f2_ f3_; subst f4_; subst f5_))
              refine hK.out _ _ ⟨ct BK269.out 0, ct BK269.out 1, ct BK269.out 2, ct BK270.out 0, ct BK270.out 1, ct BK270.out 2⟩ (fun hHeld => ?_)
              clear hK K
              refine norm_ (a' := ?_) ?_ ?_
              rotate_left
              ·show Act.put _ (some 93) _ = _
               simp only [Act.put, List.setIfInBounds_toArray, List.set_cons_zero, List.set_cons_succ, i64_w, i32_w]
               rfl
              refine one_ (i := 5) (N := some 94) #[true, true, true, true, true, true, false, false, false, true, false, false] rfl rfl (one_of HT_.out (by kernel_rfl)) (by decide) (fun K hK => ?_)
              refine goes_ Try.func63 (by kernel_rfl) rfl #[.agg #[.int .i64 t317, .int .i64 t318, .slice Ao146 t319.length co146], .int .i64 a1, .agg #[.int .i64 t322, .int .i64 t323, .string t324]] (by rfl) rfl rfl (by (try simp only [List.map_toArray, List.map_cons, List.map_nil]); first | done | rfl | (simp only [List.length_drop, List.length_take]; rfl)) ?_
              with_reducible refine (impl_LogPut.calls kj90 t317 t318 _ _ t319 a1 t322 t323 t324 t325 t326 t327 t330 _ ?side1 ?side2 A132.out).mono ?_
              (case side1 => repeat (first | exact (Kd.R_reads' HO321.out).2.2 | (with_reducible refine Kd.C_alloc ?_ _) | (with_reducible refine Kd.C_drewN ?_ _) | (with_reducible refine Kd.C_drew ?_)))
              (case side2 => exact (Kd.R_reads' HO321.out).2.1)
              rintro e w147 ⟨v328, rfl, ho0, hb⟩
              refine ⟨_, rfl, ?_⟩
              have n0_ := am (Kd.R_elder' (rx HO_288002.out) (Kd.R_base ho0) hb)
              have n1_ := am (Kd.R_elder' (rx HO_294002.out) (Kd.R_base ho0) hb)
              have n2_ := am (Kd.R_elder' (rx HO_304002.out) (Kd.R_base ho0) hb)
              have n3_ := am (Kd.R_elder' (rx HO321.out) (Kd.R_base ho0) hb)
              have n4_ := am (Kd.R_lower (Kd.R_new' (Kd.R_new' (Kd.R_new' (Kd.R_new' ho0 (Kd.R_lt (rx HO_288002.out))) (Kd.R_lt (rx HO_294002.out))) (Kd.R_lt (rx HO_304002.out))) (Kd.R_lt (rx HO321.out))) (below_size (bx HB.out)))
              have n5_ := am (bb hb (kx BK269.out))
              have n6_ := am (bb hb (kx BK270.out))
              have n7_ := am (bb hb (kx BK287.out))
              have n8_ := am (bb hb (kx BK293.out))
              have n9_ := am (bb hb (kx BK303.out))
              have n10_ := am (bb hb (kx BK331.out))
              have n11_ := am (below_step (bx HB.out) hb)
              clear HO_288002 HO_294002 HO_304002 HO321 BK269 BK270 BK287 BK293 BK303 BK331 HB
              have HO_288002 := n0_
              have HO_294002 := n1_
              have HO_304002 := n2_
              have HO321 := n3_
              have HO329 := n4_
              have BK269 := n5_
              have BK270 := n6_
              have BK287 := n7_
              have BK293 := n8_
              have BK303 := n9_
              have BK331 := n10_
              have HB := n11_
              clear n0_ n1_ n2_ n3_ n4_ n5_ n6_ n7_ n8_ n9_ n10_ n11_
              (try clear hb)
              (try clear hb2)
              (try clear hk)
              (try clear hi)
              (try clear ho0)
              refine hK.out _ _ ⟨ct BK269.out 0, ct BK269.out 1, ct BK269.out 2, ct BK270.out 0, ct BK270.out 1, ct BK270.out 2⟩ (fun hHeld => ?_)
              clear hK K
              refine norm_ (a' := ?_) ?_ ?_
              rotate_left
              ·show Act.put _ (some 94) _ = _
               simp only [Act.put, List.setIfInBounds_toArray, List.set_cons_zero, List.set_cons_succ, i64_w, i32_w]
               rfl
              refine pure_ (i := 6) (N := some 88) (v := ?_) (a' := ?_) #[true, true, true, true, true, true, true, false, false, true, false, false] rfl rfl (any_of HT_.out (by kernel_rfl)) (fun _ _ _ h => h) (Or.inl ⟨by rfl, ?_⟩) ?_ ?_
              rotate_left
              ·intro w'
               go_simp
               with_reducible rfl
              rotate_left
              ·simp only [Act.put, List.setIfInBounds_toArray, List.set_cons_zero, List.set_cons_succ, i64_w, i32_w]
               rfl
              refine pure_ (i := 7) (N := some 95) (v := ?_) (a' := ?_) #[true, true, true, true, true, true, true, true, false, true, false, false] rfl rfl (any_of HT_.out (by kernel_rfl)) (fun _ _ _ h => h) (Or.inl ⟨by rfl, ?_⟩) ?_ ?_
              rotate_left
              ·intro w'
               go_simp
               with_reducible rfl
              rotate_left
              ·simp only [Act.put, List.setIfInBounds_toArray, List.set_cons_zero, List.set_cons_succ, i64_w, i32_w]
               rfl
              refine pure_ (i := 8) (N := some 96) (v := ?_) (a' := ?_) #[true, true, true, true, true, true, true, true, true, true, false, false] rfl rfl (any_of HT_.out (by kernel_rfl)) (fun _ _ _ h => h) (Or.inl ⟨by rfl, ?_⟩) ?_ ?_
              rotate_left
              ·intro w'
               go_simp
               with_reducible rfl
              rotate_left
              ·simp only [Act.put, List.setIfInBounds_toArray, List.set_cons_zero, List.set_cons_succ, i64_w, i32_w]
               rfl
              exact norm_ (by simp only [putAll, Act.put, List.setIfInBounds_toArray, List.set_cons_zero, List.set_cons_succ]) (hCont (.slice Ao146 t319.length co146, v328, gb331) _ ⟨hHeld, (by (with_reducible repeat (first | apply Kd.R_alloc | apply Kd.R_drewN | apply Kd.R_drew)); exact Kd.R_mono HO321.out (fun _ hk => ⟨hk.2, ⟨hk.1.1.1.2, ⟨hk.1.1.2, hk.1.2⟩⟩⟩)), (by (with_reducible repeat (first | apply Kd.R_alloc | apply Kd.R_drewN | apply Kd.R_drew)); exact Kd.R_mono HO329.out (fun _ hk => ⟨hk.2, ⟨hk.1.1.1.2, ⟨hk.1.1.2, hk.1.2⟩⟩⟩)), (by (with_reducible repeat (first | apply Kd.R_alloc | apply Kd.R_drewN | apply Kd.R_drew)); exact Kd.R_mono HO_288002.out (fun _ hk => ⟨hk.1.2, ⟨hk.2, ⟨hk.1.1.1, hk.1.1.2⟩⟩⟩)), (by (with_reducible repeat (first | apply Kd.R_alloc | apply Kd.R_drewN | apply Kd.R_drew)); exact Kd.R_mono HO_294002.out (fun _ hk => ⟨hk.1.2, ⟨hk.2, ⟨hk.1.1.1, hk.1.1.2⟩⟩⟩)), (by (with_reducible repeat (first | apply Kd.R_alloc | apply Kd.R_drewN | apply Kd.R_drew)); exact Kd.R_mono HO_304002.out (fun _ hk => ⟨hk.1.2, ⟨hk.2, ⟨hk.1.1.1, hk.1.1.2⟩⟩⟩)), (kx BK269.out), (kx BK270.out), (kx BK287.out), (kx BK293.out), (kx BK303.out), (kx BK331.out), GW331.out, GE331.out, NB269_331.out, NB331_269.out, NB270_331.out, NB331_270.out, NB287_331.out, NB331_287.out, NB293_331.out, NB331_293.out, NB303_331.out, NB331_303.out, (bx HB.out)⟩)
            rintro ⟨v320, v328, gb331⟩ w148 ⟨hS_, h0_, h1_, h2_, h3_, h4_, h5_, h6_, h7_, h8_, h9_, h10_, h11_, h12_, h13_, h14_, h15_, h16_, h17_, h18_, h19_, h20_, h21_, h22_, h23_⟩
            have n0_ : Aside0 (Kd.R k67 67 w148 w.heap.size (fun k_ => some k_ ≠ (v328 : Value).ownBlock ∧ some k_ ≠ (.slice Ao43 t283.length co43 : Value).ownBlock ∧ some k_ ≠ (.slice Ao53 t312.length co53 : Value).ownBlock ∧ some k_ ≠ (.slice Ao62 t299.length co62 : Value).ownBlock) v320 t319) := ⟨h0_⟩
            have n1_ : Aside0 (Kd.R k67 67 w148 w.heap.size (fun k_ => some k_ ≠ (v320 : Value).ownBlock ∧ some k_ ≠ (.slice Ao43 t283.length co43 : Value).ownBlock ∧ some k_ ≠ (.slice Ao53 t312.length co53 : Value).ownBlock ∧ some k_ ≠ (.slice Ao62 t299.length co62 : Value).ownBlock) v328 t327) := ⟨h1_⟩
            have n2_ : Aside0 (Kd.R k67 67 w148 w.heap.size (fun k_ => some k_ ≠ (v320 : Value).ownBlock ∧ some k_ ≠ (v328 : Value).ownBlock ∧ some k_ ≠ (.slice Ao53 t312.length co53 : Value).ownBlock ∧ some k_ ≠ (.slice Ao62 t299.length co62 : Value).ownBlock) (.slice Ao43 t283.length co43) t283) := ⟨h2_⟩
            have n3_ : Aside0 (Kd.R k67 67 w148 w.heap.size (fun k_ => some k_ ≠ (v320 : Value).ownBlock ∧ some k_ ≠ (v328 : Value).ownBlock ∧ some k_ ≠ (.slice Ao43 t283.length co43 : Value).ownBlock ∧ some k_ ≠ (.slice Ao62 t299.length co62 : Value).ownBlock) (.slice Ao53 t312.length co53) t312) := ⟨h3_⟩
            have n4_ : Aside0 (Kd.R k67 67 w148 w.heap.size (fun k_ => some k_ ≠ (v320 : Value).ownBlock ∧ some k_ ≠ (v328 : Value).ownBlock ∧ some k_ ≠ (.slice Ao43 t283.length co43 : Value).ownBlock ∧ some k_ ≠ (.slice Ao53 t312.length co53 : Value).ownBlock) (.slice Ao62 t299.length co62) t315) := ⟨h4_⟩
            have n5_ : Aside0 (w148.heap[gb269]? = some (.cells #[.int .i64 a0_0, .int .i64 a0_1, .slice A0_2 l0_2.length c0_2] 78 (0, 0))) := ⟨h5_⟩
            have n6_ : Aside0 (w148.heap[gb270]? = some (.cells #[.int .i64 a2_0, .int .i64 a2_1, .string a2_2] 88 (0, 0))) := ⟨h6_⟩
            have n7_ : Aside0 (w148.heap[gb287]? = some (.cells #[.int .i64 t281, .int .i64 t282, .slice Ao43 t283.length co43] 82 (0, 0))) := ⟨h7_⟩
            have n8_ : Aside0 (w148.heap[gb293]? = some (.cells #[.int .i64 t288, .int .i64 t289, .slice Ao53 t312.length co53] 82 (0, 0))) := ⟨h8_⟩
            have n9_ : Aside0 (w148.heap[gb303]? = some (.cells #[.int .i64 t297, .int .i64 t298, .slice Ao62 t299.length co62] 82 (0, 0))) := ⟨h9_⟩
            have n10_ : Aside0 (w148.heap[gb331]? = some (.cells #[.int .i64 0, .int .i64 0, .slice none 0 0] 82 (0, 0))) := ⟨h10_⟩
            have n11_ : Aside0 (w.heap.size ≤ gb331) := ⟨h11_⟩
            have n12_ : Aside0 (w.heap.size ≤ gb331) := ⟨h12_⟩
            have n13_ : Aside0 (gb269 ≠ gb331) := ⟨h13_⟩
            have n14_ : Aside0 (gb331 ≠ gb269) := ⟨h14_⟩
            have n15_ : Aside0 (gb270 ≠ gb331) := ⟨h15_⟩
            have n16_ : Aside0 (gb331 ≠ gb270) := ⟨h16_⟩
            have n17_ : Aside0 (gb287 ≠ gb331) := ⟨h17_⟩
            have n18_ : Aside0 (gb331 ≠ gb287) := ⟨h18_⟩
            have n19_ : Aside0 (gb293 ≠ gb331) := ⟨h19_⟩
            have n20_ : Aside0 (gb331 ≠ gb293) := ⟨h20_⟩
            have n21_ : Aside0 (gb303 ≠ gb331) := ⟨h21_⟩
            have n22_ : Aside0 (gb331 ≠ gb303) := ⟨h22_⟩
            have n23_ : Aside0 (Below w.heap.size w w148) := ⟨h23_⟩
            clear HO_288002 HO_294002 HO_304002 BK269 BK270 BK287 BK293 BK303 HB h0_ h1_ h2_ h3_ h4_ h5_ h6_ h7_ h8_ h9_ h10_ h11_ h12_ h13_ h14_ h15_ h16_ h17_ h18_ h19_ h20_ h21_ h22_ h23_
            have HO321 := n0_
            have HO329 := n1_
            have HO_288002 := n2_
            have HO_294002 := n3_
            have HO_304002 := n4_
            have BK269 := n5_
            have BK270 := n6_
            have BK287 := n7_
            have BK293 := n8_
            have BK303 := n9_
            have BK331 := n10_
            have GW331 := n11_
            have GE331 := n12_
            have NB269_331 := n13_
            have NB331_269 := n14_
            have NB270_331 := n15_
            have NB331_270 := n16_
            have NB287_331 := n17_
            have NB331_287 := n18_
            have NB293_331 := n19_
            have NB331_293 := n20_
            have NB303_331 := n21_
            have NB331_303 := n22_
            have HB := n23_
            clear n0_ n1_ n2_ n3_ n4_ n5_ n6_ n7_ n8_ n9_ n10_ n11_ n12_ n13_ n14_ n15_ n16_ n17_ n18_ n19_ n20_ n21_ n22_ n23_
            have hHeld : w148.cell? ⟨gb269, 0, none⟩ = some (.int .i64 a0_0) ∧ w148.cell? ⟨gb269, 1, none⟩ = some (.int .i64 a0_1) ∧ w148.cell? ⟨gb269, 2, none⟩ = some (.slice A0_2 l0_2.length c0_2) ∧ w148.cell? ⟨gb270, 0, none⟩ = some (.int .i64 a2_0) ∧ w148.cell? ⟨gb270, 1, none⟩ = some (.int .i64 a2_1) ∧ w148.cell? ⟨gb270, 2, none⟩ = some (.string a2_2) := hS_
            obtain ⟨Ao151, co151, eo151⟩ := Kd.R_slice HO329.out
            (first | subst eo151 | (injection eo151 with f1_ f2_ f3_; have f4_ := f1_.symm; have f5_ := f3_.symm; clear f1_ f2_ f3_; subst f4_; subst f5_))
            refine norm_ (a' := ?_) ?_ ?_
            rotate_left
            ·simp only [putAll, Act.put, List.setIfInBounds_toArray, List.set_cons_zero, List.set_cons_succ]
             rfl
            refine one_ (i := 10) (N := none) #[true, true, true, true, true, true, true, true, true, true, true, false] rfl rfl (one_of HT_.out (by kernel_rfl)) (by decide) (fun K hK => ?_)
            have hs149 : w148.cell? ⟨gb331, 0, none⟩ = some (.int .i64 0) := ct BK331.out 0
            have hfs149 := blk_frozen BK331.out 0
            have hns149_0 := NB269_331.out
            have hns149_1 := NB270_331.out
            have hns149_2 := NB287_331.out
            have hns149_3 := NB293_331.out
            have hns149_4 := NB303_331.out
            have hms149_0 := NB331_269.out
            have hms149_1 := NB331_270.out
            have hms149_2 := NB331_287.out
            have hms149_3 := NB331_293.out
            have hms149_4 := NB331_303.out
            have hs150 : w148.cell? ⟨gb331, 1, none⟩ = some (.int .i64 0) := ct BK331.out 1
            have hfs150 := blk_frozen BK331.out 1
            have hns150_0 := NB269_331.out
            have hns150_1 := NB270_331.out
            have hns150_2 := NB287_331.out
            have hns150_3 := NB293_331.out
            have hns150_4 := NB303_331.out
            have hms150_0 := NB331_269.out
            have hms150_1 := NB331_270.out
            have hms150_2 := NB331_287.out
            have hms150_3 := NB331_293.out
            have hms150_4 := NB331_303.out
            have hs152 : w148.cell? ⟨gb331, 2, none⟩ = some (.slice none 0 0) := ct BK331.out 2
            have hfs152 := blk_frozen BK331.out 2
            have hns152_0 := NB269_331.out
            have hns152_1 := NB270_331.out
            have hns152_2 := NB287_331.out
            have hns152_3 := NB293_331.out
            have hns152_4 := NB303_331.out
            have hms152_0 := NB331_269.out
            have hms152_1 := NB331_270.out
            have hms152_2 := NB331_287.out
            have hms152_3 := NB331_293.out
            have hms152_4 := NB331_303.out
            refine skip_ (w1 := ?_) (by rfl) rfl ?_ ?_
            rotate_left
            ·go_simp
             rfl
            refine hK.out _ _ ⟨((cell_far (p := ⟨gb331, _, none⟩) NB269_331.out _).trans (((cell_far (p := ⟨gb331, _, none⟩) NB269_331.out _).trans (((cell_far (p := ⟨gb331, _, none⟩) NB269_331.out _).trans (hHeld.1)))))), ((cell_far (p := ⟨gb331, _, none⟩) NB269_331.out _).trans (((cell_far (p := ⟨gb331, _, none⟩) NB269_331.out _).trans (((cell_far (p := ⟨gb331, _, none⟩) NB269_331.out _).trans (hHeld.2.1)))))), ((cell_far (p := ⟨gb331, _, none⟩) NB269_331.out _).trans (((cell_far (p := ⟨gb331, _, none⟩) NB269_331.out _).trans (((cell_far (p := ⟨gb331, _, none⟩) NB269_331.out _).trans (hHeld.2.2.1)))))), ((cell_far (p := ⟨gb331, _, none⟩) NB270_331.out _).trans (((cell_far (p := ⟨gb331, _, none⟩) NB270_331.out _).trans (((cell_far (p := ⟨gb331, _, none⟩) NB270_331.out _).trans (hHeld.2.2.2.1)))))), ((cell_far (p := ⟨gb331, _, none⟩) NB270_331.out _).trans (((cell_far (p := ⟨gb331, _, none⟩) NB270_331.out _).trans (((cell_far (p := ⟨gb331, _, none⟩) NB270_331.out _).trans (hHeld.2.2.2.2.1)))))), ((cell_far (p := ⟨gb331, _, none⟩) NB270_331.out _).trans (((cell_far (p := ⟨gb331, _, none⟩) NB270_331.out _).trans (((cell_far (p := ⟨gb331, _, none⟩) NB270_331.out _).trans (hHeld.2.2.2.2.2))))))⟩ (fun hHeld => ?_)
            clear hK K
            refine pure_ (i := 11) (N := some 17) (v := ?_) (a' := ?_) #[true, true, true, true, true, true, true, true, true, true, true, true] rfl rfl (any_of HT_.out (by kernel_rfl)) (fun _ _ _ h => h) (Or.inl ⟨by rfl, ?_⟩) ?_ ?_
            rotate_left
            ·intro w'
             go_simp
             with_reducible rfl
            rotate_left
            ·simp only [Act.put, List.setIfInBounds_toArray, List.set_cons_zero, List.set_cons_succ, i64_w, i32_w]
             rfl
            refine done_ (done_of HT_.out (by kernel_rfl)) ?_
            go_upto_region 28 with (fail)
            go_cut [105] (fun v105 wc => ∃ (kq : Nat) (x105_132 : Bool), v105 = .bool x105_132 ∧ Aside0 (laws_FnExactLogPut.j2 kq t314 x105_132 t297 t298 t315 = some r) ∧ Aside0 (kq ≤ kj90) ∧ Aside0 (Kd.R k67 67 wc w.heap.size (fun k_ => some k_ ≠ ((.slice Ao53 t312.length co53) : Value).ownBlock ∧ some k_ ≠ ((.slice Ao62 t299.length co62) : Value).ownBlock ∧ some k_ ≠ ((.slice Ao151 t327.length co151) : Value).ownBlock) (.slice Ao43 t283.length co43) t283) ∧ Aside0 (Kd.R k67 67 wc w.heap.size (fun k_ => some k_ ≠ ((.slice Ao43 t283.length co43) : Value).ownBlock ∧ some k_ ≠ ((.slice Ao62 t299.length co62) : Value).ownBlock ∧ some k_ ≠ ((.slice Ao151 t327.length co151) : Value).ownBlock) (.slice Ao53 t312.length co53) t312) ∧ Aside0 (Kd.R k67 67 wc w.heap.size (fun k_ => some k_ ≠ ((.slice Ao43 t283.length co43) : Value).ownBlock ∧ some k_ ≠ ((.slice Ao53 t312.length co53) : Value).ownBlock ∧ some k_ ≠ ((.slice Ao151 t327.length co151) : Value).ownBlock) (.slice Ao62 t299.length co62) t315) ∧ Aside0 (Kd.R k67 67 wc w.heap.size (fun k_ => some k_ ≠ ((.slice Ao43 t283.length co43) : Value).ownBlock ∧ some k_ ≠ ((.slice Ao53 t312.length co53) : Value).ownBlock ∧ some k_ ≠ ((.slice Ao62 t299.length co62) : Value).ownBlock) (.slice Ao151 t327.length co151) t327) ∧ Aside0 (wc.heap[gb269]? = some (.cells #[.int .i64 a0_0, .int .i64 a0_1, (.slice A0_2 l0_2.length c0_2)] 78 (0, 0))) ∧ Aside0 (wc.heap[gb270]? = some (.cells #[.int .i64 a2_0, .int .i64 a2_1, .string a2_2] 88 (0, 0))) ∧ Aside0 (wc.heap[gb287]? = some (.cells #[.int .i64 t281, .int .i64 t282, (.slice Ao43 t283.length co43)] 82 (0, 0))) ∧ Aside0 (wc.heap[gb293]? = some (.cells #[.int .i64 t288, .int .i64 t289, (.slice Ao53 t312.length co53)] 82 (0, 0))) ∧ Aside0 (wc.heap[gb303]? = some (.cells #[.int .i64 t297, .int .i64 t298, (.slice Ao62 t299.length co62)] 82 (0, 0))) ∧ Aside0 (wc.heap[gb331]? = some (.cells #[.int .i64 t325, .int .i64 t326, (.slice Ao151 t327.length co151)] 82 (0, 0))) ∧ Aside0 (Below w.heap.size w wc))
            case first =>
             have H := HC133.out
             clear HC133
             replace H := Option.bind_eq_some_iff.mp H
             obtain ⟨t332, A1530, H⟩ := H
             try dsimp only at H
             have A153 := Aside0.mk A1530
             clear A1530
             by_cases c154 : t332 = true
             ·subst c154
              have H1 : (laws_FnExactLogPut.j2 kj90 t314 (t330 != t286) t297 t298 t315) = some r := by rw [if_pos rfl] at H; exact H
              clear H
              have H := H1
              clear H1
              have H' := Aside0.mk H
              clear H
              have hnb155 := NB331_269.out
              have hnc155 := NB269_331.out
              have hnb156 := NB331_270.out
              have hnc156 := NB270_331.out
              have hnb157 := NB331_287.out
              have hnc157 := NB287_331.out
              have hnb158 := NB331_293.out
              have hnc158 := NB293_331.out
              have hnb159 := NB331_303.out
              have hnc159 := NB303_331.out
              have hcz160_0 : w148.cell? ⟨gb331, 0, none⟩ = some (.int .i64 0) := ct BK331.out 0
              have hcz160_1 : w148.cell? ⟨gb331, 1, none⟩ = some (.int .i64 0) := ct BK331.out 1
              have hcz160_2 : w148.cell? ⟨gb331, 2, none⟩ = some (.slice none 0 0) := ct BK331.out 2
              have hfz160_0 := blk_frozen BK331.out 0
              have hfz160_1 := blk_frozen BK331.out 1
              have hfz160_2 := blk_frozen BK331.out 2
              have hnb161 := NB287_269.out
              have hnc161 := NB269_287.out
              have hnb162 := NB287_270.out
              have hnc162 := NB270_287.out
              have hnb163 := NB287_293.out
              have hnc163 := NB293_287.out
              have hnb164 := NB287_303.out
              have hnc164 := NB303_287.out
              have hcz165_0 : w148.cell? ⟨gb287, 0, none⟩ = some (.int .i64 t281) := ct BK287.out 0
              have hcz165_1 : w148.cell? ⟨gb287, 1, none⟩ = some (.int .i64 t282) := ct BK287.out 1
              have hcz165_2 : w148.cell? ⟨gb287, 2, none⟩ = some (.slice Ao43 t283.length co43) := ct BK287.out 2
              have hfz165_0 := blk_frozen BK287.out 0
              have hfz165_1 := blk_frozen BK287.out 1
              have hfz165_2 := blk_frozen BK287.out 2
              go_wp2_with (first | ((with_reducible refine gate_callee (f := 57) rfl ?_); refine goesL_ (some 99) rfl rfl Try.func57 (by kernel_rfl) rfl #[.agg #[.int .i64 t325, .int .i64 t326, .slice Ao151 t327.length co151], .agg #[.int .i64 t281, .int .i64 t282, .slice Ao43 t283.length co43]] rfl (by (try simp only [List.map_toArray, List.map_cons, List.map_nil]); first | done | rfl | (simp only [List.length_drop, List.length_take]; rfl)) ?_; (with_reducible refine (laws_eqLog.calls kj90 t325 t326 _ _ t327 t281 t282 _ _ t283 true _ ?side1 ?side2 ?side3 ?side4 A153.out).mono ?_); (case side1 => refine (Kd.R_reads' (e := 67) (base := w.heap.size) (ok := fun k_ => (some k_ ≠ (v320 : Value).ownBlock ∧ (some k_ ≠ (.slice Ao43 t283.length co43 : Value).ownBlock ∧ (some k_ ≠ (.slice Ao53 t312.length co53 : Value).ownBlock ∧ some k_ ≠ (.slice Ao62 t299.length co62 : Value).ownBlock)))) (n := t327.length) (c := co151) ?_).2.2; exact (by (with_reducible repeat (first | apply Kd.R_alloc | apply Kd.R_drewN | apply Kd.R_drew)); exact (Kd.R_mono (Kd.R_far (p := ⟨gb331, 2, none⟩) (Kd.R_far (p := ⟨gb331, 1, none⟩) (Kd.R_far (p := ⟨gb331, 0, none⟩) (Kd.R_types HO329.out BK331.out (by decide)) (fun _ hk => hk.2) (.int .i64 t325)) (fun _ hk => hk.2) (.int .i64 t326)) (fun _ hk => hk.2) (.slice Ao151 t327.length co151)) (fun _ h_ => h_.1)))); (case side2 => exact (Kd.R_reads' HO329.out).2.1); (case side3 => refine (Kd.R_reads' (e := 67) (base := w.heap.size) (ok := fun k_ => (some k_ ≠ (v320 : Value).ownBlock ∧ (some k_ ≠ (.slice Ao151 t327.length co151 : Value).ownBlock ∧ (some k_ ≠ (.slice Ao53 t312.length co53 : Value).ownBlock ∧ some k_ ≠ (.slice Ao62 t299.length co62 : Value).ownBlock)))) (n := t283.length) (c := co43) ?_).2.2; exact (by (with_reducible repeat (first | apply Kd.R_alloc | apply Kd.R_drewN | apply Kd.R_drew)); exact (Kd.R_mono (Kd.R_far (p := ⟨gb331, 2, none⟩) (Kd.R_far (p := ⟨gb331, 1, none⟩) (Kd.R_far (p := ⟨gb331, 0, none⟩) (Kd.R_types HO_288002.out BK331.out (by decide)) (fun _ hk => hk.2) (.int .i64 t325)) (fun _ hk => hk.2) (.int .i64 t326)) (fun _ hk => hk.2) (.slice Ao151 t327.length co151)) (fun _ h_ => h_.1)))); (case side4 => exact (Kd.R_reads' HO_288002.out).2.1); rintro e w166 ⟨rfl, hb⟩; refine ⟨_, rfl, ?_⟩; have n0_ := am (Kd.R_below (by (with_reducible repeat (first | apply Kd.R_alloc | apply Kd.R_drewN | apply Kd.R_drew)); exact (Kd.R_mono (Kd.R_far (p := ⟨gb331, 2, none⟩) (Kd.R_far (p := ⟨gb331, 1, none⟩) (Kd.R_far (p := ⟨gb331, 0, none⟩) (Kd.R_types HO_288002.out BK331.out (by decide)) (fun _ hk => hk.2) (.int .i64 t325)) (fun _ hk => hk.2) (.int .i64 t326)) (fun _ hk => hk.2) (.slice Ao151 t327.length co151)) (fun _ h_ => h_.1))) hb); have n1_ := am (Kd.R_below (by (with_reducible repeat (first | apply Kd.R_alloc | apply Kd.R_drewN | apply Kd.R_drew)); exact (Kd.R_mono (Kd.R_far (p := ⟨gb331, 2, none⟩) (Kd.R_far (p := ⟨gb331, 1, none⟩) (Kd.R_far (p := ⟨gb331, 0, none⟩) (Kd.R_types HO_294002.out BK331.out (by decide)) (fun _ hk => hk.2) (.int .i64 t325)) (fun _ hk => hk.2) (.int .i64 t326)) (fun _ hk => hk.2) (.slice Ao151 t327.length co151)) (fun _ h_ => h_.1))) hb); have n2_ := am (Kd.R_below (by (with_reducible repeat (first | apply Kd.R_alloc | apply Kd.R_drewN | apply Kd.R_drew)); exact (Kd.R_mono (Kd.R_far (p := ⟨gb331, 2, none⟩) (Kd.R_far (p := ⟨gb331, 1, none⟩) (Kd.R_far (p := ⟨gb331, 0, none⟩) (Kd.R_types HO_304002.out BK331.out (by decide)) (fun _ hk => hk.2) (.int .i64 t325)) (fun _ hk => hk.2) (.int .i64 t326)) (fun _ hk => hk.2) (.slice Ao151 t327.length co151)) (fun _ h_ => h_.1))) hb); have n3_ := am (Kd.R_below (by (with_reducible repeat (first | apply Kd.R_alloc | apply Kd.R_drewN | apply Kd.R_drew)); exact (Kd.R_mono (Kd.R_far (p := ⟨gb331, 2, none⟩) (Kd.R_far (p := ⟨gb331, 1, none⟩) (Kd.R_far (p := ⟨gb331, 0, none⟩) (Kd.R_types HO321.out BK331.out (by decide)) (fun _ hk => hk.2) (.int .i64 t325)) (fun _ hk => hk.2) (.int .i64 t326)) (fun _ hk => hk.2) (.slice Ao151 t327.length co151)) (fun _ h_ => h_.1))) hb); have n4_ := am (Kd.R_below (by (with_reducible repeat (first | apply Kd.R_alloc | apply Kd.R_drewN | apply Kd.R_drew)); exact (Kd.R_mono (Kd.R_far (p := ⟨gb331, 2, none⟩) (Kd.R_far (p := ⟨gb331, 1, none⟩) (Kd.R_far (p := ⟨gb331, 0, none⟩) (Kd.R_types HO329.out BK331.out (by decide)) (fun _ hk => hk.2) (.int .i64 t325)) (fun _ hk => hk.2) (.int .i64 t326)) (fun _ hk => hk.2) (.slice Ao151 t327.length co151)) (fun _ h_ => h_.1))) hb); have n5_ := am (blk_below (g := gb269) (o := .cells #[.int .i64 a0_0, .int .i64 a0_1, .slice A0_2 l0_2.length c0_2] 78 (0, 0)) (by (with_reducible repeat (first | refine blk_drewN ?_ _ | refine blk_drew ?_ | refine blk_alloc ?_ _)); refine blk_far ?_ NB269_331.out _; (with_reducible repeat (first | refine blk_drewN ?_ _ | refine blk_drew ?_ | refine blk_alloc ?_ _)); refine blk_far ?_ NB269_331.out _; (with_reducible repeat (first | refine blk_drewN ?_ _ | refine blk_drew ?_ | refine blk_alloc ?_ _)); refine blk_far ?_ NB269_331.out _; (with_reducible repeat (first | refine blk_drewN ?_ _ | refine blk_drew ?_ | refine blk_alloc ?_ _)); exact BK269.out) hb); have n6_ := am (blk_below (g := gb270) (o := .cells #[.int .i64 a2_0, .int .i64 a2_1, .string a2_2] 88 (0, 0)) (by (with_reducible repeat (first | refine blk_drewN ?_ _ | refine blk_drew ?_ | refine blk_alloc ?_ _)); refine blk_far ?_ NB270_331.out _; (with_reducible repeat (first | refine blk_drewN ?_ _ | refine blk_drew ?_ | refine blk_alloc ?_ _)); refine blk_far ?_ NB270_331.out _; (with_reducible repeat (first | refine blk_drewN ?_ _ | refine blk_drew ?_ | refine blk_alloc ?_ _)); refine blk_far ?_ NB270_331.out _; (with_reducible repeat (first | refine blk_drewN ?_ _ | refine blk_drew ?_ | refine blk_alloc ?_ _)); exact BK270.out) hb); have n7_ := am (blk_below (g := gb287) (o := .cells #[.int .i64 t281, .int .i64 t282, .slice Ao43 t283.length co43] 82 (0, 0)) (by (with_reducible repeat (first | refine blk_drewN ?_ _ | refine blk_drew ?_ | refine blk_alloc ?_ _)); refine blk_far ?_ NB287_331.out _; (with_reducible repeat (first | refine blk_drewN ?_ _ | refine blk_drew ?_ | refine blk_alloc ?_ _)); refine blk_far ?_ NB287_331.out _; (with_reducible repeat (first | refine blk_drewN ?_ _ | refine blk_drew ?_ | refine blk_alloc ?_ _)); refine blk_far ?_ NB287_331.out _; (with_reducible repeat (first | refine blk_drewN ?_ _ | refine blk_drew ?_ | refine blk_alloc ?_ _)); exact BK287.out) hb); have n8_ := am (blk_below (g := gb293) (o := .cells #[.int .i64 t288, .int .i64 t289, .slice Ao53 t312.length co53] 82 (0, 0)) (by (with_reducible repeat (first | refine blk_drewN ?_ _ | refine blk_drew ?_ | refine blk_alloc ?_ _)); refine blk_far ?_ NB293_331.out _; (with_reducible repeat (first | refine blk_drewN ?_ _ | refine blk_drew ?_ | refine blk_alloc ?_ _)); refine blk_far ?_ NB293_331.out _; (with_reducible repeat (first | refine blk_drewN ?_ _ | refine blk_drew ?_ | refine blk_alloc ?_ _)); refine blk_far ?_ NB293_331.out _; (with_reducible repeat (first | refine blk_drewN ?_ _ | refine blk_drew ?_ | refine blk_alloc ?_ _)); exact BK293.out) hb); have n9_ := am (blk_below (g := gb303) (o := .cells #[.int .i64 t297, .int .i64 t298, .slice Ao62 t299.length co62] 82 (0, 0)) (by (with_reducible repeat (first | refine blk_drewN ?_ _ | refine blk_drew ?_ | refine blk_alloc ?_ _)); refine blk_far ?_ NB303_331.out _; (with_reducible repeat (first | refine blk_drewN ?_ _ | refine blk_drew ?_ | refine blk_alloc ?_ _)); refine blk_far ?_ NB303_331.out _; (with_reducible repeat (first | refine blk_drewN ?_ _ | refine blk_drew ?_ | refine blk_alloc ?_ _)); refine blk_far ?_ NB303_331.out _; (with_reducible repeat (first | refine blk_drewN ?_ _ | refine blk_drew ?_ | refine blk_alloc ?_ _)); exact BK303.out) hb); have n10_ := am (blk_below (g := gb331) (o := .cells #[.int .i64 t325, .int .i64 t326, .slice Ao151 t327.length co151] 82 (0, 0)) (by (with_reducible repeat (first | refine blk_drewN ?_ _ | refine blk_drew ?_ | refine blk_alloc ?_ _)); refine blk_put (cs := #[.int .i64 t325, .int .i64 t326, .slice none 0 0]) ?_ 2 _ rfl; (with_reducible repeat (first | refine blk_drewN ?_ _ | refine blk_drew ?_ | refine blk_alloc ?_ _)); refine blk_put (cs := #[.int .i64 t325, .int .i64 0, .slice none 0 0]) ?_ 1 _ rfl; (with_reducible repeat (first | refine blk_drewN ?_ _ | refine blk_drew ?_ | refine blk_alloc ?_ _)); refine blk_put (cs := #[.int .i64 0, .int .i64 0, .slice none 0 0]) ?_ 0 _ rfl; (with_reducible repeat (first | refine blk_drewN ?_ _ | refine blk_drew ?_ | refine blk_alloc ?_ _)); exact BK331.out) hb); have n11_ := am (below_step (bx HB.out) hb); clear HO_288002; clear HO_294002; clear HO_304002; clear HO321; clear HO329; clear BK269; clear BK270; clear BK287; clear BK293; clear BK303; clear BK331; clear HB; have HO_288002 := n0_; have HO_294002 := n1_; have HO_304002 := n2_; have HO321 := n3_; have HO329 := n4_; have BK269 := n5_; have BK270 := n6_; have BK287 := n7_; have BK293 := n8_; have BK303 := n9_; have BK331 := n10_; have HB := n11_; clear n0_ n1_ n2_ n3_ n4_ n5_ n6_ n7_ n8_ n9_ n10_ n11_; (try clear hb); (try clear hb2); (try clear hk); (try clear hi)))
              go_meet
              case rel => exact ⟨_, ((t330 != t286)), (by first | rfl | (simp; done) | (simp [*]; done)), H', ⟨by have := HJ25.out; have := HJ90.out; first | omega | exact Nat.le_refl _⟩, ⟨by (try simp only [hl294002_90]); (with_reducible repeat (first | apply Kd.R_alloc | apply Kd.R_drewN | apply Kd.R_drew)); exact Kd.R_mono HO_288002.out (fun _ hk => ⟨hk.2.2.1, ⟨hk.2.2.2, hk.2.1⟩⟩)⟩, ⟨by (try simp only [hl294002_90]); (with_reducible repeat (first | apply Kd.R_alloc | apply Kd.R_drewN | apply Kd.R_drew)); exact Kd.R_mono HO_294002.out (fun _ hk => ⟨hk.2.2.1, ⟨hk.2.2.2, hk.2.1⟩⟩)⟩, ⟨by (try simp only [hl294002_90]); (with_reducible repeat (first | apply Kd.R_alloc | apply Kd.R_drewN | apply Kd.R_drew)); exact Kd.R_mono HO_304002.out (fun _ hk => ⟨hk.2.2.1, ⟨hk.2.2.2, hk.2.1⟩⟩)⟩, ⟨by (try simp only [hl294002_90]); (with_reducible repeat (first | apply Kd.R_alloc | apply Kd.R_drewN | apply Kd.R_drew)); exact Kd.R_mono HO329.out (fun _ hk => ⟨hk.2.1, ⟨hk.2.2.1, hk.2.2.2⟩⟩)⟩, ⟨by (try simp only [hl294002_90]); (with_reducible repeat (first | refine blk_drewN ?_ _ | refine blk_drew ?_ | refine blk_alloc ?_ _)); exact BK269.out⟩, ⟨by (try simp only [hl294002_90]); (with_reducible repeat (first | refine blk_drewN ?_ _ | refine blk_drew ?_ | refine blk_alloc ?_ _)); exact BK270.out⟩, ⟨by (try simp only [hl294002_90]); (with_reducible repeat (first | refine blk_drewN ?_ _ | refine blk_drew ?_ | refine blk_alloc ?_ _)); exact BK287.out⟩, ⟨by (try simp only [hl294002_90]); (with_reducible repeat (first | refine blk_drewN ?_ _ | refine blk_drew ?_ | refine blk_alloc ?_ _)); exact BK293.out⟩, ⟨by (try simp only [hl294002_90]); (with_reducible repeat (first | refine blk_drewN ?_ _ | refine blk_drew ?_ | refine blk_alloc ?_ _)); exact BK303.out⟩, ⟨by (try simp only [hl294002_90]); (with_reducible repeat (first | refine blk_drewN ?_ _ | refine blk_drew ?_ | refine blk_alloc ?_ _)); exact BK331.out⟩, ⟨bx HB.out⟩⟩
             ·replace c154 := Bool.eq_false_iff.mpr c154
              subst c154
              have H1 : (laws_FnExactLogPut.j2 kj90 t314 true t297 t298 t315) = some r := by rw [if_neg (show ¬ (false = true) by decide)] at H; exact H
              clear H
              have H := H1
              clear H1
              have H' := Aside0.mk H
              clear H
              have hnb167 := NB331_269.out
              have hnc167 := NB269_331.out
              have hnb168 := NB331_270.out
              have hnc168 := NB270_331.out
              have hnb169 := NB331_287.out
              have hnc169 := NB287_331.out
              have hnb170 := NB331_293.out
              have hnc170 := NB293_331.out
              have hnb171 := NB331_303.out
              have hnc171 := NB303_331.out
              have hcz172_0 : w148.cell? ⟨gb331, 0, none⟩ = some (.int .i64 0) := ct BK331.out 0
              have hcz172_1 : w148.cell? ⟨gb331, 1, none⟩ = some (.int .i64 0) := ct BK331.out 1
              have hcz172_2 : w148.cell? ⟨gb331, 2, none⟩ = some (.slice none 0 0) := ct BK331.out 2
              have hfz172_0 := blk_frozen BK331.out 0
              have hfz172_1 := blk_frozen BK331.out 1
              have hfz172_2 := blk_frozen BK331.out 2
              have hnb173 := NB287_269.out
              have hnc173 := NB269_287.out
              have hnb174 := NB287_270.out
              have hnc174 := NB270_287.out
              have hnb175 := NB287_293.out
              have hnc175 := NB293_287.out
              have hnb176 := NB287_303.out
              have hnc176 := NB303_287.out
              have hcz177_0 : w148.cell? ⟨gb287, 0, none⟩ = some (.int .i64 t281) := ct BK287.out 0
              have hcz177_1 : w148.cell? ⟨gb287, 1, none⟩ = some (.int .i64 t282) := ct BK287.out 1
              have hcz177_2 : w148.cell? ⟨gb287, 2, none⟩ = some (.slice Ao43 t283.length co43) := ct BK287.out 2
              have hfz177_0 := blk_frozen BK287.out 0
              have hfz177_1 := blk_frozen BK287.out 1
              have hfz177_2 := blk_frozen BK287.out 2
              go_wp2_with (first | ((with_reducible refine gate_callee (f := 57) rfl ?_); refine goesL_ (some 99) rfl rfl Try.func57 (by kernel_rfl) rfl #[.agg #[.int .i64 t325, .int .i64 t326, .slice Ao151 t327.length co151], .agg #[.int .i64 t281, .int .i64 t282, .slice Ao43 t283.length co43]] rfl (by (try simp only [List.map_toArray, List.map_cons, List.map_nil]); first | done | rfl | (simp only [List.length_drop, List.length_take]; rfl)) ?_; (with_reducible refine (laws_eqLog.calls kj90 t325 t326 _ _ t327 t281 t282 _ _ t283 false _ ?side1 ?side2 ?side3 ?side4 A153.out).mono ?_); (case side1 => refine (Kd.R_reads' (e := 67) (base := w.heap.size) (ok := fun k_ => (some k_ ≠ (v320 : Value).ownBlock ∧ (some k_ ≠ (.slice Ao43 t283.length co43 : Value).ownBlock ∧ (some k_ ≠ (.slice Ao53 t312.length co53 : Value).ownBlock ∧ some k_ ≠ (.slice Ao62 t299.length co62 : Value).ownBlock)))) (n := t327.length) (c := co151) ?_).2.2; exact (by (with_reducible repeat (first | apply Kd.R_alloc | apply Kd.R_drewN | apply Kd.R_drew)); exact (Kd.R_mono (Kd.R_far (p := ⟨gb331, 2, none⟩) (Kd.R_far (p := ⟨gb331, 1, none⟩) (Kd.R_far (p := ⟨gb331, 0, none⟩) (Kd.R_types HO329.out BK331.out (by decide)) (fun _ hk => hk.2) (.int .i64 t325)) (fun _ hk => hk.2) (.int .i64 t326)) (fun _ hk => hk.2) (.slice Ao151 t327.length co151)) (fun _ h_ => h_.1)))); (case side2 => exact (Kd.R_reads' HO329.out).2.1); (case side3 => refine (Kd.R_reads' (e := 67) (base := w.heap.size) (ok := fun k_ => (some k_ ≠ (v320 : Value).ownBlock ∧ (some k_ ≠ (.slice Ao151 t327.length co151 : Value).ownBlock ∧ (some k_ ≠ (.slice Ao53 t312.length co53 : Value).ownBlock ∧ some k_ ≠ (.slice Ao62 t299.length co62 : Value).ownBlock)))) (n := t283.length) (c := co43) ?_).2.2; exact (by (with_reducible repeat (first | apply Kd.R_alloc | apply Kd.R_drewN | apply Kd.R_drew)); exact (Kd.R_mono (Kd.R_far (p := ⟨gb331, 2, none⟩) (Kd.R_far (p := ⟨gb331, 1, none⟩) (Kd.R_far (p := ⟨gb331, 0, none⟩) (Kd.R_types HO_288002.out BK331.out (by decide)) (fun _ hk => hk.2) (.int .i64 t325)) (fun _ hk => hk.2) (.int .i64 t326)) (fun _ hk => hk.2) (.slice Ao151 t327.length co151)) (fun _ h_ => h_.1)))); (case side4 => exact (Kd.R_reads' HO_288002.out).2.1); rintro e w178 ⟨rfl, hb⟩; refine ⟨_, rfl, ?_⟩; have n0_ := am (Kd.R_below (by (with_reducible repeat (first | apply Kd.R_alloc | apply Kd.R_drewN | apply Kd.R_drew)); exact (Kd.R_mono (Kd.R_far (p := ⟨gb331, 2, none⟩) (Kd.R_far (p := ⟨gb331, 1, none⟩) (Kd.R_far (p := ⟨gb331, 0, none⟩) (Kd.R_types HO_288002.out BK331.out (by decide)) (fun _ hk => hk.2) (.int .i64 t325)) (fun _ hk => hk.2) (.int .i64 t326)) (fun _ hk => hk.2) (.slice Ao151 t327.length co151)) (fun _ h_ => h_.1))) hb); have n1_ := am (Kd.R_below (by (with_reducible repeat (first | apply Kd.R_alloc | apply Kd.R_drewN | apply Kd.R_drew)); exact (Kd.R_mono (Kd.R_far (p := ⟨gb331, 2, none⟩) (Kd.R_far (p := ⟨gb331, 1, none⟩) (Kd.R_far (p := ⟨gb331, 0, none⟩) (Kd.R_types HO_294002.out BK331.out (by decide)) (fun _ hk => hk.2) (.int .i64 t325)) (fun _ hk => hk.2) (.int .i64 t326)) (fun _ hk => hk.2) (.slice Ao151 t327.length co151)) (fun _ h_ => h_.1))) hb); have n2_ := am (Kd.R_below (by (with_reducible repeat (first | apply Kd.R_alloc | apply Kd.R_drewN | apply Kd.R_drew)); exact (Kd.R_mono (Kd.R_far (p := ⟨gb331, 2, none⟩) (Kd.R_far (p := ⟨gb331, 1, none⟩) (Kd.R_far (p := ⟨gb331, 0, none⟩) (Kd.R_types HO_304002.out BK331.out (by decide)) (fun _ hk => hk.2) (.int .i64 t325)) (fun _ hk => hk.2) (.int .i64 t326)) (fun _ hk => hk.2) (.slice Ao151 t327.length co151)) (fun _ h_ => h_.1))) hb); have n3_ := am (Kd.R_below (by (with_reducible repeat (first | apply Kd.R_alloc | apply Kd.R_drewN | apply Kd.R_drew)); exact (Kd.R_mono (Kd.R_far (p := ⟨gb331, 2, none⟩) (Kd.R_far (p := ⟨gb331, 1, none⟩) (Kd.R_far (p := ⟨gb331, 0, none⟩) (Kd.R_types HO321.out BK331.out (by decide)) (fun _ hk => hk.2) (.int .i64 t325)) (fun _ hk => hk.2) (.int .i64 t326)) (fun _ hk => hk.2) (.slice Ao151 t327.length co151)) (fun _ h_ => h_.1))) hb); have n4_ := am (Kd.R_below (by (with_reducible repeat (first | apply Kd.R_alloc | apply Kd.R_drewN | apply Kd.R_drew)); exact (Kd.R_mono (Kd.R_far (p := ⟨gb331, 2, none⟩) (Kd.R_far (p := ⟨gb331, 1, none⟩) (Kd.R_far (p := ⟨gb331, 0, none⟩) (Kd.R_types HO329.out BK331.out (by decide)) (fun _ hk => hk.2) (.int .i64 t325)) (fun _ hk => hk.2) (.int .i64 t326)) (fun _ hk => hk.2) (.slice Ao151 t327.length co151)) (fun _ h_ => h_.1))) hb); have n5_ := am (blk_below (g := gb269) (o := .cells #[.int .i64 a0_0, .int .i64 a0_1, .slice A0_2 l0_2.length c0_2] 78 (0, 0)) (by (with_reducible repeat (first | refine blk_drewN ?_ _ | refine blk_drew ?_ | refine blk_alloc ?_ _)); refine blk_far ?_ NB269_331.out _; (with_reducible repeat (first | refine blk_drewN ?_ _ | refine blk_drew ?_ | refine blk_alloc ?_ _)); refine blk_far ?_ NB269_331.out _; (with_reducible repeat (first | refine blk_drewN ?_ _ | refine blk_drew ?_ | refine blk_alloc ?_ _)); refine blk_far ?_ NB269_331.out _; (with_reducible repeat (first | refine blk_drewN ?_ _ | refine blk_drew ?_ | refine blk_alloc ?_ _)); exact BK269.out) hb); have n6_ := am (blk_below (g := gb270) (o := .cells #[.int .i64 a2_0, .int .i64 a2_1, .string a2_2] 88 (0, 0)) (by (with_reducible repeat (first | refine blk_drewN ?_ _ | refine blk_drew ?_ | refine blk_alloc ?_ _)); refine blk_far ?_ NB270_331.out _; (with_reducible repeat (first | refine blk_drewN ?_ _ | refine blk_drew ?_ | refine blk_alloc ?_ _)); refine blk_far ?_ NB270_331.out _; (with_reducible repeat (first | refine blk_drewN ?_ _ | refine blk_drew ?_ | refine blk_alloc ?_ _)); refine blk_far ?_ NB270_331.out _; (with_reducible repeat (first | refine blk_drewN ?_ _ | refine blk_drew ?_ | refine blk_alloc ?_ _)); exact BK270.out) hb); have n7_ := am (blk_below (g := gb287) (o := .cells #[.int .i64 t281, .int .i64 t282, .slice Ao43 t283.length co43] 82 (0, 0)) (by (with_reducible repeat (first | refine blk_drewN ?_ _ | refine blk_drew ?_ | refine blk_alloc ?_ _)); refine blk_far ?_ NB287_331.out _; (with_reducible repeat (first | refine blk_drewN ?_ _ | refine blk_drew ?_ | refine blk_alloc ?_ _)); refine blk_far ?_ NB287_331.out _; (with_reducible repeat (first | refine blk_drewN ?_ _ | refine blk_drew ?_ | refine blk_alloc ?_ _)); refine blk_far ?_ NB287_331.out _; (with_reducible repeat (first | refine blk_drewN ?_ _ | refine blk_drew ?_ | refine blk_alloc ?_ _)); exact BK287.out) hb); have n8_ := am (blk_below (g := gb293) (o := .cells #[.int .i64 t288, .int .i64 t289, .slice Ao53 t312.length co53] 82 (0, 0)) (by (with_reducible repeat (first | refine blk_drewN ?_ _ | refine blk_drew ?_ | refine blk_alloc ?_ _)); refine blk_far ?_ NB293_331.out _; (with_reducible repeat (first | refine blk_drewN ?_ _ | refine blk_drew ?_ | refine blk_alloc ?_ _)); refine blk_far ?_ NB293_331.out _; (with_reducible repeat (first | refine blk_drewN ?_ _ | refine blk_drew ?_ | refine blk_alloc ?_ _)); refine blk_far ?_ NB293_331.out _; (with_reducible repeat (first | refine blk_drewN ?_ _ | refine blk_drew ?_ | refine blk_alloc ?_ _)); exact BK293.out) hb); have n9_ := am (blk_below (g := gb303) (o := .cells #[.int .i64 t297, .int .i64 t298, .slice Ao62 t299.length co62] 82 (0, 0)) (by (with_reducible repeat (first | refine blk_drewN ?_ _ | refine blk_drew ?_ | refine blk_alloc ?_ _)); refine blk_far ?_ NB303_331.out _; (with_reducible repeat (first | refine blk_drewN ?_ _ | refine blk_drew ?_ | refine blk_alloc ?_ _)); refine blk_far ?_ NB303_331.out _; (with_reducible repeat (first | refine blk_drewN ?_ _ | refine blk_drew ?_ | refine blk_alloc ?_ _)); refine blk_far ?_ NB303_331.out _; (with_reducible repeat (first | refine blk_drewN ?_ _ | refine blk_drew ?_ | refine blk_alloc ?_ _)); exact BK303.out) hb); have n10_ := am (blk_below (g := gb331) (o := .cells #[.int .i64 t325, .int .i64 t326, .slice Ao151 t327.length co151] 82 (0, 0)) (by (with_reducible repeat (first | refine blk_drewN ?_ _ | refine blk_drew ?_ | refine blk_alloc ?_ _)); refine blk_put (cs := #[.int .i64 t325, .int .i64 t326, .slice none 0 0]) ?_ 2 _ rfl; (with_reducible repeat (first | refine blk_drewN ?_ _ | refine blk_drew ?_ | refine blk_alloc ?_ _)); refine blk_put (cs := #[.int .i64 t325, .int .i64 0, .slice none 0 0]) ?_ 1 _ rfl; (with_reducible repeat (first | refine blk_drewN ?_ _ | refine blk_drew ?_ | refine blk_alloc ?_ _)); refine blk_put (cs := #[.int .i64 0, .int .i64 0, .slice none 0 0]) ?_ 0 _ rfl; (with_reducible repeat (first | refine blk_drewN ?_ _ | refine blk_drew ?_ | refine blk_alloc ?_ _)); exact BK331.out) hb); have n11_ := am (below_step (bx HB.out) hb); clear HO_288002; clear HO_294002; clear HO_304002; clear HO321; clear HO329; clear BK269; clear BK270; clear BK287; clear BK293; clear BK303; clear BK331; clear HB; have HO_288002 := n0_; have HO_294002 := n1_; have HO_304002 := n2_; have HO321 := n3_; have HO329 := n4_; have BK269 := n5_; have BK270 := n6_; have BK287 := n7_; have BK293 := n8_; have BK303 := n9_; have BK331 := n10_; have HB := n11_; clear n0_ n1_ n2_ n3_ n4_ n5_ n6_ n7_ n8_ n9_ n10_ n11_; (try clear hb); (try clear hb2); (try clear hk); (try clear hi)))
              go_meet
              case rel => exact ⟨_, (true), (by first | rfl | (simp; done) | (simp [*]; done)), H', ⟨by have := HJ25.out; have := HJ90.out; first | omega | exact Nat.le_refl _⟩, ⟨by (try simp only [hl294002_90]); (with_reducible repeat (first | apply Kd.R_alloc | apply Kd.R_drewN | apply Kd.R_drew)); exact Kd.R_mono HO_288002.out (fun _ hk => ⟨hk.2.2.1, ⟨hk.2.2.2, hk.2.1⟩⟩)⟩, ⟨by (try simp only [hl294002_90]); (with_reducible repeat (first | apply Kd.R_alloc | apply Kd.R_drewN | apply Kd.R_drew)); exact Kd.R_mono HO_294002.out (fun _ hk => ⟨hk.2.2.1, ⟨hk.2.2.2, hk.2.1⟩⟩)⟩, ⟨by (try simp only [hl294002_90]); (with_reducible repeat (first | apply Kd.R_alloc | apply Kd.R_drewN | apply Kd.R_drew)); exact Kd.R_mono HO_304002.out (fun _ hk => ⟨hk.2.2.1, ⟨hk.2.2.2, hk.2.1⟩⟩)⟩, ⟨by (try simp only [hl294002_90]); (with_reducible repeat (first | apply Kd.R_alloc | apply Kd.R_drewN | apply Kd.R_drew)); exact Kd.R_mono HO329.out (fun _ hk => ⟨hk.2.1, ⟨hk.2.2.1, hk.2.2.2⟩⟩)⟩, ⟨by (try simp only [hl294002_90]); (with_reducible repeat (first | refine blk_drewN ?_ _ | refine blk_drew ?_ | refine blk_alloc ?_ _)); exact BK269.out⟩, ⟨by (try simp only [hl294002_90]); (with_reducible repeat (first | refine blk_drewN ?_ _ | refine blk_drew ?_ | refine blk_alloc ?_ _)); exact BK270.out⟩, ⟨by (try simp only [hl294002_90]); (with_reducible repeat (first | refine blk_drewN ?_ _ | refine blk_drew ?_ | refine blk_alloc ?_ _)); exact BK287.out⟩, ⟨by (try simp only [hl294002_90]); (with_reducible repeat (first | refine blk_drewN ?_ _ | refine blk_drew ?_ | refine blk_alloc ?_ _)); exact BK293.out⟩, ⟨by (try simp only [hl294002_90]); (with_reducible repeat (first | refine blk_drewN ?_ _ | refine blk_drew ?_ | refine blk_alloc ?_ _)); exact BK303.out⟩, ⟨by (try simp only [hl294002_90]); (with_reducible repeat (first | refine blk_drewN ?_ _ | refine blk_drew ?_ | refine blk_alloc ?_ _)); exact BK331.out⟩, ⟨bx HB.out⟩⟩
            case rest =>
             clear HC133
             try clear c1
             try clear p2
             try clear c5
             try clear c6
             try clear c15
             try clear c16
             try clear c17
             try clear c55
             try clear c57
             try clear c62
             try clear c63
             try clear c154
             try clear c155
             try clear c156
             try clear c157
             try clear c158
             try clear c159
             try clear c161
             try clear c162
             try clear c163
             try clear c164
             try clear c167
             try clear c168
             try clear c169
             try clear c170
             try clear c171
             try clear c173
             try clear c174
             try clear c175
             try clear c176
             try clear hcz160_0
             try clear hcz160_1
             try clear hcz160_2
             try clear hcz165_0
             try clear hcz165_1
             try clear hcz165_2
             try clear hcz172_0
             try clear hcz172_1
             try clear hcz172_2
             try clear hcz177_0
             try clear hcz177_1
             try clear hcz177_2
             try clear hfz160_0
             try clear hfz160_1
             try clear hfz160_2
             try clear hfz165_0
             try clear hfz165_1
             try clear hfz165_2
             try clear hfz172_0
             try clear hfz172_1
             try clear hfz172_2
             try clear hfz177_0
             try clear hfz177_1
             try clear hfz177_2
             obtain ⟨kq, x105_132, rfl, HA, HJ132, HO_288002, HO_294002, HO_304002, HO_332002, BK269, BK270, BK287, BK293, BK303, BK331, HB⟩ := hcut
             have hl304002_132 := (Kd.R_reads' HO_304002.out).1
             rw [hl304002_132] at HO_304002
             (try simp only [hl304002_132])
             (try simp only [hl304002_132] at BK269)
             (try simp only [hl304002_132] at BK270)
             (try simp only [hl304002_132] at BK287)
             (try simp only [hl304002_132] at BK293)
             (try simp only [hl304002_132] at BK303)
             (try simp only [hl304002_132] at BK331)
             (try simp only [hl304002_132] at HO_288002)
             (try simp only [hl304002_132] at HO_294002)
             (try simp only [hl304002_132] at HO_332002)
             cases kq with
             | zero => exact absurd HA.out (by simp [laws_FnExactLogPut.j2])
             | succ kj132 =>
              have H := HA.out
              clear HA
              simp only [laws_FnExactLogPut.j2] at H
              by_cases c179 : x105_132 = true
              ·subst c179
               have H1 : (some false) = some r := by rw [if_pos rfl] at H; exact H
               clear H
               have H := H1
               clear H1
               exact absurd ((Option.some.inj H).trans HLT.out) (by decide)
              ·replace c179 := Bool.eq_false_iff.mpr c179
               subst c179
               have H1 : ((laws_heldLog.f kj132 t297 t298 t315 1).bind fun t333 => (if t333 < 0 then (some false) else (if t333 = t314 then (some true) else (some false)))) = some r := by rw [if_neg (show ¬ (false = true) by decide)] at H; exact H
               clear H
               have H := H1
               clear H1
               replace H := Option.bind_eq_some_iff.mp H
               obtain ⟨t333, A1800, H⟩ := H
               try dsimp only at H
               have A180 := Aside0.mk A1800
               clear A1800
               by_cases c181 : t333 < 0
               ·rw [if_pos c181] at H
                have c181b0 : decide (t333 < 0) = true := decide_eq_true c181
                clear c181
                exact absurd ((Option.some.inj H).trans HLT.out) (by decide)
               ·rw [if_neg c181] at H
                have c181b0 : decide (t333 < 0) = false := decide_eq_false c181
                clear c181
                by_cases c182 : t333 = t314
                ·rw [if_pos c182] at H
                 have c182b0 : (t333 == t314) = true := beq_iff_eq.mpr c182
                 have c182b1 : (t333 != t314) = false := bne_eq_false_iff_eq.mpr c182
                 clear c182
                 obtain rfl := Option.some.inj H
                 have hnb183 := NB303_269.out
                 have hnc183 := NB269_303.out
                 have hnb184 := NB303_270.out
                 have hnc184 := NB270_303.out
                 have hnb185 := NB303_287.out
                 have hnc185 := NB287_303.out
                 have hnb186 := NB303_293.out
                 have hnc186 := NB293_303.out
                 have hnb187 := NB303_331.out
                 have hnc187 := NB331_303.out
                 have hcz188_0 : wc.cell? ⟨gb303, 0, none⟩ = some (.int .i64 t297) := ct BK303.out 0
                 have hcz188_1 : wc.cell? ⟨gb303, 1, none⟩ = some (.int .i64 t298) := ct BK303.out 1
                 have hcz188_2 : wc.cell? ⟨gb303, 2, none⟩ = some (.slice Ao62 t315.length co62) := ct BK303.out 2
                 have hfz188_0 := blk_frozen BK303.out 0
                 have hfz188_1 := blk_frozen BK303.out 1
                 have hfz188_2 := blk_frozen BK303.out 2
                 go_wp2_with (first | ((with_reducible refine gate_callee (f := 59) rfl ?_); refine goesL_ (some 108) rfl rfl Try.func59 (by kernel_rfl) rfl #[.agg #[.int .i64 t297, .int .i64 t298, .slice Ao62 t315.length co62], .int .i64 1] rfl (by (try simp only [List.map_toArray, List.map_cons, List.map_nil]); first | done | rfl | (simp only [List.length_drop, List.length_take]; rfl)) ?_; (with_reducible refine (laws_heldLog.calls kj132 t297 t298 _ _ t315 1 t333 _ ?side1 ?side2 A180.out).mono ?_); (case side1 => repeat (first | exact (Kd.R_reads' HO_304002.out).2.2 | (with_reducible refine Kd.C_alloc ?_ _) | (with_reducible refine Kd.C_drewN ?_ _) | (with_reducible refine Kd.C_drew ?_))); (case side2 => exact (Kd.R_reads' HO_304002.out).2.1); rintro e w189 ⟨rfl, hb⟩; refine ⟨_, rfl, ?_⟩; have n0_ := am (Kd.R_below (rx HO_288002.out) hb); have n1_ := am (Kd.R_below (rx HO_294002.out) hb); have n2_ := am (Kd.R_below (rx HO_304002.out) hb); have n3_ := am (Kd.R_below (rx HO_332002.out) hb); have n4_ := am (bb hb (kx BK269.out)); have n5_ := am (bb hb (kx BK270.out)); have n6_ := am (bb hb (kx BK287.out)); have n7_ := am (bb hb (kx BK293.out)); have n8_ := am (bb hb (kx BK303.out)); have n9_ := am (bb hb (kx BK331.out)); have n10_ := am (below_step (bx HB.out) hb); clear HO_288002; clear HO_294002; clear HO_304002; clear HO_332002; clear BK269; clear BK270; clear BK287; clear BK293; clear BK303; clear BK331; clear HB; have HO_288002 := n0_; have HO_294002 := n1_; have HO_304002 := n2_; have HO_332002 := n3_; have BK269 := n4_; have BK270 := n5_; have BK287 := n6_; have BK293 := n7_; have BK303 := n8_; have BK331 := n9_; have HB := n10_; clear n0_ n1_ n2_ n3_ n4_ n5_ n6_ n7_ n8_ n9_ n10_; (try clear hb); (try clear hb2); (try clear hk); (try clear hi)))
                 go_ret
                 exact ⟨by first | rfl | (simp [errW_none, errW_some] <;> rfl) | (simp [*, errW_none, errW_some] <;> rfl), by repeat (first | (with_reducible first | exact HB.out | apply below_alloc | apply pw_below_drewN | apply below_drew1 | refine below_set ?_ GE269.out | refine below_set ?_ GE270.out | refine below_set ?_ GE287.out | refine below_set ?_ GE293.out | refine below_set ?_ GE303.out | refine below_set ?_ GE331.out) | exact HB.out)⟩
                ·rw [if_neg c182] at H
                 have c182b0 : (t333 == t314) = false := beq_eq_false_iff_ne.mpr c182
                 have c182b1 : (t333 != t314) = true := bne_iff_ne.mpr c182
                 exact absurd ((Option.some.inj H).trans HLT.out) (by decide)
           ·rw [if_neg c129] at H
            have c129b0 : (t316 == t314) = false := beq_eq_false_iff_ne.mpr c129
            have c129b1 : (t316 != t314) = true := bne_iff_ne.mpr c129
            exact absurd ((Option.some.inj H).trans HLT.out) (by decide)
      ·replace c89 := Bool.eq_false_iff.mpr c89
       subst c89
       have H1 : (some false) = some r := by rw [if_neg (show ¬ (false = true) by decide)] at H; exact H
       clear H
       have H := H1
       clear H1
       exact absurd ((Option.some.inj H).trans HLT.out) (by decide)

end Go.Proofs.Ytaainenplcokaaa.QFnExactLogPut
