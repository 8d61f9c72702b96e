/- Written by the kit's print.py, called by our own print2.sh with one import more; not by print.sh. -/
import Derived.Test.YtklbkkoojkmjbaaQFnExactDoActx2
import Derived.Test.YtklbkkoojkmjbaaQFnExactDoActx0
import Derived.Test.YtklbkkoojkmjbaaQFnExactDoActx1
import Derived.Test.YtklbkkoojkmjbaaQFnExactDoActx4
import Derived.Test.YtklbkkoojkmjbaaQFnExactDoActx5
import Derived.Test.YtklbkkoojkmjbaaQFnExactDoActx8
import Derived.Test.YtklbkkoojkmjbaaQFnExactDoActx9
import Derived.Test.YtklbkkoojkmjbaaQFnExactDoActx10
namespace Go.Proofs.Ytklbkkoojkmjbaa.QFnExactDoAct
open Go.RowKit Go.Proofs.YtklbkkoojkmjbaaW.PrintWords Go.Proofs.YtklbkkoojkmjbaaW.PrintLast Go.Proofs.YtklbkkoojkmjbaaW.PrintMore
attribute [local go_sem] max2_int min2_int max_two min_two max_three min_three max_four min_four   -- for this text's walks alone
open Go.Proofs.Ytklbkkoojkmjbaa.Short
set_option linter.unusedVariables false
set_option linter.unusedSimpArgs false
section
variable {w W W1 w1 : World} {B g : Nat} {o : Obj} {α : Type} {d : Kd α} {e base : Nat} {ok : Nat → Prop} {v : Value} {xs : List α}
theorem ct {t : TypeId} {cs : Array Value} {u : Value} (h : w.heap[g]? = some (.cells cs t (0, 0))) (i : Nat) (k : cs[i]? = some u := by rfl) : w.cell? ⟨g, i, none⟩ = some u := (blk_cell h i).trans k
theorem am {p : Prop} (h : p) : Aside0 p := ⟨h⟩
end

/-! ### laws_FnExactDoAct: function 3 -/
mutual
def laws_FnExactDoAct.j0 : Nat → Bool → Bool → Bool → List (S85) → Int → ByteArray → ByteArray → ByteArray → List (S66) → List (S66) → List (S66) → Option (Bool)
 | 0, _, _, _, _, _, _, _, _, _, _, _ => none
 | k + 1, x7, x10, x51, x264000, x265000, x265001, x265002, x265003, x279000, x283000, x292000 => if x51 = true then (some false) else ((laws_toDisk.f k x264000).bind fun t293 => ((laws_eqDisk.f k x283000 t293).bind fun t296 => (if t296 = true then ((laws_markDisk.f k x283000 1).bind fun bt297 => (if bt297.1 < 0 then (laws_FnExactDoAct.j1 k x7 true x264000 x265000 x265001 x265002 x265003 x279000 x292000) else ((laws_eqDisk.f k x292000 x279000).bind fun t299 => (if t299 = true then (laws_FnExactDoAct.j1 k x7 (x10 != x7) x264000 x265000 x265001 x265002 x265003 x279000 x292000) else (laws_FnExactDoAct.j1 k x7 true x264000 x265000 x265001 x265002 x265003 x279000 x292000))))) else (some false))))
def laws_FnExactDoAct.j1 : Nat → Bool → Bool → List (S85) → Int → ByteArray → ByteArray → ByteArray → List (S66) → List (S66) → Option (Bool)
 | 0, _, _, _, _, _, _, _, _, _ => none
 | k + 1, x7, x72, x264000, x265000, x265001, x265002, x265003, x279000, x292000 => if x72 = true then (some false) else ((laws_markDisk.f k x292000 1).bind fun bt300 => ((laws_heldDisk.f k bt300.2 1).bind fun t302 => (if t302 < 0 then (some false) else (if t302 = bt300.1 then ((laws_toDisk.f k x264000).bind fun t303 => ((laws_toAct.f x265000 x265001 x265002 x265003).bind fun bt306 => ((impl_DoAct.f k t303 bt306.1 bt306.2.1 bt306.2.2.1 bt306.2.2.2).bind fun bt310 => ((laws_eqDisk.f k bt310.1 x279000).bind fun t315 => (if t315 = true then (laws_FnExactDoAct.j2 k bt300.1 (bt310.2 != x7) bt300.2) else (laws_FnExactDoAct.j2 k bt300.1 true bt300.2)))))) else (some false)))))
def laws_FnExactDoAct.j2 : Nat → Int → Bool → List (S66) → Option (Bool)
 | 0, _, _, _ => none
 | k + 1, x12, x100, x292000 => if x100 = true then (some false) else ((laws_heldDisk.f k x292000 1).bind fun t316 => (if t316 < 0 then (some false) else (if t316 = x12 then (some true) else (some false))))
end
def laws_FnExactDoAct.f (k : Nat) (l0_0 : List (S85)) (a1_0 : Int) (a1_1 : ByteArray) (a1_2 : ByteArray) (a1_3 : ByteArray) : Option (Bool) := (laws_szDisk.f k l0_0 1048576).bind fun t265 => (if t265 < 0 then (some true) else ((laws_szAct.f a1_0 a1_1 a1_2 a1_3 t265).bind fun t266 => (if t266 < 0 then (some true) else ((laws_toDisk.f k l0_0).bind fun t267 => ((laws_toAct.f a1_0 a1_1 a1_2 a1_3).bind fun bt270 => ((spec_DoAct.f k t267 bt270.1 bt270.2.1 bt270.2.2.1 bt270.2.2.2).bind fun bt274 => ((laws_toDisk.f k l0_0).bind fun t279 => ((laws_toAct.f a1_0 a1_1 a1_2 a1_3).bind fun bt283 => ((impl_DoAct.f k t279 bt283.1 bt283.2.1 bt283.2.2.1 bt283.2.2.2).bind fun bt287 => ((laws_eqDisk.f k bt287.1 bt274.1).bind fun t292 => (if t292 = true then (laws_FnExactDoAct.j0 k bt274.2 bt287.2 (bt287.2 != bt274.2) l0_0 a1_0 a1_1 a1_2 a1_3 bt274.1 t279 bt287.1) else (laws_FnExactDoAct.j0 k bt274.2 bt287.2 true l0_0 a1_0 a1_1 a1_2 a1_3 bt274.1 t279 bt287.1))))))))))))
theorem laws_FnExactDoAct.mono_l : ∀ k, (∀ y0 y1 y2 y3 y4 y5 y6 y7 y8 y9 y10, LeO (laws_FnExactDoAct.j0 k y0 y1 y2 y3 y4 y5 y6 y7 y8 y9 y10) (laws_FnExactDoAct.j0 (k + 1) y0 y1 y2 y3 y4 y5 y6 y7 y8 y9 y10)) ∧ (∀ y0 y1 y2 y3 y4 y5 y6 y7 y8, LeO (laws_FnExactDoAct.j1 k y0 y1 y2 y3 y4 y5 y6 y7 y8) (laws_FnExactDoAct.j1 (k + 1) y0 y1 y2 y3 y4 y5 y6 y7 y8)) ∧ (∀ y0 y1 y2, LeO (laws_FnExactDoAct.j2 k y0 y1 y2) (laws_FnExactDoAct.j2 (k + 1) y0 y1 y2))
 | 0 => ⟨fun _ _ _ _ _ _ _ _ _ _ _ r h => by simp [laws_FnExactDoAct.j0] at h, fun _ _ _ _ _ _ _ _ _ r h => by simp [laws_FnExactDoAct.j1] at h, fun _ _ _ r h => by simp [laws_FnExactDoAct.j2] at h⟩
 | k + 1 => by
  obtain ⟨ih0, ih1, ih2⟩ := laws_FnExactDoAct.mono_l k
  refine ⟨?_, ?_, ?_⟩
  ·intro y0 y1 y2 y3 y4 y5 y6 y7 y8 y9 y10
   unfold laws_FnExactDoAct.j0
   repeat' first
   | (with_reducible exact ih0 _ _ _ _ _ _ _ _ _ _ _)
   | (with_reducible exact ih1 _ _ _ _ _ _ _ _ _)
   | (with_reducible exact ih2 _ _ _)
   | (with_reducible exact impl_DoAct.mono _ _ _ _ _ _)
   | (with_reducible exact laws_eqDisk.mono _ _ _)
   | (with_reducible exact laws_heldDisk.mono _ _ _)
   | (with_reducible exact laws_markDisk.mono _ _ _)
   | (with_reducible exact laws_szDisk.mono _ _ _)
   | (with_reducible exact laws_toDisk.mono _ _)
   | (with_reducible exact spec_DoAct.mono _ _ _ _ _ _)
   | (with_reducible exact LeO.refl _)
   | (with_reducible exact LeO.none _)
   | (with_reducible refine LeO.ite ?_ ?_)
   | (with_reducible refine LeO.bind ?_ (fun _ => ?_))
   | exact ih0 _ _ _ _ _ _ _ _ _ _ _
   | exact ih1 _ _ _ _ _ _ _ _ _
   | exact ih2 _ _ _
   | exact impl_DoAct.mono _ _ _ _ _ _
   | exact laws_eqDisk.mono _ _ _
   | exact laws_heldDisk.mono _ _ _
   | exact laws_markDisk.mono _ _ _
   | exact laws_szDisk.mono _ _ _
   | exact laws_toDisk.mono _ _
   | exact spec_DoAct.mono _ _ _ _ _ _
   | exact LeO.none _
   | refine LeO.ite ?_ ?_
   | refine LeO.bind ?_ (fun _ => ?_)
  ·intro y0 y1 y2 y3 y4 y5 y6 y7 y8
   unfold laws_FnExactDoAct.j1
   repeat' first
   | (with_reducible exact ih0 _ _ _ _ _ _ _ _ _ _ _)
   | (with_reducible exact ih1 _ _ _ _ _ _ _ _ _)
   | (with_reducible exact ih2 _ _ _)
   | (with_reducible exact impl_DoAct.mono _ _ _ _ _ _)
   | (with_reducible exact laws_eqDisk.mono _ _ _)
   | (with_reducible exact laws_heldDisk.mono _ _ _)
   | (with_reducible exact laws_markDisk.mono _ _ _)
   | (with_reducible exact laws_szDisk.mono _ _ _)
   | (with_reducible exact laws_toDisk.mono _ _)
   | (with_reducible exact spec_DoAct.mono _ _ _ _ _ _)
   | (with_reducible exact LeO.refl _)
   | (with_reducible exact LeO.none _)
   | (with_reducible refine LeO.ite ?_ ?_)
   | (with_reducible refine LeO.bind ?_ (fun _ => ?_))
   | exact ih0 _ _ _ _ _ _ _ _ _ _ _
   | exact ih1 _ _ _ _ _ _ _ _ _
   | exact ih2 _ _ _
   | exact impl_DoAct.mono _ _ _ _ _ _
   | exact laws_eqDisk.mono _ _ _
   | exact laws_heldDisk.mono _ _ _
   | exact laws_markDisk.mono _ _ _
   | exact laws_szDisk.mono _ _ _
   | exact laws_toDisk.mono _ _
   | exact spec_DoAct.mono _ _ _ _ _ _
   | exact LeO.none _
   | refine LeO.ite ?_ ?_
   | refine LeO.bind ?_ (fun _ => ?_)
  ·intro y0 y1 y2
   unfold laws_FnExactDoAct.j2
   repeat' first
   | (with_reducible exact ih0 _ _ _ _ _ _ _ _ _ _ _)
   | (with_reducible exact ih1 _ _ _ _ _ _ _ _ _)
   | (with_reducible exact ih2 _ _ _)
   | (with_reducible exact impl_DoAct.mono _ _ _ _ _ _)
   | (with_reducible exact laws_eqDisk.mono _ _ _)
   | (with_reducible exact laws_heldDisk.mono _ _ _)
   | (with_reducible exact laws_markDisk.mono _ _ _)
   | (with_reducible exact laws_szDisk.mono _ _ _)
   | (with_reducible exact laws_toDisk.mono _ _)
   | (with_reducible exact spec_DoAct.mono _ _ _ _ _ _)
   | (with_reducible exact LeO.refl _)
   | (with_reducible exact LeO.none _)
   | (with_reducible refine LeO.ite ?_ ?_)
   | (with_reducible refine LeO.bind ?_ (fun _ => ?_))
   | exact ih0 _ _ _ _ _ _ _ _ _ _ _
   | exact ih1 _ _ _ _ _ _ _ _ _
   | exact ih2 _ _ _
   | exact impl_DoAct.mono _ _ _ _ _ _
   | exact laws_eqDisk.mono _ _ _
   | exact laws_heldDisk.mono _ _ _
   | exact laws_markDisk.mono _ _ _
   | exact laws_szDisk.mono _ _ _
   | exact laws_toDisk.mono _ _
   | exact spec_DoAct.mono _ _ _ _ _ _
   | exact LeO.none _
   | refine LeO.ite ?_ ?_
   | refine LeO.bind ?_ (fun _ => ?_)
theorem laws_FnExactDoAct.mono : ∀ a0 a1 a2 a3 a4 k, LeO (laws_FnExactDoAct.f k a0 a1 a2 a3 a4) (laws_FnExactDoAct.f (k + 1) a0 a1 a2 a3 a4) := by
 intro a0 a1 a2 a3 a4 k
 obtain ⟨ih0, ih1, ih2⟩ := laws_FnExactDoAct.mono_l k
 unfold laws_FnExactDoAct.f
 repeat' first
   | (with_reducible exact ih0 _ _ _ _ _ _ _ _ _ _ _)
   | (with_reducible exact ih1 _ _ _ _ _ _ _ _ _)
   | (with_reducible exact ih2 _ _ _)
   | (with_reducible exact impl_DoAct.mono _ _ _ _ _ _)
   | (with_reducible exact laws_eqDisk.mono _ _ _)
   | (with_reducible exact laws_heldDisk.mono _ _ _)
   | (with_reducible exact laws_markDisk.mono _ _ _)
   | (with_reducible exact laws_szDisk.mono _ _ _)
   | (with_reducible exact laws_toDisk.mono _ _)
   | (with_reducible exact spec_DoAct.mono _ _ _ _ _ _)
   | (with_reducible exact LeO.refl _)
   | (with_reducible exact LeO.none _)
   | (with_reducible refine LeO.ite ?_ ?_)
   | (with_reducible refine LeO.bind ?_ (fun _ => ?_))
   | exact ih0 _ _ _ _ _ _ _ _ _ _ _
   | exact ih1 _ _ _ _ _ _ _ _ _
   | exact ih2 _ _ _
   | exact impl_DoAct.mono _ _ _ _ _ _
   | exact laws_eqDisk.mono _ _ _
   | exact laws_heldDisk.mono _ _ _
   | exact laws_markDisk.mono _ _ _
   | exact laws_szDisk.mono _ _ _
   | exact laws_toDisk.mono _ _
   | exact spec_DoAct.mono _ _ _ _ _ _
   | exact LeO.none _
   | refine LeO.ite ?_ ?_
   | refine LeO.bind ?_ (fun _ => ?_)
def laws_FnExactDoAct.T8 : Bool × List (List Nat × List Nat) := (true, [([], []), ([0], [0]), ([], []), ([2, 1], [2]), ([1, 3, 3], [1, 3]), ([4], [4]), ([5], [5]), ([5], [5]), ([], []), ([8, 6, 4, 0, 1, 2, 3, 4, 5, 6, 8], [6, 8]), ([7, 9, 0, 1, 2, 3, 4, 5, 6, 7, 8, 9], [7])])
def laws_FnExactDoAct.B8 : List Nat := [0, 1, 0, 7, 15, 31, 63, 63, 0, 383, 1023]
theorem laws_FnExactDoAct.tab8 : rtab .any (opsOf Try.f3 8) = laws_FnExactDoAct.T8 := by kernel_rfl
theorem laws_FnExactDoAct.bits8 : waitsOk laws_FnExactDoAct.T8.2 laws_FnExactDoAct.B8 = true := by kernel_rfl
def laws_FnExactDoAct.T10 : Bool × List (List Nat × List Nat) := (true, [([], []), ([], []), ([1], [1]), ([0, 2, 2], [0, 2]), ([3], [3]), ([4], [4]), ([4], [4]), ([], []), ([7, 5, 3, 0, 1, 2, 3, 4, 5, 7], [5, 7]), ([6, 8, 0, 1, 2, 3, 4, 5, 6, 7, 8], [6])])
def laws_FnExactDoAct.B10 : List Nat := [0, 0, 2, 7, 15, 31, 31, 0, 191, 511]
theorem laws_FnExactDoAct.tab10 : rtab .any (opsOf Try.f3 10) = laws_FnExactDoAct.T10 := by kernel_rfl
theorem laws_FnExactDoAct.bits10 : waitsOk laws_FnExactDoAct.T10.2 laws_FnExactDoAct.B10 = true := by kernel_rfl
def laws_FnExactDoAct.T27 : Bool × List (List Nat × List Nat) := (true, [([], []), ([0], [0]), ([], []), ([2, 1], [2]), ([1, 3, 3], [1, 3]), ([4], [4]), ([5], [5]), ([5], [5]), ([], []), ([8, 6, 4, 0, 1, 2, 3, 4, 5, 6, 8], [6, 8]), ([7, 9, 0, 1, 2, 3, 4, 5, 6, 7, 8, 9], [7])])
def laws_FnExactDoAct.B27 : List Nat := [0, 1, 0, 7, 15, 31, 63, 63, 0, 383, 1023]
theorem laws_FnExactDoAct.tab27 : rtab .any (opsOf Try.f3 27) = laws_FnExactDoAct.T27 := by kernel_rfl
theorem laws_FnExactDoAct.bits27 : waitsOk laws_FnExactDoAct.T27.2 laws_FnExactDoAct.B27 = true := by kernel_rfl
set_option maxHeartbeats 8000000 in
set_option maxRecDepth 100000 in
theorem laws_FnExactDoAct.calls (k : Nat) (A0_0 : Option Addr) (c0_0 : Nat) (l0_0 : List (S85)) (a1_0 : Int) (a1_1 : ByteArray) (a1_2 : ByteArray) (a1_3 : ByteArray) (r : Bool) (w : World) (hr0_0 : Kd.C k85 w A0_0 l0_0.length l0_0) (hc0_0 : l0_0.length ≤ c0_0) (h : laws_FnExactDoAct.f k l0_0 a1_0 a1_1 a1_2 a1_3 = some r) (hrt : r = true := by rfl) :
  Calls Try.prog 3 #[.agg #[.slice A0_0 l0_0.length c0_0], .agg #[.int .i64 a1_0, .string a1_1, .string a1_2, .string a1_3]] w fun e w' => e = .returned (.bool r) ∧ Below w.heap.size w w' := by
 have hu24 := Try.underlying24
 have hu26 := Try.underlying26
 have hu31 := Try.underlying31
 have HR0_0 := Aside0.mk hr0_0
 have HC0_0 := Aside0.mk hc0_0
 clear hr0_0 hc0_0
 have HB := Aside0.mk (Below.refl w.heap.size w)
 have HLT := Aside0.mk hrt
 clear hrt
 have H : ((laws_szDisk.f k l0_0 1048576).bind fun t265 => (if t265 < 0 then (some true) else ((laws_szAct.f a1_0 a1_1 a1_2 a1_3 t265).bind fun t266 => (if t266 < 0 then (some true) else ((laws_toDisk.f k l0_0).bind fun t267 => ((laws_toAct.f a1_0 a1_1 a1_2 a1_3).bind fun bt270 => ((spec_DoAct.f k t267 bt270.1 bt270.2.1 bt270.2.2.1 bt270.2.2.2).bind fun bt274 => ((laws_toDisk.f k l0_0).bind fun t279 => ((laws_toAct.f a1_0 a1_1 a1_2 a1_3).bind fun bt283 => ((impl_DoAct.f k t279 bt283.1 bt283.2.1 bt283.2.2.1 bt283.2.2.2).bind fun bt287 => ((laws_eqDisk.f k bt287.1 bt274.1).bind fun t292 => (if t292 = true then (laws_FnExactDoAct.j0 k bt274.2 bt287.2 (bt287.2 != bt274.2) l0_0 a1_0 a1_1 a1_2 a1_3 bt274.1 t279 bt287.1) else (laws_FnExactDoAct.j0 k bt274.2 bt287.2 true l0_0 a1_0 a1_1 a1_2 a1_3 bt274.1 t279 bt287.1))))))))))))) = some r := h
 clear h
 replace H := Option.bind_eq_some_iff.mp H
 obtain ⟨t265, A30, H⟩ := H
 try dsimp only at H
 have A3 := Aside0.mk A30
 clear A30
 by_cases c4 : t265 < 0
 ·rw [if_pos c4] at H
  have c4b0 : decide (t265 < 0) = true := decide_eq_true c4
  clear c4
  obtain rfl := Option.some.inj H
  go_enter Try.func3, Try.ntmps3
  go_wp2_with (first | ((with_reducible refine gate_dst (N := 2) rfl ?_); refine box_event ?hg (N := 2) ?hd (cs := #[.slice A0_0 l0_0.length c0_0]) (t := 24) ?hr ?_; (case hd => rfl); (case hg => rfl); (case hr => first | (go_simp; done) | (go_simp; rfl)); intro gb263 hg w5 hbox hb; have n0_ := am (below_step (bx HB.out) hb); have n1_ := am (hbox); have n2_ := zge hg (bx HB.out); have n3_ := zge hg (bx HB.out); clear HB; have HB := n0_; have BK263 := n1_; have GW263 := n2_; have GE263 := n3_; clear n0_ n1_ n2_ n3_; clear hb hbox hg) | ((with_reducible refine gate_dst (N := 3) rfl ?_); refine box_event ?hg (N := 3) ?hd (cs := #[.int .i64 a1_0, .string a1_1, .string a1_2, .string a1_3]) (t := 26) ?hr ?_; (case hd => rfl); (case hg => rfl); (case hr => first | (go_simp; done) | (go_simp; rfl)); intro gb264 hg w6 hbox hb; have n0_ := am (bb hb (kx BK263.out)); have n1_ := am (below_step (bx HB.out) hb); have n2_ := am (hbox); have n3_ := zge hg (bx HB.out); have n4_ := zge hg (bx HB.out); have n5_ := znl hg (kx BK263.out); have n6_ := zng hg (kx BK263.out); clear BK263; clear HB; have BK263 := n0_; have HB := n1_; have BK264 := n2_; have GW264 := n3_; have GE264 := n4_; have NB263_264 := n5_; have NB264_263 := n6_; clear n0_ n1_ n2_ n3_ n4_ n5_ n6_; clear hb hbox hg; have hnb7 := NB263_264.out; have hnc7 := NB264_263.out; obtain ⟨hcz8_0, hfz8_0⟩ := zc1 BK263.out) | ((with_reducible refine gate_callee (f := 7) rfl ?_); refine goesL_ (some 18) rfl rfl Try.func7 (by kernel_rfl) rfl #[.agg #[.slice A0_0 l0_0.length c0_0], .int .i64 1048576] rfl zr ?_; (with_reducible refine (laws_szDisk.calls k _ _ l0_0 1048576 t265 _ ?side1 ?side2 A3.out).mono ?_); (case side1 => repeat (first | exact (Kd.C_below HR0_0.out HB.out) | (with_reducible refine Kd.C_alloc ?_ _) | (with_reducible refine Kd.C_drewN ?_ _) | (with_reducible refine Kd.C_drew ?_))); (case side2 => exact HC0_0.out); rintro e w9 ⟨rfl, hb⟩; refine ⟨_, rfl, ?_⟩; have n0_ := am (bb hb (kx BK263.out)); have n1_ := am (bb hb (kx BK264.out)); have n2_ := am (below_step (bx HB.out) hb); clear BK263; clear BK264; clear HB; have BK263 := n0_; have BK264 := n1_; have HB := n2_; clear n0_ n1_ n2_; (try clear hb); (try clear hb2); (try clear hk); (try clear hi)))
  go_ret
  exact ⟨by first | rfl | (simp [errW_none, errW_some] <;> rfl) | (simp [*, errW_none, errW_some] <;> rfl), zb2 HB.out GE263.out GE264.out⟩
 ·rw [if_neg c4] at H
  have c4b0 : decide (t265 < 0) = false := decide_eq_false c4
  clear c4
  replace H := Option.bind_eq_some_iff.mp H
  obtain ⟨t266, A100, H⟩ := H
  try dsimp only at H
  have A10 := Aside0.mk A100
  clear A100
  by_cases c11 : t266 < 0
  ·rw [if_pos c11] at H
   have c11b0 : decide (t266 < 0) = true := decide_eq_true c11
   clear c11
   obtain rfl := Option.some.inj H
   go_enter Try.func3, Try.ntmps3
   go_wp2_with (first | ((with_reducible refine gate_dst (N := 2) rfl ?_); refine box_event ?hg (N := 2) ?hd (cs := #[.slice A0_0 l0_0.length c0_0]) (t := 24) ?hr ?_; (case hd => rfl); (case hg => rfl); (case hr => first | (go_simp; done) | (go_simp; rfl)); intro gb263 hg w12 hbox hb; have n0_ := am (below_step (bx HB.out) hb); have n1_ := am (hbox); have n2_ := zge hg (bx HB.out); have n3_ := zge hg (bx HB.out); clear HB; have HB := n0_; have BK263 := n1_; have GW263 := n2_; have GE263 := n3_; clear n0_ n1_ n2_ n3_; clear hb hbox hg) | ((with_reducible refine gate_dst (N := 3) rfl ?_); refine box_event ?hg (N := 3) ?hd (cs := #[.int .i64 a1_0, .string a1_1, .string a1_2, .string a1_3]) (t := 26) ?hr ?_; (case hd => rfl); (case hg => rfl); (case hr => first | (go_simp; done) | (go_simp; rfl)); intro gb264 hg w13 hbox hb; have n0_ := am (bb hb (kx BK263.out)); have n1_ := am (below_step (bx HB.out) hb); have n2_ := am (hbox); have n3_ := zge hg (bx HB.out); have n4_ := zge hg (bx HB.out); have n5_ := znl hg (kx BK263.out); have n6_ := zng hg (kx BK263.out); clear BK263; clear HB; have BK263 := n0_; have HB := n1_; have BK264 := n2_; have GW264 := n3_; have GE264 := n4_; have NB263_264 := n5_; have NB264_263 := n6_; clear n0_ n1_ n2_ n3_ n4_ n5_ n6_; clear hb hbox hg; have hnb14 := NB263_264.out; have hnc14 := NB264_263.out; obtain ⟨hcz15_0, hfz15_0⟩ := zc1 BK263.out) | ((with_reducible refine gate_callee (f := 7) rfl ?_); refine goesL_ (some 18) rfl rfl Try.func7 (by kernel_rfl) rfl #[.agg #[.slice A0_0 l0_0.length c0_0], .int .i64 1048576] rfl zr ?_; (with_reducible refine (laws_szDisk.calls k _ _ l0_0 1048576 t265 _ ?side1 ?side2 A3.out).mono ?_); (case side1 => repeat (first | exact (Kd.C_below HR0_0.out HB.out) | (with_reducible refine Kd.C_alloc ?_ _) | (with_reducible refine Kd.C_drewN ?_ _) | (with_reducible refine Kd.C_drew ?_))); (case side2 => exact HC0_0.out); rintro e w16 ⟨rfl, hb⟩; refine ⟨_, rfl, ?_⟩; have n0_ := am (bb hb (kx BK263.out)); have n1_ := am (bb hb (kx BK264.out)); have n2_ := am (below_step (bx HB.out) hb); clear BK263; clear BK264; clear HB; have BK263 := n0_; have BK264 := n1_; have HB := n2_; clear n0_ n1_ n2_; (try clear hb); (try clear hb2); (try clear hk); (try clear hi); obtain ⟨hcz17_0, hcz17_1, hcz17_2, hcz17_3, hfz17_0, hfz17_1, hfz17_2, hfz17_3⟩ := zc4 BK264.out) | ((with_reducible refine gate_callee (f := 8) rfl ?_); refine goesL_ (some 23) rfl rfl Try.func8 (by kernel_rfl) rfl #[.agg #[.int .i64 a1_0, .string a1_1, .string a1_2, .string a1_3], .int .i64 t265] rfl zr ?_; (with_reducible refine (laws_szAct.calls a1_0 a1_1 a1_2 a1_3 t265 t266 _ A10.out).mono ?_); rintro e w18 ⟨rfl, hb⟩; refine ⟨_, rfl, ?_⟩; have n0_ := am (bb hb (kx BK263.out)); have n1_ := am (bb hb (kx BK264.out)); have n2_ := am (below_step (bx HB.out) hb); clear BK263; clear BK264; clear HB; have BK263 := n0_; have BK264 := n1_; have HB := n2_; clear n0_ n1_ n2_; (try clear hb); (try clear hb2); (try clear hk); (try clear hi)))
   go_ret
   exact ⟨by first | rfl | (simp [errW_none, errW_some] <;> rfl) | (simp [*, errW_none, errW_some] <;> rfl), zb2 HB.out GE263.out GE264.out⟩
  ·rw [if_neg c11] at H
   have c11b0 : decide (t266 < 0) = false := decide_eq_false c11
   clear c11
   replace H := Option.bind_eq_some_iff.mp H
   obtain ⟨t267, A190, H⟩ := H
   try dsimp only at H
   have A19 := Aside0.mk A190
   clear A190
   replace H := Option.bind_eq_some_iff.mp H
   obtain ⟨⟨t270, t271, t272, t273⟩, A200, H⟩ := H
   try dsimp only at H
   have A20 := Aside0.mk A200
   clear A200
   replace H := Option.bind_eq_some_iff.mp H
   obtain ⟨⟨t274, t277⟩, A210, H⟩ := H
   try dsimp only at H
   have A21 := Aside0.mk A210
   clear A210
   replace H := Option.bind_eq_some_iff.mp H
   obtain ⟨t279, A220, H⟩ := H
   try dsimp only at H
   have A22 := Aside0.mk A220
   clear A220
   replace H := Option.bind_eq_some_iff.mp H
   obtain ⟨⟨t283, t284, t285, t286⟩, A230, H⟩ := H
   try dsimp only at H
   have A23 := Aside0.mk A230
   clear A230
   replace H := Option.bind_eq_some_iff.mp H
   obtain ⟨⟨t287, t290⟩, A240, H⟩ := H
   try dsimp only at H
   have A24 := Aside0.mk A240
   clear A240
   have HC25 := Aside0.mk H
   clear H
   go_enter Try.func3, Try.ntmps3
   try go_wp2_with (first | ((with_reducible refine gate_dst (N := 2) rfl ?_); refine box_event ?hg (N := 2) ?hd (cs := #[.slice A0_0 l0_0.length c0_0]) (t := 24) ?hr ?_; (case hd => rfl); (case hg => rfl); (case hr => first | (go_simp; done) | (go_simp; rfl)); intro gb263 hg w26 hbox hb; have n0_ := am (below_step (bx HB.out) hb); have n1_ := am (hbox); have n2_ := zge hg (bx HB.out); have n3_ := zge hg (bx HB.out); clear HB; have HB := n0_; have BK263 := n1_; have GW263 := n2_; have GE263 := n3_; clear n0_ n1_ n2_ n3_; clear hb hbox hg) | ((with_reducible refine gate_dst (N := 3) rfl ?_); refine box_event ?hg (N := 3) ?hd (cs := #[.int .i64 a1_0, .string a1_1, .string a1_2, .string a1_3]) (t := 26) ?hr ?_; (case hd => rfl); (case hg => rfl); (case hr => first | (go_simp; done) | (go_simp; rfl)); intro gb264 hg w27 hbox hb; have n0_ := am (bb hb (kx BK263.out)); have n1_ := am (below_step (bx HB.out) hb); have n2_ := am (hbox); have n3_ := zge hg (bx HB.out); have n4_ := zge hg (bx HB.out); have n5_ := znl hg (kx BK263.out); have n6_ := zng hg (kx BK263.out); clear BK263; clear HB; have BK263 := n0_; have HB := n1_; have BK264 := n2_; have GW264 := n3_; have GE264 := n4_; have NB263_264 := n5_; have NB264_263 := n6_; clear n0_ n1_ n2_ n3_ n4_ n5_ n6_; clear hb hbox hg; have hnb28 := NB263_264.out; have hnc28 := NB264_263.out; obtain ⟨hcz29_0, hfz29_0⟩ := zc1 BK263.out) | ((with_reducible refine gate_callee (f := 7) rfl ?_); refine goesL_ (some 18) rfl rfl Try.func7 (by kernel_rfl) rfl #[.agg #[.slice A0_0 l0_0.length c0_0], .int .i64 1048576] rfl zr ?_; (with_reducible refine (laws_szDisk.calls k _ _ l0_0 1048576 t265 _ ?side1 ?side2 A3.out).mono ?_); (case side1 => repeat (first | exact (Kd.C_below HR0_0.out HB.out) | (with_reducible refine Kd.C_alloc ?_ _) | (with_reducible refine Kd.C_drewN ?_ _) | (with_reducible refine Kd.C_drew ?_))); (case side2 => exact HC0_0.out); rintro e w30 ⟨rfl, hb⟩; refine ⟨_, rfl, ?_⟩; have n0_ := am (bb hb (kx BK263.out)); have n1_ := am (bb hb (kx BK264.out)); have n2_ := am (below_step (bx HB.out) hb); clear BK263; clear BK264; clear HB; have BK263 := n0_; have BK264 := n1_; have HB := n2_; clear n0_ n1_ n2_; (try clear hb); (try clear hb2); (try clear hk); (try clear hi); obtain ⟨hcz31_0, hcz31_1, hcz31_2, hcz31_3, hfz31_0, hfz31_1, hfz31_2, hfz31_3⟩ := zc4 BK264.out) | ((with_reducible refine gate_callee (f := 8) rfl ?_); refine goesL_ (some 23) rfl rfl Try.func8 (by kernel_rfl) rfl #[.agg #[.int .i64 a1_0, .string a1_1, .string a1_2, .string a1_3], .int .i64 t265] rfl zr ?_; (with_reducible refine (laws_szAct.calls a1_0 a1_1 a1_2 a1_3 t265 t266 _ A10.out).mono ?_); rintro e w32 ⟨rfl, hb⟩; refine ⟨_, rfl, ?_⟩; have n0_ := am (bb hb (kx BK263.out)); have n1_ := am (bb hb (kx BK264.out)); have n2_ := am (below_step (bx HB.out) hb); clear BK263; clear BK264; clear HB; have BK263 := n0_; have BK264 := n1_; have HB := n2_; clear n0_ n1_ n2_; (try clear hb); (try clear hb2); (try clear hk); (try clear hi)))
   have n0_ := am (blk_drew BK263.out)
   have n1_ := am (blk_drew BK264.out)
   have n2_ := am (below_drew1 HB.out)
   clear BK263 BK264 HB
   have BK263 := n0_
   have BK264 := n1_
   have HB := n2_
   clear n0_ n1_ n2_
   refine start_ (n := 11) (S := fun w' => w'.cell? ⟨gb263, 0, none⟩ = some (.slice A0_0 l0_0.length c0_0) ∧ w'.cell? ⟨gb264, 0, none⟩ = some (.int .i64 a1_0) ∧ w'.cell? ⟨gb264, 1, none⟩ = some (.string a1_1) ∧ w'.cell? ⟨gb264, 2, none⟩ = some (.string a1_2) ∧ w'.cell? ⟨gb264, 3, none⟩ = some (.string a1_3)) (ds := []) #[false, false, false, false, false, false, false, false, false, false, false] (by kernel_rfl) rfl rfl ⟨ct BK263.out 0, ct BK264.out 0, ct BK264.out 1, ct BK264.out 2, ct BK264.out 3⟩ (fun hHeld => ?_); refine with_tabW laws_FnExactDoAct.tab8 laws_FnExactDoAct.bits8 (fun HT_ HW_ => ?_)
   generalize w32.drew = w33 at BK263 BK264 HB hHeld ⊢
   refine take_ (i := 0) (N := some 27) (v := ?_) (a' := ?_) #[true, false, false, false, false, false, false, false, false, false, false] rfl rfl (take_ofW HT_.out HW_.out (by kernel_rfl)) (fun _ _ _ h => h) (Or.inl ⟨by rfl, ?_⟩) hHeld ?_ ?_
   rotate_left
   ·rintro w' ⟨s0, s1, s2, s3, s4⟩
    go_simp
    with_reducible rfl
   rotate_left
   ·simp only [Act.put, List.setIfInBounds_toArray, List.set_cons_zero, List.set_cons_succ, i64_w, i32_w]
    rfl
   refine take_ (i := 2) (N := some 29) (v := ?_) (a' := ?_) #[true, false, true, false, false, false, false, false, false, false, false] rfl rfl (take_ofW HT_.out HW_.out (by kernel_rfl)) (fun _ _ _ h => h) (Or.inl ⟨by rfl, ?_⟩) hHeld ?_ ?_
   rotate_left
   ·rintro w' ⟨s0, s1, s2, s3, s4⟩
    go_simp
    with_reducible rfl
   rotate_left
   ·simp only [Act.put, List.setIfInBounds_toArray, List.set_cons_zero, List.set_cons_succ, i64_w, i32_w]
    rfl
   refine join_ (σ := Value × Value × Nat) 2 #[true, true, true, true, true, true, true, true, true, false, false] (fun s_ => [(28, .agg #[s_.1]), (30, .agg #[.int .i64 t270, .string t271, .string t272, .string t273]), (31, .tuple #[.agg #[s_.2.1], .bool t277]), (6, .pointer (some ⟨s_.2.2, 0, none⟩)), (26, .tuple #[.agg #[s_.2.1], .bool t277]), (32, .agg #[s_.2.1]), (33, .bool t277)]) (fun s_ w' => (w'.cell? ⟨gb263, 0, none⟩ = some (.slice A0_0 l0_0.length c0_0) ∧ w'.cell? ⟨gb264, 0, none⟩ = some (.int .i64 a1_0) ∧ w'.cell? ⟨gb264, 1, none⟩ = some (.string a1_1) ∧ w'.cell? ⟨gb264, 2, none⟩ = some (.string a1_2) ∧ w'.cell? ⟨gb264, 3, none⟩ = some (.string a1_3)) ∧ (Kd.R k66 66 w' w.heap.size (fun k_ => some k_ ≠ (s_.2.1 : Value).ownBlock) s_.1 t267) ∧ (Kd.R k66 66 w' w.heap.size (fun k_ => some k_ ≠ (s_.1 : Value).ownBlock) s_.2.1 t274) ∧ (w'.heap[gb263]? = some (.cells #[.slice A0_0 l0_0.length c0_0] 24 (0, 0))) ∧ (w'.heap[gb264]? = some (.cells #[.int .i64 a1_0, .string a1_1, .string a1_2, .string a1_3] 26 (0, 0))) ∧ (w'.heap[s_.2.2]? = some (.cells #[.slice none 0 0] 31 (0, 0))) ∧ (w.heap.size ≤ s_.2.2) ∧ (w.heap.size ≤ s_.2.2) ∧ (gb263 ≠ s_.2.2) ∧ (s_.2.2 ≠ gb263) ∧ (gb264 ≠ s_.2.2) ∧ (s_.2.2 ≠ gb264) ∧ (Below w.heap.size w w')) ?_ ?_
   rotate_left
   ·intro hCont
    refine two_ (i := 1) (j := 8) (Ni := some 28) (Nj := some 6) #[true, true, true, false, false, false, false, false, false, false, false] #[true, false, true, false, false, false, false, false, true, false, false] rfl rfl rfl rfl (two_of HT_.out (by kernel_rfl)) (by decide) (by decide) (fun K hK => ?_) (fun K hK => ?_)
    ·skip
     refine goes_ Try.func10 (by kernel_rfl) rfl #[.agg #[.slice A0_0 l0_0.length c0_0]] (by rfl) rfl rfl zr ?_
     with_reducible refine (laws_toDisk.calls k _ _ l0_0 t267 _ ?side1 ?side2 A19.out).mono ?_
     (case side1 => repeat (first | exact (Kd.C_below HR0_0.out HB.out) | (with_reducible refine Kd.C_alloc ?_ _) | (with_reducible refine Kd.C_drewN ?_ _) | (with_reducible refine Kd.C_drew ?_)))
     (case side2 => exact HC0_0.out)
     rintro e w34 ⟨v268, rfl, ho0, hb⟩
     refine ⟨_, rfl, ?_⟩
     have n0_ := am (Kd.R_lower ho0 (below_size (bx HB.out)))
     have n1_ := am (bb hb (kx BK263.out))
     have n2_ := am (bb hb (kx BK264.out))
     have n3_ := am (below_step (bx HB.out) hb)
     clear BK263 BK264 HB
     have HO269 := n0_
     have BK263 := n1_
     have BK264 := n2_
     have HB := n3_
     clear n0_ n1_ n2_ n3_
     (try clear hb)
     (try clear hb2)
     (try clear hk)
     (try clear hi)
     (try clear ho0)
     refine hK.out _ _ ⟨ct BK263.out 0, ct BK264.out 0, ct BK264.out 1, ct BK264.out 2, ct BK264.out 3⟩ (fun hHeld => ?_)
     clear hK K
     refine norm_ (a' := ?_) ?_ ?_
     rotate_left
     ·show Act.put _ (some 28) _ = _
      simp only [Act.put, List.setIfInBounds_toArray, List.set_cons_zero, List.set_cons_succ, i64_w, i32_w]
      rfl
     refine two_ (i := 3) (j := 8) (Ni := some 30) (Nj := some 6) #[true, true, true, true, false, false, false, false, false, false, false] #[true, true, true, false, false, false, false, false, true, false, false] rfl rfl rfl rfl (two_of HT_.out (by kernel_rfl)) (by decide) (by decide) (fun K hK => ?_) (fun K hK => ?_)
     ·skip
      refine goes_ Try.func11 (by kernel_rfl) rfl #[.agg #[.int .i64 a1_0, .string a1_1, .string a1_2, .string a1_3]] (by rfl) rfl rfl zr ?_
      with_reducible refine (laws_toAct.calls a1_0 a1_1 a1_2 a1_3 t270 t271 t272 t273 _ A20.out).mono ?_
      rintro e w35 ⟨rfl, hb⟩
      refine ⟨_, rfl, ?_⟩
      have n0_ := am (Kd.R_below (rx HO269.out) hb)
      have n1_ := am (bb hb (kx BK263.out))
      have n2_ := am (bb hb (kx BK264.out))
      have n3_ := am (below_step (bx HB.out) hb)
      clear HO269 BK263 BK264 HB
      have HO269 := n0_
      have BK263 := n1_
      have BK264 := n2_
      have HB := n3_
      clear n0_ n1_ n2_ n3_
      (try clear hb)
      (try clear hb2)
      (try clear hk)
      (try clear hi)
      obtain ⟨Ao36, co36, eo36⟩ := Kd.R_slice HO269.out
      (first | subst eo36 | (injection eo36 with f1_ f2_ f3_; have f4_ := f1_.symm; have f5_ := f3_.symm; clear f1_ f2_ f3_; subst f4_; subst f5_))
      refine hK.out _ _ ⟨ct BK263.out 0, ct BK264.out 0, ct BK264.out 1, ct BK264.out 2, ct BK264.out 3⟩ (fun hHeld => ?_)
      clear hK K
      refine norm_ (a' := ?_) ?_ ?_
      rotate_left
      ·show Act.put _ (some 30) _ = _
       simp only [Act.put, List.setIfInBounds_toArray, List.set_cons_zero, List.set_cons_succ, i64_w, i32_w]
       rfl
      refine two_ (i := 4) (j := 8) (Ni := some 31) (Nj := some 6) #[true, true, true, true, true, false, false, false, false, false, false] #[true, true, true, true, false, false, false, false, true, false, false] rfl rfl rfl rfl (two_of HT_.out (by kernel_rfl)) (by decide) (by decide) (fun K hK => ?_) (fun K hK => ?_)
      ·skip
       refine goes_ Try.func9 (by kernel_rfl) rfl #[.agg #[.slice Ao36 t267.length co36], .agg #[.int .i64 t270, .string t271, .string t272, .string t273]] (by rfl) rfl rfl zr ?_
       with_reducible refine (spec_DoAct.calls k _ _ t267 t270 t271 t272 t273 t274 t277 _ ?side1 ?side2 A21.out).mono ?_
       (case side1 => repeat (first | exact (Kd.R_reads' HO269.out).2.2 | (with_reducible refine Kd.C_alloc ?_ _) | (with_reducible refine Kd.C_drewN ?_ _) | (with_reducible refine Kd.C_drew ?_)))
       (case side2 => exact (Kd.R_reads' HO269.out).2.1)
       rintro e w37 ⟨v275, rfl, ho0, hb⟩
       refine ⟨_, rfl, ?_⟩
       have n0_ := am (Kd.R_elder' (rx HO269.out) (Kd.R_base ho0) hb)
       have n1_ := am (Kd.R_lower (Kd.R_new' ho0 (Kd.R_lt (rx HO269.out))) (below_size (bx HB.out)))
       have n2_ := am (bb hb (kx BK263.out))
       have n3_ := am (bb hb (kx BK264.out))
       have n4_ := am (below_step (bx HB.out) hb)
       clear HO269 BK263 BK264 HB
       have HO269 := n0_
       have HO276 := n1_
       have BK263 := n2_
       have BK264 := n3_
       have HB := n4_
       clear n0_ n1_ n2_ n3_ n4_
       (try clear hb)
       (try clear hb2)
       (try clear hk)
       (try clear hi)
       (try clear ho0)
       refine hK.out _ _ ⟨ct BK263.out 0, ct BK264.out 0, ct BK264.out 1, ct BK264.out 2, ct BK264.out 3⟩ (fun hHeld => ?_)
       clear hK K
       refine norm_ (a' := ?_) ?_ ?_
       rotate_left
       ·show Act.put _ (some 31) _ = _
        simp only [Act.put, List.setIfInBounds_toArray, List.set_cons_zero, List.set_cons_succ, i64_w, i32_w]
        rfl
       refine pure_ (i := 5) (N := some 26) (v := ?_) (a' := ?_) #[true, true, true, true, true, true, false, false, false, false, false] rfl rfl (any_of HT_.out (by kernel_rfl)) (fun _ _ _ h => h) (Or.inl ⟨by rfl, ?_⟩) ?_ ?_
       rotate_left
       ·intro w'
        go_simp
        with_reducible rfl
       rotate_left
       ·simp only [Act.put, List.setIfInBounds_toArray, List.set_cons_zero, List.set_cons_succ, i64_w, i32_w]
        rfl
       refine pure_ (i := 6) (N := some 32) (v := ?_) (a' := ?_) #[true, true, true, true, true, true, true, false, false, false, false] rfl rfl (any_of HT_.out (by kernel_rfl)) (fun _ _ _ h => h) (Or.inl ⟨by rfl, ?_⟩) ?_ ?_
       rotate_left
       ·intro w'
        go_simp
        with_reducible rfl
       rotate_left
       ·simp only [Act.put, List.setIfInBounds_toArray, List.set_cons_zero, List.set_cons_succ, i64_w, i32_w]
        rfl
       refine pure_ (i := 7) (N := some 33) (v := ?_) (a' := ?_) #[true, true, true, true, true, true, true, true, false, false, false] rfl rfl (any_of HT_.out (by kernel_rfl)) (fun _ _ _ h => h) (Or.inl ⟨by rfl, ?_⟩) ?_ ?_
       rotate_left
       ·intro w'
        go_simp
        with_reducible rfl
       rotate_left
       ·simp only [Act.put, List.setIfInBounds_toArray, List.set_cons_zero, List.set_cons_succ, i64_w, i32_w]
        rfl
       refine one_ (i := 8) (N := some 6) #[true, true, true, true, true, true, true, true, true, false, false] rfl rfl (one_of HT_.out (by kernel_rfl)) (by decide) (fun K hK => ?_)
       refine box_step ?hg (N := 6) ?hd (cs := #[.slice none 0 0]) (t := 31) ?hr ?_; (case hd => rfl); (case hg => rfl); (case hr => first | (go_simp; done) | (go_simp; rfl))
       intro gb278 hg w38 hbox hb
       have n0_ := am (Kd.R_below (rx HO269.out) hb)
       have n1_ := am (Kd.R_below (rx HO276.out) hb)
       have n2_ := am (bb hb (kx BK263.out))
       have n3_ := am (bb hb (kx BK264.out))
       have n4_ := am (below_step (bx HB.out) hb)
       have n5_ := am (hbox)
       have n6_ := zge hg (bx HB.out)
       have n7_ := zge hg (bx HB.out)
       have n8_ := znl hg (kx BK263.out)
       have n9_ := zng hg (kx BK263.out)
       have n10_ := znl hg (kx BK264.out)
       have n11_ := zng hg (kx BK264.out)
       clear HO269 HO276 BK263 BK264 HB
       have HO269 := n0_
       have HO276 := n1_
       have BK263 := n2_
       have BK264 := n3_
       have HB := n4_
       have BK278 := n5_
       have GW278 := n6_
       have GE278 := n7_
       have NB263_278 := n8_
       have NB278_263 := n9_
       have NB264_278 := n10_
       have NB278_264 := n11_
       clear n0_ n1_ n2_ n3_ n4_ n5_ n6_ n7_ n8_ n9_ n10_ n11_ hb hbox hg
       refine hK.out _ _ ⟨ct BK263.out 0, ct BK264.out 0, ct BK264.out 1, ct BK264.out 2, ct BK264.out 3⟩ (fun hHeld => ?_)
       clear hK K
       refine norm_ (a' := ?_) ?_ ?_
       rotate_left
       ·show Act.put _ (some 6) _ = _
        simp only [Act.put, List.setIfInBounds_toArray, List.set_cons_zero, List.set_cons_succ, i64_w, i32_w]
        rfl
       exact norm_ (by simp only [putAll, Act.put, List.setIfInBounds_toArray, List.set_cons_zero, List.set_cons_succ]) (hCont (.slice Ao36 t267.length co36, v275, gb278) _ ⟨hHeld, (rx (Kd.R_mono HO269.out (fun _ hk => hk.2))), (rx (Kd.R_mono HO276.out (fun _ hk => hk.2))), (kx BK263.out), (kx BK264.out), (kx BK278.out), GW278.out, GE278.out, NB263_278.out, NB278_263.out, NB264_278.out, NB278_264.out, (bx HB.out)⟩)
      ·skip
       refine box_step ?hg (N := 6) ?hd (cs := #[.slice none 0 0]) (t := 31) ?hr ?_; (case hd => rfl); (case hg => rfl); (case hr => first | (go_simp; done) | (go_simp; rfl))
       intro gb278 hg w36 hbox hb
       have n0_ := am (Kd.R_below (rx HO269.out) hb)
       have n1_ := am (bb hb (kx BK263.out))
       have n2_ := am (bb hb (kx BK264.out))
       have n3_ := am (below_step (bx HB.out) hb)
       have n4_ := am (hbox)
       have n5_ := zge hg (bx HB.out)
       have n6_ := zge hg (bx HB.out)
       have n7_ := znl hg (kx BK263.out)
       have n8_ := zng hg (kx BK263.out)
       have n9_ := znl hg (kx BK264.out)
       have n10_ := zng hg (kx BK264.out)
       clear HO269 BK263 BK264 HB
       have HO269 := n0_
       have BK263 := n1_
       have BK264 := n2_
       have HB := n3_
       have BK278 := n4_
       have GW278 := n5_
       have GE278 := n6_
       have NB263_278 := n7_
       have NB278_263 := n8_
       have NB264_278 := n9_
       have NB278_264 := n10_
       clear n0_ n1_ n2_ n3_ n4_ n5_ n6_ n7_ n8_ n9_ n10_ hb hbox hg
       obtain ⟨Ao37, co37, eo37⟩ := Kd.R_slice HO269.out
       (first | subst eo37 | (injection eo37 with f1_ f2_ f3_; have f4_ := f1_.symm; have f5_ := f3_.symm; clear f1_ f2_ f3_; subst f4_; subst f5_))
       refine hK.out _ _ ⟨ct BK263.out 0, ct BK264.out 0, ct BK264.out 1, ct BK264.out 2, ct BK264.out 3⟩ (fun hHeld => ?_)
       clear hK K
       refine norm_ (a' := ?_) ?_ ?_
       rotate_left
       ·show Act.put _ (some 6) _ = _
        simp only [Act.put, List.setIfInBounds_toArray, List.set_cons_zero, List.set_cons_succ, i64_w, i32_w]
        rfl
       refine one_ (i := 4) (N := some 31) #[true, true, true, true, true, false, false, false, true, false, false] rfl rfl (one_of HT_.out (by kernel_rfl)) (by decide) (fun K hK => ?_)
       refine goes_ Try.func9 (by kernel_rfl) rfl #[.agg #[.slice Ao37 t267.length co37], .agg #[.int .i64 t270, .string t271, .string t272, .string t273]] (by rfl) rfl rfl zr ?_
       with_reducible refine (spec_DoAct.calls k _ _ t267 t270 t271 t272 t273 t274 t277 _ ?side1 ?side2 A21.out).mono ?_
       (case side1 => repeat (first | exact (Kd.R_reads' HO269.out).2.2 | (with_reducible refine Kd.C_alloc ?_ _) | (with_reducible refine Kd.C_drewN ?_ _) | (with_reducible refine Kd.C_drew ?_)))
       (case side2 => exact (Kd.R_reads' HO269.out).2.1)
       rintro e w38 ⟨v275, rfl, ho0, hb⟩
       refine ⟨_, rfl, ?_⟩
       have n0_ := am (Kd.R_elder' (rx HO269.out) (Kd.R_base ho0) hb)
       have n1_ := am (Kd.R_lower (Kd.R_new' ho0 (Kd.R_lt (rx HO269.out))) (below_size (bx HB.out)))
       have n2_ := am (bb hb (kx BK263.out))
       have n3_ := am (bb hb (kx BK264.out))
       have n4_ := am (bb hb (kx BK278.out))
       have n5_ := am (below_step (bx HB.out) hb)
       clear HO269 BK263 BK264 BK278 HB
       have HO269 := n0_
       have HO276 := n1_
       have BK263 := n2_
       have BK264 := n3_
       have BK278 := n4_
       have HB := n5_
       clear n0_ n1_ n2_ n3_ n4_ n5_
       (try clear hb)
       (try clear hb2)
       (try clear hk)
       (try clear hi)
       (try clear ho0)
       refine hK.out _ _ ⟨ct BK263.out 0, ct BK264.out 0, ct BK264.out 1, ct BK264.out 2, ct BK264.out 3⟩ (fun hHeld => ?_)
       clear hK K
       refine norm_ (a' := ?_) ?_ ?_
       rotate_left
       ·show Act.put _ (some 31) _ = _
        simp only [Act.put, List.setIfInBounds_toArray, List.set_cons_zero, List.set_cons_succ, i64_w, i32_w]
        rfl
       refine pure_ (i := 5) (N := some 26) (v := ?_) (a' := ?_) #[true, true, true, true, true, true, false, false, true, false, false] rfl rfl (any_of HT_.out (by kernel_rfl)) (fun _ _ _ h => h) (Or.inl ⟨by rfl, ?_⟩) ?_ ?_
       rotate_left
       ·intro w'
        go_simp
        with_reducible rfl
       rotate_left
       ·simp only [Act.put, List.setIfInBounds_toArray, List.set_cons_zero, List.set_cons_succ, i64_w, i32_w]
        rfl
       refine pure_ (i := 6) (N := some 32) (v := ?_) (a' := ?_) #[true, true, true, true, true, true, true, false, true, false, false] rfl rfl (any_of HT_.out (by kernel_rfl)) (fun _ _ _ h => h) (Or.inl ⟨by rfl, ?_⟩) ?_ ?_
       rotate_left
       ·intro w'
        go_simp
        with_reducible rfl
       rotate_left
       ·simp only [Act.put, List.setIfInBounds_toArray, List.set_cons_zero, List.set_cons_succ, i64_w, i32_w]
        rfl
       refine pure_ (i := 7) (N := some 33) (v := ?_) (a' := ?_) #[true, true, true, true, true, true, true, true, true, false, false] rfl rfl (any_of HT_.out (by kernel_rfl)) (fun _ _ _ h => h) (Or.inl ⟨by rfl, ?_⟩) ?_ ?_
       rotate_left
       ·intro w'
        go_simp
        with_reducible rfl
       rotate_left
       ·simp only [Act.put, List.setIfInBounds_toArray, List.set_cons_zero, List.set_cons_succ, i64_w, i32_w]
        rfl
       exact norm_ (by simp only [putAll, Act.put, List.setIfInBounds_toArray, List.set_cons_zero, List.set_cons_succ]) (hCont (.slice Ao37 t267.length co37, v275, gb278) _ ⟨hHeld, (rx (Kd.R_mono HO269.out (fun _ hk => hk.2))), (rx (Kd.R_mono HO276.out (fun _ hk => hk.2))), (kx BK263.out), (kx BK264.out), (kx BK278.out), GW278.out, GE278.out, NB263_278.out, NB278_263.out, NB264_278.out, NB278_264.out, (bx HB.out)⟩)
     ·skip
      refine box_step ?hg (N := 6) ?hd (cs := #[.slice none 0 0]) (t := 31) ?hr ?_; (case hd => rfl); (case hg => rfl); (case hr => first | (go_simp; done) | (go_simp; rfl))
      intro gb278 hg w35 hbox hb
      have n0_ := am (Kd.R_below (rx HO269.out) hb)
      have n1_ := am (bb hb (kx BK263.out))
      have n2_ := am (bb hb (kx BK264.out))
      have n3_ := am (below_step (bx HB.out) hb)
      have n4_ := am (hbox)
      have n5_ := zge hg (bx HB.out)
      have n6_ := zge hg (bx HB.out)
      have n7_ := znl hg (kx BK263.out)
      have n8_ := zng hg (kx BK263.out)
      have n9_ := znl hg (kx BK264.out)
      have n10_ := zng hg (kx BK264.out)
      clear HO269 BK263 BK264 HB
      have HO269 := n0_
      have BK263 := n1_
      have BK264 := n2_
      have HB := n3_
      have BK278 := n4_
      have GW278 := n5_
      have GE278 := n6_
      have NB263_278 := n7_
      have NB278_263 := n8_
      have NB264_278 := n9_
      have NB278_264 := n10_
      clear n0_ n1_ n2_ n3_ n4_ n5_ n6_ n7_ n8_ n9_ n10_ hb hbox hg
      refine hK.out _ _ ⟨ct BK263.out 0, ct BK264.out 0, ct BK264.out 1, ct BK264.out 2, ct BK264.out 3⟩ (fun hHeld => ?_)
      clear hK K
      refine norm_ (a' := ?_) ?_ ?_
      rotate_left
      ·show Act.put _ (some 6) _ = _
       simp only [Act.put, List.setIfInBounds_toArray, List.set_cons_zero, List.set_cons_succ, i64_w, i32_w]
       rfl
      refine one_ (i := 3) (N := some 30) #[true, true, true, true, false, false, false, false, true, false, false] rfl rfl (one_of HT_.out (by kernel_rfl)) (by decide) (fun K hK => ?_)
      refine goes_ Try.func11 (by kernel_rfl) rfl #[.agg #[.int .i64 a1_0, .string a1_1, .string a1_2, .string a1_3]] (by rfl) rfl rfl zr ?_
      with_reducible refine (laws_toAct.calls a1_0 a1_1 a1_2 a1_3 t270 t271 t272 t273 _ A20.out).mono ?_
      rintro e w36 ⟨rfl, hb⟩
      refine ⟨_, rfl, ?_⟩
      have n0_ := am (Kd.R_below (rx HO269.out) hb)
      have n1_ := am (bb hb (kx BK263.out))
      have n2_ := am (bb hb (kx BK264.out))
      have n3_ := am (bb hb (kx BK278.out))
      have n4_ := am (below_step (bx HB.out) hb)
      clear HO269 BK263 BK264 BK278 HB
      have HO269 := n0_
      have BK263 := n1_
      have BK264 := n2_
      have BK278 := n3_
      have HB := n4_
      clear n0_ n1_ n2_ n3_ n4_
      (try clear hb)
      (try clear hb2)
      (try clear hk)
      (try clear hi)
      obtain ⟨Ao37, co37, eo37⟩ := Kd.R_slice HO269.out
      (first | subst eo37 | (injection eo37 with f1_ f2_ f3_; have f4_ := f1_.symm; have f5_ := f3_.symm; clear f1_ f2_ f3_; subst f4_; subst f5_))
      refine hK.out _ _ ⟨ct BK263.out 0, ct BK264.out 0, ct BK264.out 1, ct BK264.out 2, ct BK264.out 3⟩ (fun hHeld => ?_)
      clear hK K
      refine norm_ (a' := ?_) ?_ ?_
      rotate_left
      ·show Act.put _ (some 30) _ = _
       simp only [Act.put, List.setIfInBounds_toArray, List.set_cons_zero, List.set_cons_succ, i64_w, i32_w]
       rfl
      refine one_ (i := 4) (N := some 31) #[true, true, true, true, true, false, false, false, true, false, false] rfl rfl (one_of HT_.out (by kernel_rfl)) (by decide) (fun K hK => ?_)
      refine goes_ Try.func9 (by kernel_rfl) rfl #[.agg #[.slice Ao37 t267.length co37], .agg #[.int .i64 t270, .string t271, .string t272, .string t273]] (by rfl) rfl rfl zr ?_
      with_reducible refine (spec_DoAct.calls k _ _ t267 t270 t271 t272 t273 t274 t277 _ ?side1 ?side2 A21.out).mono ?_
      (case side1 => repeat (first | exact (Kd.R_reads' HO269.out).2.2 | (with_reducible refine Kd.C_alloc ?_ _) | (with_reducible refine Kd.C_drewN ?_ _) | (with_reducible refine Kd.C_drew ?_)))
      (case side2 => exact (Kd.R_reads' HO269.out).2.1)
      rintro e w38 ⟨v275, rfl, ho0, hb⟩
      refine ⟨_, rfl, ?_⟩
      have n0_ := am (Kd.R_elder' (rx HO269.out) (Kd.R_base ho0) hb)
      have n1_ := am (Kd.R_lower (Kd.R_new' ho0 (Kd.R_lt (rx HO269.out))) (below_size (bx HB.out)))
      have n2_ := am (bb hb (kx BK263.out))
      have n3_ := am (bb hb (kx BK264.out))
      have n4_ := am (bb hb (kx BK278.out))
      have n5_ := am (below_step (bx HB.out) hb)
      clear HO269 BK263 BK264 BK278 HB
      have HO269 := n0_
      have HO276 := n1_
      have BK263 := n2_
      have BK264 := n3_
      have BK278 := n4_
      have HB := n5_
      clear n0_ n1_ n2_ n3_ n4_ n5_
      (try clear hb)
      (try clear hb2)
      (try clear hk)
      (try clear hi)
      (try clear ho0)
      refine hK.out _ _ ⟨ct BK263.out 0, ct BK264.out 0, ct BK264.out 1, ct BK264.out 2, ct BK264.out 3⟩ (fun hHeld => ?_)
      clear hK K
      refine norm_ (a' := ?_) ?_ ?_
      rotate_left
      ·show Act.put _ (some 31) _ = _
       simp only [Act.put, List.setIfInBounds_toArray, List.set_cons_zero, List.set_cons_succ, i64_w, i32_w]
       rfl
      refine pure_ (i := 5) (N := some 26) (v := ?_) (a' := ?_) #[true, true, true, true, true, true, false, false, true, false, false] rfl rfl (any_of HT_.out (by kernel_rfl)) (fun _ _ _ h => h) (Or.inl ⟨by rfl, ?_⟩) ?_ ?_
      rotate_left
      ·intro w'
       go_simp
       with_reducible rfl
      rotate_left
      ·simp only [Act.put, List.setIfInBounds_toArray, List.set_cons_zero, List.set_cons_succ, i64_w, i32_w]
       rfl
      refine pure_ (i := 6) (N := some 32) (v := ?_) (a' := ?_) #[true, true, true, true, true, true, true, false, true, false, false] rfl rfl (any_of HT_.out (by kernel_rfl)) (fun _ _ _ h => h) (Or.inl ⟨by rfl, ?_⟩) ?_ ?_
      rotate_left
      ·intro w'
       go_simp
       with_reducible rfl
      rotate_left
      ·simp only [Act.put, List.setIfInBounds_toArray, List.set_cons_zero, List.set_cons_succ, i64_w, i32_w]
       rfl
      refine pure_ (i := 7) (N := some 33) (v := ?_) (a' := ?_) #[true, true, true, true, true, true, true, true, true, false, false] rfl rfl (any_of HT_.out (by kernel_rfl)) (fun _ _ _ h => h) (Or.inl ⟨by rfl, ?_⟩) ?_ ?_
      rotate_left
      ·intro w'
       go_simp
       with_reducible rfl
      rotate_left
      ·simp only [Act.put, List.setIfInBounds_toArray, List.set_cons_zero, List.set_cons_succ, i64_w, i32_w]
       rfl
      exact norm_ (by simp only [putAll, Act.put, List.setIfInBounds_toArray, List.set_cons_zero, List.set_cons_succ]) (hCont (.slice Ao37 t267.length co37, v275, gb278) _ ⟨hHeld, (rx (Kd.R_mono HO269.out (fun _ hk => hk.2))), (rx (Kd.R_mono HO276.out (fun _ hk => hk.2))), (kx BK263.out), (kx BK264.out), (kx BK278.out), GW278.out, GE278.out, NB263_278.out, NB278_263.out, NB264_278.out, NB278_264.out, (bx HB.out)⟩)
    ·skip
     refine box_step ?hg (N := 6) ?hd (cs := #[.slice none 0 0]) (t := 31) ?hr ?_; (case hd => rfl); (case hg => rfl); (case hr => first | (go_simp; done) | (go_simp; rfl))
     intro gb278 hg w34 hbox hb
     have n0_ := am (bb hb (kx BK263.out))
     have n1_ := am (bb hb (kx BK264.out))
     have n2_ := am (below_step (bx HB.out) hb)
     have n3_ := am (hbox)
     have n4_ := zge hg (bx HB.out)
     have n5_ := zge hg (bx HB.out)
     have n6_ := znl hg (kx BK263.out)
     have n7_ := zng hg (kx BK263.out)
     have n8_ := znl hg (kx BK264.out)
     have n9_ := zng hg (kx BK264.out)
     clear BK263 BK264 HB
     have BK263 := n0_
     have BK264 := n1_
     have HB := n2_
     have BK278 := n3_
     have GW278 := n4_
     have GE278 := n5_
     have NB263_278 := n6_
     have NB278_263 := n7_
     have NB264_278 := n8_
     have NB278_264 := n9_
     clear n0_ n1_ n2_ n3_ n4_ n5_ n6_ n7_ n8_ n9_ hb hbox hg
     refine hK.out _ _ ⟨ct BK263.out 0, ct BK264.out 0, ct BK264.out 1, ct BK264.out 2, ct BK264.out 3⟩ (fun hHeld => ?_)
     clear hK K
     refine norm_ (a' := ?_) ?_ ?_
     rotate_left
     ·show Act.put _ (some 6) _ = _
      simp only [Act.put, List.setIfInBounds_toArray, List.set_cons_zero, List.set_cons_succ, i64_w, i32_w]
      rfl
     refine one_ (i := 1) (N := some 28) #[true, true, true, false, false, false, false, false, true, false, false] rfl rfl (one_of HT_.out (by kernel_rfl)) (by decide) (fun K hK => ?_)
     refine goes_ Try.func10 (by kernel_rfl) rfl #[.agg #[.slice A0_0 l0_0.length c0_0]] (by rfl) rfl rfl zr ?_
     with_reducible refine (laws_toDisk.calls k _ _ l0_0 t267 _ ?side1 ?side2 A19.out).mono ?_
     (case side1 => repeat (first | exact (Kd.C_below HR0_0.out HB.out) | (with_reducible refine Kd.C_alloc ?_ _) | (with_reducible refine Kd.C_drewN ?_ _) | (with_reducible refine Kd.C_drew ?_)))
     (case side2 => exact HC0_0.out)
     rintro e w35 ⟨v268, rfl, ho0, hb⟩
     refine ⟨_, rfl, ?_⟩
     have n0_ := am (Kd.R_lower ho0 (below_size (bx HB.out)))
     have n1_ := am (bb hb (kx BK263.out))
     have n2_ := am (bb hb (kx BK264.out))
     have n3_ := am (bb hb (kx BK278.out))
     have n4_ := am (below_step (bx HB.out) hb)
     clear BK263 BK264 BK278 HB
     have HO269 := n0_
     have BK263 := n1_
     have BK264 := n2_
     have BK278 := n3_
     have HB := n4_
     clear n0_ n1_ n2_ n3_ n4_
     (try clear hb)
     (try clear hb2)
     (try clear hk)
     (try clear hi)
     (try clear ho0)
     refine hK.out _ _ ⟨ct BK263.out 0, ct BK264.out 0, ct BK264.out 1, ct BK264.out 2, ct BK264.out 3⟩ (fun hHeld => ?_)
     clear hK K
     refine norm_ (a' := ?_) ?_ ?_
     rotate_left
     ·show Act.put _ (some 28) _ = _
      simp only [Act.put, List.setIfInBounds_toArray, List.set_cons_zero, List.set_cons_succ, i64_w, i32_w]
      rfl
     refine one_ (i := 3) (N := some 30) #[true, true, true, true, false, false, false, false, true, false, false] rfl rfl (one_of HT_.out (by kernel_rfl)) (by decide) (fun K hK => ?_)
     refine goes_ Try.func11 (by kernel_rfl) rfl #[.agg #[.int .i64 a1_0, .string a1_1, .string a1_2, .string a1_3]] (by rfl) rfl rfl zr ?_
     with_reducible refine (laws_toAct.calls a1_0 a1_1 a1_2 a1_3 t270 t271 t272 t273 _ A20.out).mono ?_
     rintro e w36 ⟨rfl, hb⟩
     refine ⟨_, rfl, ?_⟩
     have n0_ := am (Kd.R_below (rx HO269.out) hb)
     have n1_ := am (bb hb (kx BK263.out))
     have n2_ := am (bb hb (kx BK264.out))
     have n3_ := am (bb hb (kx BK278.out))
     have n4_ := am (below_step (bx HB.out) hb)
     clear HO269 BK263 BK264 BK278 HB
     have HO269 := n0_
     have BK263 := n1_
     have BK264 := n2_
     have BK278 := n3_
     have HB := n4_
     clear n0_ n1_ n2_ n3_ n4_
     (try clear hb)
     (try clear hb2)
     (try clear hk)
     (try clear hi)
     obtain ⟨Ao37, co37, eo37⟩ := Kd.R_slice HO269.out
     (first | subst eo37 | (injection eo37 with f1_ f2_ f3_; have f4_ := f1_.symm; have f5_ := f3_.symm; clear f1_ f2_ f3_; subst f4_; subst f5_))
     refine hK.out _ _ ⟨ct BK263.out 0, ct BK264.out 0, ct BK264.out 1, ct BK264.out 2, ct BK264.out 3⟩ (fun hHeld => ?_)
     clear hK K
     refine norm_ (a' := ?_) ?_ ?_
     rotate_left
     ·show Act.put _ (some 30) _ = _
      simp only [Act.put, List.setIfInBounds_toArray, List.set_cons_zero, List.set_cons_succ, i64_w, i32_w]
      rfl
     refine one_ (i := 4) (N := some 31) #[true, true, true, true, true, false, false, false, true, false, false] rfl rfl (one_of HT_.out (by kernel_rfl)) (by decide) (fun K hK => ?_)
     refine goes_ Try.func9 (by kernel_rfl) rfl #[.agg #[.slice Ao37 t267.length co37], .agg #[.int .i64 t270, .string t271, .string t272, .string t273]] (by rfl) rfl rfl zr ?_
     with_reducible refine (spec_DoAct.calls k _ _ t267 t270 t271 t272 t273 t274 t277 _ ?side1 ?side2 A21.out).mono ?_
     (case side1 => repeat (first | exact (Kd.R_reads' HO269.out).2.2 | (with_reducible refine Kd.C_alloc ?_ _) | (with_reducible refine Kd.C_drewN ?_ _) | (with_reducible refine Kd.C_drew ?_)))
     (case side2 => exact (Kd.R_reads' HO269.out).2.1)
     rintro e w38 ⟨v275, rfl, ho0, hb⟩
     refine ⟨_, rfl, ?_⟩
     have n0_ := am (Kd.R_elder' (rx HO269.out) (Kd.R_base ho0) hb)
     have n1_ := am (Kd.R_lower (Kd.R_new' ho0 (Kd.R_lt (rx HO269.out))) (below_size (bx HB.out)))
     have n2_ := am (bb hb (kx BK263.out))
     have n3_ := am (bb hb (kx BK264.out))
     have n4_ := am (bb hb (kx BK278.out))
     have n5_ := am (below_step (bx HB.out) hb)
     clear HO269 BK263 BK264 BK278 HB
     have HO269 := n0_
     have HO276 := n1_
     have BK263 := n2_
     have BK264 := n3_
     have BK278 := n4_
     have HB := n5_
     clear n0_ n1_ n2_ n3_ n4_ n5_
     (try clear hb)
     (try clear hb2)
     (try clear hk)
     (try clear hi)
     (try clear ho0)
     refine hK.out _ _ ⟨ct BK263.out 0, ct BK264.out 0, ct BK264.out 1, ct BK264.out 2, ct BK264.out 3⟩ (fun hHeld => ?_)
     clear hK K
     refine norm_ (a' := ?_) ?_ ?_
     rotate_left
     ·show Act.put _ (some 31) _ = _
      simp only [Act.put, List.setIfInBounds_toArray, List.set_cons_zero, List.set_cons_succ, i64_w, i32_w]
      rfl
     refine pure_ (i := 5) (N := some 26) (v := ?_) (a' := ?_) #[true, true, true, true, true, true, false, false, true, false, false] rfl rfl (any_of HT_.out (by kernel_rfl)) (fun _ _ _ h => h) (Or.inl ⟨by rfl, ?_⟩) ?_ ?_
     rotate_left
     ·intro w'
      go_simp
      with_reducible rfl
     rotate_left
     ·simp only [Act.put, List.setIfInBounds_toArray, List.set_cons_zero, List.set_cons_succ, i64_w, i32_w]
      rfl
     refine pure_ (i := 6) (N := some 32) (v := ?_) (a' := ?_) #[true, true, true, true, true, true, true, false, true, false, false] rfl rfl (any_of HT_.out (by kernel_rfl)) (fun _ _ _ h => h) (Or.inl ⟨by rfl, ?_⟩) ?_ ?_
     rotate_left
     ·intro w'
      go_simp
      with_reducible rfl
     rotate_left
     ·simp only [Act.put, List.setIfInBounds_toArray, List.set_cons_zero, List.set_cons_succ, i64_w, i32_w]
      rfl
     refine pure_ (i := 7) (N := some 33) (v := ?_) (a' := ?_) #[true, true, true, true, true, true, true, true, true, false, false] rfl rfl (any_of HT_.out (by kernel_rfl)) (fun _ _ _ h => h) (Or.inl ⟨by rfl, ?_⟩) ?_ ?_
     rotate_left
     ·intro w'
      go_simp
      with_reducible rfl
     rotate_left
     ·simp only [Act.put, List.setIfInBounds_toArray, List.set_cons_zero, List.set_cons_succ, i64_w, i32_w]
      rfl
     exact norm_ (by simp only [putAll, Act.put, List.setIfInBounds_toArray, List.set_cons_zero, List.set_cons_succ]) (hCont (.slice Ao37 t267.length co37, v275, gb278) _ ⟨hHeld, (rx (Kd.R_mono HO269.out (fun _ hk => hk.2))), (rx (Kd.R_mono HO276.out (fun _ hk => hk.2))), (kx BK263.out), (kx BK264.out), (kx BK278.out), GW278.out, GE278.out, NB263_278.out, NB278_263.out, NB264_278.out, NB278_264.out, (bx HB.out)⟩)
   rintro ⟨v268, v275, gb278⟩ w39 ⟨hS_, h0_, h1_, h2_, h3_, h4_, h5_, h6_, h7_, h8_, h9_, h10_, h11_⟩
   have n0_ : Aside0 (Kd.R k66 66 w39 w.heap.size (fun k_ => some k_ ≠ (v275 : Value).ownBlock) v268 t267) := ⟨h0_⟩
   have n1_ : Aside0 (Kd.R k66 66 w39 w.heap.size (fun k_ => some k_ ≠ (v268 : Value).ownBlock) v275 t274) := ⟨h1_⟩
   have n2_ : Aside0 (w39.heap[gb263]? = some (.cells #[.slice A0_0 l0_0.length c0_0] 24 (0, 0))) := ⟨h2_⟩
   have n3_ : Aside0 (w39.heap[gb264]? = some (.cells #[.int .i64 a1_0, .string a1_1, .string a1_2, .string a1_3] 26 (0, 0))) := ⟨h3_⟩
   have n4_ : Aside0 (w39.heap[gb278]? = some (.cells #[.slice none 0 0] 31 (0, 0))) := ⟨h4_⟩
   have n5_ : Aside0 (w.heap.size ≤ gb278) := ⟨h5_⟩
   have n6_ : Aside0 (w.heap.size ≤ gb278) := ⟨h6_⟩
   have n7_ : Aside0 (gb263 ≠ gb278) := ⟨h7_⟩
   have n8_ : Aside0 (gb278 ≠ gb263) := ⟨h8_⟩
   have n9_ : Aside0 (gb264 ≠ gb278) := ⟨h9_⟩
   have n10_ : Aside0 (gb278 ≠ gb264) := ⟨h10_⟩
   have n11_ : Aside0 (Below w.heap.size w w39) := ⟨h11_⟩
   clear BK263 BK264 HB h0_ h1_ h2_ h3_ h4_ h5_ h6_ h7_ h8_ h9_ h10_ h11_
   have HO269 := n0_
   have HO276 := n1_
   have BK263 := n2_
   have BK264 := n3_
   have BK278 := n4_
   have GW278 := n5_
   have GE278 := n6_
   have NB263_278 := n7_
   have NB278_263 := n8_
   have NB264_278 := n9_
   have NB278_264 := n10_
   have HB := n11_
   clear n0_ n1_ n2_ n3_ n4_ n5_ n6_ n7_ n8_ n9_ n10_ n11_
   have hHeld : w39.cell? ⟨gb263, 0, none⟩ = some (.slice A0_0 l0_0.length c0_0) ∧ w39.cell? ⟨gb264, 0, none⟩ = some (.int .i64 a1_0) ∧ w39.cell? ⟨gb264, 1, none⟩ = some (.string a1_1) ∧ w39.cell? ⟨gb264, 2, none⟩ = some (.string a1_2) ∧ w39.cell? ⟨gb264, 3, none⟩ = some (.string a1_3) := hS_
   obtain ⟨Ao40, co40, eo40⟩ := Kd.R_slice HO276.out
   (first | subst eo40 | (injection eo40 with f1_ f2_ f3_; have f4_ := f1_.symm; have f5_ := f3_.symm; clear f1_ f2_ f3_; subst f4_; subst f5_))
   refine norm_ (a' := ?_) ?_ ?_
   rotate_left
   ·simp only [putAll, Act.put, List.setIfInBounds_toArray, List.set_cons_zero, List.set_cons_succ]
    rfl
   refine one_ (i := 9) (N := none) #[true, true, true, true, true, true, true, true, true, true, false] rfl rfl (one_of HT_.out (by kernel_rfl)) (by decide) (fun K hK => ?_)
   have hs41 : w39.cell? ⟨gb278, 0, none⟩ = some (.slice none 0 0) := ct BK278.out 0
   have hfs41 := blk_frozen BK278.out 0
   have hns41_0 := NB263_278.out
   have hns41_1 := NB264_278.out
   have hms41_0 := NB278_263.out
   have hms41_1 := NB278_264.out
   refine skip_ (w1 := ?_) (by rfl) rfl ?_ ?_
   rotate_left
   ·go_simp
    rfl
   refine hK.out _ _ ⟨((cell_far (p := ⟨gb278, _, none⟩) NB263_278.out _).trans (hHeld.1)), ((cell_far (p := ⟨gb278, _, none⟩) NB264_278.out _).trans (hHeld.2.1)), ((cell_far (p := ⟨gb278, _, none⟩) NB264_278.out _).trans (hHeld.2.2.1)), ((cell_far (p := ⟨gb278, _, none⟩) NB264_278.out _).trans (hHeld.2.2.2.1)), ((cell_far (p := ⟨gb278, _, none⟩) NB264_278.out _).trans (hHeld.2.2.2.2))⟩ (fun hHeld => ?_)
   clear hK K
   refine pure_ (i := 10) (N := some 7) (v := ?_) (a' := ?_) #[true, true, true, true, true, true, true, true, true, true, true] rfl rfl (any_of HT_.out (by kernel_rfl)) (fun _ _ _ h => h) (Or.inl ⟨by rfl, ?_⟩) ?_ ?_
   rotate_left
   ·intro w'
    go_simp
    with_reducible rfl
   rotate_left
   ·simp only [Act.put, List.setIfInBounds_toArray, List.set_cons_zero, List.set_cons_succ, i64_w, i32_w]
    rfl
   refine done_ (done_of HT_.out (by kernel_rfl)) ?_
   have hnb42 := NB263_278.out
   have hnc42 := NB278_263.out
   obtain ⟨hcz43_0, hfz43_0⟩ := zc1 BK263.out
   try go_wp2_with (first | ((with_reducible refine gate_callee (f := 10) rfl ?_); refine goesL_ (some 35) rfl rfl Try.func10 (by kernel_rfl) rfl #[.agg #[.slice A0_0 l0_0.length c0_0]] rfl zr ?_; (with_reducible refine (laws_toDisk.calls k _ _ l0_0 t279 _ ?side1 ?side2 A22.out).mono ?_); (case side1 => exact Kd.C_below HR0_0.out (bx HB.out)); (case side2 => exact HC0_0.out); rintro e w44 ⟨v280, rfl, ho0, hb⟩; refine ⟨_, rfl, ?_⟩; have n0_ := am (Kd.R_elder' (rx ((Kd.R_mono (Kd.R_far (p := ⟨gb278, 0, none⟩) (Kd.R_types HO269.out BK278.out (by decide)) (fun _ hk => hk.2) (.slice Ao40 t274.length co40)) (fun _ h_ => h_.1)))) (Kd.R_base ho0) hb); have n1_ := am (Kd.R_elder' (rx ((Kd.R_mono (Kd.R_far (p := ⟨gb278, 0, none⟩) (Kd.R_types HO276.out BK278.out (by decide)) (fun _ hk => hk.2) (.slice Ao40 t274.length co40)) (fun _ h_ => h_.1)))) (Kd.R_base ho0) hb); have n2_ := am (Kd.R_lower (Kd.R_new' (Kd.R_new' ho0 (Kd.R_lt (rx ((Kd.R_mono (Kd.R_far (p := ⟨gb278, 0, none⟩) (Kd.R_types HO269.out BK278.out (by decide)) (fun _ hk => hk.2) (.slice Ao40 t274.length co40)) (fun _ h_ => h_.1)))))) (Kd.R_lt (rx ((Kd.R_mono (Kd.R_far (p := ⟨gb278, 0, none⟩) (Kd.R_types HO276.out BK278.out (by decide)) (fun _ hk => hk.2) (.slice Ao40 t274.length co40)) (fun _ h_ => h_.1)))))) (below_size (bx HB.out))); have n3_ := am (bb hb (zf1 BK263.out NB263_278.out)); have n4_ := am (bb hb (zf1 BK264.out NB264_278.out)); have n5_ := am (blk_below (g := gb278) (o := .cells #[.slice Ao40 t274.length co40] 31 (0, 0)) (by (with_reducible repeat (first | refine blk_drewN ?_ _ | refine blk_drew ?_ | refine blk_alloc ?_ _)); refine blk_put (cs := #[.slice none 0 0]) ?_ 0 _ rfl; (with_reducible repeat (first | refine blk_drewN ?_ _ | refine blk_drew ?_ | refine blk_alloc ?_ _)); exact BK278.out) hb); have n6_ := am (below_step (bx HB.out) hb); clear HO269; clear HO276; clear BK263; clear BK264; clear BK278; clear HB; have HO269 := n0_; have HO276 := n1_; have HO281 := n2_; have BK263 := n3_; have BK264 := n4_; have BK278 := n5_; have HB := n6_; clear n0_ n1_ n2_ n3_ n4_ n5_ n6_; (try clear hb); (try clear hb2); (try clear hk); (try clear hi); (try clear ho0)) | ((with_reducible refine gate_dst (N := 8) rfl ?_); refine box_event ?hg (N := 8) ?hd (cs := #[.slice none 0 0]) (t := 31) ?hr ?_; (case hd => rfl); (case hg => rfl); (case hr => first | (go_simp; done) | (go_simp; rfl)); intro gb282 hg w45 hbox hb; have n0_ := am (Kd.R_below (rx HO269.out) hb); have n1_ := am (Kd.R_below (rx HO276.out) hb); have n2_ := am (Kd.R_below (rx HO281.out) hb); have n3_ := am (bb hb (kx BK263.out)); have n4_ := am (bb hb (kx BK264.out)); have n5_ := am (bb hb (kx BK278.out)); have n6_ := am (below_step (bx HB.out) hb); have n7_ := am (hbox); have n8_ := zge hg (bx HB.out); have n9_ := zge hg (bx HB.out); have n10_ := znl hg (kx BK263.out); have n11_ := zng hg (kx BK263.out); have n12_ := znl hg (kx BK264.out); have n13_ := zng hg (kx BK264.out); have n14_ := znl hg (kx BK278.out); have n15_ := zng hg (kx BK278.out); clear HO269; clear HO276; clear HO281; clear BK263; clear BK264; clear BK278; clear HB; have HO269 := n0_; have HO276 := n1_; have HO281 := n2_; have BK263 := n3_; have BK264 := n4_; have BK278 := n5_; have HB := n6_; have BK282 := n7_; have GW282 := n8_; have GE282 := n9_; have NB263_282 := n10_; have NB282_263 := n11_; have NB264_282 := n12_; have NB282_264 := n13_; have NB278_282 := n14_; have NB282_278 := n15_; clear n0_ n1_ n2_ n3_ n4_ n5_ n6_ n7_ n8_ n9_ n10_ n11_ n12_ n13_ n14_ n15_; clear hb hbox hg; obtain ⟨Ao46, co46, eo46⟩ := Kd.R_slice HO281.out; subst eo46; have hnb47 := NB282_263.out; have hnc47 := NB263_282.out; have hnb48 := NB282_264.out; have hnc48 := NB264_282.out; have hnb49 := NB282_278.out; have hnc49 := NB278_282.out; obtain ⟨hcz50_0, hfz50_0⟩ := zc1 BK282.out))
   have n0_ : Aside0 (Kd.R k66 66 (w45.setCell ⟨gb282, 0, none⟩ (.slice Ao46 t279.length co46)) w.heap.size (fun k_ => some k_ ≠ (.slice Ao40 t274.length co40 : Value).ownBlock ∧ some k_ ≠ (.slice Ao46 t279.length co46 : Value).ownBlock) v268 t267) := ⟨rx (Kd.R_mono (Kd.R_far (p := ⟨gb282, 0, none⟩) (Kd.R_types HO269.out BK282.out (by decide)) (fun _ hk => hk.2) (.slice Ao46 t279.length co46)) (fun _ hk => ⟨hk.1.1, hk.1.2⟩))⟩
   have n1_ : Aside0 (Kd.R k66 66 (w45.setCell ⟨gb282, 0, none⟩ (.slice Ao46 t279.length co46)) w.heap.size (fun k_ => some k_ ≠ (v268 : Value).ownBlock ∧ some k_ ≠ (.slice Ao46 t279.length co46 : Value).ownBlock) (.slice Ao40 t274.length co40) t274) := ⟨rx (Kd.R_mono (Kd.R_far (p := ⟨gb282, 0, none⟩) (Kd.R_types HO276.out BK282.out (by decide)) (fun _ hk => hk.2) (.slice Ao46 t279.length co46)) (fun _ hk => ⟨hk.1.1, hk.1.2⟩))⟩
   have n2_ : Aside0 (Kd.R k66 66 (w45.setCell ⟨gb282, 0, none⟩ (.slice Ao46 t279.length co46)) w.heap.size (fun k_ => some k_ ≠ (v268 : Value).ownBlock ∧ some k_ ≠ (.slice Ao40 t274.length co40 : Value).ownBlock) (.slice Ao46 t279.length co46) t279) := ⟨rx (Kd.R_mono (Kd.R_far (p := ⟨gb282, 0, none⟩) (Kd.R_types HO281.out BK282.out (by decide)) (fun _ hk => hk.2) (.slice Ao46 t279.length co46)) (fun _ hk => ⟨hk.1.1.2, hk.1.2⟩))⟩
   have n3_ : Aside0 ((w45.setCell ⟨gb282, 0, none⟩ (.slice Ao46 t279.length co46)).heap[gb263]? = some (.cells #[.slice A0_0 l0_0.length c0_0] 24 (0, 0))) := ⟨zf1 BK263.out NB263_282.out⟩
   have n4_ : Aside0 ((w45.setCell ⟨gb282, 0, none⟩ (.slice Ao46 t279.length co46)).heap[gb264]? = some (.cells #[.int .i64 a1_0, .string a1_1, .string a1_2, .string a1_3] 26 (0, 0))) := ⟨zf1 BK264.out NB264_282.out⟩
   have n5_ : Aside0 ((w45.setCell ⟨gb282, 0, none⟩ (.slice Ao46 t279.length co46)).heap[gb278]? = some (.cells #[.slice Ao40 t274.length co40] 31 (0, 0))) := ⟨zf1 BK278.out NB278_282.out⟩
   have n6_ : Aside0 ((w45.setCell ⟨gb282, 0, none⟩ (.slice Ao46 t279.length co46)).heap[gb282]? = some (.cells #[.slice Ao46 t279.length co46] 31 (0, 0))) := ⟨by (with_reducible repeat (first | refine blk_drewN ?_ _ | refine blk_drew ?_ | refine blk_alloc ?_ _)); refine blk_put (cs := #[.slice none 0 0]) ?_ 0 _ rfl; (with_reducible repeat (first | refine blk_drewN ?_ _ | refine blk_drew ?_ | refine blk_alloc ?_ _)); exact BK282.out⟩
   have n7_ : Aside0 (Below w.heap.size w (w45.setCell ⟨gb282, 0, none⟩ (.slice Ao46 t279.length co46))) := ⟨bx HB.out⟩
   (try clear HO269)
   (try clear HO276)
   (try clear HO281)
   (try clear BK263)
   (try clear BK264)
   (try clear BK278)
   (try clear BK282)
   (try clear HB)
   generalize (w45.setCell ⟨gb282, 0, none⟩ (.slice Ao46 t279.length co46)) = w51 at n0_ n1_ n2_ n3_ n4_ n5_ n6_ n7_ ⊢
   have HO269 := n0_
   have HO276 := n1_
   have HO281 := n2_
   have BK263 := n3_
   have BK264 := n4_
   have BK278 := n5_
   have BK282 := n6_
   have HB := n7_
   clear n0_ n1_ n2_ n3_ n4_ n5_ n6_ n7_
   have n0_ := am (Kd.R_drew HO269.out)
   have n1_ := am (Kd.R_drew HO276.out)
   have n2_ := am (Kd.R_drew HO281.out)
   have n3_ := am (blk_drew BK263.out)
   have n4_ := am (blk_drew BK264.out)
   have n5_ := am (blk_drew BK278.out)
   have n6_ := am (blk_drew BK282.out)
   have n7_ := am (below_drew1 HB.out)
   clear HO269 HO276 HO281 BK263 BK264 BK278 BK282 HB
   have HO269 := n0_
   have HO276 := n1_
   have HO281 := n2_
   have BK263 := n3_
   have BK264 := n4_
   have BK278 := n5_
   have BK282 := n6_
   have HB := n7_
   clear n0_ n1_ n2_ n3_ n4_ n5_ n6_ n7_
   refine start_ (n := 10) (S := fun w' => w'.cell? ⟨gb282, 0, none⟩ = some (.slice Ao46 t279.length co46) ∧ w'.cell? ⟨gb264, 0, none⟩ = some (.int .i64 a1_0) ∧ w'.cell? ⟨gb264, 1, none⟩ = some (.string a1_1) ∧ w'.cell? ⟨gb264, 2, none⟩ = some (.string a1_2) ∧ w'.cell? ⟨gb264, 3, none⟩ = some (.string a1_3)) (ds := []) #[false, false, false, false, false, false, false, false, false, false] (by kernel_rfl) rfl rfl ⟨ct BK282.out 0, ct BK264.out 0, ct BK264.out 1, ct BK264.out 2, ct BK264.out 3⟩ (fun hHeld => ?_); refine with_tabW laws_FnExactDoAct.tab10 laws_FnExactDoAct.bits10 (fun HT_ HW_ => ?_)
   generalize w51.drew = w52 at HO269 HO276 HO281 BK263 BK264 BK278 BK282 HB hHeld ⊢
   refine take_ (i := 0) (N := some 37) (v := ?_) (a' := ?_) #[true, false, false, false, false, false, false, false, false, false] rfl rfl (take_ofW HT_.out HW_.out (by kernel_rfl)) (fun _ _ _ h => h) (Or.inl ⟨by rfl, ?_⟩) hHeld ?_ ?_
   rotate_left
   ·rintro w' ⟨s0, s1, s2, s3, s4⟩
    go_simp
    with_reducible rfl
   rotate_left
   ·simp only [Act.put, List.setIfInBounds_toArray, List.set_cons_zero, List.set_cons_succ, i64_w, i32_w]
    rfl
   refine take_ (i := 1) (N := some 38) (v := ?_) (a' := ?_) #[true, true, false, false, false, false, false, false, false, false] rfl rfl (take_ofW HT_.out HW_.out (by kernel_rfl)) (fun _ _ _ h => h) (Or.inl ⟨by rfl, ?_⟩) hHeld ?_ ?_
   rotate_left
   ·rintro w' ⟨s0, s1, s2, s3, s4⟩
    go_simp
    with_reducible rfl
   rotate_left
   ·simp only [Act.put, List.setIfInBounds_toArray, List.set_cons_zero, List.set_cons_succ, i64_w, i32_w]
    rfl
   refine join_ (σ := Value × Nat) 2 #[true, true, true, true, true, true, true, true, false, false] (fun s_ => [(39, .agg #[.int .i64 t283, .string t284, .string t285, .string t286]), (40, .tuple #[.agg #[s_.1], .bool t290]), (9, .pointer (some ⟨s_.2, 0, none⟩)), (36, .tuple #[.agg #[s_.1], .bool t290]), (41, .agg #[s_.1]), (42, .bool t290)]) (fun s_ w' => (w'.cell? ⟨gb282, 0, none⟩ = some (.slice Ao46 t279.length co46) ∧ w'.cell? ⟨gb264, 0, none⟩ = some (.int .i64 a1_0) ∧ w'.cell? ⟨gb264, 1, none⟩ = some (.string a1_1) ∧ w'.cell? ⟨gb264, 2, none⟩ = some (.string a1_2) ∧ w'.cell? ⟨gb264, 3, none⟩ = some (.string a1_3)) ∧ (Kd.R k66 66 w' w.heap.size (fun k_ => some k_ ≠ (.slice Ao40 t274.length co40 : Value).ownBlock ∧ some k_ ≠ (.slice Ao46 t279.length co46 : Value).ownBlock ∧ some k_ ≠ (s_.1 : Value).ownBlock) v268 t267) ∧ (Kd.R k66 66 w' w.heap.size (fun k_ => some k_ ≠ (v268 : Value).ownBlock ∧ some k_ ≠ (.slice Ao46 t279.length co46 : Value).ownBlock ∧ some k_ ≠ (s_.1 : Value).ownBlock) (.slice Ao40 t274.length co40) t274) ∧ (Kd.R k66 66 w' w.heap.size (fun k_ => some k_ ≠ (v268 : Value).ownBlock ∧ some k_ ≠ (.slice Ao40 t274.length co40 : Value).ownBlock ∧ some k_ ≠ (s_.1 : Value).ownBlock) (.slice Ao46 t279.length co46) t279) ∧ (Kd.R k66 66 w' w.heap.size (fun k_ => some k_ ≠ (v268 : Value).ownBlock ∧ some k_ ≠ (.slice Ao40 t274.length co40 : Value).ownBlock ∧ some k_ ≠ (.slice Ao46 t279.length co46 : Value).ownBlock) s_.1 t287) ∧ (w'.heap[gb263]? = some (.cells #[.slice A0_0 l0_0.length c0_0] 24 (0, 0))) ∧ (w'.heap[gb264]? = some (.cells #[.int .i64 a1_0, .string a1_1, .string a1_2, .string a1_3] 26 (0, 0))) ∧ (w'.heap[gb278]? = some (.cells #[.slice Ao40 t274.length co40] 31 (0, 0))) ∧ (w'.heap[gb282]? = some (.cells #[.slice Ao46 t279.length co46] 31 (0, 0))) ∧ (w'.heap[s_.2]? = some (.cells #[.slice none 0 0] 31 (0, 0))) ∧ (w.heap.size ≤ s_.2) ∧ (w.heap.size ≤ s_.2) ∧ (gb263 ≠ s_.2) ∧ (s_.2 ≠ gb263) ∧ (gb264 ≠ s_.2) ∧ (s_.2 ≠ gb264) ∧ (gb278 ≠ s_.2) ∧ (s_.2 ≠ gb278) ∧ (gb282 ≠ s_.2) ∧ (s_.2 ≠ gb282) ∧ (Below w.heap.size w w')) ?_ ?_
   rotate_left
   ·intro hCont
    refine two_ (i := 2) (j := 7) (Ni := some 39) (Nj := some 9) #[true, true, true, false, false, false, false, false, false, false] #[true, true, false, false, false, false, false, true, false, false] rfl rfl rfl rfl (two_of HT_.out (by kernel_rfl)) (by decide) (by decide) (fun K hK => ?_) (fun K hK => ?_)
    ·skip
     refine goes_ Try.func11 (by kernel_rfl) rfl #[.agg #[.int .i64 a1_0, .string a1_1, .string a1_2, .string a1_3]] (by rfl) rfl rfl zr ?_
     with_reducible refine (laws_toAct.calls a1_0 a1_1 a1_2 a1_3 t283 t284 t285 t286 _ A23.out).mono ?_
     rintro e w53 ⟨rfl, hb⟩
     refine ⟨_, rfl, ?_⟩
     have n0_ := am (Kd.R_below (rx HO269.out) hb)
     have n1_ := am (Kd.R_below (rx HO276.out) hb)
     have n2_ := am (Kd.R_below (rx HO281.out) hb)
     have n3_ := am (bb hb (kx BK263.out))
     have n4_ := am (bb hb (kx BK264.out))
     have n5_ := am (bb hb (kx BK278.out))
     have n6_ := am (bb hb (kx BK282.out))
     have n7_ := am (below_step (bx HB.out) hb)
     clear HO269 HO276 HO281 BK263 BK264 BK278 BK282 HB
     have HO269 := n0_
     have HO276 := n1_
     have HO281 := n2_
     have BK263 := n3_
     have BK264 := n4_
     have BK278 := n5_
     have BK282 := n6_
     have HB := n7_
     clear n0_ n1_ n2_ n3_ n4_ n5_ n6_ n7_
     (try clear hb)
     (try clear hb2)
     (try clear hk)
     (try clear hi)
     refine hK.out _ _ ⟨ct BK282.out 0, ct BK264.out 0, ct BK264.out 1, ct BK264.out 2, ct BK264.out 3⟩ (fun hHeld => ?_)
     clear hK K
     refine norm_ (a' := ?_) ?_ ?_
     rotate_left
     ·show Act.put _ (some 39) _ = _
      simp only [Act.put, List.setIfInBounds_toArray, List.set_cons_zero, List.set_cons_succ, i64_w, i32_w]
      rfl
     refine two_ (i := 3) (j := 7) (Ni := some 40) (Nj := some 9) #[true, true, true, true, false, false, false, false, false, false] #[true, true, true, false, false, false, false, true, false, false] rfl rfl rfl rfl (two_of HT_.out (by kernel_rfl)) (by decide) (by decide) (fun K hK => ?_) (fun K hK => ?_)
     ·skip
      refine goes_ Try.func12 (by kernel_rfl) rfl #[.agg #[.slice Ao46 t279.length co46], .agg #[.int .i64 t283, .string t284, .string t285, .string t286]] (by rfl) rfl rfl zr ?_
      with_reducible refine (impl_DoAct.calls k _ _ t279 t283 t284 t285 t286 t287 t290 _ ?side1 ?side2 A24.out).mono ?_
      (case side1 => repeat (first | exact (Kd.R_reads' HO281.out).2.2 | (with_reducible refine Kd.C_alloc ?_ _) | (with_reducible refine Kd.C_drewN ?_ _) | (with_reducible refine Kd.C_drew ?_)))
      (case side2 => exact (Kd.R_reads' HO281.out).2.1)
      rintro e w54 ⟨v288, rfl, ho0, hb⟩
      refine ⟨_, rfl, ?_⟩
      have n0_ := am (Kd.R_elder' (rx HO269.out) (Kd.R_base ho0) hb)
      have n1_ := am (Kd.R_elder' (rx HO276.out) (Kd.R_base ho0) hb)
      have n2_ := am (Kd.R_elder' (rx HO281.out) (Kd.R_base ho0) hb)
      have n3_ := am (Kd.R_lower (Kd.R_new' (Kd.R_new' (Kd.R_new' ho0 (Kd.R_lt (rx HO269.out))) (Kd.R_lt (rx HO276.out))) (Kd.R_lt (rx HO281.out))) (below_size (bx HB.out)))
      have n4_ := am (bb hb (kx BK263.out))
      have n5_ := am (bb hb (kx BK264.out))
      have n6_ := am (bb hb (kx BK278.out))
      have n7_ := am (bb hb (kx BK282.out))
      have n8_ := am (below_step (bx HB.out) hb)
      clear HO269 HO276 HO281 BK263 BK264 BK278 BK282 HB
      have HO269 := n0_
      have HO276 := n1_
      have HO281 := n2_
      have HO289 := n3_
      have BK263 := n4_
      have BK264 := n5_
      have BK278 := n6_
      have BK282 := n7_
      have HB := n8_
      clear n0_ n1_ n2_ n3_ n4_ n5_ n6_ n7_ n8_
      (try clear hb)
      (try clear hb2)
      (try clear hk)
      (try clear hi)
      (try clear ho0)
      refine hK.out _ _ ⟨ct BK282.out 0, ct BK264.out 0, ct BK264.out 1, ct BK264.out 2, ct BK264.out 3⟩ (fun hHeld => ?_)
      clear hK K
      refine norm_ (a' := ?_) ?_ ?_
      rotate_left
      ·show Act.put _ (some 40) _ = _
       simp only [Act.put, List.setIfInBounds_toArray, List.set_cons_zero, List.set_cons_succ, i64_w, i32_w]
       rfl
      refine pure_ (i := 4) (N := some 36) (v := ?_) (a' := ?_) #[true, true, true, true, true, false, false, false, false, false] rfl rfl (any_of HT_.out (by kernel_rfl)) (fun _ _ _ h => h) (Or.inl ⟨by rfl, ?_⟩) ?_ ?_
      rotate_left
      ·intro w'
       go_simp
       with_reducible rfl
      rotate_left
      ·simp only [Act.put, List.setIfInBounds_toArray, List.set_cons_zero, List.set_cons_succ, i64_w, i32_w]
       rfl
      refine pure_ (i := 5) (N := some 41) (v := ?_) (a' := ?_) #[true, true, true, true, true, true, false, false, false, false] rfl rfl (any_of HT_.out (by kernel_rfl)) (fun _ _ _ h => h) (Or.inl ⟨by rfl, ?_⟩) ?_ ?_
      rotate_left
      ·intro w'
       go_simp
       with_reducible rfl
      rotate_left
      ·simp only [Act.put, List.setIfInBounds_toArray, List.set_cons_zero, List.set_cons_succ, i64_w, i32_w]
       rfl
      refine pure_ (i := 6) (N := some 42) (v := ?_) (a' := ?_) #[true, true, true, true, true, true, true, false, false, false] rfl rfl (any_of HT_.out (by kernel_rfl)) (fun _ _ _ h => h) (Or.inl ⟨by rfl, ?_⟩) ?_ ?_
      rotate_left
      ·intro w'
       go_simp
       with_reducible rfl
      rotate_left
      ·simp only [Act.put, List.setIfInBounds_toArray, List.set_cons_zero, List.set_cons_succ, i64_w, i32_w]
       rfl
      refine one_ (i := 7) (N := some 9) #[true, true, true, true, true, true, true, true, false, false] rfl rfl (one_of HT_.out (by kernel_rfl)) (by decide) (fun K hK => ?_)
      refine box_step ?hg (N := 9) ?hd (cs := #[.slice none 0 0]) (t := 31) ?hr ?_; (case hd => rfl); (case hg => rfl); (case hr => first | (go_simp; done) | (go_simp; rfl))
      intro gb291 hg w55 hbox hb
      have n0_ := am (Kd.R_below (rx HO269.out) hb)
      have n1_ := am (Kd.R_below (rx HO276.out) hb)
      have n2_ := am (Kd.R_below (rx HO281.out) hb)
      have n3_ := am (Kd.R_below (rx HO289.out) hb)
      have n4_ := am (bb hb (kx BK263.out))
      have n5_ := am (bb hb (kx BK264.out))
      have n6_ := am (bb hb (kx BK278.out))
      have n7_ := am (bb hb (kx BK282.out))
      have n8_ := am (below_step (bx HB.out) hb)
      have n9_ := am (hbox)
      have n10_ := zge hg (bx HB.out)
      have n11_ := zge hg (bx HB.out)
      have n12_ := znl hg (kx BK263.out)
      have n13_ := zng hg (kx BK263.out)
      have n14_ := znl hg (kx BK264.out)
      have n15_ := zng hg (kx BK264.out)
      have n16_ := znl hg (kx BK278.out)
      have n17_ := zng hg (kx BK278.out)
      have n18_ := znl hg (kx BK282.out)
      have n19_ := zng hg (kx BK282.out)
      clear HO269 HO276 HO281 HO289 BK263 BK264 BK278 BK282 HB
      have HO269 := n0_
      have HO276 := n1_
      have HO281 := n2_
      have HO289 := n3_
      have BK263 := n4_
      have BK264 := n5_
      have BK278 := n6_
      have BK282 := n7_
      have HB := n8_
      have BK291 := n9_
      have GW291 := n10_
      have GE291 := n11_
      have NB263_291 := n12_
      have NB291_263 := n13_
      have NB264_291 := n14_
      have NB291_264 := n15_
      have NB278_291 := n16_
      have NB291_278 := n17_
      have NB282_291 := n18_
      have NB291_282 := n19_
      clear n0_ n1_ n2_ n3_ n4_ n5_ n6_ n7_ n8_ n9_ n10_ n11_ n12_ n13_ n14_ n15_ n16_ n17_ n18_ n19_ hb hbox hg
      refine hK.out _ _ ⟨ct BK282.out 0, ct BK264.out 0, ct BK264.out 1, ct BK264.out 2, ct BK264.out 3⟩ (fun hHeld => ?_)
      clear hK K
      refine norm_ (a' := ?_) ?_ ?_
      rotate_left
      ·show Act.put _ (some 9) _ = _
       simp only [Act.put, List.setIfInBounds_toArray, List.set_cons_zero, List.set_cons_succ, i64_w, i32_w]
       rfl
      exact norm_ (by simp only [putAll, Act.put, List.setIfInBounds_toArray, List.set_cons_zero, List.set_cons_succ]) (hCont (v288, gb291) _ ⟨hHeld, (rx (Kd.R_mono HO269.out (fun _ hk => ⟨hk.1.1, ⟨hk.1.2, hk.2⟩⟩))), (rx (Kd.R_mono HO276.out (fun _ hk => ⟨hk.1.1, ⟨hk.1.2, hk.2⟩⟩))), (rx (Kd.R_mono HO281.out (fun _ hk => ⟨hk.1.1, ⟨hk.1.2, hk.2⟩⟩))), (rx (Kd.R_mono HO289.out (fun _ hk => ⟨hk.1.1.2, ⟨hk.1.2, hk.2⟩⟩))), (kx BK263.out), (kx BK264.out), (kx BK278.out), (kx BK282.out), (kx BK291.out), GW291.out, GE291.out, NB263_291.out, NB291_263.out, NB264_291.out, NB291_264.out, NB278_291.out, NB291_278.out, NB282_291.out, NB291_282.out, (bx HB.out)⟩)
     ·skip
      refine box_step ?hg (N := 9) ?hd (cs := #[.slice none 0 0]) (t := 31) ?hr ?_; (case hd => rfl); (case hg => rfl); (case hr => first | (go_simp; done) | (go_simp; rfl))
      intro gb291 hg w54 hbox hb
      have n0_ := am (Kd.R_below (rx HO269.out) hb)
      have n1_ := am (Kd.R_below (rx HO276.out) hb)
      have n2_ := am (Kd.R_below (rx HO281.out) hb)
      have n3_ := am (bb hb (kx BK263.out))
      have n4_ := am (bb hb (kx BK264.out))
      have n5_ := am (bb hb (kx BK278.out))
      have n6_ := am (bb hb (kx BK282.out))
      have n7_ := am (below_step (bx HB.out) hb)
      have n8_ := am (hbox)
      have n9_ := zge hg (bx HB.out)
      have n10_ := zge hg (bx HB.out)
      have n11_ := znl hg (kx BK263.out)
      have n12_ := zng hg (kx BK263.out)
      have n13_ := znl hg (kx BK264.out)
      have n14_ := zng hg (kx BK264.out)
      have n15_ := znl hg (kx BK278.out)
      have n16_ := zng hg (kx BK278.out)
      have n17_ := znl hg (kx BK282.out)
      have n18_ := zng hg (kx BK282.out)
      clear HO269 HO276 HO281 BK263 BK264 BK278 BK282 HB
      have HO269 := n0_
      have HO276 := n1_
      have HO281 := n2_
      have BK263 := n3_
      have BK264 := n4_
      have BK278 := n5_
      have BK282 := n6_
      have HB := n7_
      have BK291 := n8_
      have GW291 := n9_
      have GE291 := n10_
      have NB263_291 := n11_
      have NB291_263 := n12_
      have NB264_291 := n13_
      have NB291_264 := n14_
      have NB278_291 := n15_
      have NB291_278 := n16_
      have NB282_291 := n17_
      have NB291_282 := n18_
      clear n0_ n1_ n2_ n3_ n4_ n5_ n6_ n7_ n8_ n9_ n10_ n11_ n12_ n13_ n14_ n15_ n16_ n17_ n18_ hb hbox hg
      refine hK.out _ _ ⟨ct BK282.out 0, ct BK264.out 0, ct BK264.out 1, ct BK264.out 2, ct BK264.out 3⟩ (fun hHeld => ?_)
      clear hK K
      refine norm_ (a' := ?_) ?_ ?_
      rotate_left
      ·show Act.put _ (some 9) _ = _
       simp only [Act.put, List.setIfInBounds_toArray, List.set_cons_zero, List.set_cons_succ, i64_w, i32_w]
       rfl
      refine one_ (i := 3) (N := some 40) #[true, true, true, true, false, false, false, true, false, false] rfl rfl (one_of HT_.out (by kernel_rfl)) (by decide) (fun K hK => ?_)
      refine goes_ Try.func12 (by kernel_rfl) rfl #[.agg #[.slice Ao46 t279.length co46], .agg #[.int .i64 t283, .string t284, .string t285, .string t286]] (by rfl) rfl rfl zr ?_
      with_reducible refine (impl_DoAct.calls k _ _ t279 t283 t284 t285 t286 t287 t290 _ ?side1 ?side2 A24.out).mono ?_
      (case side1 => repeat (first | exact (Kd.R_reads' HO281.out).2.2 | (with_reducible refine Kd.C_alloc ?_ _) | (with_reducible refine Kd.C_drewN ?_ _) | (with_reducible refine Kd.C_drew ?_)))
      (case side2 => exact (Kd.R_reads' HO281.out).2.1)
      rintro e w55 ⟨v288, rfl, ho0, hb⟩
      refine ⟨_, rfl, ?_⟩
      have n0_ := am (Kd.R_elder' (rx HO269.out) (Kd.R_base ho0) hb)
      have n1_ := am (Kd.R_elder' (rx HO276.out) (Kd.R_base ho0) hb)
      have n2_ := am (Kd.R_elder' (rx HO281.out) (Kd.R_base ho0) hb)
      have n3_ := am (Kd.R_lower (Kd.R_new' (Kd.R_new' (Kd.R_new' ho0 (Kd.R_lt (rx HO269.out))) (Kd.R_lt (rx HO276.out))) (Kd.R_lt (rx HO281.out))) (below_size (bx HB.out)))
      have n4_ := am (bb hb (kx BK263.out))
      have n5_ := am (bb hb (kx BK264.out))
      have n6_ := am (bb hb (kx BK278.out))
      have n7_ := am (bb hb (kx BK282.out))
      have n8_ := am (bb hb (kx BK291.out))
      have n9_ := am (below_step (bx HB.out) hb)
      clear HO269 HO276 HO281 BK263 BK264 BK278 BK282 BK291 HB
      have HO269 := n0_
      have HO276 := n1_
      have HO281 := n2_
      have HO289 := n3_
      have BK263 := n4_
      have BK264 := n5_
      have BK278 := n6_
      have BK282 := n7_
      have BK291 := n8_
      have HB := n9_
      clear n0_ n1_ n2_ n3_ n4_ n5_ n6_ n7_ n8_ n9_
      (try clear hb)
      (try clear hb2)
      (try clear hk)
      (try clear hi)
      (try clear ho0)
      refine hK.out _ _ ⟨ct BK282.out 0, ct BK264.out 0, ct BK264.out 1, ct BK264.out 2, ct BK264.out 3⟩ (fun hHeld => ?_)
      clear hK K
      refine norm_ (a' := ?_) ?_ ?_
      rotate_left
      ·show Act.put _ (some 40) _ = _
       simp only [Act.put, List.setIfInBounds_toArray, List.set_cons_zero, List.set_cons_succ, i64_w, i32_w]
       rfl
      refine pure_ (i := 4) (N := some 36) (v := ?_) (a' := ?_) #[true, true, true, true, true, false, false, true, false, false] rfl rfl (any_of HT_.out (by kernel_rfl)) (fun _ _ _ h => h) (Or.inl ⟨by rfl, ?_⟩) ?_ ?_
      rotate_left
      ·intro w'
       go_simp
       with_reducible rfl
      rotate_left
      ·simp only [Act.put, List.setIfInBounds_toArray, List.set_cons_zero, List.set_cons_succ, i64_w, i32_w]
       rfl
      refine pure_ (i := 5) (N := some 41) (v := ?_) (a' := ?_) #[true, true, true, true, true, true, false, true, false, false] rfl rfl (any_of HT_.out (by kernel_rfl)) (fun _ _ _ h => h) (Or.inl ⟨by rfl, ?_⟩) ?_ ?_
      rotate_left
      ·intro w'
       go_simp
       with_reducible rfl
      rotate_left
      ·simp only [Act.put, List.setIfInBounds_toArray, List.set_cons_zero, List.set_cons_succ, i64_w, i32_w]
       rfl
      refine pure_ (i := 6) (N := some 42) (v := ?_) (a' := ?_) #[true, true, true, true, true, true, true, true, false, false] rfl rfl (any_of HT_.out (by kernel_rfl)) (fun _ _ _ h => h) (Or.inl ⟨by rfl, ?_⟩) ?_ ?_
      rotate_left
      ·intro w'
       go_simp
       with_reducible rfl
      rotate_left
      ·simp only [Act.put, List.setIfInBounds_toArray, List.set_cons_zero, List.set_cons_succ, i64_w, i32_w]
       rfl
      exact norm_ (by simp only [putAll, Act.put, List.setIfInBounds_toArray, List.set_cons_zero, List.set_cons_succ]) (hCont (v288, gb291) _ ⟨hHeld, (rx (Kd.R_mono HO269.out (fun _ hk => ⟨hk.1.1, ⟨hk.1.2, hk.2⟩⟩))), (rx (Kd.R_mono HO276.out (fun _ hk => ⟨hk.1.1, ⟨hk.1.2, hk.2⟩⟩))), (rx (Kd.R_mono HO281.out (fun _ hk => ⟨hk.1.1, ⟨hk.1.2, hk.2⟩⟩))), (rx (Kd.R_mono HO289.out (fun _ hk => ⟨hk.1.1.2, ⟨hk.1.2, hk.2⟩⟩))), (kx BK263.out), (kx BK264.out), (kx BK278.out), (kx BK282.out), (kx BK291.out), GW291.out, GE291.out, NB263_291.out, NB291_263.out, NB264_291.out, NB291_264.out, NB278_291.out, NB291_278.out, NB282_291.out, NB291_282.out, (bx HB.out)⟩)
    ·skip
     refine box_step ?hg (N := 9) ?hd (cs := #[.slice none 0 0]) (t := 31) ?hr ?_; (case hd => rfl); (case hg => rfl); (case hr => first | (go_simp; done) | (go_simp; rfl))
     intro gb291 hg w53 hbox hb
     have n0_ := am (Kd.R_below (rx HO269.out) hb)
     have n1_ := am (Kd.R_below (rx HO276.out) hb)
     have n2_ := am (Kd.R_below (rx HO281.out) hb)
     have n3_ := am (bb hb (kx BK263.out))
     have n4_ := am (bb hb (kx BK264.out))
     have n5_ := am (bb hb (kx BK278.out))
     have n6_ := am (bb hb (kx BK282.out))
     have n7_ := am (below_step (bx HB.out) hb)
     have n8_ := am (hbox)
     have n9_ := zge hg (bx HB.out)
     have n10_ := zge hg (bx HB.out)
     have n11_ := znl hg (kx BK263.out)
     have n12_ := zng hg (kx BK263.out)
     have n13_ := znl hg (kx BK264.out)
     have n14_ := zng hg (kx BK264.out)
     have n15_ := znl hg (kx BK278.out)
     have n16_ := zng hg (kx BK278.out)
     have n17_ := znl hg (kx BK282.out)
     have n18_ := zng hg (kx BK282.out)
     clear HO269 HO276 HO281 BK263 BK264 BK278 BK282 HB
     have HO269 := n0_
     have HO276 := n1_
     have HO281 := n2_
     have BK263 := n3_
     have BK264 := n4_
     have BK278 := n5_
     have BK282 := n6_
     have HB := n7_
     have BK291 := n8_
     have GW291 := n9_
     have GE291 := n10_
     have NB263_291 := n11_
     have NB291_263 := n12_
     have NB264_291 := n13_
     have NB291_264 := n14_
     have NB278_291 := n15_
     have NB291_278 := n16_
     have NB282_291 := n17_
     have NB291_282 := n18_
     clear n0_ n1_ n2_ n3_ n4_ n5_ n6_ n7_ n8_ n9_ n10_ n11_ n12_ n13_ n14_ n15_ n16_ n17_ n18_ hb hbox hg
     refine hK.out _ _ ⟨ct BK282.out 0, ct BK264.out 0, ct BK264.out 1, ct BK264.out 2, ct BK264.out 3⟩ (fun hHeld => ?_)
     clear hK K
     refine norm_ (a' := ?_) ?_ ?_
     rotate_left
     ·show Act.put _ (some 9) _ = _
      simp only [Act.put, List.setIfInBounds_toArray, List.set_cons_zero, List.set_cons_succ, i64_w, i32_w]
      rfl
     refine one_ (i := 2) (N := some 39) #[true, true, true, false, false, false, false, true, false, false] rfl rfl (one_of HT_.out (by kernel_rfl)) (by decide) (fun K hK => ?_)
     refine goes_ Try.func11 (by kernel_rfl) rfl #[.agg #[.int .i64 a1_0, .string a1_1, .string a1_2, .string a1_3]] (by rfl) rfl rfl zr ?_
     with_reducible refine (laws_toAct.calls a1_0 a1_1 a1_2 a1_3 t283 t284 t285 t286 _ A23.out).mono ?_
     rintro e w54 ⟨rfl, hb⟩
     refine ⟨_, rfl, ?_⟩
     have n0_ := am (Kd.R_below (rx HO269.out) hb)
     have n1_ := am (Kd.R_below (rx HO276.out) hb)
     have n2_ := am (Kd.R_below (rx HO281.out) hb)
     have n3_ := am (bb hb (kx BK263.out))
     have n4_ := am (bb hb (kx BK264.out))
     have n5_ := am (bb hb (kx BK278.out))
     have n6_ := am (bb hb (kx BK282.out))
     have n7_ := am (bb hb (kx BK291.out))
     have n8_ := am (below_step (bx HB.out) hb)
     clear HO269 HO276 HO281 BK263 BK264 BK278 BK282 BK291 HB
     have HO269 := n0_
     have HO276 := n1_
     have HO281 := n2_
     have BK263 := n3_
     have BK264 := n4_
     have BK278 := n5_
     have BK282 := n6_
     have BK291 := n7_
     have HB := n8_
     clear n0_ n1_ n2_ n3_ n4_ n5_ n6_ n7_ n8_
     (try clear hb)
     (try clear hb2)
     (try clear hk)
     (try clear hi)
     refine hK.out _ _ ⟨ct BK282.out 0, ct BK264.out 0, ct BK264.out 1, ct BK264.out 2, ct BK264.out 3⟩ (fun hHeld => ?_)
     clear hK K
     refine norm_ (a' := ?_) ?_ ?_
     rotate_left
     ·show Act.put _ (some 39) _ = _
      simp only [Act.put, List.setIfInBounds_toArray, List.set_cons_zero, List.set_cons_succ, i64_w, i32_w]
      rfl
     refine one_ (i := 3) (N := some 40) #[true, true, true, true, false, false, false, true, false, false] rfl rfl (one_of HT_.out (by kernel_rfl)) (by decide) (fun K hK => ?_)
     refine goes_ Try.func12 (by kernel_rfl) rfl #[.agg #[.slice Ao46 t279.length co46], .agg #[.int .i64 t283, .string t284, .string t285, .string t286]] (by rfl) rfl rfl zr ?_
     with_reducible refine (impl_DoAct.calls k _ _ t279 t283 t284 t285 t286 t287 t290 _ ?side1 ?side2 A24.out).mono ?_
     (case side1 => repeat (first | exact (Kd.R_reads' HO281.out).2.2 | (with_reducible refine Kd.C_alloc ?_ _) | (with_reducible refine Kd.C_drewN ?_ _) | (with_reducible refine Kd.C_drew ?_)))
     (case side2 => exact (Kd.R_reads' HO281.out).2.1)
     rintro e w55 ⟨v288, rfl, ho0, hb⟩
     refine ⟨_, rfl, ?_⟩
     have n0_ := am (Kd.R_elder' (rx HO269.out) (Kd.R_base ho0) hb)
     have n1_ := am (Kd.R_elder' (rx HO276.out) (Kd.R_base ho0) hb)
     have n2_ := am (Kd.R_elder' (rx HO281.out) (Kd.R_base ho0) hb)
     have n3_ := am (Kd.R_lower (Kd.R_new' (Kd.R_new' (Kd.R_new' ho0 (Kd.R_lt (rx HO269.out))) (Kd.R_lt (rx HO276.out))) (Kd.R_lt (rx HO281.out))) (below_size (bx HB.out)))
     have n4_ := am (bb hb (kx BK263.out))
     have n5_ := am (bb hb (kx BK264.out))
     have n6_ := am (bb hb (kx BK278.out))
     have n7_ := am (bb hb (kx BK282.out))
     have n8_ := am (bb hb (kx BK291.out))
     have n9_ := am (below_step (bx HB.out) hb)
     clear HO269 HO276 HO281 BK263 BK264 BK278 BK282 BK291 HB
     have HO269 := n0_
     have HO276 := n1_
     have HO281 := n2_
     have HO289 := n3_
     have BK263 := n4_
     have BK264 := n5_
     have BK278 := n6_
     have BK282 := n7_
     have BK291 := n8_
     have HB := n9_
     clear n0_ n1_ n2_ n3_ n4_ n5_ n6_ n7_ n8_ n9_
     (try clear hb)
     (try clear hb2)
     (try clear hk)
     (try clear hi)
     (try clear ho0)
     refine hK.out _ _ ⟨ct BK282.out 0, ct BK264.out 0, ct BK264.out 1, ct BK264.out 2, ct BK264.out 3⟩ (fun hHeld => ?_)
     clear hK K
     refine norm_ (a' := ?_) ?_ ?_
     rotate_left
     ·show Act.put _ (some 40) _ = _
      simp only [Act.put, List.setIfInBounds_toArray, List.set_cons_zero, List.set_cons_succ, i64_w, i32_w]
      rfl
     refine pure_ (i := 4) (N := some 36) (v := ?_) (a' := ?_) #[true, true, true, true, true, false, false, true, false, false] rfl rfl (any_of HT_.out (by kernel_rfl)) (fun _ _ _ h => h) (Or.inl ⟨by rfl, ?_⟩) ?_ ?_
     rotate_left
     ·intro w'
      go_simp
      with_reducible rfl
     rotate_left
     ·simp only [Act.put, List.setIfInBounds_toArray, List.set_cons_zero, List.set_cons_succ, i64_w, i32_w]
      rfl
     refine pure_ (i := 5) (N := some 41) (v := ?_) (a' := ?_) #[true, true, true, true, true, true, false, true, false, false] rfl rfl (any_of HT_.out (by kernel_rfl)) (fun _ _ _ h => h) (Or.inl ⟨by rfl, ?_⟩) ?_ ?_
     rotate_left
     ·intro w'
      go_simp
      with_reducible rfl
     rotate_left
     ·simp only [Act.put, List.setIfInBounds_toArray, List.set_cons_zero, List.set_cons_succ, i64_w, i32_w]
      rfl
     refine pure_ (i := 6) (N := some 42) (v := ?_) (a' := ?_) #[true, true, true, true, true, true, true, true, false, false] rfl rfl (any_of HT_.out (by kernel_rfl)) (fun _ _ _ h => h) (Or.inl ⟨by rfl, ?_⟩) ?_ ?_
     rotate_left
     ·intro w'
      go_simp
      with_reducible rfl
     rotate_left
     ·simp only [Act.put, List.setIfInBounds_toArray, List.set_cons_zero, List.set_cons_succ, i64_w, i32_w]
      rfl
     exact norm_ (by simp only [putAll, Act.put, List.setIfInBounds_toArray, List.set_cons_zero, List.set_cons_succ]) (hCont (v288, gb291) _ ⟨hHeld, (rx (Kd.R_mono HO269.out (fun _ hk => ⟨hk.1.1, ⟨hk.1.2, hk.2⟩⟩))), (rx (Kd.R_mono HO276.out (fun _ hk => ⟨hk.1.1, ⟨hk.1.2, hk.2⟩⟩))), (rx (Kd.R_mono HO281.out (fun _ hk => ⟨hk.1.1, ⟨hk.1.2, hk.2⟩⟩))), (rx (Kd.R_mono HO289.out (fun _ hk => ⟨hk.1.1.2, ⟨hk.1.2, hk.2⟩⟩))), (kx BK263.out), (kx BK264.out), (kx BK278.out), (kx BK282.out), (kx BK291.out), GW291.out, GE291.out, NB263_291.out, NB291_263.out, NB264_291.out, NB291_264.out, NB278_291.out, NB291_278.out, NB282_291.out, NB291_282.out, (bx HB.out)⟩)
   rintro ⟨v288, gb291⟩ w56 ⟨hS_, h0_, h1_, h2_, h3_, h4_, h5_, h6_, h7_, h8_, h9_, h10_, h11_, h12_, h13_, h14_, h15_, h16_, h17_, h18_, h19_⟩
   have n0_ : Aside0 (Kd.R k66 66 w56 w.heap.size (fun k_ => some k_ ≠ (.slice Ao40 t274.length co40 : Value).ownBlock ∧ some k_ ≠ (.slice Ao46 t279.length co46 : Value).ownBlock ∧ some k_ ≠ (v288 : Value).ownBlock) v268 t267) := ⟨h0_⟩
   have n1_ : Aside0 (Kd.R k66 66 w56 w.heap.size (fun k_ => some k_ ≠ (v268 : Value).ownBlock ∧ some k_ ≠ (.slice Ao46 t279.length co46 : Value).ownBlock ∧ some k_ ≠ (v288 : Value).ownBlock) (.slice Ao40 t274.length co40) t274) := ⟨h1_⟩
   have n2_ : Aside0 (Kd.R k66 66 w56 w.heap.size (fun k_ => some k_ ≠ (v268 : Value).ownBlock ∧ some k_ ≠ (.slice Ao40 t274.length co40 : Value).ownBlock ∧ some k_ ≠ (v288 : Value).ownBlock) (.slice Ao46 t279.length co46) t279) := ⟨h2_⟩
   have n3_ : Aside0 (Kd.R k66 66 w56 w.heap.size (fun k_ => some k_ ≠ (v268 : Value).ownBlock ∧ some k_ ≠ (.slice Ao40 t274.length co40 : Value).ownBlock ∧ some k_ ≠ (.slice Ao46 t279.length co46 : Value).ownBlock) v288 t287) := ⟨h3_⟩
   have n4_ : Aside0 (w56.heap[gb263]? = some (.cells #[.slice A0_0 l0_0.length c0_0] 24 (0, 0))) := ⟨h4_⟩
   have n5_ : Aside0 (w56.heap[gb264]? = some (.cells #[.int .i64 a1_0, .string a1_1, .string a1_2, .string a1_3] 26 (0, 0))) := ⟨h5_⟩
   have n6_ : Aside0 (w56.heap[gb278]? = some (.cells #[.slice Ao40 t274.length co40] 31 (0, 0))) := ⟨h6_⟩
   have n7_ : Aside0 (w56.heap[gb282]? = some (.cells #[.slice Ao46 t279.length co46] 31 (0, 0))) := ⟨h7_⟩
   have n8_ : Aside0 (w56.heap[gb291]? = some (.cells #[.slice none 0 0] 31 (0, 0))) := ⟨h8_⟩
   have n9_ : Aside0 (w.heap.size ≤ gb291) := ⟨h9_⟩
   have n10_ : Aside0 (w.heap.size ≤ gb291) := ⟨h10_⟩
   have n11_ : Aside0 (gb263 ≠ gb291) := ⟨h11_⟩
   have n12_ : Aside0 (gb291 ≠ gb263) := ⟨h12_⟩
   have n13_ : Aside0 (gb264 ≠ gb291) := ⟨h13_⟩
   have n14_ : Aside0 (gb291 ≠ gb264) := ⟨h14_⟩
   have n15_ : Aside0 (gb278 ≠ gb291) := ⟨h15_⟩
   have n16_ : Aside0 (gb291 ≠ gb278) := ⟨h16_⟩
   have n17_ : Aside0 (gb282 ≠ gb291) := ⟨h17_⟩
   have n18_ : Aside0 (gb291 ≠ gb282) := ⟨h18_⟩
   have n19_ : Aside0 (Below w.heap.size w w56) := ⟨h19_⟩
   clear HO269 HO276 HO281 BK263 BK264 BK278 BK282 HB h0_ h1_ h2_ h3_ h4_ h5_ h6_ h7_ h8_ h9_ h10_ h11_ h12_ h13_ h14_ h15_ h16_ h17_ h18_ h19_
   have HO269 := n0_
   have HO276 := n1_
   have HO281 := n2_
   have HO289 := n3_
   have BK263 := n4_
   have BK264 := n5_
   have BK278 := n6_
   have BK282 := n7_
   have BK291 := n8_
   have GW291 := n9_
   have GE291 := n10_
   have NB263_291 := n11_
   have NB291_263 := n12_
   have NB264_291 := n13_
   have NB291_264 := n14_
   have NB278_291 := n15_
   have NB291_278 := n16_
   have NB282_291 := n17_
   have NB291_282 := n18_
   have HB := n19_
   clear n0_ n1_ n2_ n3_ n4_ n5_ n6_ n7_ n8_ n9_ n10_ n11_ n12_ n13_ n14_ n15_ n16_ n17_ n18_ n19_
   have hHeld : w56.cell? ⟨gb282, 0, none⟩ = some (.slice Ao46 t279.length co46) ∧ w56.cell? ⟨gb264, 0, none⟩ = some (.int .i64 a1_0) ∧ w56.cell? ⟨gb264, 1, none⟩ = some (.string a1_1) ∧ w56.cell? ⟨gb264, 2, none⟩ = some (.string a1_2) ∧ w56.cell? ⟨gb264, 3, none⟩ = some (.string a1_3) := hS_
   obtain ⟨Ao57, co57, eo57⟩ := Kd.R_slice HO289.out
   (first | subst eo57 | (injection eo57 with f1_ f2_ f3_; have f4_ := f1_.symm; have f5_ := f3_.symm; clear f1_ f2_ f3_; subst f4_; subst f5_))
   refine norm_ (a' := ?_) ?_ ?_
   rotate_left
   ·simp only [putAll, Act.put, List.setIfInBounds_toArray, List.set_cons_zero, List.set_cons_succ]
    rfl
   refine one_ (i := 8) (N := none) #[true, true, true, true, true, true, true, true, true, false] rfl rfl (one_of HT_.out (by kernel_rfl)) (by decide) (fun K hK => ?_)
   have hs58 : w56.cell? ⟨gb291, 0, none⟩ = some (.slice none 0 0) := ct BK291.out 0
   have hfs58 := blk_frozen BK291.out 0
   have hns58_0 := NB263_291.out
   have hns58_1 := NB264_291.out
   have hns58_2 := NB278_291.out
   have hns58_3 := NB282_291.out
   have hms58_0 := NB291_263.out
   have hms58_1 := NB291_264.out
   have hms58_2 := NB291_278.out
   have hms58_3 := NB291_282.out
   refine skip_ (w1 := ?_) (by rfl) rfl ?_ ?_
   rotate_left
   ·go_simp
    rfl
   refine hK.out _ _ ⟨((cell_far (p := ⟨gb291, _, none⟩) NB282_291.out _).trans (hHeld.1)), ((cell_far (p := ⟨gb291, _, none⟩) NB264_291.out _).trans (hHeld.2.1)), ((cell_far (p := ⟨gb291, _, none⟩) NB264_291.out _).trans (hHeld.2.2.1)), ((cell_far (p := ⟨gb291, _, none⟩) NB264_291.out _).trans (hHeld.2.2.2.1)), ((cell_far (p := ⟨gb291, _, none⟩) NB264_291.out _).trans (hHeld.2.2.2.2))⟩ (fun hHeld => ?_)
   clear hK K
   refine pure_ (i := 9) (N := some 10) (v := ?_) (a' := ?_) #[true, true, true, true, true, true, true, true, true, true] rfl rfl (any_of HT_.out (by kernel_rfl)) (fun _ _ _ h => h) (Or.inl ⟨by rfl, ?_⟩) ?_ ?_
   rotate_left
   ·intro w'
    go_simp
    with_reducible rfl
   rotate_left
   ·simp only [Act.put, List.setIfInBounds_toArray, List.set_cons_zero, List.set_cons_succ, i64_w, i32_w]
    rfl
   refine done_ (done_of HT_.out (by kernel_rfl)) ?_
   go_upto_region 11 with (fail)
   go_cut [51] (fun v51 wc => ∃ (kq : Nat) (x51_24 : Bool), v51 = .bool x51_24 ∧ Aside0 (laws_FnExactDoAct.j0 kq t277 t290 x51_24 l0_0 a1_0 a1_1 a1_2 a1_3 t274 t279 t287 = some r) ∧ Aside0 (kq ≤ k) ∧ Aside0 (Kd.R k66 66 wc w.heap.size (fun k_ => some k_ ≠ ((.slice Ao46 t279.length co46) : Value).ownBlock ∧ some k_ ≠ ((.slice Ao57 t287.length co57) : Value).ownBlock) (.slice Ao40 t274.length co40) t274) ∧ Aside0 (Kd.R k66 66 wc w.heap.size (fun k_ => some k_ ≠ ((.slice Ao40 t274.length co40) : Value).ownBlock ∧ some k_ ≠ ((.slice Ao57 t287.length co57) : Value).ownBlock) (.slice Ao46 t279.length co46) t279) ∧ Aside0 (Kd.R k66 66 wc w.heap.size (fun k_ => some k_ ≠ ((.slice Ao40 t274.length co40) : Value).ownBlock ∧ some k_ ≠ ((.slice Ao46 t279.length co46) : Value).ownBlock) (.slice Ao57 t287.length co57) t287) ∧ Aside0 (wc.heap[gb263]? = some (.cells #[(.slice A0_0 l0_0.length c0_0)] 24 (0, 0))) ∧ Aside0 (wc.heap[gb264]? = some (.cells #[.int .i64 a1_0, .string a1_1, .string a1_2, .string a1_3] 26 (0, 0))) ∧ Aside0 (wc.heap[gb278]? = some (.cells #[(.slice Ao40 t274.length co40)] 31 (0, 0))) ∧ Aside0 (wc.heap[gb282]? = some (.cells #[(.slice Ao46 t279.length co46)] 31 (0, 0))) ∧ Aside0 (wc.heap[gb291]? = some (.cells #[(.slice Ao57 t287.length co57)] 31 (0, 0))) ∧ Aside0 (Below w.heap.size w wc))
   case first =>
    have H := HC25.out
    clear HC25
    replace H := Option.bind_eq_some_iff.mp H
    obtain ⟨t292, A590, H⟩ := H
    try dsimp only at H
    have A59 := Aside0.mk A590
    clear A590
    by_cases c60 : t292 = true
    ·subst c60
     have H1 : (laws_FnExactDoAct.j0 k t277 t290 (t290 != t277) l0_0 a1_0 a1_1 a1_2 a1_3 t274 t279 t287) = some r := by rw [if_pos rfl] at H; exact H
     clear H
     have H := H1
     clear H1
     have H' := Aside0.mk H
     clear H
     have hnb61 := NB291_263.out
     have hnc61 := NB263_291.out
     have hnb62 := NB291_264.out
     have hnc62 := NB264_291.out
     have hnb63 := NB291_278.out
     have hnc63 := NB278_291.out
     have hnb64 := NB291_282.out
     have hnc64 := NB282_291.out
     obtain ⟨hcz65_0, hfz65_0⟩ := zc1 BK291.out
     have hnb66 := NB278_263.out
     have hnc66 := NB263_278.out
     have hnb67 := NB278_264.out
     have hnc67 := NB264_278.out
     have hnb68 := NB278_282.out
     have hnc68 := NB282_278.out
     obtain ⟨hcz69_0, hfz69_0⟩ := zc1 BK278.out
     go_wp2_with (first | ((with_reducible refine gate_callee (f := 13) rfl ?_); refine goesL_ (some 45) rfl rfl Try.func13 (by kernel_rfl) rfl #[.agg #[.slice Ao57 t287.length co57], .agg #[.slice Ao40 t274.length co40]] rfl zr ?_; (with_reducible refine (laws_eqDisk.calls k _ _ t287 _ _ t274 true _ ?side1 ?side2 ?side3 ?side4 A59.out).mono ?_); (case side1 => refine (Kd.R_reads' (e := 66) (base := w.heap.size) (ok := fun k_ => (some k_ ≠ (v268 : Value).ownBlock ∧ (some k_ ≠ (.slice Ao40 t274.length co40 : Value).ownBlock ∧ some k_ ≠ (.slice Ao46 t279.length co46 : Value).ownBlock))) (n := t287.length) (c := co57) ?_).2.2; exact (rx ((Kd.R_mono (Kd.R_far (p := ⟨gb291, 0, none⟩) (Kd.R_types HO289.out BK291.out (by decide)) (fun _ hk => hk.2) (.slice Ao57 t287.length co57)) (fun _ h_ => h_.1))))); (case side2 => exact (Kd.R_reads' HO289.out).2.1); (case side3 => refine (Kd.R_reads' (e := 66) (base := w.heap.size) (ok := fun k_ => (some k_ ≠ (v268 : Value).ownBlock ∧ (some k_ ≠ (.slice Ao46 t279.length co46 : Value).ownBlock ∧ some k_ ≠ (.slice Ao57 t287.length co57 : Value).ownBlock))) (n := t274.length) (c := co40) ?_).2.2; exact (rx ((Kd.R_mono (Kd.R_far (p := ⟨gb291, 0, none⟩) (Kd.R_types HO276.out BK291.out (by decide)) (fun _ hk => hk.2) (.slice Ao57 t287.length co57)) (fun _ h_ => h_.1))))); (case side4 => exact (Kd.R_reads' HO276.out).2.1); rintro e w70 ⟨rfl, hb⟩; refine ⟨_, rfl, ?_⟩; have n0_ := am (Kd.R_below (rx ((Kd.R_mono (Kd.R_far (p := ⟨gb291, 0, none⟩) (Kd.R_types HO269.out BK291.out (by decide)) (fun _ hk => hk.2) (.slice Ao57 t287.length co57)) (fun _ h_ => h_.1)))) hb); have n1_ := am (Kd.R_below (rx ((Kd.R_mono (Kd.R_far (p := ⟨gb291, 0, none⟩) (Kd.R_types HO276.out BK291.out (by decide)) (fun _ hk => hk.2) (.slice Ao57 t287.length co57)) (fun _ h_ => h_.1)))) hb); have n2_ := am (Kd.R_below (rx ((Kd.R_mono (Kd.R_far (p := ⟨gb291, 0, none⟩) (Kd.R_types HO281.out BK291.out (by decide)) (fun _ hk => hk.2) (.slice Ao57 t287.length co57)) (fun _ h_ => h_.1)))) hb); have n3_ := am (Kd.R_below (rx ((Kd.R_mono (Kd.R_far (p := ⟨gb291, 0, none⟩) (Kd.R_types HO289.out BK291.out (by decide)) (fun _ hk => hk.2) (.slice Ao57 t287.length co57)) (fun _ h_ => h_.1)))) hb); have n4_ := am (bb hb (zf1 BK263.out NB263_291.out)); have n5_ := am (bb hb (zf1 BK264.out NB264_291.out)); have n6_ := am (bb hb (zf1 BK278.out NB278_291.out)); have n7_ := am (bb hb (zf1 BK282.out NB282_291.out)); have n8_ := am (blk_below (g := gb291) (o := .cells #[.slice Ao57 t287.length co57] 31 (0, 0)) (by (with_reducible repeat (first | refine blk_drewN ?_ _ | refine blk_drew ?_ | refine blk_alloc ?_ _)); refine blk_put (cs := #[.slice none 0 0]) ?_ 0 _ rfl; (with_reducible repeat (first | refine blk_drewN ?_ _ | refine blk_drew ?_ | refine blk_alloc ?_ _)); exact BK291.out) hb); have n9_ := am (below_step (bx HB.out) hb); clear HO269; clear HO276; clear HO281; clear HO289; clear BK263; clear BK264; clear BK278; clear BK282; clear BK291; clear HB; have HO269 := n0_; have HO276 := n1_; have HO281 := n2_; have HO289 := n3_; have BK263 := n4_; have BK264 := n5_; have BK278 := n6_; have BK282 := n7_; have BK291 := n8_; have HB := n9_; clear n0_ n1_ n2_ n3_ n4_ n5_ n6_ n7_ n8_ n9_; (try clear hb); (try clear hb2); (try clear hk); (try clear hi)))
     go_meet
     case rel => exact ⟨_, ((t290 != t277)), (by first | rfl | (simp; done) | (simp [*]; done)), H', ⟨by first | omega | exact Nat.le_refl _⟩, ⟨rx (Kd.R_mono HO276.out (fun _ hk => ⟨hk.2.1, hk.2.2⟩))⟩, ⟨rx (Kd.R_mono HO281.out (fun _ hk => ⟨hk.2.1, hk.2.2⟩))⟩, ⟨rx (Kd.R_mono HO289.out (fun _ hk => ⟨hk.2.1, hk.2.2⟩))⟩, ⟨kx BK263.out⟩, ⟨kx BK264.out⟩, ⟨kx BK278.out⟩, ⟨kx BK282.out⟩, ⟨kx BK291.out⟩, ⟨bx HB.out⟩⟩
    ·replace c60 := Bool.eq_false_iff.mpr c60
     subst c60
     have H1 : (laws_FnExactDoAct.j0 k t277 t290 true l0_0 a1_0 a1_1 a1_2 a1_3 t274 t279 t287) = some r := by rw [if_neg (show ¬ (false = true) by decide)] at H; exact H
     clear H
     have H := H1
     clear H1
     have H' := Aside0.mk H
     clear H
     have hnb71 := NB291_263.out
     have hnc71 := NB263_291.out
     have hnb72 := NB291_264.out
     have hnc72 := NB264_291.out
     have hnb73 := NB291_278.out
     have hnc73 := NB278_291.out
     have hnb74 := NB291_282.out
     have hnc74 := NB282_291.out
     obtain ⟨hcz75_0, hfz75_0⟩ := zc1 BK291.out
     have hnb76 := NB278_263.out
     have hnc76 := NB263_278.out
     have hnb77 := NB278_264.out
     have hnc77 := NB264_278.out
     have hnb78 := NB278_282.out
     have hnc78 := NB282_278.out
     obtain ⟨hcz79_0, hfz79_0⟩ := zc1 BK278.out
     go_wp2_with (first | ((with_reducible refine gate_callee (f := 13) rfl ?_); refine goesL_ (some 45) rfl rfl Try.func13 (by kernel_rfl) rfl #[.agg #[.slice Ao57 t287.length co57], .agg #[.slice Ao40 t274.length co40]] rfl zr ?_; (with_reducible refine (laws_eqDisk.calls k _ _ t287 _ _ t274 false _ ?side1 ?side2 ?side3 ?side4 A59.out).mono ?_); (case side1 => refine (Kd.R_reads' (e := 66) (base := w.heap.size) (ok := fun k_ => (some k_ ≠ (v268 : Value).ownBlock ∧ (some k_ ≠ (.slice Ao40 t274.length co40 : Value).ownBlock ∧ some k_ ≠ (.slice Ao46 t279.length co46 : Value).ownBlock))) (n := t287.length) (c := co57) ?_).2.2; exact (rx ((Kd.R_mono (Kd.R_far (p := ⟨gb291, 0, none⟩) (Kd.R_types HO289.out BK291.out (by decide)) (fun _ hk => hk.2) (.slice Ao57 t287.length co57)) (fun _ h_ => h_.1))))); (case side2 => exact (Kd.R_reads' HO289.out).2.1); (case side3 => refine (Kd.R_reads' (e := 66) (base := w.heap.size) (ok := fun k_ => (some k_ ≠ (v268 : Value).ownBlock ∧ (some k_ ≠ (.slice Ao46 t279.length co46 : Value).ownBlock ∧ some k_ ≠ (.slice Ao57 t287.length co57 : Value).ownBlock))) (n := t274.length) (c := co40) ?_).2.2; exact (rx ((Kd.R_mono (Kd.R_far (p := ⟨gb291, 0, none⟩) (Kd.R_types HO276.out BK291.out (by decide)) (fun _ hk => hk.2) (.slice Ao57 t287.length co57)) (fun _ h_ => h_.1))))); (case side4 => exact (Kd.R_reads' HO276.out).2.1); rintro e w80 ⟨rfl, hb⟩; refine ⟨_, rfl, ?_⟩; have n0_ := am (Kd.R_below (rx ((Kd.R_mono (Kd.R_far (p := ⟨gb291, 0, none⟩) (Kd.R_types HO269.out BK291.out (by decide)) (fun _ hk => hk.2) (.slice Ao57 t287.length co57)) (fun _ h_ => h_.1)))) hb); have n1_ := am (Kd.R_below (rx ((Kd.R_mono (Kd.R_far (p := ⟨gb291, 0, none⟩) (Kd.R_types HO276.out BK291.out (by decide)) (fun _ hk => hk.2) (.slice Ao57 t287.length co57)) (fun _ h_ => h_.1)))) hb); have n2_ := am (Kd.R_below (rx ((Kd.R_mono (Kd.R_far (p := ⟨gb291, 0, none⟩) (Kd.R_types HO281.out BK291.out (by decide)) (fun _ hk => hk.2) (.slice Ao57 t287.length co57)) (fun _ h_ => h_.1)))) hb); have n3_ := am (Kd.R_below (rx ((Kd.R_mono (Kd.R_far (p := ⟨gb291, 0, none⟩) (Kd.R_types HO289.out BK291.out (by decide)) (fun _ hk => hk.2) (.slice Ao57 t287.length co57)) (fun _ h_ => h_.1)))) hb); have n4_ := am (bb hb (zf1 BK263.out NB263_291.out)); have n5_ := am (bb hb (zf1 BK264.out NB264_291.out)); have n6_ := am (bb hb (zf1 BK278.out NB278_291.out)); have n7_ := am (bb hb (zf1 BK282.out NB282_291.out)); have n8_ := am (blk_below (g := gb291) (o := .cells #[.slice Ao57 t287.length co57] 31 (0, 0)) (by (with_reducible repeat (first | refine blk_drewN ?_ _ | refine blk_drew ?_ | refine blk_alloc ?_ _)); refine blk_put (cs := #[.slice none 0 0]) ?_ 0 _ rfl; (with_reducible repeat (first | refine blk_drewN ?_ _ | refine blk_drew ?_ | refine blk_alloc ?_ _)); exact BK291.out) hb); have n9_ := am (below_step (bx HB.out) hb); clear HO269; clear HO276; clear HO281; clear HO289; clear BK263; clear BK264; clear BK278; clear BK282; clear BK291; clear HB; have HO269 := n0_; have HO276 := n1_; have HO281 := n2_; have HO289 := n3_; have BK263 := n4_; have BK264 := n5_; have BK278 := n6_; have BK282 := n7_; have BK291 := n8_; have HB := n9_; clear n0_ n1_ n2_ n3_ n4_ n5_ n6_ n7_ n8_ n9_; (try clear hb); (try clear hb2); (try clear hk); (try clear hi)))
     go_meet
     case rel => exact ⟨_, (true), (by first | rfl | (simp; done) | (simp [*]; done)), H', ⟨by first | omega | exact Nat.le_refl _⟩, ⟨rx (Kd.R_mono HO276.out (fun _ hk => ⟨hk.2.1, hk.2.2⟩))⟩, ⟨rx (Kd.R_mono HO281.out (fun _ hk => ⟨hk.2.1, hk.2.2⟩))⟩, ⟨rx (Kd.R_mono HO289.out (fun _ hk => ⟨hk.2.1, hk.2.2⟩))⟩, ⟨kx BK263.out⟩, ⟨kx BK264.out⟩, ⟨kx BK278.out⟩, ⟨kx BK282.out⟩, ⟨kx BK291.out⟩, ⟨bx HB.out⟩⟩
   case rest =>
    clear HC25
    try clear c1
    try clear p2
    try clear c6
    try clear c7
    try clear c11
    try clear c12
    try clear c13
    try clear c60
    try clear c61
    try clear c62
    try clear c63
    try clear c64
    try clear c66
    try clear c67
    try clear c68
    try clear c71
    try clear c72
    try clear c73
    try clear c74
    try clear c76
    try clear c77
    try clear c78
    try clear hcz65_0
    try clear hcz69_0
    try clear hcz75_0
    try clear hcz79_0
    try clear hfz65_0
    try clear hfz69_0
    try clear hfz75_0
    try clear hfz79_0
    obtain ⟨kq, x51_24, rfl, HA, HJ24, HO_279000, HO_283000, HO_292000, BK263, BK264, BK278, BK282, BK291, HB⟩ := hcut
    cases kq with
    | zero => exact absurd HA.out (by simp [laws_FnExactDoAct.j0])
    | succ kj24 =>
     have H := HA.out
     clear HA
     simp only [laws_FnExactDoAct.j0] at H
     by_cases c81 : x51_24 = true
     ·subst c81
      have H1 : (some false) = some r := by rw [if_pos rfl] at H; exact H
      clear H
      have H := H1
      clear H1
      exact absurd ((Option.some.inj H).trans HLT.out) (by decide)
     ·replace c81 := Bool.eq_false_iff.mpr c81
      subst c81
      have H1 : ((laws_toDisk.f kj24 l0_0).bind fun t293 => ((laws_eqDisk.f kj24 t279 t293).bind fun t296 => (if t296 = true then ((laws_markDisk.f kj24 t279 1).bind fun bt297 => (if bt297.1 < 0 then (laws_FnExactDoAct.j1 kj24 t277 true l0_0 a1_0 a1_1 a1_2 a1_3 t274 t287) else ((laws_eqDisk.f kj24 t287 t274).bind fun t299 => (if t299 = true then (laws_FnExactDoAct.j1 kj24 t277 (t290 != t277) l0_0 a1_0 a1_1 a1_2 a1_3 t274 t287) else (laws_FnExactDoAct.j1 kj24 t277 true l0_0 a1_0 a1_1 a1_2 a1_3 t274 t287))))) else (some false)))) = some r := by rw [if_neg (show ¬ (false = true) by decide)] at H; exact H
      clear H
      have H := H1
      clear H1
      replace H := Option.bind_eq_some_iff.mp H
      obtain ⟨t293, A820, H⟩ := H
      try dsimp only at H
      have A82 := Aside0.mk A820
      clear A820
      replace H := Option.bind_eq_some_iff.mp H
      obtain ⟨t296, A830, H⟩ := H
      try dsimp only at H
      have A83 := Aside0.mk A830
      clear A830
      by_cases c84 : t296 = true
      ·subst c84
       have H1 : ((laws_markDisk.f kj24 t279 1).bind fun bt297 => (if bt297.1 < 0 then (laws_FnExactDoAct.j1 kj24 t277 true l0_0 a1_0 a1_1 a1_2 a1_3 t274 t287) else ((laws_eqDisk.f kj24 t287 t274).bind fun t299 => (if t299 = true then (laws_FnExactDoAct.j1 kj24 t277 (t290 != t277) l0_0 a1_0 a1_1 a1_2 a1_3 t274 t287) else (laws_FnExactDoAct.j1 kj24 t277 true l0_0 a1_0 a1_1 a1_2 a1_3 t274 t287))))) = some r := by rw [if_pos rfl] at H; exact H
       clear H
       have H := H1
       clear H1
       replace H := Option.bind_eq_some_iff.mp H
       obtain ⟨⟨t297, t298⟩, A850, H⟩ := H
       try dsimp only at H
       have A85 := Aside0.mk A850
       clear A850
       have HC86 := Aside0.mk H
       clear H
       try go_wp2
       have n0_ := am (Kd.R_drew HO_279000.out)
       have n1_ := am (Kd.R_drew HO_283000.out)
       have n2_ := am (Kd.R_drew HO_292000.out)
       have n3_ := am (blk_drew BK263.out)
       have n4_ := am (blk_drew BK264.out)
       have n5_ := am (blk_drew BK278.out)
       have n6_ := am (blk_drew BK282.out)
       have n7_ := am (blk_drew BK291.out)
       have n8_ := am (below_drew1 HB.out)
       clear HO_279000 HO_283000 HO_292000 BK263 BK264 BK278 BK282 BK291 HB
       have HO_279000 := n0_
       have HO_283000 := n1_
       have HO_292000 := n2_
       have BK263 := n3_
       have BK264 := n4_
       have BK278 := n5_
       have BK282 := n6_
       have BK291 := n7_
       have HB := n8_
       clear n0_ n1_ n2_ n3_ n4_ n5_ n6_ n7_ n8_
       refine start_ (n := 5) (S := fun w' => w'.cell? ⟨gb282, 0, none⟩ = some (.slice Ao46 t279.length co46) ∧ w'.cell? ⟨gb263, 0, none⟩ = some (.slice A0_0 l0_0.length c0_0)) (ds := []) #[false, false, false, false, false] (by kernel_rfl) rfl rfl ⟨ct BK282.out 0, ct BK263.out 0⟩ (fun hHeld => ?_)
       generalize wc.drew = w87 at HO_279000 HO_283000 HO_292000 BK263 BK264 BK278 BK282 BK291 HB hHeld ⊢
       refine take_ (i := 0) (N := some 52) (v := ?_) (a' := ?_) #[true, false, false, false, false] rfl rfl (by kernel_rfl) (fun _ _ _ h => h) (Or.inl ⟨by rfl, ?_⟩) hHeld ?_ ?_
       rotate_left
       ·rintro w' ⟨s0, s1⟩
        go_simp
        with_reducible rfl
       rotate_left
       ·simp only [Act.put, List.setIfInBounds_toArray, List.set_cons_zero, List.set_cons_succ, i64_w, i32_w]
        rfl
       refine take_ (i := 1) (N := some 53) (v := ?_) (a' := ?_) #[true, true, false, false, false] rfl rfl (by kernel_rfl) (fun _ _ _ h => h) (Or.inl ⟨by rfl, ?_⟩) hHeld ?_ ?_
       rotate_left
       ·rintro w' ⟨s0, s1⟩
        go_simp
        with_reducible rfl
       rotate_left
       ·simp only [Act.put, List.setIfInBounds_toArray, List.set_cons_zero, List.set_cons_succ, i64_w, i32_w]
        rfl
       refine one_ (i := 2) (N := some 54) #[true, true, true, false, false] rfl rfl (by kernel_rfl) (by decide) (fun K hK => ?_)
       refine goes_ Try.func10 (by kernel_rfl) rfl #[.agg #[.slice A0_0 l0_0.length c0_0]] (by rfl) rfl rfl zr ?_
       with_reducible refine (laws_toDisk.calls kj24 _ _ l0_0 t293 _ ?side1 ?side2 A82.out).mono ?_
       (case side1 => repeat (first | exact (Kd.C_below HR0_0.out HB.out) | (with_reducible refine Kd.C_alloc ?_ _) | (with_reducible refine Kd.C_drewN ?_ _) | (with_reducible refine Kd.C_drew ?_)))
       (case side2 => exact HC0_0.out)
       rintro e w88 ⟨v294, rfl, ho0, hb⟩
       refine ⟨_, rfl, ?_⟩
       have n0_ := am (Kd.R_elder' (rx HO_279000.out) (Kd.R_base ho0) hb)
       have n1_ := am (Kd.R_elder' (rx HO_283000.out) (Kd.R_base ho0) hb)
       have n2_ := am (Kd.R_elder' (rx HO_292000.out) (Kd.R_base ho0) hb)
       have n3_ := am (Kd.R_lower (Kd.R_new' (Kd.R_new' (Kd.R_new' ho0 (Kd.R_lt (rx HO_279000.out))) (Kd.R_lt (rx HO_283000.out))) (Kd.R_lt (rx HO_292000.out))) (below_size (bx HB.out)))
       have n4_ := am (bb hb (kx BK263.out))
       have n5_ := am (bb hb (kx BK264.out))
       have n6_ := am (bb hb (kx BK278.out))
       have n7_ := am (bb hb (kx BK282.out))
       have n8_ := am (bb hb (kx BK291.out))
       have n9_ := am (below_step (bx HB.out) hb)
       clear HO_279000 HO_283000 HO_292000 BK263 BK264 BK278 BK282 BK291 HB
       have HO_279000 := n0_
       have HO_283000 := n1_
       have HO_292000 := n2_
       have HO295 := n3_
       have BK263 := n4_
       have BK264 := n5_
       have BK278 := n6_
       have BK282 := n7_
       have BK291 := n8_
       have HB := n9_
       clear n0_ n1_ n2_ n3_ n4_ n5_ n6_ n7_ n8_ n9_
       (try clear hb)
       (try clear hb2)
       (try clear hk)
       (try clear hi)
       (try clear ho0)
       obtain ⟨Ao89, co89, eo89⟩ := Kd.R_slice HO295.out
       (first | subst eo89 | (injection eo89 with f1_ f2_ f3_; have f4_ := f1_.symm; have f5_ := f3_.symm; clear f1_ f2_ f3_; subst f4_; subst f5_))
       refine hK.out _ _ ⟨ct BK282.out 0, ct BK263.out 0⟩ (fun hHeld => ?_)
       clear hK K
       refine norm_ (a' := ?_) ?_ ?_
       rotate_left
       ·show Act.put _ (some 54) _ = _
        simp only [Act.put, List.setIfInBounds_toArray, List.set_cons_zero, List.set_cons_succ, i64_w, i32_w]
        rfl
       refine one_ (i := 3) (N := some 55) #[true, true, true, true, false] rfl rfl (by kernel_rfl) (by decide) (fun K hK => ?_)
       refine goes_ Try.func13 (by kernel_rfl) rfl #[.agg #[.slice Ao46 t279.length co46], .agg #[.slice Ao89 t293.length co89]] (by rfl) rfl rfl zr ?_
       with_reducible refine (laws_eqDisk.calls kj24 _ _ t279 _ _ t293 true _ ?side1 ?side2 ?side3 ?side4 A83.out).mono ?_
       (case side1 => repeat (first | exact (Kd.R_reads' HO_283000.out).2.2 | (with_reducible refine Kd.C_alloc ?_ _) | (with_reducible refine Kd.C_drewN ?_ _) | (with_reducible refine Kd.C_drew ?_)))
       (case side2 => exact (Kd.R_reads' HO_283000.out).2.1)
       (case side3 => repeat (first | exact (Kd.R_reads' HO295.out).2.2 | (with_reducible refine Kd.C_alloc ?_ _) | (with_reducible refine Kd.C_drewN ?_ _) | (with_reducible refine Kd.C_drew ?_)))
       (case side4 => exact (Kd.R_reads' HO295.out).2.1)
       rintro e w90 ⟨rfl, hb⟩
       refine ⟨_, rfl, ?_⟩
       have n0_ := am (Kd.R_below (rx HO_279000.out) hb)
       have n1_ := am (Kd.R_below (rx HO_283000.out) hb)
       have n2_ := am (Kd.R_below (rx HO_292000.out) hb)
       have n3_ := am (Kd.R_below (rx HO295.out) hb)
       have n4_ := am (bb hb (kx BK263.out))
       have n5_ := am (bb hb (kx BK264.out))
       have n6_ := am (bb hb (kx BK278.out))
       have n7_ := am (bb hb (kx BK282.out))
       have n8_ := am (bb hb (kx BK291.out))
       have n9_ := am (below_step (bx HB.out) hb)
       clear HO_279000 HO_283000 HO_292000 HO295 BK263 BK264 BK278 BK282 BK291 HB
       have HO_279000 := n0_
       have HO_283000 := n1_
       have HO_292000 := n2_
       have HO295 := n3_
       have BK263 := n4_
       have BK264 := n5_
       have BK278 := n6_
       have BK282 := n7_
       have BK291 := n8_
       have HB := n9_
       clear n0_ n1_ n2_ n3_ n4_ n5_ n6_ n7_ n8_ n9_
       (try clear hb)
       (try clear hb2)
       (try clear hk)
       (try clear hi)
       refine hK.out _ _ ⟨ct BK282.out 0, ct BK263.out 0⟩ (fun hHeld => ?_)
       clear hK K
       refine norm_ (a' := ?_) ?_ ?_
       rotate_left
       ·show Act.put _ (some 55) _ = _
        simp only [Act.put, List.setIfInBounds_toArray, List.set_cons_zero, List.set_cons_succ, i64_w, i32_w]
        rfl
       refine pure_ (i := 4) (N := some 56) (v := ?_) (a' := ?_) #[true, true, true, true, true] rfl rfl (by kernel_rfl) (fun _ _ _ h => h) (Or.inl ⟨by rfl, ?_⟩) ?_ ?_
       rotate_left
       ·intro w'
        go_simp
        with_reducible rfl
       rotate_left
       ·simp only [Act.put, List.setIfInBounds_toArray, List.set_cons_zero, List.set_cons_succ, i64_w, i32_w]
        rfl
       refine done_ (by kernel_rfl) ?_
       have hnb91 := NB282_263.out
       have hnc91 := NB263_282.out
       have hnb92 := NB282_264.out
       have hnc92 := NB264_282.out
       have hnb93 := NB282_278.out
       have hnc93 := NB278_282.out
       have hnb94 := NB282_291.out
       have hnc94 := NB291_282.out
       obtain ⟨hcz95_0, hfz95_0⟩ := zc1 BK282.out
       go_upto_region 17 with (first | ((with_reducible refine gate_callee (f := 14) rfl ?_); refine goesL_ (some 59) rfl rfl Try.func14 (by kernel_rfl) rfl #[.agg #[.slice Ao46 t279.length co46], .int .i64 1] rfl zr ?_; (with_reducible refine (laws_markDisk.calls kj24 (fun k_ => some k_ = (.slice Ao46 t279.length co46 : Value).ownBlock) (.slice Ao46 t279.length co46) t279 1 t297 t298 w _ ?side1 ?side2 A85.out).mono ?_); (case side1 => repeat (first | (with_reducible first | exact HB.out | apply below_alloc | apply pw_below_drewN | apply below_drew1 | refine below_set ?_ GE263.out | refine below_set ?_ GE264.out | refine below_set ?_ GE278.out | refine below_set ?_ GE282.out | refine below_set ?_ GE291.out) | exact HB.out)); (case side2 => exact Kd.R_tight rfl HO_283000.out); rintro e w96 ⟨rfl, hy0, hb, hkp⟩; refine ⟨_, rfl, ?_⟩; have n0_ := am (Kd.R_mono (ok' := fun k_ => some k_ ≠ (.slice Ao46 t279.length co46 : Value).ownBlock ∧ some k_ ≠ (.slice Ao57 t287.length co57 : Value).ownBlock ∧ some k_ ≠ (.slice Ao89 t293.length co89 : Value).ownBlock) (Kd.R_keptB (HO_279000.out) hkp (fun k_ hk_ hs_ => (hk_.1.1) hs_)) (fun k_ hk_ => ⟨hk_.1.1.1, hk_.1.1.2, hk_.1.2⟩)); have n1_ := am (Kd.R_reok rfl hy0 (fun k_ e_ => HO_283000.out.1 k_ e_)); have n2_ := am (Kd.R_mono (ok' := fun k_ => some k_ ≠ (.slice Ao40 t274.length co40 : Value).ownBlock ∧ some k_ ≠ (.slice Ao46 t279.length co46 : Value).ownBlock ∧ some k_ ≠ (.slice Ao89 t293.length co89 : Value).ownBlock) (Kd.R_keptB (HO_292000.out) hkp (fun k_ hk_ hs_ => (hk_.1.2) hs_)) (fun k_ hk_ => ⟨hk_.1.1.1, hk_.1.1.2, hk_.1.2⟩)); have n3_ := am (blk_kept (g := gb263) (kx BK263.out) hkp (fun hs_ => (fun e_ => (Kd.R_ne HO_283000.out BK263.out (by decide)) e_) hs_)); have n4_ := am (blk_kept (g := gb264) (kx BK264.out) hkp (fun hs_ => (fun e_ => (Kd.R_ne HO_283000.out BK264.out (by decide)) e_) hs_)); have n5_ := am (blk_kept (g := gb278) (kx BK278.out) hkp (fun hs_ => (fun e_ => (Kd.R_ne HO_283000.out BK278.out (by decide)) e_) hs_)); have n6_ := am (blk_kept (g := gb282) (kx BK282.out) hkp (fun hs_ => (fun e_ => (Kd.R_ne HO_283000.out BK282.out (by decide)) e_) hs_)); have n7_ := am (blk_kept (g := gb291) (kx BK291.out) hkp (fun hs_ => (fun e_ => (Kd.R_ne HO_283000.out BK291.out (by decide)) e_) hs_)); have n8_ := am (Kd.R_mono (ok' := fun k_ => some k_ ≠ (.slice Ao40 t274.length co40 : Value).ownBlock ∧ some k_ ≠ (.slice Ao46 t279.length co46 : Value).ownBlock ∧ some k_ ≠ (.slice Ao57 t287.length co57 : Value).ownBlock) (Kd.R_keptB (HO295.out) hkp (fun k_ hk_ hs_ => (hk_.1.2) hs_)) (fun k_ hk_ => ⟨hk_.1.1.1.2, hk_.1.1.2, hk_.1.2⟩)); have n9_ := am (hb); clear HO_279000; clear HO_283000; clear HO_292000; clear BK263; clear BK264; clear BK278; clear BK282; clear BK291; clear HO295; clear HB; have HO_279000 := n0_; have HO_283000 := n1_; have HO_292000 := n2_; have BK263 := n3_; have BK264 := n4_; have BK278 := n5_; have BK282 := n6_; have BK291 := n7_; have HO295 := n8_; have HB := n9_; clear n0_ n1_ n2_ n3_ n4_ n5_ n6_ n7_ n8_ n9_; (try clear hb); (try clear hkp); (try clear hy0)))
       (try simp only [Act.put, List.setIfInBounds_toArray, List.set_cons_zero, List.set_cons_succ])
       go_cut [72] (fun v72 wc => ∃ (kq : Nat) (x72_85 : Bool), v72 = .bool x72_85 ∧ Aside0 (laws_FnExactDoAct.j1 kq t277 x72_85 l0_0 a1_0 a1_1 a1_2 a1_3 t274 t287 = some r) ∧ Aside0 (kq ≤ kj24) ∧ Aside0 (Kd.R k66 66 wc w.heap.size (fun k_ => some k_ ≠ ((.slice Ao46 t279.length co46) : Value).ownBlock ∧ some k_ ≠ ((.slice Ao57 t287.length co57) : Value).ownBlock) (.slice Ao40 t274.length co40) t274) ∧ Aside0 (Kd.R k66 66 wc w.heap.size (fun k_ => some k_ ≠ ((.slice Ao40 t274.length co40) : Value).ownBlock ∧ some k_ ≠ ((.slice Ao57 t287.length co57) : Value).ownBlock) (.slice Ao46 t279.length co46) t298) ∧ Aside0 (Kd.R k66 66 wc w.heap.size (fun k_ => some k_ ≠ ((.slice Ao40 t274.length co40) : Value).ownBlock ∧ some k_ ≠ ((.slice Ao46 t279.length co46) : Value).ownBlock) (.slice Ao57 t287.length co57) t287) ∧ Aside0 (wc.heap[gb263]? = some (.cells #[(.slice A0_0 l0_0.length c0_0)] 24 (0, 0))) ∧ Aside0 (wc.heap[gb264]? = some (.cells #[.int .i64 a1_0, .string a1_1, .string a1_2, .string a1_3] 26 (0, 0))) ∧ Aside0 (wc.heap[gb278]? = some (.cells #[(.slice Ao40 t274.length co40)] 31 (0, 0))) ∧ Aside0 (wc.heap[gb282]? = some (.cells #[(.slice Ao46 t279.length co46)] 31 (0, 0))) ∧ Aside0 (wc.heap[gb291]? = some (.cells #[(.slice Ao57 t287.length co57)] 31 (0, 0))) ∧ Aside0 (Below w.heap.size w wc))
       case first =>
        have H := HC86.out
        clear HC86
        by_cases c97 : t297 < 0
        ·rw [if_pos c97] at H
         have c97b0 : decide (t297 < 0) = true := decide_eq_true c97
         clear c97
         (first | rw [c97b0] | (simp only [i64_w, i32_w]; rw [c97b0]) | skip)
         have H' := Aside0.mk H
         clear H
         go_wp2
         go_meet
         case rel => exact ⟨_, (true), (by first | rfl | (simp; done) | (simp [*]; done)), H', ⟨by have := HJ24.out; first | omega | exact Nat.le_refl _⟩, ⟨rx (Kd.R_mono HO_279000.out (fun _ hk => ⟨hk.1, hk.2.1⟩))⟩, ⟨rx (Kd.R_mono HO_283000.out (fun _ hk => ⟨hk.1.1, hk.1.2⟩))⟩, ⟨rx (Kd.R_mono HO_292000.out (fun _ hk => ⟨hk.1, hk.2.1⟩))⟩, ⟨kx BK263.out⟩, ⟨kx BK264.out⟩, ⟨kx BK278.out⟩, ⟨kx BK282.out⟩, ⟨kx BK291.out⟩, ⟨bx HB.out⟩⟩
        ·rw [if_neg c97] at H
         have c97b0 : decide (t297 < 0) = false := decide_eq_false c97
         clear c97
         (first | rw [c97b0] | (simp only [i64_w, i32_w]; rw [c97b0]) | skip)
         replace H := Option.bind_eq_some_iff.mp H
         obtain ⟨t299, A980, H⟩ := H
         try dsimp only at H
         have A98 := Aside0.mk A980
         clear A980
         by_cases c99 : t299 = true
         ·subst c99
          have H1 : (laws_FnExactDoAct.j1 kj24 t277 (t290 != t277) l0_0 a1_0 a1_1 a1_2 a1_3 t274 t287) = some r := by rw [if_pos rfl] at H; exact H
          clear H
          have H := H1
          clear H1
          have H' := Aside0.mk H
          clear H
          have hnb100 := NB291_263.out
          have hnc100 := NB263_291.out
          have hnb101 := NB291_264.out
          have hnc101 := NB264_291.out
          have hnb102 := NB291_278.out
          have hnc102 := NB278_291.out
          have hnb103 := NB291_282.out
          have hnc103 := NB282_291.out
          obtain ⟨hcz104_0, hfz104_0⟩ := zc1 BK291.out
          have hnb105 := NB278_263.out
          have hnc105 := NB263_278.out
          have hnb106 := NB278_264.out
          have hnc106 := NB264_278.out
          have hnb107 := NB278_282.out
          have hnc107 := NB282_278.out
          obtain ⟨hcz108_0, hfz108_0⟩ := zc1 BK278.out
          go_wp2_with (first | (go_at_call 13; (with_reducible refine (laws_eqDisk.calls kj24 _ _ t287 _ _ t274 true _ ?side1 ?side2 ?side3 ?side4 A98.out).mono ?_); (case side1 => repeat (first | exact (Kd.R_reads' HO_292000.out).2.2 | (with_reducible refine Kd.C_alloc ?_ _) | (with_reducible refine Kd.C_drewN ?_ _) | (with_reducible refine Kd.C_drew ?_))); (case side2 => exact (Kd.R_reads' HO_292000.out).2.1); (case side3 => repeat (first | exact (Kd.R_reads' HO_279000.out).2.2 | (with_reducible refine Kd.C_alloc ?_ _) | (with_reducible refine Kd.C_drewN ?_ _) | (with_reducible refine Kd.C_drew ?_))); (case side4 => exact (Kd.R_reads' HO_279000.out).2.1); rintro e w109 ⟨rfl, hb⟩; have n0_ := am (Kd.R_below (rx HO_279000.out) hb); have n1_ := am (Kd.R_below (rx HO_283000.out) hb); have n2_ := am (Kd.R_below (rx HO_292000.out) hb); have n3_ := am (Kd.R_below (rx HO295.out) hb); have n4_ := am (bb hb (kx BK263.out)); have n5_ := am (bb hb (kx BK264.out)); have n6_ := am (bb hb (kx BK278.out)); have n7_ := am (bb hb (kx BK282.out)); have n8_ := am (bb hb (kx BK291.out)); have n9_ := am (below_step (bx HB.out) hb); clear HO_279000; clear HO_283000; clear HO_292000; clear HO295; clear BK263; clear BK264; clear BK278; clear BK282; clear BK291; clear HB; have HO_279000 := n0_; have HO_283000 := n1_; have HO_292000 := n2_; have HO295 := n3_; have BK263 := n4_; have BK264 := n5_; have BK278 := n6_; have BK282 := n7_; have BK291 := n8_; have HB := n9_; clear n0_ n1_ n2_ n3_ n4_ n5_ n6_ n7_ n8_ n9_; (try clear hb); (try clear hb2); (try clear hk); (try clear hi)))
          go_meet
          case rel => exact ⟨_, ((t290 != t277)), (by first | rfl | (simp; done) | (simp [*]; done)), H', ⟨by have := HJ24.out; first | omega | exact Nat.le_refl _⟩, ⟨rx (Kd.R_mono HO_279000.out (fun _ hk => ⟨hk.1, hk.2.1⟩))⟩, ⟨rx (Kd.R_mono HO_283000.out (fun _ hk => ⟨hk.1.1, hk.1.2⟩))⟩, ⟨rx (Kd.R_mono HO_292000.out (fun _ hk => ⟨hk.1, hk.2.1⟩))⟩, ⟨kx BK263.out⟩, ⟨kx BK264.out⟩, ⟨kx BK278.out⟩, ⟨kx BK282.out⟩, ⟨kx BK291.out⟩, ⟨bx HB.out⟩⟩
         ·replace c99 := Bool.eq_false_iff.mpr c99
          subst c99
          have H1 : (laws_FnExactDoAct.j1 kj24 t277 true l0_0 a1_0 a1_1 a1_2 a1_3 t274 t287) = some r := by rw [if_neg (show ¬ (false = true) by decide)] at H; exact H
          clear H
          have H := H1
          clear H1
          have H' := Aside0.mk H
          clear H
          have hnb110 := NB291_263.out
          have hnc110 := NB263_291.out
          have hnb111 := NB291_264.out
          have hnc111 := NB264_291.out
          have hnb112 := NB291_278.out
          have hnc112 := NB278_291.out
          have hnb113 := NB291_282.out
          have hnc113 := NB282_291.out
          obtain ⟨hcz114_0, hfz114_0⟩ := zc1 BK291.out
          have hnb115 := NB278_263.out
          have hnc115 := NB263_278.out
          have hnb116 := NB278_264.out
          have hnc116 := NB264_278.out
          have hnb117 := NB278_282.out
          have hnc117 := NB282_278.out
          obtain ⟨hcz118_0, hfz118_0⟩ := zc1 BK278.out
          go_wp2_with (first | (go_at_call 13; (with_reducible refine (laws_eqDisk.calls kj24 _ _ t287 _ _ t274 false _ ?side1 ?side2 ?side3 ?side4 A98.out).mono ?_); (case side1 => repeat (first | exact (Kd.R_reads' HO_292000.out).2.2 | (with_reducible refine Kd.C_alloc ?_ _) | (with_reducible refine Kd.C_drewN ?_ _) | (with_reducible refine Kd.C_drew ?_))); (case side2 => exact (Kd.R_reads' HO_292000.out).2.1); (case side3 => repeat (first | exact (Kd.R_reads' HO_279000.out).2.2 | (with_reducible refine Kd.C_alloc ?_ _) | (with_reducible refine Kd.C_drewN ?_ _) | (with_reducible refine Kd.C_drew ?_))); (case side4 => exact (Kd.R_reads' HO_279000.out).2.1); rintro e w119 ⟨rfl, hb⟩; have n0_ := am (Kd.R_below (rx HO_279000.out) hb); have n1_ := am (Kd.R_below (rx HO_283000.out) hb); have n2_ := am (Kd.R_below (rx HO_292000.out) hb); have n3_ := am (Kd.R_below (rx HO295.out) hb); have n4_ := am (bb hb (kx BK263.out)); have n5_ := am (bb hb (kx BK264.out)); have n6_ := am (bb hb (kx BK278.out)); have n7_ := am (bb hb (kx BK282.out)); have n8_ := am (bb hb (kx BK291.out)); have n9_ := am (below_step (bx HB.out) hb); clear HO_279000; clear HO_283000; clear HO_292000; clear HO295; clear BK263; clear BK264; clear BK278; clear BK282; clear BK291; clear HB; have HO_279000 := n0_; have HO_283000 := n1_; have HO_292000 := n2_; have HO295 := n3_; have BK263 := n4_; have BK264 := n5_; have BK278 := n6_; have BK282 := n7_; have BK291 := n8_; have HB := n9_; clear n0_ n1_ n2_ n3_ n4_ n5_ n6_ n7_ n8_ n9_; (try clear hb); (try clear hb2); (try clear hk); (try clear hi)))
          go_meet
          case rel => exact ⟨_, (true), (by first | rfl | (simp; done) | (simp [*]; done)), H', ⟨by have := HJ24.out; first | omega | exact Nat.le_refl _⟩, ⟨rx (Kd.R_mono HO_279000.out (fun _ hk => ⟨hk.1, hk.2.1⟩))⟩, ⟨rx (Kd.R_mono HO_283000.out (fun _ hk => ⟨hk.1.1, hk.1.2⟩))⟩, ⟨rx (Kd.R_mono HO_292000.out (fun _ hk => ⟨hk.1, hk.2.1⟩))⟩, ⟨kx BK263.out⟩, ⟨kx BK264.out⟩, ⟨kx BK278.out⟩, ⟨kx BK282.out⟩, ⟨kx BK291.out⟩, ⟨bx HB.out⟩⟩
       case rest =>
        clear HC86
        try clear c1
        try clear p2
        try clear c6
        try clear c7
        try clear c8
        try clear c9
        try clear c10
        try clear c11
        try clear c12
        try clear c13
        try clear c14
        try clear c60
        try clear c61
        try clear c62
        try clear c63
        try clear c64
        try clear c66
        try clear c67
        try clear c68
        try clear c71
        try clear c72
        try clear c73
        try clear c74
        try clear c76
        try clear c77
        try clear c78
        try clear c81
        try clear c84
        try clear c91
        try clear c92
        try clear c93
        try clear c94
        try clear c97
        try clear c97b0
        try clear c99
        try clear c100
        try clear c101
        try clear c102
        try clear c103
        try clear c105
        try clear c106
        try clear c107
        try clear c110
        try clear c111
        try clear c112
        try clear c113
        try clear c115
        try clear c116
        try clear c117
        try clear hcz104_0
        try clear hcz108_0
        try clear hcz114_0
        try clear hcz118_0
        try clear hcz65_0
        try clear hcz69_0
        try clear hcz75_0
        try clear hcz79_0
        try clear hcz95_0
        try clear hfz104_0
        try clear hfz108_0
        try clear hfz114_0
        try clear hfz118_0
        try clear hfz65_0
        try clear hfz69_0
        try clear hfz75_0
        try clear hfz79_0
        try clear hfz95_0
        try clear p2
        obtain ⟨kq, x72_85, rfl, HA, HJ85, HO_279000, HO_283000, HO_292000, BK263, BK264, BK278, BK282, BK291, HB⟩ := hcut
        have hl283000_85 := (Kd.R_reads' HO_283000.out).1
        rw [hl283000_85] at HO_283000
        (try simp only [hl283000_85])
        (try simp only [hl283000_85] at BK263)
        (try simp only [hl283000_85] at BK264)
        (try simp only [hl283000_85] at BK278)
        (try simp only [hl283000_85] at BK282)
        (try simp only [hl283000_85] at BK291)
        (try simp only [hl283000_85] at HO_279000)
        (try simp only [hl283000_85] at HO_292000)
        cases kq with
        | zero => exact absurd HA.out (by simp [laws_FnExactDoAct.j1])
        | succ kj85 =>
         have H := HA.out
         clear HA
         simp only [laws_FnExactDoAct.j1] at H
         by_cases c120 : x72_85 = true
         ·subst c120
          have H1 : (some false) = some r := by rw [if_pos rfl] at H; exact H
          clear H
          have H := H1
          clear H1
          exact absurd ((Option.some.inj H).trans HLT.out) (by decide)
         ·replace c120 := Bool.eq_false_iff.mpr c120
          subst c120
          have H1 : ((laws_markDisk.f kj85 t287 1).bind fun bt300 => ((laws_heldDisk.f kj85 bt300.2 1).bind fun t302 => (if t302 < 0 then (some false) else (if t302 = bt300.1 then ((laws_toDisk.f kj85 l0_0).bind fun t303 => ((laws_toAct.f a1_0 a1_1 a1_2 a1_3).bind fun bt306 => ((impl_DoAct.f kj85 t303 bt306.1 bt306.2.1 bt306.2.2.1 bt306.2.2.2).bind fun bt310 => ((laws_eqDisk.f kj85 bt310.1 t274).bind fun t315 => (if t315 = true then (laws_FnExactDoAct.j2 kj85 bt300.1 (bt310.2 != t277) bt300.2) else (laws_FnExactDoAct.j2 kj85 bt300.1 true bt300.2)))))) else (some false))))) = some r := by rw [if_neg (show ¬ (false = true) by decide)] at H; exact H
          clear H
          have H := H1
          clear H1
          replace H := Option.bind_eq_some_iff.mp H
          obtain ⟨⟨t300, t301⟩, A1210, H⟩ := H
          try dsimp only at H
          have A121 := Aside0.mk A1210
          clear A1210
          replace H := Option.bind_eq_some_iff.mp H
          obtain ⟨t302, A1220, H⟩ := H
          try dsimp only at H
          have A122 := Aside0.mk A1220
          clear A1220
          by_cases c123 : t302 < 0
          ·rw [if_pos c123] at H
           have c123b0 : decide (t302 < 0) = true := decide_eq_true c123
           clear c123
           exact absurd ((Option.some.inj H).trans HLT.out) (by decide)
          ·rw [if_neg c123] at H
           have c123b0 : decide (t302 < 0) = false := decide_eq_false c123
           clear c123
           by_cases c124 : t302 = t300
           ·rw [if_pos c124] at H
            have c124b0 : (t302 == t300) = true := beq_iff_eq.mpr c124
            have c124b1 : (t302 != t300) = false := bne_eq_false_iff_eq.mpr c124
            clear c124
            replace H := Option.bind_eq_some_iff.mp H
            obtain ⟨t303, A1250, H⟩ := H
            try dsimp only at H
            have A125 := Aside0.mk A1250
            clear A1250
            replace H := Option.bind_eq_some_iff.mp H
            obtain ⟨⟨t306, t307, t308, t309⟩, A1260, H⟩ := H
            try dsimp only at H
            have A126 := Aside0.mk A1260
            clear A1260
            replace H := Option.bind_eq_some_iff.mp H
            obtain ⟨⟨t310, t313⟩, A1270, H⟩ := H
            try dsimp only at H
            have A127 := Aside0.mk A1270
            clear A1270
            have HC128 := Aside0.mk H
            clear H
            have hnb129 := NB291_263.out
            have hnc129 := NB263_291.out
            have hnb130 := NB291_264.out
            have hnc130 := NB264_291.out
            have hnb131 := NB291_278.out
            have hnc131 := NB278_291.out
            have hnb132 := NB291_282.out
            have hnc132 := NB282_291.out
            obtain ⟨hcz133_0, hfz133_0⟩ := zc1 BK291.out
            try go_wp2_with (first | ((with_reducible refine gate_callee (f := 14) rfl ?_); refine goesL_ (some 75) rfl rfl Try.func14 (by kernel_rfl) rfl #[.agg #[.slice Ao57 t287.length co57], .int .i64 1] rfl zr ?_; (with_reducible refine (laws_markDisk.calls kj85 (fun k_ => some k_ = (.slice Ao57 t287.length co57 : Value).ownBlock) (.slice Ao57 t287.length co57) t287 1 t300 t301 w _ ?side1 ?side2 A121.out).mono ?_); (case side1 => repeat (first | (with_reducible first | exact HB.out | apply below_alloc | apply pw_below_drewN | apply below_drew1 | refine below_set ?_ GE263.out | refine below_set ?_ GE264.out | refine below_set ?_ GE278.out | refine below_set ?_ GE282.out | refine below_set ?_ GE291.out) | exact HB.out)); (case side2 => exact Kd.R_tight rfl HO_292000.out); rintro e w134 ⟨rfl, hy0, hb, hkp⟩; refine ⟨_, rfl, ?_⟩; have n0_ := am (Kd.R_mono (ok' := fun k_ => some k_ ≠ (.slice Ao46 t298.length co46 : Value).ownBlock ∧ some k_ ≠ (.slice Ao57 t287.length co57 : Value).ownBlock) (Kd.R_keptB (HO_279000.out) hkp (fun k_ hk_ hs_ => (hk_.2) hs_)) (fun k_ hk_ => ⟨hk_.1.1, hk_.1.2⟩)); have n1_ := am (Kd.R_mono (ok' := fun k_ => some k_ ≠ (.slice Ao40 t274.length co40 : Value).ownBlock ∧ some k_ ≠ (.slice Ao57 t287.length co57 : Value).ownBlock) (Kd.R_keptB (HO_283000.out) hkp (fun k_ hk_ hs_ => (hk_.2) hs_)) (fun k_ hk_ => ⟨hk_.1.1, hk_.1.2⟩)); have n2_ := am (Kd.R_reok rfl hy0 (fun k_ e_ => HO_292000.out.1 k_ e_)); have n3_ := am (blk_kept (g := gb263) (kx BK263.out) hkp (fun hs_ => (fun e_ => (Kd.R_ne HO_292000.out BK263.out (by decide)) e_) hs_)); have n4_ := am (blk_kept (g := gb264) (kx BK264.out) hkp (fun hs_ => (fun e_ => (Kd.R_ne HO_292000.out BK264.out (by decide)) e_) hs_)); have n5_ := am (blk_kept (g := gb278) (kx BK278.out) hkp (fun hs_ => (fun e_ => (Kd.R_ne HO_292000.out BK278.out (by decide)) e_) hs_)); have n6_ := am (blk_kept (g := gb282) (kx BK282.out) hkp (fun hs_ => (fun e_ => (Kd.R_ne HO_292000.out BK282.out (by decide)) e_) hs_)); have n7_ := am (blk_kept (g := gb291) (kx BK291.out) hkp (fun hs_ => (fun e_ => (Kd.R_ne HO_292000.out BK291.out (by decide)) e_) hs_)); have n8_ := am (hb); clear HO_279000; clear HO_283000; clear HO_292000; clear BK263; clear BK264; clear BK278; clear BK282; clear BK291; clear HB; have HO_279000 := n0_; have HO_283000 := n1_; have HO_292000 := n2_; have BK263 := n3_; have BK264 := n4_; have BK278 := n5_; have BK282 := n6_; have BK291 := n7_; have HB := n8_; clear n0_ n1_ n2_ n3_ n4_ n5_ n6_ n7_ n8_; (try clear hb); (try clear hkp); (try clear hy0); obtain ⟨hcz135_0, hfz135_0⟩ := zc1 BK291.out) | ((with_reducible refine gate_callee (f := 15) rfl ?_); refine goesL_ (some 78) rfl rfl Try.func15 (by kernel_rfl) rfl #[.agg #[.slice Ao57 t301.length co57], .int .i64 1] rfl (by (try simp only [List.map_toArray, List.map_cons, List.map_nil]); first | done | (rw [show t301.length = t287.length from (Kd.R_reads' HO_292000.out).1.symm] <;> rfl) | rfl | (simp only [List.length_drop, List.length_take]; rfl)) ?_; (with_reducible refine (laws_heldDisk.calls kj85 _ _ t301 1 t302 _ ?side1 ?side2 A122.out).mono ?_); (case side1 => repeat (first | exact (Kd.R_reads' HO_292000.out).2.2 | (with_reducible refine Kd.C_alloc ?_ _) | (with_reducible refine Kd.C_drewN ?_ _) | (with_reducible refine Kd.C_drew ?_))); (case side2 => rw [show t301.length = t287.length from (Kd.R_reads' HO_292000.out).1.symm]; exact (Kd.R_reads' HO_292000.out).2.1); rintro e w136 ⟨rfl, hb⟩; refine ⟨_, rfl, ?_⟩; have n0_ := am (Kd.R_below (rx HO_279000.out) hb); have n1_ := am (Kd.R_below (rx HO_283000.out) hb); have n2_ := am (Kd.R_below (rx HO_292000.out) hb); have n3_ := am (bb hb (kx BK263.out)); have n4_ := am (bb hb (kx BK264.out)); have n5_ := am (bb hb (kx BK278.out)); have n6_ := am (bb hb (kx BK282.out)); have n7_ := am (bb hb (kx BK291.out)); have n8_ := am (below_step (bx HB.out) hb); clear HO_279000; clear HO_283000; clear HO_292000; clear BK263; clear BK264; clear BK278; clear BK282; clear BK291; clear HB; have HO_279000 := n0_; have HO_283000 := n1_; have HO_292000 := n2_; have BK263 := n3_; have BK264 := n4_; have BK278 := n5_; have BK282 := n6_; have BK291 := n7_; have HB := n8_; clear n0_ n1_ n2_ n3_ n4_ n5_ n6_ n7_ n8_; (try clear hb); (try clear hb2); (try clear hk); (try clear hi)))
            have n0_ := am (Kd.R_drew HO_279000.out)
            have n1_ := am (Kd.R_drew HO_283000.out)
            have n2_ := am (Kd.R_drew HO_292000.out)
            have n3_ := am (blk_drew BK263.out)
            have n4_ := am (blk_drew BK264.out)
            have n5_ := am (blk_drew BK278.out)
            have n6_ := am (blk_drew BK282.out)
            have n7_ := am (blk_drew BK291.out)
            have n8_ := am (below_drew1 HB.out)
            clear HO_279000 HO_283000 HO_292000 BK263 BK264 BK278 BK282 BK291 HB
            have HO_279000 := n0_
            have HO_283000 := n1_
            have HO_292000 := n2_
            have BK263 := n3_
            have BK264 := n4_
            have BK278 := n5_
            have BK282 := n6_
            have BK291 := n7_
            have HB := n8_
            clear n0_ n1_ n2_ n3_ n4_ n5_ n6_ n7_ n8_
            refine start_ (n := 11) (S := fun w' => w'.cell? ⟨gb263, 0, none⟩ = some (.slice A0_0 l0_0.length c0_0) ∧ w'.cell? ⟨gb264, 0, none⟩ = some (.int .i64 a1_0) ∧ w'.cell? ⟨gb264, 1, none⟩ = some (.string a1_1) ∧ w'.cell? ⟨gb264, 2, none⟩ = some (.string a1_2) ∧ w'.cell? ⟨gb264, 3, none⟩ = some (.string a1_3)) (ds := []) #[false, false, false, false, false, false, false, false, false, false, false] (by kernel_rfl) rfl rfl ⟨ct BK263.out 0, ct BK264.out 0, ct BK264.out 1, ct BK264.out 2, ct BK264.out 3⟩ (fun hHeld => ?_); refine with_tabW laws_FnExactDoAct.tab27 laws_FnExactDoAct.bits27 (fun HT_ HW_ => ?_)
            generalize w136.drew = w137 at HO_279000 HO_283000 HO_292000 BK263 BK264 BK278 BK282 BK291 HB hHeld ⊢
            refine take_ (i := 0) (N := some 85) (v := ?_) (a' := ?_) #[true, false, false, false, false, false, false, false, false, false, false] rfl rfl (take_ofW HT_.out HW_.out (by kernel_rfl)) (fun _ _ _ h => h) (Or.inl ⟨by rfl, ?_⟩) hHeld ?_ ?_
            rotate_left
            ·rintro w' ⟨s0, s1, s2, s3, s4⟩
             go_simp
             with_reducible rfl
            rotate_left
            ·simp only [Act.put, List.setIfInBounds_toArray, List.set_cons_zero, List.set_cons_succ, i64_w, i32_w]
             rfl
            refine take_ (i := 2) (N := some 87) (v := ?_) (a' := ?_) #[true, false, true, false, false, false, false, false, false, false, false] rfl rfl (take_ofW HT_.out HW_.out (by kernel_rfl)) (fun _ _ _ h => h) (Or.inl ⟨by rfl, ?_⟩) hHeld ?_ ?_
            rotate_left
            ·rintro w' ⟨s0, s1, s2, s3, s4⟩
             go_simp
             with_reducible rfl
            rotate_left
            ·simp only [Act.put, List.setIfInBounds_toArray, List.set_cons_zero, List.set_cons_succ, i64_w, i32_w]
             rfl
            refine join_ (σ := Value × Value × Nat) 2 #[true, true, true, true, true, true, true, true, true, false, false] (fun s_ => [(86, .agg #[s_.1]), (88, .agg #[.int .i64 t306, .string t307, .string t308, .string t309]), (89, .tuple #[.agg #[s_.2.1], .bool t313]), (14, .pointer (some ⟨s_.2.2, 0, none⟩)), (84, .tuple #[.agg #[s_.2.1], .bool t313]), (90, .agg #[s_.2.1]), (91, .bool t313)]) (fun s_ w' => (w'.cell? ⟨gb263, 0, none⟩ = some (.slice A0_0 l0_0.length c0_0) ∧ w'.cell? ⟨gb264, 0, none⟩ = some (.int .i64 a1_0) ∧ w'.cell? ⟨gb264, 1, none⟩ = some (.string a1_1) ∧ w'.cell? ⟨gb264, 2, none⟩ = some (.string a1_2) ∧ w'.cell? ⟨gb264, 3, none⟩ = some (.string a1_3)) ∧ (Kd.R k66 66 w' w.heap.size (fun k_ => some k_ ≠ (s_.2.1 : Value).ownBlock ∧ some k_ ≠ (.slice Ao40 t274.length co40 : Value).ownBlock ∧ some k_ ≠ (.slice Ao46 t298.length co46 : Value).ownBlock ∧ some k_ ≠ (.slice Ao57 t287.length co57 : Value).ownBlock) s_.1 t303) ∧ (Kd.R k66 66 w' w.heap.size (fun k_ => some k_ ≠ (s_.1 : Value).ownBlock ∧ some k_ ≠ (.slice Ao40 t274.length co40 : Value).ownBlock ∧ some k_ ≠ (.slice Ao46 t298.length co46 : Value).ownBlock ∧ some k_ ≠ (.slice Ao57 t287.length co57 : Value).ownBlock) s_.2.1 t310) ∧ (Kd.R k66 66 w' w.heap.size (fun k_ => some k_ ≠ (s_.1 : Value).ownBlock ∧ some k_ ≠ (s_.2.1 : Value).ownBlock ∧ some k_ ≠ (.slice Ao46 t298.length co46 : Value).ownBlock ∧ some k_ ≠ (.slice Ao57 t287.length co57 : Value).ownBlock) (.slice Ao40 t274.length co40) t274) ∧ (Kd.R k66 66 w' w.heap.size (fun k_ => some k_ ≠ (s_.1 : Value).ownBlock ∧ some k_ ≠ (s_.2.1 : Value).ownBlock ∧ some k_ ≠ (.slice Ao40 t274.length co40 : Value).ownBlock ∧ some k_ ≠ (.slice Ao57 t287.length co57 : Value).ownBlock) (.slice Ao46 t298.length co46) t298) ∧ (Kd.R k66 66 w' w.heap.size (fun k_ => some k_ ≠ (s_.1 : Value).ownBlock ∧ some k_ ≠ (s_.2.1 : Value).ownBlock ∧ some k_ ≠ (.slice Ao40 t274.length co40 : Value).ownBlock ∧ some k_ ≠ (.slice Ao46 t298.length co46 : Value).ownBlock) (.slice Ao57 t287.length co57) t301) ∧ (w'.heap[gb263]? = some (.cells #[.slice A0_0 l0_0.length c0_0] 24 (0, 0))) ∧ (w'.heap[gb264]? = some (.cells #[.int .i64 a1_0, .string a1_1, .string a1_2, .string a1_3] 26 (0, 0))) ∧ (w'.heap[gb278]? = some (.cells #[.slice Ao40 t274.length co40] 31 (0, 0))) ∧ (w'.heap[gb282]? = some (.cells #[.slice Ao46 t298.length co46] 31 (0, 0))) ∧ (w'.heap[gb291]? = some (.cells #[.slice Ao57 t287.length co57] 31 (0, 0))) ∧ (w'.heap[s_.2.2]? = some (.cells #[.slice none 0 0] 31 (0, 0))) ∧ (w.heap.size ≤ s_.2.2) ∧ (w.heap.size ≤ s_.2.2) ∧ (gb263 ≠ s_.2.2) ∧ (s_.2.2 ≠ gb263) ∧ (gb264 ≠ s_.2.2) ∧ (s_.2.2 ≠ gb264) ∧ (gb278 ≠ s_.2.2) ∧ (s_.2.2 ≠ gb278) ∧ (gb282 ≠ s_.2.2) ∧ (s_.2.2 ≠ gb282) ∧ (gb291 ≠ s_.2.2) ∧ (s_.2.2 ≠ gb291) ∧ (Below w.heap.size w w')) ?_ ?_
            rotate_left
            ·intro hCont
             refine two_ (i := 1) (j := 8) (Ni := some 86) (Nj := some 14) #[true, true, true, false, false, false, false, false, false, false, false] #[true, false, true, false, false, false, false, false, true, false, false] rfl rfl rfl rfl (two_of HT_.out (by kernel_rfl)) (by decide) (by decide) (fun K hK => ?_) (fun K hK => ?_)
             ·skip
              refine goes_ Try.func10 (by kernel_rfl) rfl #[.agg #[.slice A0_0 l0_0.length c0_0]] (by rfl) rfl rfl zr ?_
              with_reducible refine (laws_toDisk.calls kj85 _ _ l0_0 t303 _ ?side1 ?side2 A125.out).mono ?_
              (case side1 => repeat (first | exact (Kd.C_below HR0_0.out HB.out) | (with_reducible refine Kd.C_alloc ?_ _) | (with_reducible refine Kd.C_drewN ?_ _) | (with_reducible refine Kd.C_drew ?_)))
              (case side2 => exact HC0_0.out)
              rintro e w138 ⟨v304, rfl, ho0, hb⟩
              refine ⟨_, rfl, ?_⟩
              have n0_ := am (Kd.R_elder' (rx HO_279000.out) (Kd.R_base ho0) hb)
              have n1_ := am (Kd.R_elder' (rx HO_283000.out) (Kd.R_base ho0) hb)
              have n2_ := am (Kd.R_elder' (rx HO_292000.out) (Kd.R_base ho0) hb)
              have n3_ := am (Kd.R_lower (Kd.R_new' (Kd.R_new' (Kd.R_new' ho0 (Kd.R_lt (rx HO_279000.out))) (Kd.R_lt (rx HO_283000.out))) (Kd.R_lt (rx HO_292000.out))) (below_size (bx HB.out)))
              have n4_ := am (bb hb (kx BK263.out))
              have n5_ := am (bb hb (kx BK264.out))
              have n6_ := am (bb hb (kx BK278.out))
              have n7_ := am (bb hb (kx BK282.out))
              have n8_ := am (bb hb (kx BK291.out))
              have n9_ := am (below_step (bx HB.out) hb)
              clear HO_279000 HO_283000 HO_292000 BK263 BK264 BK278 BK282 BK291 HB
              have HO_279000 := n0_
              have HO_283000 := n1_
              have HO_292000 := n2_
              have HO305 := n3_
              have BK263 := n4_
              have BK264 := n5_
              have BK278 := n6_
              have BK282 := n7_
              have BK291 := n8_
              have HB := n9_
              clear n0_ n1_ n2_ n3_ n4_ n5_ n6_ n7_ n8_ n9_
              (try clear hb)
              (try clear hb2)
              (try clear hk)
              (try clear hi)
              (try clear ho0)
              refine hK.out _ _ ⟨ct BK263.out 0, ct BK264.out 0, ct BK264.out 1, ct BK264.out 2, ct BK264.out 3⟩ (fun hHeld => ?_)
              clear hK K
              refine norm_ (a' := ?_) ?_ ?_
              rotate_left
              ·show Act.put _ (some 86) _ = _
               simp only [Act.put, List.setIfInBounds_toArray, List.set_cons_zero, List.set_cons_succ, i64_w, i32_w]
               rfl
              refine two_ (i := 3) (j := 8) (Ni := some 88) (Nj := some 14) #[true, true, true, true, false, false, false, false, false, false, false] #[true, true, true, false, false, false, false, false, true, false, false] rfl rfl rfl rfl (two_of HT_.out (by kernel_rfl)) (by decide) (by decide) (fun K hK => ?_) (fun K hK => ?_)
              ·skip
               refine goes_ Try.func11 (by kernel_rfl) rfl #[.agg #[.int .i64 a1_0, .string a1_1, .string a1_2, .string a1_3]] (by rfl) rfl rfl zr ?_
               with_reducible refine (laws_toAct.calls a1_0 a1_1 a1_2 a1_3 t306 t307 t308 t309 _ A126.out).mono ?_
               rintro e w139 ⟨rfl, hb⟩
               refine ⟨_, rfl, ?_⟩
               have n0_ := am (Kd.R_below (rx HO_279000.out) hb)
               have n1_ := am (Kd.R_below (rx HO_283000.out) hb)
               have n2_ := am (Kd.R_below (rx HO_292000.out) hb)
               have n3_ := am (Kd.R_below (rx HO305.out) hb)
               have n4_ := am (bb hb (kx BK263.out))
               have n5_ := am (bb hb (kx BK264.out))
               have n6_ := am (bb hb (kx BK278.out))
               have n7_ := am (bb hb (kx BK282.out))
               have n8_ := am (bb hb (kx BK291.out))
               have n9_ := am (below_step (bx HB.out) hb)
               clear HO_279000 HO_283000 HO_292000 HO305 BK263 BK264 BK278 BK282 BK291 HB
               have HO_279000 := n0_
               have HO_283000 := n1_
               have HO_292000 := n2_
               have HO305 := n3_
               have BK263 := n4_
               have BK264 := n5_
               have BK278 := n6_
               have BK282 := n7_
               have BK291 := n8_
               have HB := n9_
               clear n0_ n1_ n2_ n3_ n4_ n5_ n6_ n7_ n8_ n9_
               (try clear hb)
               (try clear hb2)
               (try clear hk)
               (try clear hi)
               obtain ⟨Ao140, co140, eo140⟩ := Kd.R_slice HO305.out
               (first | subst eo140 | (injection eo140 with f1_ f2_ f3_; have f4_ := f1_.symm; have f5_ := f3_.symm; clear f1_ f2_ f3_; subst f4_; subst f5_))
               refine hK.out _ _ ⟨ct BK263.out 0, ct BK264.out 0, ct BK264.out 1, ct BK264.out 2, ct BK264.out 3⟩ (fun hHeld => ?_)
               clear hK K
               refine norm_ (a' := ?_) ?_ ?_
               rotate_left
               ·show Act.put _ (some 88) _ = _
                simp only [Act.put, List.setIfInBounds_toArray, List.set_cons_zero, List.set_cons_succ, i64_w, i32_w]
                rfl
               refine two_ (i := 4) (j := 8) (Ni := some 89) (Nj := some 14) #[true, true, true, true, true, false, false, false, false, false, false] #[true, true, true, true, false, false, false, false, true, false, false] rfl rfl rfl rfl (two_of HT_.out (by kernel_rfl)) (by decide) (by decide) (fun K hK => ?_) (fun K hK => ?_)
               ·skip
                refine goes_ Try.func12 (by kernel_rfl) rfl #[.agg #[.slice Ao140 t303.length co140], .agg #[.int .i64 t306, .string t307, .string t308, .string t309]] (by rfl) rfl rfl zr ?_
                with_reducible refine (impl_DoAct.calls kj85 _ _ t303 t306 t307 t308 t309 t310 t313 _ ?side1 ?side2 A127.out).mono ?_
                (case side1 => repeat (first | exact (Kd.R_reads' HO305.out).2.2 | (with_reducible refine Kd.C_alloc ?_ _) | (with_reducible refine Kd.C_drewN ?_ _) | (with_reducible refine Kd.C_drew ?_)))
                (case side2 => exact (Kd.R_reads' HO305.out).2.1)
                rintro e w141 ⟨v311, rfl, ho0, hb⟩
                refine ⟨_, rfl, ?_⟩
                have n0_ := am (Kd.R_elder' (rx HO_279000.out) (Kd.R_base ho0) hb)
                have n1_ := am (Kd.R_elder' (rx HO_283000.out) (Kd.R_base ho0) hb)
                have n2_ := am (Kd.R_elder' (rx HO_292000.out) (Kd.R_base ho0) hb)
                have n3_ := am (Kd.R_elder' (rx HO305.out) (Kd.R_base ho0) hb)
                have n4_ := am (Kd.R_lower (Kd.R_new' (Kd.R_new' (Kd.R_new' (Kd.R_new' ho0 (Kd.R_lt (rx HO_279000.out))) (Kd.R_lt (rx HO_283000.out))) (Kd.R_lt (rx HO_292000.out))) (Kd.R_lt (rx HO305.out))) (below_size (bx HB.out)))
                have n5_ := am (bb hb (kx BK263.out))
                have n6_ := am (bb hb (kx BK264.out))
                have n7_ := am (bb hb (kx BK278.out))
                have n8_ := am (bb hb (kx BK282.out))
                have n9_ := am (bb hb (kx BK291.out))
                have n10_ := am (below_step (bx HB.out) hb)
                clear HO_279000 HO_283000 HO_292000 HO305 BK263 BK264 BK278 BK282 BK291 HB
                have HO_279000 := n0_
                have HO_283000 := n1_
                have HO_292000 := n2_
                have HO305 := n3_
                have HO312 := n4_
                have BK263 := n5_
                have BK264 := n6_
                have BK278 := n7_
                have BK282 := n8_
                have BK291 := n9_
                have HB := n10_
                clear n0_ n1_ n2_ n3_ n4_ n5_ n6_ n7_ n8_ n9_ n10_
                (try clear hb)
                (try clear hb2)
                (try clear hk)
                (try clear hi)
                (try clear ho0)
                refine hK.out _ _ ⟨ct BK263.out 0, ct BK264.out 0, ct BK264.out 1, ct BK264.out 2, ct BK264.out 3⟩ (fun hHeld => ?_)
                clear hK K
                refine norm_ (a' := ?_) ?_ ?_
                rotate_left
                ·show Act.put _ (some 89) _ = _
                 simp only [Act.put, List.setIfInBounds_toArray, List.set_cons_zero, List.set_cons_succ, i64_w, i32_w]
                 rfl
                refine pure_ (i := 5) (N := some 84) (v := ?_) (a' := ?_) #[true, true, true, true, true, true, false, false, false, false, false] rfl rfl (any_of HT_.out (by kernel_rfl)) (fun _ _ _ h => h) (Or.inl ⟨by rfl, ?_⟩) ?_ ?_
                rotate_left
                ·intro w'
                 go_simp
                 with_reducible rfl
                rotate_left
                ·simp only [Act.put, List.setIfInBounds_toArray, List.set_cons_zero, List.set_cons_succ, i64_w, i32_w]
                 rfl
                refine pure_ (i := 6) (N := some 90) (v := ?_) (a' := ?_) #[true, true, true, true, true, true, true, false, false, false, false] rfl rfl (any_of HT_.out (by kernel_rfl)) (fun _ _ _ h => h) (Or.inl ⟨by rfl, ?_⟩) ?_ ?_
                rotate_left
                ·intro w'
                 go_simp
                 with_reducible rfl
                rotate_left
                ·simp only [Act.put, List.setIfInBounds_toArray, List.set_cons_zero, List.set_cons_succ, i64_w, i32_w]
                 rfl
                refine pure_ (i := 7) (N := some 91) (v := ?_) (a' := ?_) #[true, true, true, true, true, true, true, true, false, false, false] rfl rfl (any_of HT_.out (by kernel_rfl)) (fun _ _ _ h => h) (Or.inl ⟨by rfl, ?_⟩) ?_ ?_
                rotate_left
                ·intro w'
                 go_simp
                 with_reducible rfl
                rotate_left
                ·simp only [Act.put, List.setIfInBounds_toArray, List.set_cons_zero, List.set_cons_succ, i64_w, i32_w]
                 rfl
                refine one_ (i := 8) (N := some 14) #[true, true, true, true, true, true, true, true, true, false, false] rfl rfl (one_of HT_.out (by kernel_rfl)) (by decide) (fun K hK => ?_)
                refine box_step ?hg (N := 14) ?hd (cs := #[.slice none 0 0]) (t := 31) ?hr ?_; (case hd => rfl); (case hg => rfl); (case hr => first | (go_simp; done) | (go_simp; rfl))
                intro gb314 hg w142 hbox hb
                have n0_ := am (Kd.R_below (rx HO_279000.out) hb)
                have n1_ := am (Kd.R_below (rx HO_283000.out) hb)
                have n2_ := am (Kd.R_below (rx HO_292000.out) hb)
                have n3_ := am (Kd.R_below (rx HO305.out) hb)
                have n4_ := am (Kd.R_below (rx HO312.out) hb)
                have n5_ := am (bb hb (kx BK263.out))
                have n6_ := am (bb hb (kx BK264.out))
                have n7_ := am (bb hb (kx BK278.out))
                have n8_ := am (bb hb (kx BK282.out))
                have n9_ := am (bb hb (kx BK291.out))
                have n10_ := am (below_step (bx HB.out) hb)
                have n11_ := am (hbox)
                have n12_ := zge hg (bx HB.out)
                have n13_ := zge hg (bx HB.out)
                have n14_ := znl hg (kx BK263.out)
                have n15_ := zng hg (kx BK263.out)
                have n16_ := znl hg (kx BK264.out)
                have n17_ := zng hg (kx BK264.out)
                have n18_ := znl hg (kx BK278.out)
                have n19_ := zng hg (kx BK278.out)
                have n20_ := znl hg (kx BK282.out)
                have n21_ := zng hg (kx BK282.out)
                have n22_ := znl hg (kx BK291.out)
                have n23_ := zng hg (kx BK291.out)
                clear HO_279000 HO_283000 HO_292000 HO305 HO312 BK263 BK264 BK278 BK282 BK291 HB
                have HO_279000 := n0_
                have HO_283000 := n1_
                have HO_292000 := n2_
                have HO305 := n3_
                have HO312 := n4_
                have BK263 := n5_
                have BK264 := n6_
                have BK278 := n7_
                have BK282 := n8_
                have BK291 := n9_
                have HB := n10_
                have BK314 := n11_
                have GW314 := n12_
                have GE314 := n13_
                have NB263_314 := n14_
                have NB314_263 := n15_
                have NB264_314 := n16_
                have NB314_264 := n17_
                have NB278_314 := n18_
                have NB314_278 := n19_
                have NB282_314 := n20_
                have NB314_282 := n21_
                have NB291_314 := n22_
                have NB314_291 := n23_
                clear n0_ n1_ n2_ n3_ n4_ n5_ n6_ n7_ n8_ n9_ n10_ n11_ n12_ n13_ n14_ n15_ n16_ n17_ n18_ n19_ n20_ n21_ n22_ n23_ hb hbox hg
                refine hK.out _ _ ⟨ct BK263.out 0, ct BK264.out 0, ct BK264.out 1, ct BK264.out 2, ct BK264.out 3⟩ (fun hHeld => ?_)
                clear hK K
                refine norm_ (a' := ?_) ?_ ?_
                rotate_left
                ·show Act.put _ (some 14) _ = _
                 simp only [Act.put, List.setIfInBounds_toArray, List.set_cons_zero, List.set_cons_succ, i64_w, i32_w]
                 rfl
                exact norm_ (by simp only [putAll, Act.put, List.setIfInBounds_toArray, List.set_cons_zero, List.set_cons_succ]) (hCont (.slice Ao140 t303.length co140, v311, gb314) _ ⟨hHeld, (rx (Kd.R_mono HO305.out (fun _ hk => ⟨hk.2, ⟨hk.1.1.1.2, ⟨hk.1.1.2, hk.1.2⟩⟩⟩))), (rx (Kd.R_mono HO312.out (fun _ hk => ⟨hk.2, ⟨hk.1.1.1.2, ⟨hk.1.1.2, hk.1.2⟩⟩⟩))), (rx (Kd.R_mono HO_279000.out (fun _ hk => ⟨hk.1.2, ⟨hk.2, ⟨hk.1.1.1, hk.1.1.2⟩⟩⟩))), (rx (Kd.R_mono HO_283000.out (fun _ hk => ⟨hk.1.2, ⟨hk.2, ⟨hk.1.1.1, hk.1.1.2⟩⟩⟩))), (rx (Kd.R_mono HO_292000.out (fun _ hk => ⟨hk.1.2, ⟨hk.2, ⟨hk.1.1.1, hk.1.1.2⟩⟩⟩))), (kx BK263.out), (kx BK264.out), (kx BK278.out), (kx BK282.out), (kx BK291.out), (kx BK314.out), GW314.out, GE314.out, NB263_314.out, NB314_263.out, NB264_314.out, NB314_264.out, NB278_314.out, NB314_278.out, NB282_314.out, NB314_282.out, NB291_314.out, NB314_291.out, (bx HB.out)⟩)
               ·skip
                refine box_step ?hg (N := 14) ?hd (cs := #[.slice none 0 0]) (t := 31) ?hr ?_; (case hd => rfl); (case hg => rfl); (case hr => first | (go_simp; done) | (go_simp; rfl))
                intro gb314 hg w140 hbox hb
                have n0_ := am (Kd.R_below (rx HO_279000.out) hb)
                have n1_ := am (Kd.R_below (rx HO_283000.out) hb)
                have n2_ := am (Kd.R_below (rx HO_292000.out) hb)
                have n3_ := am (Kd.R_below (rx HO305.out) hb)
                have n4_ := am (bb hb (kx BK263.out))
                have n5_ := am (bb hb (kx BK264.out))
                have n6_ := am (bb hb (kx BK278.out))
                have n7_ := am (bb hb (kx BK282.out))
                have n8_ := am (bb hb (kx BK291.out))
                have n9_ := am (below_step (bx HB.out) hb)
                have n10_ := am (hbox)
                have n11_ := zge hg (bx HB.out)
                have n12_ := zge hg (bx HB.out)
                have n13_ := znl hg (kx BK263.out)
                have n14_ := zng hg (kx BK263.out)
                have n15_ := znl hg (kx BK264.out)
                have n16_ := zng hg (kx BK264.out)
                have n17_ := znl hg (kx BK278.out)
                have n18_ := zng hg (kx BK278.out)
                have n19_ := znl hg (kx BK282.out)
                have n20_ := zng hg (kx BK282.out)
                have n21_ := znl hg (kx BK291.out)
                have n22_ := zng hg (kx BK291.out)
                clear HO_279000 HO_283000 HO_292000 HO305 BK263 BK264 BK278 BK282 BK291 HB
                have HO_279000 := n0_
                have HO_283000 := n1_
                have HO_292000 := n2_
                have HO305 := n3_
                have BK263 := n4_
                have BK264 := n5_
                have BK278 := n6_
                have BK282 := n7_
                have BK291 := n8_
                have HB := n9_
                have BK314 := n10_
                have GW314 := n11_
                have GE314 := n12_
                have NB263_314 := n13_
                have NB314_263 := n14_
                have NB264_314 := n15_
                have NB314_264 := n16_
                have NB278_314 := n17_
                have NB314_278 := n18_
                have NB282_314 := n19_
                have NB314_282 := n20_
                have NB291_314 := n21_
                have NB314_291 := n22_
                clear n0_ n1_ n2_ n3_ n4_ n5_ n6_ n7_ n8_ n9_ n10_ n11_ n12_ n13_ n14_ n15_ n16_ n17_ n18_ n19_ n20_ n21_ n22_ hb hbox hg
                obtain ⟨Ao141, co141, eo141⟩ := Kd.R_slice HO305.out
                (first | subst eo141 | (injection eo141 with f1_ f2_ f3_; have f4_ := f1_.symm; have f5_ := f3_.symm; clear f1_ f2_ f3_; subst f4_; subst f5_))
                refine hK.out _ _ ⟨ct BK263.out 0, ct BK264.out 0, ct BK264.out 1, ct BK264.out 2, ct BK264.out 3⟩ (fun hHeld => ?_)
                clear hK K
                refine norm_ (a' := ?_) ?_ ?_
                rotate_left
                ·show Act.put _ (some 14) _ = _
                 simp only [Act.put, List.setIfInBounds_toArray, List.set_cons_zero, List.set_cons_succ, i64_w, i32_w]
                 rfl
                refine one_ (i := 4) (N := some 89) #[true, true, true, true, true, false, false, false, true, false, false] rfl rfl (one_of HT_.out (by kernel_rfl)) (by decide) (fun K hK => ?_)
                refine goes_ Try.func12 (by kernel_rfl) rfl #[.agg #[.slice Ao141 t303.length co141], .agg #[.int .i64 t306, .string t307, .string t308, .string t309]] (by rfl) rfl rfl zr ?_
                with_reducible refine (impl_DoAct.calls kj85 _ _ t303 t306 t307 t308 t309 t310 t313 _ ?side1 ?side2 A127.out).mono ?_
                (case side1 => repeat (first | exact (Kd.R_reads' HO305.out).2.2 | (with_reducible refine Kd.C_alloc ?_ _) | (with_reducible refine Kd.C_drewN ?_ _) | (with_reducible refine Kd.C_drew ?_)))
                (case side2 => exact (Kd.R_reads' HO305.out).2.1)
                rintro e w142 ⟨v311, rfl, ho0, hb⟩
                refine ⟨_, rfl, ?_⟩
                have n0_ := am (Kd.R_elder' (rx HO_279000.out) (Kd.R_base ho0) hb)
                have n1_ := am (Kd.R_elder' (rx HO_283000.out) (Kd.R_base ho0) hb)
                have n2_ := am (Kd.R_elder' (rx HO_292000.out) (Kd.R_base ho0) hb)
                have n3_ := am (Kd.R_elder' (rx HO305.out) (Kd.R_base ho0) hb)
                have n4_ := am (Kd.R_lower (Kd.R_new' (Kd.R_new' (Kd.R_new' (Kd.R_new' ho0 (Kd.R_lt (rx HO_279000.out))) (Kd.R_lt (rx HO_283000.out))) (Kd.R_lt (rx HO_292000.out))) (Kd.R_lt (rx HO305.out))) (below_size (bx HB.out)))
                have n5_ := am (bb hb (kx BK263.out))
                have n6_ := am (bb hb (kx BK264.out))
                have n7_ := am (bb hb (kx BK278.out))
                have n8_ := am (bb hb (kx BK282.out))
                have n9_ := am (bb hb (kx BK291.out))
                have n10_ := am (bb hb (kx BK314.out))
                have n11_ := am (below_step (bx HB.out) hb)
                clear HO_279000 HO_283000 HO_292000 HO305 BK263 BK264 BK278 BK282 BK291 BK314 HB
                have HO_279000 := n0_
                have HO_283000 := n1_
                have HO_292000 := n2_
                have HO305 := n3_
                have HO312 := n4_
                have BK263 := n5_
                have BK264 := n6_
                have BK278 := n7_
                have BK282 := n8_
                have BK291 := n9_
                have BK314 := n10_
                have HB := n11_
                clear n0_ n1_ n2_ n3_ n4_ n5_ n6_ n7_ n8_ n9_ n10_ n11_
                (try clear hb)
                (try clear hb2)
                (try clear hk)
                (try clear hi)
                (try clear ho0)
                refine hK.out _ _ ⟨ct BK263.out 0, ct BK264.out 0, ct BK264.out 1, ct BK264.out 2, ct BK264.out 3⟩ (fun hHeld => ?_)
                clear hK K
                refine norm_ (a' := ?_) ?_ ?_
                rotate_left
                ·show Act.put _ (some 89) _ = _
                 simp only [Act.put, List.setIfInBounds_toArray, List.set_cons_zero, List.set_cons_succ, i64_w, i32_w]
                 rfl
                refine pure_ (i := 5) (N := some 84) (v := ?_) (a' := ?_) #[true, true, true, true, true, true, false, false, true, false, false] rfl rfl (any_of HT_.out (by kernel_rfl)) (fun _ _ _ h => h) (Or.inl ⟨by rfl, ?_⟩) ?_ ?_
                rotate_left
                ·intro w'
                 go_simp
                 with_reducible rfl
                rotate_left
                ·simp only [Act.put, List.setIfInBounds_toArray, List.set_cons_zero, List.set_cons_succ, i64_w, i32_w]
                 rfl
                refine pure_ (i := 6) (N := some 90) (v := ?_) (a' := ?_) #[true, true, true, true, true, true, true, false, true, false, false] rfl rfl (any_of HT_.out (by kernel_rfl)) (fun _ _ _ h => h) (Or.inl ⟨by rfl, ?_⟩) ?_ ?_
                rotate_left
                ·intro w'
                 go_simp
                 with_reducible rfl
                rotate_left
                ·simp only [Act.put, List.setIfInBounds_toArray, List.set_cons_zero, List.set_cons_succ, i64_w, i32_w]
                 rfl
                refine pure_ (i := 7) (N := some 91) (v := ?_) (a' := ?_) #[true, true, true, true, true, true, true, true, true, false, false] rfl rfl (any_of HT_.out (by kernel_rfl)) (fun _ _ _ h => h) (Or.inl ⟨by rfl, ?_⟩) ?_ ?_
                rotate_left
                ·intro w'
                 go_simp
                 with_reducible rfl
                rotate_left
                ·simp only [Act.put, List.setIfInBounds_toArray, List.set_cons_zero, List.set_cons_succ, i64_w, i32_w]
                 rfl
                exact norm_ (by simp only [putAll, Act.put, List.setIfInBounds_toArray, List.set_cons_zero, List.set_cons_succ]) (hCont (.slice Ao141 t303.length co141, v311, gb314) _ ⟨hHeld, (rx (Kd.R_mono HO305.out (fun _ hk => ⟨hk.2, ⟨hk.1.1.1.2, ⟨hk.1.1.2, hk.1.2⟩⟩⟩))), (rx (Kd.R_mono HO312.out (fun _ hk => ⟨hk.2, ⟨hk.1.1.1.2, ⟨hk.1.1.2, hk.1.2⟩⟩⟩))), (rx (Kd.R_mono HO_279000.out (fun _ hk => ⟨hk.1.2, ⟨hk.2, ⟨hk.1.1.1, hk.1.1.2⟩⟩⟩))), (rx (Kd.R_mono HO_283000.out (fun _ hk => ⟨hk.1.2, ⟨hk.2, ⟨hk.1.1.1, hk.1.1.2⟩⟩⟩))), (rx (Kd.R_mono HO_292000.out (fun _ hk => ⟨hk.1.2, ⟨hk.2, ⟨hk.1.1.1, hk.1.1.2⟩⟩⟩))), (kx BK263.out), (kx BK264.out), (kx BK278.out), (kx BK282.out), (kx BK291.out), (kx BK314.out), GW314.out, GE314.out, NB263_314.out, NB314_263.out, NB264_314.out, NB314_264.out, NB278_314.out, NB314_278.out, NB282_314.out, NB314_282.out, NB291_314.out, NB314_291.out, (bx HB.out)⟩)
              ·skip
               refine box_step ?hg (N := 14) ?hd (cs := #[.slice none 0 0]) (t := 31) ?hr ?_; (case hd => rfl); (case hg => rfl); (case hr => first | (go_simp; done) | (go_simp; rfl))
               intro gb314 hg w139 hbox hb
               have n0_ := am (Kd.R_below (rx HO_279000.out) hb)
               have n1_ := am (Kd.R_below (rx HO_283000.out) hb)
               have n2_ := am (Kd.R_below (rx HO_292000.out) hb)
               have n3_ := am (Kd.R_below (rx HO305.out) hb)
               have n4_ := am (bb hb (kx BK263.out))
               have n5_ := am (bb hb (kx BK264.out))
               have n6_ := am (bb hb (kx BK278.out))
               have n7_ := am (bb hb (kx BK282.out))
               have n8_ := am (bb hb (kx BK291.out))
               have n9_ := am (below_step (bx HB.out) hb)
               have n10_ := am (hbox)
               have n11_ := zge hg (bx HB.out)
               have n12_ := zge hg (bx HB.out)
               have n13_ := znl hg (kx BK263.out)
               have n14_ := zng hg (kx BK263.out)
               have n15_ := znl hg (kx BK264.out)
               have n16_ := zng hg (kx BK264.out)
               have n17_ := znl hg (kx BK278.out)
               have n18_ := zng hg (kx BK278.out)
               have n19_ := znl hg (kx BK282.out)
               have n20_ := zng hg (kx BK282.out)
               have n21_ := znl hg (kx BK291.out)
               have n22_ := zng hg (kx BK291.out)
               clear HO_279000 HO_283000 HO_292000 HO305 BK263 BK264 BK278 BK282 BK291 HB
               have HO_279000 := n0_
               have HO_283000 := n1_
               have HO_292000 := n2_
               have HO305 := n3_
               have BK263 := n4_
               have BK264 := n5_
               have BK278 := n6_
               have BK282 := n7_
               have BK291 := n8_
               have HB := n9_
               have BK314 := n10_
               have GW314 := n11_
               have GE314 := n12_
               have NB263_314 := n13_
               have NB314_263 := n14_
               have NB264_314 := n15_
               have NB314_264 := n16_
               have NB278_314 := n17_
               have NB314_278 := n18_
               have NB282_314 := n19_
               have NB314_282 := n20_
               have NB291_314 := n21_
               have NB314_291 := n22_
               clear n0_ n1_ n2_ n3_ n4_ n5_ n6_ n7_ n8_ n9_ n10_ n11_ n12_ n13_ n14_ n15_ n16_ n17_ n18_ n19_ n20_ n21_ n22_ hb hbox hg
               refine hK.out _ _ ⟨ct BK263.out 0, ct BK264.out 0, ct BK264.out 1, ct BK264.out 2, ct BK264.out 3⟩ (fun hHeld => ?_)
               clear hK K
               refine norm_ (a' := ?_) ?_ ?_
               rotate_left
               ·show Act.put _ (some 14) _ = _
                simp only [Act.put, List.setIfInBounds_toArray, List.set_cons_zero, List.set_cons_succ, i64_w, i32_w]
                rfl
               refine one_ (i := 3) (N := some 88) #[true, true, true, true, false, false, false, false, true, false, false] rfl rfl (one_of HT_.out (by kernel_rfl)) (by decide) (fun K hK => ?_)
               refine goes_ Try.func11 (by kernel_rfl) rfl #[.agg #[.int .i64 a1_0, .string a1_1, .string a1_2, .string a1_3]] (by rfl) rfl rfl zr ?_
               with_reducible refine (laws_toAct.calls a1_0 a1_1 a1_2 a1_3 t306 t307 t308 t309 _ A126.out).mono ?_
               rintro e w140 ⟨rfl, hb⟩
               refine ⟨_, rfl, ?_⟩
               have n0_ := am (Kd.R_below (rx HO_279000.out) hb)
               have n1_ := am (Kd.R_below (rx HO_283000.out) hb)
               have n2_ := am (Kd.R_below (rx HO_292000.out) hb)
               have n3_ := am (Kd.R_below (rx HO305.out) hb)
               have n4_ := am (bb hb (kx BK263.out))
               have n5_ := am (bb hb (kx BK264.out))
               have n6_ := am (bb hb (kx BK278.out))
               have n7_ := am (bb hb (kx BK282.out))
               have n8_ := am (bb hb (kx BK291.out))
               have n9_ := am (bb hb (kx BK314.out))
               have n10_ := am (below_step (bx HB.out) hb)
               clear HO_279000 HO_283000 HO_292000 HO305 BK263 BK264 BK278 BK282 BK291 BK314 HB
               have HO_279000 := n0_
               have HO_283000 := n1_
               have HO_292000 := n2_
               have HO305 := n3_
               have BK263 := n4_
               have BK264 := n5_
               have BK278 := n6_
               have BK282 := n7_
               have BK291 := n8_
               have BK314 := n9_
               have HB := n10_
               clear n0_ n1_ n2_ n3_ n4_ n5_ n6_ n7_ n8_ n9_ n10_
               (try clear hb)
               (try clear hb2)
               (try clear hk)
               (try clear hi)
               obtain ⟨Ao141, co141, eo141⟩ := Kd.R_slice HO305.out
               (first | subst eo141 | (injection eo141 with f1_ f2_ f3_; have f4_ := f1_.symm; have f5_ := f3_.symm; clear f1_ f2_ f3_; subst f4_; subst f5_))
               refine hK.out _ _ ⟨ct BK263.out 0, ct BK264.out 0, ct BK264.out 1, ct BK264.out 2, ct BK264.out 3⟩ (fun hHeld => ?_)
               clear hK K
               refine norm_ (a' := ?_) ?_ ?_
               rotate_left
               ·show Act.put _ (some 88) _ = _
                simp only [Act.put, List.setIfInBounds_toArray, List.set_cons_zero, List.set_cons_succ, i64_w, i32_w]
                rfl
               refine one_ (i := 4) (N := some 89) #[true, true, true, true, true, false, false, false, true, false, false] rfl rfl (one_of HT_.out (by kernel_rfl)) (by decide) (fun K hK => ?_)
               refine goes_ Try.func12 (by kernel_rfl) rfl #[.agg #[.slice Ao141 t303.length co141], .agg #[.int .i64 t306, .string t307, .string t308, .string t309]] (by rfl) rfl rfl zr ?_
               with_reducible refine (impl_DoAct.calls kj85 _ _ t303 t306 t307 t308 t309 t310 t313 _ ?side1 ?side2 A127.out).mono ?_
               (case side1 => repeat (first | exact (Kd.R_reads' HO305.out).2.2 | (with_reducible refine Kd.C_alloc ?_ _) | (with_reducible refine Kd.C_drewN ?_ _) | (with_reducible refine Kd.C_drew ?_)))
               (case side2 => exact (Kd.R_reads' HO305.out).2.1)
               rintro e w142 ⟨v311, rfl, ho0, hb⟩
               refine ⟨_, rfl, ?_⟩
               have n0_ := am (Kd.R_elder' (rx HO_279000.out) (Kd.R_base ho0) hb)
               have n1_ := am (Kd.R_elder' (rx HO_283000.out) (Kd.R_base ho0) hb)
               have n2_ := am (Kd.R_elder' (rx HO_292000.out) (Kd.R_base ho0) hb)
               have n3_ := am (Kd.R_elder' (rx HO305.out) (Kd.R_base ho0) hb)
               have n4_ := am (Kd.R_lower (Kd.R_new' (Kd.R_new' (Kd.R_new' (Kd.R_new' ho0 (Kd.R_lt (rx HO_279000.out))) (Kd.R_lt (rx HO_283000.out))) (Kd.R_lt (rx HO_292000.out))) (Kd.R_lt (rx HO305.out))) (below_size (bx HB.out)))
               have n5_ := am (bb hb (kx BK263.out))
               have n6_ := am (bb hb (kx BK264.out))
               have n7_ := am (bb hb (kx BK278.out))
               have n8_ := am (bb hb (kx BK282.out))
               have n9_ := am (bb hb (kx BK291.out))
               have n10_ := am (bb hb (kx BK314.out))
               have n11_ := am (below_step (bx HB.out) hb)
               clear HO_279000 HO_283000 HO_292000 HO305 BK263 BK264 BK278 BK282 BK291 BK314 HB
               have HO_279000 := n0_
               have HO_283000 := n1_
               have HO_292000 := n2_
               have HO305 := n3_
               have HO312 := n4_
               have BK263 := n5_
               have BK264 := n6_
               have BK278 := n7_
               have BK282 := n8_
               have BK291 := n9_
               have BK314 := n10_
               have HB := n11_
               clear n0_ n1_ n2_ n3_ n4_ n5_ n6_ n7_ n8_ n9_ n10_ n11_
               (try clear hb)
               (try clear hb2)
               (try clear hk)
               (try clear hi)
               (try clear ho0)
               refine hK.out _ _ ⟨ct BK263.out 0, ct BK264.out 0, ct BK264.out 1, ct BK264.out 2, ct BK264.out 3⟩ (fun hHeld => ?_)
               clear hK K
               refine norm_ (a' := ?_) ?_ ?_
               rotate_left
               ·show Act.put _ (some 89) _ = _
                simp only [Act.put, List.setIfInBounds_toArray, List.set_cons_zero, List.set_cons_succ, i64_w, i32_w]
                rfl
               refine pure_ (i := 5) (N := some 84) (v := ?_) (a' := ?_) #[true, true, true, true, true, true, false, false, true, false, false] rfl rfl (any_of HT_.out (by kernel_rfl)) (fun _ _ _ h => h) (Or.inl ⟨by rfl, ?_⟩) ?_ ?_
               rotate_left
               ·intro w'
                go_simp
                with_reducible rfl
               rotate_left
               ·simp only [Act.put, List.setIfInBounds_toArray, List.set_cons_zero, List.set_cons_succ, i64_w, i32_w]
                rfl
               refine pure_ (i := 6) (N := some 90) (v := ?_) (a' := ?_) #[true, true, true, true, true, true, true, false, true, false, false] rfl rfl (any_of HT_.out (by kernel_rfl)) (fun _ _ _ h => h) (Or.inl ⟨by rfl, ?_⟩) ?_ ?_
               rotate_left
               ·intro w'
                go_simp
                with_reducible rfl
               rotate_left
               ·simp only [Act.put, List.setIfInBounds_toArray, List.set_cons_zero, List.set_cons_succ, i64_w, i32_w]
                rfl
               refine pure_ (i := 7) (N := some 91) (v := ?_) (a' := ?_) #[true, true, true, true, true, true, true, true, true, false, false] rfl rfl (any_of HT_.out (by kernel_rfl)) (fun _ _ _ h => h) (Or.inl ⟨by rfl, ?_⟩) ?_ ?_
               rotate_left
               ·intro w'
                go_simp
                with_reducible rfl
               rotate_left
               ·simp only [Act.put, List.setIfInBounds_toArray, List.set_cons_zero, List.set_cons_succ, i64_w, i32_w]
                rfl
               exact norm_ (by simp only [putAll, Act.put, List.setIfInBounds_toArray, List.set_cons_zero, List.set_cons_succ]) (hCont (.slice Ao141 t303.length co141, v311, gb314) _ ⟨hHeld, (rx (Kd.R_mono HO305.out (fun _ hk => ⟨hk.2, ⟨hk.1.1.1.2, ⟨hk.1.1.2, hk.1.2⟩⟩⟩))), (rx (Kd.R_mono HO312.out (fun _ hk => ⟨hk.2, ⟨hk.1.1.1.2, ⟨hk.1.1.2, hk.1.2⟩⟩⟩))), (rx (Kd.R_mono HO_279000.out (fun _ hk => ⟨hk.1.2, ⟨hk.2, ⟨hk.1.1.1, hk.1.1.2⟩⟩⟩))), (rx (Kd.R_mono HO_283000.out (fun _ hk => ⟨hk.1.2, ⟨hk.2, ⟨hk.1.1.1, hk.1.1.2⟩⟩⟩))), (rx (Kd.R_mono HO_292000.out (fun _ hk => ⟨hk.1.2, ⟨hk.2, ⟨hk.1.1.1, hk.1.1.2⟩⟩⟩))), (kx BK263.out), (kx BK264.out), (kx BK278.out), (kx BK282.out), (kx BK291.out), (kx BK314.out), GW314.out, GE314.out, NB263_314.out, NB314_263.out, NB264_314.out, NB314_264.out, NB278_314.out, NB314_278.out, NB282_314.out, NB314_282.out, NB291_314.out, NB314_291.out, (bx HB.out)⟩)
             ·skip
              refine box_step ?hg (N := 14) ?hd (cs := #[.slice none 0 0]) (t := 31) ?hr ?_; (case hd => rfl); (case hg => rfl); (case hr => first | (go_simp; done) | (go_simp; rfl))
              intro gb314 hg w138 hbox hb
              have n0_ := am (Kd.R_below (rx HO_279000.out) hb)
              have n1_ := am (Kd.R_below (rx HO_283000.out) hb)
              have n2_ := am (Kd.R_below (rx HO_292000.out) hb)
              have n3_ := am (bb hb (kx BK263.out))
              have n4_ := am (bb hb (kx BK264.out))
              have n5_ := am (bb hb (kx BK278.out))
              have n6_ := am (bb hb (kx BK282.out))
              have n7_ := am (bb hb (kx BK291.out))
              have n8_ := am (below_step (bx HB.out) hb)
              have n9_ := am (hbox)
              have n10_ := zge hg (bx HB.out)
              have n11_ := zge hg (bx HB.out)
              have n12_ := znl hg (kx BK263.out)
              have n13_ := zng hg (kx BK263.out)
              have n14_ := znl hg (kx BK264.out)
              have n15_ := zng hg (kx BK264.out)
              have n16_ := znl hg (kx BK278.out)
              have n17_ := zng hg (kx BK278.out)
              have n18_ := znl hg (kx BK282.out)
              have n19_ := zng hg (kx BK282.out)
              have n20_ := znl hg (kx BK291.out)
              have n21_ := zng hg (kx BK291.out)
              clear HO_279000 HO_283000 HO_292000 BK263 BK264 BK278 BK282 BK291 HB
              have HO_279000 := n0_
              have HO_283000 := n1_
              have HO_292000 := n2_
              have BK263 := n3_
              have BK264 := n4_
              have BK278 := n5_
              have BK282 := n6_
              have BK291 := n7_
              have HB := n8_
              have BK314 := n9_
              have GW314 := n10_
              have GE314 := n11_
              have NB263_314 := n12_
              have NB314_263 := n13_
              have NB264_314 := n14_
              have NB314_264 := n15_
              have NB278_314 := n16_
              have NB314_278 := n17_
              have NB282_314 := n18_
              have NB314_282 := n19_
              have NB291_314 := n20_
              have NB314_291 := n21_
              clear n0_ n1_ n2_ n3_ n4_ n5_ n6_ n7_ n8_ n9_ n10_ n11_ n12_ n13_ n14_ n15_ n16_ n17_ n18_ n19_ n20_ n21_ hb hbox hg
              refine hK.out _ _ ⟨ct BK263.out 0, ct BK264.out 0, ct BK264.out 1, ct BK264.out 2, ct BK264.out 3⟩ (fun hHeld => ?_)
              clear hK K
              refine norm_ (a' := ?_) ?_ ?_
              rotate_left
              ·show Act.put _ (some 14) _ = _
               simp only [Act.put, List.setIfInBounds_toArray, List.set_cons_zero, List.set_cons_succ, i64_w, i32_w]
               rfl
              refine one_ (i := 1) (N := some 86) #[true, true, true, false, false, false, false, false, true, false, false] rfl rfl (one_of HT_.out (by kernel_rfl)) (by decide) (fun K hK => ?_)
              refine goes_ Try.func10 (by kernel_rfl) rfl #[.agg #[.slice A0_0 l0_0.length c0_0]] (by rfl) rfl rfl zr ?_
              with_reducible refine (laws_toDisk.calls kj85 _ _ l0_0 t303 _ ?side1 ?side2 A125.out).mono ?_
              (case side1 => repeat (first | exact (Kd.C_below HR0_0.out HB.out) | (with_reducible refine Kd.C_alloc ?_ _) | (with_reducible refine Kd.C_drewN ?_ _) | (with_reducible refine Kd.C_drew ?_)))
              (case side2 => exact HC0_0.out)
              rintro e w139 ⟨v304, rfl, ho0, hb⟩
              refine ⟨_, rfl, ?_⟩
              have n0_ := am (Kd.R_elder' (rx HO_279000.out) (Kd.R_base ho0) hb)
              have n1_ := am (Kd.R_elder' (rx HO_283000.out) (Kd.R_base ho0) hb)
              have n2_ := am (Kd.R_elder' (rx HO_292000.out) (Kd.R_base ho0) hb)
              have n3_ := am (Kd.R_lower (Kd.R_new' (Kd.R_new' (Kd.R_new' ho0 (Kd.R_lt (rx HO_279000.out))) (Kd.R_lt (rx HO_283000.out))) (Kd.R_lt (rx HO_292000.out))) (below_size (bx HB.out)))
              have n4_ := am (bb hb (kx BK263.out))
              have n5_ := am (bb hb (kx BK264.out))
              have n6_ := am (bb hb (kx BK278.out))
              have n7_ := am (bb hb (kx BK282.out))
              have n8_ := am (bb hb (kx BK291.out))
              have n9_ := am (bb hb (kx BK314.out))
              have n10_ := am (below_step (bx HB.out) hb)
              clear HO_279000 HO_283000 HO_292000 BK263 BK264 BK278 BK282 BK291 BK314 HB
              have HO_279000 := n0_
              have HO_283000 := n1_
              have HO_292000 := n2_
              have HO305 := n3_
              have BK263 := n4_
              have BK264 := n5_
              have BK278 := n6_
              have BK282 := n7_
              have BK291 := n8_
              have BK314 := n9_
              have HB := n10_
              clear n0_ n1_ n2_ n3_ n4_ n5_ n6_ n7_ n8_ n9_ n10_
              (try clear hb)
              (try clear hb2)
              (try clear hk)
              (try clear hi)
              (try clear ho0)
              refine hK.out _ _ ⟨ct BK263.out 0, ct BK264.out 0, ct BK264.out 1, ct BK264.out 2, ct BK264.out 3⟩ (fun hHeld => ?_)
              clear hK K
              refine norm_ (a' := ?_) ?_ ?_
              rotate_left
              ·show Act.put _ (some 86) _ = _
               simp only [Act.put, List.setIfInBounds_toArray, List.set_cons_zero, List.set_cons_succ, i64_w, i32_w]
               rfl
              refine one_ (i := 3) (N := some 88) #[true, true, true, true, false, false, false, false, true, false, false] rfl rfl (one_of HT_.out (by kernel_rfl)) (by decide) (fun K hK => ?_)
              refine goes_ Try.func11 (by kernel_rfl) rfl #[.agg #[.int .i64 a1_0, .string a1_1, .string a1_2, .string a1_3]] (by rfl) rfl rfl zr ?_
              with_reducible refine (laws_toAct.calls a1_0 a1_1 a1_2 a1_3 t306 t307 t308 t309 _ A126.out).mono ?_
              rintro e w140 ⟨rfl, hb⟩
              refine ⟨_, rfl, ?_⟩
              have n0_ := am (Kd.R_below (rx HO_279000.out) hb)
              have n1_ := am (Kd.R_below (rx HO_283000.out) hb)
              have n2_ := am (Kd.R_below (rx HO_292000.out) hb)
              have n3_ := am (Kd.R_below (rx HO305.out) hb)
              have n4_ := am (bb hb (kx BK263.out))
              have n5_ := am (bb hb (kx BK264.out))
              have n6_ := am (bb hb (kx BK278.out))
              have n7_ := am (bb hb (kx BK282.out))
              have n8_ := am (bb hb (kx BK291.out))
              have n9_ := am (bb hb (kx BK314.out))
              have n10_ := am (below_step (bx HB.out) hb)
              clear HO_279000 HO_283000 HO_292000 HO305 BK263 BK264 BK278 BK282 BK291 BK314 HB
              have HO_279000 := n0_
              have HO_283000 := n1_
              have HO_292000 := n2_
              have HO305 := n3_
              have BK263 := n4_
              have BK264 := n5_
              have BK278 := n6_
              have BK282 := n7_
              have BK291 := n8_
              have BK314 := n9_
              have HB := n10_
              clear n0_ n1_ n2_ n3_ n4_ n5_ n6_ n7_ n8_ n9_ n10_
              (try clear hb)
              (try clear hb2)
              (try clear hk)
              (try clear hi)
              obtain ⟨Ao141, co141, eo141⟩ := Kd.R_slice HO305.out
              (first | subst eo141 | (injection eo141 with f1_ f2_ f3_; have f4_ := f1_.symm; have f5_ := f3_.symm; clear f1_ f2_ f3_; subst f4_; subst f5_))
              refine hK.out _ _ ⟨ct BK263.out 0, ct BK264.out 0, ct BK264.out 1, ct BK264.out 2, ct BK264.out 3⟩ (fun hHeld => ?_)
              clear hK K
              refine norm_ (a' := ?_) ?_ ?_
              rotate_left
              ·show Act.put _ (some 88) _ = _
               simp only [Act.put, List.setIfInBounds_toArray, List.set_cons_zero, List.set_cons_succ, i64_w, i32_w]
               rfl
              refine one_ (i := 4) (N := some 89) #[true, true, true, true, true, false, false, false, true, false, false] rfl rfl (one_of HT_.out (by kernel_rfl)) (by decide) (fun K hK => ?_)
              refine goes_ Try.func12 (by kernel_rfl) rfl #[.agg #[.slice Ao141 t303.length co141], .agg #[.int .i64 t306, .string t307, .string t308, .string t309]] (by rfl) rfl rfl zr ?_
              with_reducible refine (impl_DoAct.calls kj85 _ _ t303 t306 t307 t308 t309 t310 t313 _ ?side1 ?side2 A127.out).mono ?_
              (case side1 => repeat (first | exact (Kd.R_reads' HO305.out).2.2 | (with_reducible refine Kd.C_alloc ?_ _) | (with_reducible refine Kd.C_drewN ?_ _) | (with_reducible refine Kd.C_drew ?_)))
              (case side2 => exact (Kd.R_reads' HO305.out).2.1)
              rintro e w142 ⟨v311, rfl, ho0, hb⟩
              refine ⟨_, rfl, ?_⟩
              have n0_ := am (Kd.R_elder' (rx HO_279000.out) (Kd.R_base ho0) hb)
              have n1_ := am (Kd.R_elder' (rx HO_283000.out) (Kd.R_base ho0) hb)
              have n2_ := am (Kd.R_elder' (rx HO_292000.out) (Kd.R_base ho0) hb)
              have n3_ := am (Kd.R_elder' (rx HO305.out) (Kd.R_base ho0) hb)
              have n4_ := am (Kd.R_lower (Kd.R_new' (Kd.R_new' (Kd.R_new' (Kd.R_new' ho0 (Kd.R_lt (rx HO_279000.out))) (Kd.R_lt (rx HO_283000.out))) (Kd.R_lt (rx HO_292000.out))) (Kd.R_lt (rx HO305.out))) (below_size (bx HB.out)))
              have n5_ := am (bb hb (kx BK263.out))
              have n6_ := am (bb hb (kx BK264.out))
              have n7_ := am (bb hb (kx BK278.out))
              have n8_ := am (bb hb (kx BK282.out))
              have n9_ := am (bb hb (kx BK291.out))
              have n10_ := am (bb hb (kx BK314.out))
              have n11_ := am (below_step (bx HB.out) hb)
              clear HO_279000 HO_283000 HO_292000 HO305 BK263 BK264 BK278 BK282 BK291 BK314 HB
              have HO_279000 := n0_
              have HO_283000 := n1_
              have HO_292000 := n2_
              have HO305 := n3_
              have HO312 := n4_
              have BK263 := n5_
              have BK264 := n6_
              have BK278 := n7_
              have BK282 := n8_
              have BK291 := n9_
              have BK314 := n10_
              have HB := n11_
              clear n0_ n1_ n2_ n3_ n4_ n5_ n6_ n7_ n8_ n9_ n10_ n11_
              (try clear hb)
              (try clear hb2)
              (try clear hk)
              (try clear hi)
              (try clear ho0)
              refine hK.out _ _ ⟨ct BK263.out 0, ct BK264.out 0, ct BK264.out 1, ct BK264.out 2, ct BK264.out 3⟩ (fun hHeld => ?_)
              clear hK K
              refine norm_ (a' := ?_) ?_ ?_
              rotate_left
              ·show Act.put _ (some 89) _ = _
               simp only [Act.put, List.setIfInBounds_toArray, List.set_cons_zero, List.set_cons_succ, i64_w, i32_w]
               rfl
              refine pure_ (i := 5) (N := some 84) (v := ?_) (a' := ?_) #[true, true, true, true, true, true, false, false, true, false, false] rfl rfl (any_of HT_.out (by kernel_rfl)) (fun _ _ _ h => h) (Or.inl ⟨by rfl, ?_⟩) ?_ ?_
              rotate_left
              ·intro w'
               go_simp
               with_reducible rfl
              rotate_left
              ·simp only [Act.put, List.setIfInBounds_toArray, List.set_cons_zero, List.set_cons_succ, i64_w, i32_w]
               rfl
              refine pure_ (i := 6) (N := some 90) (v := ?_) (a' := ?_) #[true, true, true, true, true, true, true, false, true, false, false] rfl rfl (any_of HT_.out (by kernel_rfl)) (fun _ _ _ h => h) (Or.inl ⟨by rfl, ?_⟩) ?_ ?_
              rotate_left
              ·intro w'
               go_simp
               with_reducible rfl
              rotate_left
              ·simp only [Act.put, List.setIfInBounds_toArray, List.set_cons_zero, List.set_cons_succ, i64_w, i32_w]
               rfl
              refine pure_ (i := 7) (N := some 91) (v := ?_) (a' := ?_) #[true, true, true, true, true, true, true, true, true, false, false] rfl rfl (any_of HT_.out (by kernel_rfl)) (fun _ _ _ h => h) (Or.inl ⟨by rfl, ?_⟩) ?_ ?_
              rotate_left
              ·intro w'
               go_simp
               with_reducible rfl
              rotate_left
              ·simp only [Act.put, List.setIfInBounds_toArray, List.set_cons_zero, List.set_cons_succ, i64_w, i32_w]
               rfl
              exact norm_ (by simp only [putAll, Act.put, List.setIfInBounds_toArray, List.set_cons_zero, List.set_cons_succ]) (hCont (.slice Ao141 t303.length co141, v311, gb314) _ ⟨hHeld, (rx (Kd.R_mono HO305.out (fun _ hk => ⟨hk.2, ⟨hk.1.1.1.2, ⟨hk.1.1.2, hk.1.2⟩⟩⟩))), (rx (Kd.R_mono HO312.out (fun _ hk => ⟨hk.2, ⟨hk.1.1.1.2, ⟨hk.1.1.2, hk.1.2⟩⟩⟩))), (rx (Kd.R_mono HO_279000.out (fun _ hk => ⟨hk.1.2, ⟨hk.2, ⟨hk.1.1.1, hk.1.1.2⟩⟩⟩))), (rx (Kd.R_mono HO_283000.out (fun _ hk => ⟨hk.1.2, ⟨hk.2, ⟨hk.1.1.1, hk.1.1.2⟩⟩⟩))), (rx (Kd.R_mono HO_292000.out (fun _ hk => ⟨hk.1.2, ⟨hk.2, ⟨hk.1.1.1, hk.1.1.2⟩⟩⟩))), (kx BK263.out), (kx BK264.out), (kx BK278.out), (kx BK282.out), (kx BK291.out), (kx BK314.out), GW314.out, GE314.out, NB263_314.out, NB314_263.out, NB264_314.out, NB314_264.out, NB278_314.out, NB314_278.out, NB282_314.out, NB314_282.out, NB291_314.out, NB314_291.out, (bx HB.out)⟩)
            rintro ⟨v304, v311, gb314⟩ w143 ⟨hS_, h0_, h1_, h2_, h3_, h4_, h5_, h6_, h7_, h8_, h9_, h10_, h11_, h12_, h13_, h14_, h15_, h16_, h17_, h18_, h19_, h20_, h21_, h22_, h23_⟩
            have n0_ : Aside0 (Kd.R k66 66 w143 w.heap.size (fun k_ => some k_ ≠ (v311 : Value).ownBlock ∧ some k_ ≠ (.slice Ao40 t274.length co40 : Value).ownBlock ∧ some k_ ≠ (.slice Ao46 t298.length co46 : Value).ownBlock ∧ some k_ ≠ (.slice Ao57 t287.length co57 : Value).ownBlock) v304 t303) := ⟨h0_⟩
            have n1_ : Aside0 (Kd.R k66 66 w143 w.heap.size (fun k_ => some k_ ≠ (v304 : Value).ownBlock ∧ some k_ ≠ (.slice Ao40 t274.length co40 : Value).ownBlock ∧ some k_ ≠ (.slice Ao46 t298.length co46 : Value).ownBlock ∧ some k_ ≠ (.slice Ao57 t287.length co57 : Value).ownBlock) v311 t310) := ⟨h1_⟩
            have n2_ : Aside0 (Kd.R k66 66 w143 w.heap.size (fun k_ => some k_ ≠ (v304 : Value).ownBlock ∧ some k_ ≠ (v311 : Value).ownBlock ∧ some k_ ≠ (.slice Ao46 t298.length co46 : Value).ownBlock ∧ some k_ ≠ (.slice Ao57 t287.length co57 : Value).ownBlock) (.slice Ao40 t274.length co40) t274) := ⟨h2_⟩
            have n3_ : Aside0 (Kd.R k66 66 w143 w.heap.size (fun k_ => some k_ ≠ (v304 : Value).ownBlock ∧ some k_ ≠ (v311 : Value).ownBlock ∧ some k_ ≠ (.slice Ao40 t274.length co40 : Value).ownBlock ∧ some k_ ≠ (.slice Ao57 t287.length co57 : Value).ownBlock) (.slice Ao46 t298.length co46) t298) := ⟨h3_⟩
            have n4_ : Aside0 (Kd.R k66 66 w143 w.heap.size (fun k_ => some k_ ≠ (v304 : Value).ownBlock ∧ some k_ ≠ (v311 : Value).ownBlock ∧ some k_ ≠ (.slice Ao40 t274.length co40 : Value).ownBlock ∧ some k_ ≠ (.slice Ao46 t298.length co46 : Value).ownBlock) (.slice Ao57 t287.length co57) t301) := ⟨h4_⟩
            have n5_ : Aside0 (w143.heap[gb263]? = some (.cells #[.slice A0_0 l0_0.length c0_0] 24 (0, 0))) := ⟨h5_⟩
            have n6_ : Aside0 (w143.heap[gb264]? = some (.cells #[.int .i64 a1_0, .string a1_1, .string a1_2, .string a1_3] 26 (0, 0))) := ⟨h6_⟩
            have n7_ : Aside0 (w143.heap[gb278]? = some (.cells #[.slice Ao40 t274.length co40] 31 (0, 0))) := ⟨h7_⟩
            have n8_ : Aside0 (w143.heap[gb282]? = some (.cells #[.slice Ao46 t298.length co46] 31 (0, 0))) := ⟨h8_⟩
            have n9_ : Aside0 (w143.heap[gb291]? = some (.cells #[.slice Ao57 t287.length co57] 31 (0, 0))) := ⟨h9_⟩
            have n10_ : Aside0 (w143.heap[gb314]? = some (.cells #[.slice none 0 0] 31 (0, 0))) := ⟨h10_⟩
            have n11_ : Aside0 (w.heap.size ≤ gb314) := ⟨h11_⟩
            have n12_ : Aside0 (w.heap.size ≤ gb314) := ⟨h12_⟩
            have n13_ : Aside0 (gb263 ≠ gb314) := ⟨h13_⟩
            have n14_ : Aside0 (gb314 ≠ gb263) := ⟨h14_⟩
            have n15_ : Aside0 (gb264 ≠ gb314) := ⟨h15_⟩
            have n16_ : Aside0 (gb314 ≠ gb264) := ⟨h16_⟩
            have n17_ : Aside0 (gb278 ≠ gb314) := ⟨h17_⟩
            have n18_ : Aside0 (gb314 ≠ gb278) := ⟨h18_⟩
            have n19_ : Aside0 (gb282 ≠ gb314) := ⟨h19_⟩
            have n20_ : Aside0 (gb314 ≠ gb282) := ⟨h20_⟩
            have n21_ : Aside0 (gb291 ≠ gb314) := ⟨h21_⟩
            have n22_ : Aside0 (gb314 ≠ gb291) := ⟨h22_⟩
            have n23_ : Aside0 (Below w.heap.size w w143) := ⟨h23_⟩
            clear HO_279000 HO_283000 HO_292000 BK263 BK264 BK278 BK282 BK291 HB h0_ h1_ h2_ h3_ h4_ h5_ h6_ h7_ h8_ h9_ h10_ h11_ h12_ h13_ h14_ h15_ h16_ h17_ h18_ h19_ h20_ h21_ h22_ h23_
            have HO305 := n0_
            have HO312 := n1_
            have HO_279000 := n2_
            have HO_283000 := n3_
            have HO_292000 := n4_
            have BK263 := n5_
            have BK264 := n6_
            have BK278 := n7_
            have BK282 := n8_
            have BK291 := n9_
            have BK314 := n10_
            have GW314 := n11_
            have GE314 := n12_
            have NB263_314 := n13_
            have NB314_263 := n14_
            have NB264_314 := n15_
            have NB314_264 := n16_
            have NB278_314 := n17_
            have NB314_278 := n18_
            have NB282_314 := n19_
            have NB314_282 := n20_
            have NB291_314 := n21_
            have NB314_291 := n22_
            have HB := n23_
            clear n0_ n1_ n2_ n3_ n4_ n5_ n6_ n7_ n8_ n9_ n10_ n11_ n12_ n13_ n14_ n15_ n16_ n17_ n18_ n19_ n20_ n21_ n22_ n23_
            have hHeld : w143.cell? ⟨gb263, 0, none⟩ = some (.slice A0_0 l0_0.length c0_0) ∧ w143.cell? ⟨gb264, 0, none⟩ = some (.int .i64 a1_0) ∧ w143.cell? ⟨gb264, 1, none⟩ = some (.string a1_1) ∧ w143.cell? ⟨gb264, 2, none⟩ = some (.string a1_2) ∧ w143.cell? ⟨gb264, 3, none⟩ = some (.string a1_3) := hS_
            obtain ⟨Ao144, co144, eo144⟩ := Kd.R_slice HO312.out
            (first | subst eo144 | (injection eo144 with f1_ f2_ f3_; have f4_ := f1_.symm; have f5_ := f3_.symm; clear f1_ f2_ f3_; subst f4_; subst f5_))
            refine norm_ (a' := ?_) ?_ ?_
            rotate_left
            ·simp only [putAll, Act.put, List.setIfInBounds_toArray, List.set_cons_zero, List.set_cons_succ]
             rfl
            refine one_ (i := 9) (N := none) #[true, true, true, true, true, true, true, true, true, true, false] rfl rfl (one_of HT_.out (by kernel_rfl)) (by decide) (fun K hK => ?_)
            have hs145 : w143.cell? ⟨gb314, 0, none⟩ = some (.slice none 0 0) := ct BK314.out 0
            have hfs145 := blk_frozen BK314.out 0
            have hns145_0 := NB263_314.out
            have hns145_1 := NB264_314.out
            have hns145_2 := NB278_314.out
            have hns145_3 := NB282_314.out
            have hns145_4 := NB291_314.out
            have hms145_0 := NB314_263.out
            have hms145_1 := NB314_264.out
            have hms145_2 := NB314_278.out
            have hms145_3 := NB314_282.out
            have hms145_4 := NB314_291.out
            refine skip_ (w1 := ?_) (by rfl) rfl ?_ ?_
            rotate_left
            ·go_simp
             rfl
            refine hK.out _ _ ⟨((cell_far (p := ⟨gb314, _, none⟩) NB263_314.out _).trans (hHeld.1)), ((cell_far (p := ⟨gb314, _, none⟩) NB264_314.out _).trans (hHeld.2.1)), ((cell_far (p := ⟨gb314, _, none⟩) NB264_314.out _).trans (hHeld.2.2.1)), ((cell_far (p := ⟨gb314, _, none⟩) NB264_314.out _).trans (hHeld.2.2.2.1)), ((cell_far (p := ⟨gb314, _, none⟩) NB264_314.out _).trans (hHeld.2.2.2.2))⟩ (fun hHeld => ?_)
            clear hK K
            refine pure_ (i := 10) (N := some 15) (v := ?_) (a' := ?_) #[true, true, true, true, true, true, true, true, true, true, true] rfl rfl (any_of HT_.out (by kernel_rfl)) (fun _ _ _ h => h) (Or.inl ⟨by rfl, ?_⟩) ?_ ?_
            rotate_left
            ·intro w'
             go_simp
             with_reducible rfl
            rotate_left
            ·simp only [Act.put, List.setIfInBounds_toArray, List.set_cons_zero, List.set_cons_succ, i64_w, i32_w]
             rfl
            refine done_ (done_of HT_.out (by kernel_rfl)) ?_
            go_upto_region 28 with (fail)
            go_cut [100] (fun v100 wc => ∃ (kq : Nat) (x100_127 : Bool), v100 = .bool x100_127 ∧ Aside0 (laws_FnExactDoAct.j2 kq t300 x100_127 t301 = some r) ∧ Aside0 (kq ≤ kj85) ∧ Aside0 (Kd.R k66 66 wc w.heap.size (fun k_ => some k_ ≠ ((.slice Ao46 t298.length co46) : Value).ownBlock ∧ some k_ ≠ ((.slice Ao57 t287.length co57) : Value).ownBlock ∧ some k_ ≠ ((.slice Ao144 t310.length co144) : Value).ownBlock) (.slice Ao40 t274.length co40) t274) ∧ Aside0 (Kd.R k66 66 wc w.heap.size (fun k_ => some k_ ≠ ((.slice Ao40 t274.length co40) : Value).ownBlock ∧ some k_ ≠ ((.slice Ao57 t287.length co57) : Value).ownBlock ∧ some k_ ≠ ((.slice Ao144 t310.length co144) : Value).ownBlock) (.slice Ao46 t298.length co46) t298) ∧ Aside0 (Kd.R k66 66 wc w.heap.size (fun k_ => some k_ ≠ ((.slice Ao40 t274.length co40) : Value).ownBlock ∧ some k_ ≠ ((.slice Ao46 t298.length co46) : Value).ownBlock ∧ some k_ ≠ ((.slice Ao144 t310.length co144) : Value).ownBlock) (.slice Ao57 t287.length co57) t301) ∧ Aside0 (Kd.R k66 66 wc w.heap.size (fun k_ => some k_ ≠ ((.slice Ao40 t274.length co40) : Value).ownBlock ∧ some k_ ≠ ((.slice Ao46 t298.length co46) : Value).ownBlock ∧ some k_ ≠ ((.slice Ao57 t287.length co57) : Value).ownBlock) (.slice Ao144 t310.length co144) t310) ∧ Aside0 (wc.heap[gb263]? = some (.cells #[(.slice A0_0 l0_0.length c0_0)] 24 (0, 0))) ∧ Aside0 (wc.heap[gb264]? = some (.cells #[.int .i64 a1_0, .string a1_1, .string a1_2, .string a1_3] 26 (0, 0))) ∧ Aside0 (wc.heap[gb278]? = some (.cells #[(.slice Ao40 t274.length co40)] 31 (0, 0))) ∧ Aside0 (wc.heap[gb282]? = some (.cells #[(.slice Ao46 t298.length co46)] 31 (0, 0))) ∧ Aside0 (wc.heap[gb291]? = some (.cells #[(.slice Ao57 t287.length co57)] 31 (0, 0))) ∧ Aside0 (wc.heap[gb314]? = some (.cells #[(.slice Ao144 t310.length co144)] 31 (0, 0))) ∧ Aside0 (Below w.heap.size w wc))
            case first =>
             have H := HC128.out
             clear HC128
             replace H := Option.bind_eq_some_iff.mp H
             obtain ⟨t315, A1460, H⟩ := H
             try dsimp only at H
             have A146 := Aside0.mk A1460
             clear A1460
             by_cases c147 : t315 = true
             ·subst c147
              have H1 : (laws_FnExactDoAct.j2 kj85 t300 (t313 != t277) t301) = some r := by rw [if_pos rfl] at H; exact H
              clear H
              have H := H1
              clear H1
              have H' := Aside0.mk H
              clear H
              have hnb148 := NB314_263.out
              have hnc148 := NB263_314.out
              have hnb149 := NB314_264.out
              have hnc149 := NB264_314.out
              have hnb150 := NB314_278.out
              have hnc150 := NB278_314.out
              have hnb151 := NB314_282.out
              have hnc151 := NB282_314.out
              have hnb152 := NB314_291.out
              have hnc152 := NB291_314.out
              obtain ⟨hcz153_0, hfz153_0⟩ := zc1 BK314.out
              have hnb154 := NB278_263.out
              have hnc154 := NB263_278.out
              have hnb155 := NB278_264.out
              have hnc155 := NB264_278.out
              have hnb156 := NB278_282.out
              have hnc156 := NB282_278.out
              have hnb157 := NB278_291.out
              have hnc157 := NB291_278.out
              obtain ⟨hcz158_0, hfz158_0⟩ := zc1 BK278.out
              go_wp2_with (first | ((with_reducible refine gate_callee (f := 13) rfl ?_); refine goesL_ (some 94) rfl rfl Try.func13 (by kernel_rfl) rfl #[.agg #[.slice Ao144 t310.length co144], .agg #[.slice Ao40 t274.length co40]] rfl zr ?_; (with_reducible refine (laws_eqDisk.calls kj85 _ _ t310 _ _ t274 true _ ?side1 ?side2 ?side3 ?side4 A146.out).mono ?_); (case side1 => refine (Kd.R_reads' (e := 66) (base := w.heap.size) (ok := fun k_ => (some k_ ≠ (v304 : Value).ownBlock ∧ (some k_ ≠ (.slice Ao40 t274.length co40 : Value).ownBlock ∧ (some k_ ≠ (.slice Ao46 t298.length co46 : Value).ownBlock ∧ some k_ ≠ (.slice Ao57 t287.length co57 : Value).ownBlock)))) (n := t310.length) (c := co144) ?_).2.2; exact (rx ((Kd.R_mono (Kd.R_far (p := ⟨gb314, 0, none⟩) (Kd.R_types HO312.out BK314.out (by decide)) (fun _ hk => hk.2) (.slice Ao144 t310.length co144)) (fun _ h_ => h_.1))))); (case side2 => exact (Kd.R_reads' HO312.out).2.1); (case side3 => refine (Kd.R_reads' (e := 66) (base := w.heap.size) (ok := fun k_ => (some k_ ≠ (v304 : Value).ownBlock ∧ (some k_ ≠ (.slice Ao144 t310.length co144 : Value).ownBlock ∧ (some k_ ≠ (.slice Ao46 t298.length co46 : Value).ownBlock ∧ some k_ ≠ (.slice Ao57 t287.length co57 : Value).ownBlock)))) (n := t274.length) (c := co40) ?_).2.2; exact (rx ((Kd.R_mono (Kd.R_far (p := ⟨gb314, 0, none⟩) (Kd.R_types HO_279000.out BK314.out (by decide)) (fun _ hk => hk.2) (.slice Ao144 t310.length co144)) (fun _ h_ => h_.1))))); (case side4 => exact (Kd.R_reads' HO_279000.out).2.1); rintro e w159 ⟨rfl, hb⟩; refine ⟨_, rfl, ?_⟩; have n0_ := am (Kd.R_below (rx ((Kd.R_mono (Kd.R_far (p := ⟨gb314, 0, none⟩) (Kd.R_types HO_279000.out BK314.out (by decide)) (fun _ hk => hk.2) (.slice Ao144 t310.length co144)) (fun _ h_ => h_.1)))) hb); have n1_ := am (Kd.R_below (rx ((Kd.R_mono (Kd.R_far (p := ⟨gb314, 0, none⟩) (Kd.R_types HO_283000.out BK314.out (by decide)) (fun _ hk => hk.2) (.slice Ao144 t310.length co144)) (fun _ h_ => h_.1)))) hb); have n2_ := am (Kd.R_below (rx ((Kd.R_mono (Kd.R_far (p := ⟨gb314, 0, none⟩) (Kd.R_types HO_292000.out BK314.out (by decide)) (fun _ hk => hk.2) (.slice Ao144 t310.length co144)) (fun _ h_ => h_.1)))) hb); have n3_ := am (Kd.R_below (rx ((Kd.R_mono (Kd.R_far (p := ⟨gb314, 0, none⟩) (Kd.R_types HO305.out BK314.out (by decide)) (fun _ hk => hk.2) (.slice Ao144 t310.length co144)) (fun _ h_ => h_.1)))) hb); have n4_ := am (Kd.R_below (rx ((Kd.R_mono (Kd.R_far (p := ⟨gb314, 0, none⟩) (Kd.R_types HO312.out BK314.out (by decide)) (fun _ hk => hk.2) (.slice Ao144 t310.length co144)) (fun _ h_ => h_.1)))) hb); have n5_ := am (bb hb (zf1 BK263.out NB263_314.out)); have n6_ := am (bb hb (zf1 BK264.out NB264_314.out)); have n7_ := am (bb hb (zf1 BK278.out NB278_314.out)); have n8_ := am (bb hb (zf1 BK282.out NB282_314.out)); have n9_ := am (bb hb (zf1 BK291.out NB291_314.out)); have n10_ := am (blk_below (g := gb314) (o := .cells #[.slice Ao144 t310.length co144] 31 (0, 0)) (by (with_reducible repeat (first | refine blk_drewN ?_ _ | refine blk_drew ?_ | refine blk_alloc ?_ _)); refine blk_put (cs := #[.slice none 0 0]) ?_ 0 _ rfl; (with_reducible repeat (first | refine blk_drewN ?_ _ | refine blk_drew ?_ | refine blk_alloc ?_ _)); exact BK314.out) hb); have n11_ := am (below_step (bx HB.out) hb); clear HO_279000; clear HO_283000; clear HO_292000; clear HO305; clear HO312; clear BK263; clear BK264; clear BK278; clear BK282; clear BK291; clear BK314; clear HB; have HO_279000 := n0_; have HO_283000 := n1_; have HO_292000 := n2_; have HO305 := n3_; have HO312 := n4_; have BK263 := n5_; have BK264 := n6_; have BK278 := n7_; have BK282 := n8_; have BK291 := n9_; have BK314 := n10_; have HB := n11_; clear n0_ n1_ n2_ n3_ n4_ n5_ n6_ n7_ n8_ n9_ n10_ n11_; (try clear hb); (try clear hb2); (try clear hk); (try clear hi)))
              go_meet
              case rel => exact ⟨_, ((t313 != t277)), (by first | rfl | (simp; done) | (simp [*]; done)), H', ⟨by have := HJ24.out; have := HJ85.out; first | omega | exact Nat.le_refl _⟩, ⟨by (try simp only [hl283000_85]); (with_reducible repeat (first | apply Kd.R_alloc | apply Kd.R_drewN | apply Kd.R_drew)); exact Kd.R_mono HO_279000.out (fun _ hk => ⟨hk.2.2.1, ⟨hk.2.2.2, hk.2.1⟩⟩)⟩, ⟨by (try simp only [hl283000_85]); (with_reducible repeat (first | apply Kd.R_alloc | apply Kd.R_drewN | apply Kd.R_drew)); exact Kd.R_mono HO_283000.out (fun _ hk => ⟨hk.2.2.1, ⟨hk.2.2.2, hk.2.1⟩⟩)⟩, ⟨by (try simp only [hl283000_85]); (with_reducible repeat (first | apply Kd.R_alloc | apply Kd.R_drewN | apply Kd.R_drew)); exact Kd.R_mono HO_292000.out (fun _ hk => ⟨hk.2.2.1, ⟨hk.2.2.2, hk.2.1⟩⟩)⟩, ⟨by (try simp only [hl283000_85]); (with_reducible repeat (first | apply Kd.R_alloc | apply Kd.R_drewN | apply Kd.R_drew)); exact Kd.R_mono HO312.out (fun _ hk => ⟨hk.2.1, ⟨hk.2.2.1, hk.2.2.2⟩⟩)⟩, ⟨by (try simp only [hl283000_85]); (with_reducible repeat (first | refine blk_drewN ?_ _ | refine blk_drew ?_ | refine blk_alloc ?_ _)); exact BK263.out⟩, ⟨by (try simp only [hl283000_85]); (with_reducible repeat (first | refine blk_drewN ?_ _ | refine blk_drew ?_ | refine blk_alloc ?_ _)); exact BK264.out⟩, ⟨by (try simp only [hl283000_85]); (with_reducible repeat (first | refine blk_drewN ?_ _ | refine blk_drew ?_ | refine blk_alloc ?_ _)); exact BK278.out⟩, ⟨by (try simp only [hl283000_85]); (with_reducible repeat (first | refine blk_drewN ?_ _ | refine blk_drew ?_ | refine blk_alloc ?_ _)); exact BK282.out⟩, ⟨by (try simp only [hl283000_85]); (with_reducible repeat (first | refine blk_drewN ?_ _ | refine blk_drew ?_ | refine blk_alloc ?_ _)); exact BK291.out⟩, ⟨by (try simp only [hl283000_85]); (with_reducible repeat (first | refine blk_drewN ?_ _ | refine blk_drew ?_ | refine blk_alloc ?_ _)); exact BK314.out⟩, ⟨bx HB.out⟩⟩
             ·replace c147 := Bool.eq_false_iff.mpr c147
              subst c147
              have H1 : (laws_FnExactDoAct.j2 kj85 t300 true t301) = some r := by rw [if_neg (show ¬ (false = true) by decide)] at H; exact H
              clear H
              have H := H1
              clear H1
              have H' := Aside0.mk H
              clear H
              have hnb160 := NB314_263.out
              have hnc160 := NB263_314.out
              have hnb161 := NB314_264.out
              have hnc161 := NB264_314.out
              have hnb162 := NB314_278.out
              have hnc162 := NB278_314.out
              have hnb163 := NB314_282.out
              have hnc163 := NB282_314.out
              have hnb164 := NB314_291.out
              have hnc164 := NB291_314.out
              obtain ⟨hcz165_0, hfz165_0⟩ := zc1 BK314.out
              have hnb166 := NB278_263.out
              have hnc166 := NB263_278.out
              have hnb167 := NB278_264.out
              have hnc167 := NB264_278.out
              have hnb168 := NB278_282.out
              have hnc168 := NB282_278.out
              have hnb169 := NB278_291.out
              have hnc169 := NB291_278.out
              obtain ⟨hcz170_0, hfz170_0⟩ := zc1 BK278.out
              go_wp2_with (first | ((with_reducible refine gate_callee (f := 13) rfl ?_); refine goesL_ (some 94) rfl rfl Try.func13 (by kernel_rfl) rfl #[.agg #[.slice Ao144 t310.length co144], .agg #[.slice Ao40 t274.length co40]] rfl zr ?_; (with_reducible refine (laws_eqDisk.calls kj85 _ _ t310 _ _ t274 false _ ?side1 ?side2 ?side3 ?side4 A146.out).mono ?_); (case side1 => refine (Kd.R_reads' (e := 66) (base := w.heap.size) (ok := fun k_ => (some k_ ≠ (v304 : Value).ownBlock ∧ (some k_ ≠ (.slice Ao40 t274.length co40 : Value).ownBlock ∧ (some k_ ≠ (.slice Ao46 t298.length co46 : Value).ownBlock ∧ some k_ ≠ (.slice Ao57 t287.length co57 : Value).ownBlock)))) (n := t310.length) (c := co144) ?_).2.2; exact (rx ((Kd.R_mono (Kd.R_far (p := ⟨gb314, 0, none⟩) (Kd.R_types HO312.out BK314.out (by decide)) (fun _ hk => hk.2) (.slice Ao144 t310.length co144)) (fun _ h_ => h_.1))))); (case side2 => exact (Kd.R_reads' HO312.out).2.1); (case side3 => refine (Kd.R_reads' (e := 66) (base := w.heap.size) (ok := fun k_ => (some k_ ≠ (v304 : Value).ownBlock ∧ (some k_ ≠ (.slice Ao144 t310.length co144 : Value).ownBlock ∧ (some k_ ≠ (.slice Ao46 t298.length co46 : Value).ownBlock ∧ some k_ ≠ (.slice Ao57 t287.length co57 : Value).ownBlock)))) (n := t274.length) (c := co40) ?_).2.2; exact (rx ((Kd.R_mono (Kd.R_far (p := ⟨gb314, 0, none⟩) (Kd.R_types HO_279000.out BK314.out (by decide)) (fun _ hk => hk.2) (.slice Ao144 t310.length co144)) (fun _ h_ => h_.1))))); (case side4 => exact (Kd.R_reads' HO_279000.out).2.1); rintro e w171 ⟨rfl, hb⟩; refine ⟨_, rfl, ?_⟩; have n0_ := am (Kd.R_below (rx ((Kd.R_mono (Kd.R_far (p := ⟨gb314, 0, none⟩) (Kd.R_types HO_279000.out BK314.out (by decide)) (fun _ hk => hk.2) (.slice Ao144 t310.length co144)) (fun _ h_ => h_.1)))) hb); have n1_ := am (Kd.R_below (rx ((Kd.R_mono (Kd.R_far (p := ⟨gb314, 0, none⟩) (Kd.R_types HO_283000.out BK314.out (by decide)) (fun _ hk => hk.2) (.slice Ao144 t310.length co144)) (fun _ h_ => h_.1)))) hb); have n2_ := am (Kd.R_below (rx ((Kd.R_mono (Kd.R_far (p := ⟨gb314, 0, none⟩) (Kd.R_types HO_292000.out BK314.out (by decide)) (fun _ hk => hk.2) (.slice Ao144 t310.length co144)) (fun _ h_ => h_.1)))) hb); have n3_ := am (Kd.R_below (rx ((Kd.R_mono (Kd.R_far (p := ⟨gb314, 0, none⟩) (Kd.R_types HO305.out BK314.out (by decide)) (fun _ hk => hk.2) (.slice Ao144 t310.length co144)) (fun _ h_ => h_.1)))) hb); have n4_ := am (Kd.R_below (rx ((Kd.R_mono (Kd.R_far (p := ⟨gb314, 0, none⟩) (Kd.R_types HO312.out BK314.out (by decide)) (fun _ hk => hk.2) (.slice Ao144 t310.length co144)) (fun _ h_ => h_.1)))) hb); have n5_ := am (bb hb (zf1 BK263.out NB263_314.out)); have n6_ := am (bb hb (zf1 BK264.out NB264_314.out)); have n7_ := am (bb hb (zf1 BK278.out NB278_314.out)); have n8_ := am (bb hb (zf1 BK282.out NB282_314.out)); have n9_ := am (bb hb (zf1 BK291.out NB291_314.out)); have n10_ := am (blk_below (g := gb314) (o := .cells #[.slice Ao144 t310.length co144] 31 (0, 0)) (by (with_reducible repeat (first | refine blk_drewN ?_ _ | refine blk_drew ?_ | refine blk_alloc ?_ _)); refine blk_put (cs := #[.slice none 0 0]) ?_ 0 _ rfl; (with_reducible repeat (first | refine blk_drewN ?_ _ | refine blk_drew ?_ | refine blk_alloc ?_ _)); exact BK314.out) hb); have n11_ := am (below_step (bx HB.out) hb); clear HO_279000; clear HO_283000; clear HO_292000; clear HO305; clear HO312; clear BK263; clear BK264; clear BK278; clear BK282; clear BK291; clear BK314; clear HB; have HO_279000 := n0_; have HO_283000 := n1_; have HO_292000 := n2_; have HO305 := n3_; have HO312 := n4_; have BK263 := n5_; have BK264 := n6_; have BK278 := n7_; have BK282 := n8_; have BK291 := n9_; have BK314 := n10_; have HB := n11_; clear n0_ n1_ n2_ n3_ n4_ n5_ n6_ n7_ n8_ n9_ n10_ n11_; (try clear hb); (try clear hb2); (try clear hk); (try clear hi)))
              go_meet
              case rel => exact ⟨_, (true), (by first | rfl | (simp; done) | (simp [*]; done)), H', ⟨by have := HJ24.out; have := HJ85.out; first | omega | exact Nat.le_refl _⟩, ⟨by (try simp only [hl283000_85]); (with_reducible repeat (first | apply Kd.R_alloc | apply Kd.R_drewN | apply Kd.R_drew)); exact Kd.R_mono HO_279000.out (fun _ hk => ⟨hk.2.2.1, ⟨hk.2.2.2, hk.2.1⟩⟩)⟩, ⟨by (try simp only [hl283000_85]); (with_reducible repeat (first | apply Kd.R_alloc | apply Kd.R_drewN | apply Kd.R_drew)); exact Kd.R_mono HO_283000.out (fun _ hk => ⟨hk.2.2.1, ⟨hk.2.2.2, hk.2.1⟩⟩)⟩, ⟨by (try simp only [hl283000_85]); (with_reducible repeat (first | apply Kd.R_alloc | apply Kd.R_drewN | apply Kd.R_drew)); exact Kd.R_mono HO_292000.out (fun _ hk => ⟨hk.2.2.1, ⟨hk.2.2.2, hk.2.1⟩⟩)⟩, ⟨by (try simp only [hl283000_85]); (with_reducible repeat (first | apply Kd.R_alloc | apply Kd.R_drewN | apply Kd.R_drew)); exact Kd.R_mono HO312.out (fun _ hk => ⟨hk.2.1, ⟨hk.2.2.1, hk.2.2.2⟩⟩)⟩, ⟨by (try simp only [hl283000_85]); (with_reducible repeat (first | refine blk_drewN ?_ _ | refine blk_drew ?_ | refine blk_alloc ?_ _)); exact BK263.out⟩, ⟨by (try simp only [hl283000_85]); (with_reducible repeat (first | refine blk_drewN ?_ _ | refine blk_drew ?_ | refine blk_alloc ?_ _)); exact BK264.out⟩, ⟨by (try simp only [hl283000_85]); (with_reducible repeat (first | refine blk_drewN ?_ _ | refine blk_drew ?_ | refine blk_alloc ?_ _)); exact BK278.out⟩, ⟨by (try simp only [hl283000_85]); (with_reducible repeat (first | refine blk_drewN ?_ _ | refine blk_drew ?_ | refine blk_alloc ?_ _)); exact BK282.out⟩, ⟨by (try simp only [hl283000_85]); (with_reducible repeat (first | refine blk_drewN ?_ _ | refine blk_drew ?_ | refine blk_alloc ?_ _)); exact BK291.out⟩, ⟨by (try simp only [hl283000_85]); (with_reducible repeat (first | refine blk_drewN ?_ _ | refine blk_drew ?_ | refine blk_alloc ?_ _)); exact BK314.out⟩, ⟨bx HB.out⟩⟩
            case rest =>
             clear HC128
             try clear c1
             try clear p2
             try clear c10
             try clear c11
             try clear c12
             try clear c13
             try clear c14
             try clear c15
             try clear c16
             try clear c147
             try clear c148
             try clear c149
             try clear c150
             try clear c151
             try clear c152
             try clear c154
             try clear c155
             try clear c156
             try clear c157
             try clear c160
             try clear c161
             try clear c162
             try clear c163
             try clear c164
             try clear c166
             try clear c167
             try clear c168
             try clear c169
             try clear hcz153_0
             try clear hcz158_0
             try clear hcz165_0
             try clear hcz170_0
             try clear hfz153_0
             try clear hfz158_0
             try clear hfz165_0
             try clear hfz170_0
             obtain ⟨kq, x100_127, rfl, HA, HJ127, HO_279000, HO_283000, HO_292000, HO_315000, BK263, BK264, BK278, BK282, BK291, BK314, HB⟩ := hcut
             have hl292000_127 := (Kd.R_reads' HO_292000.out).1
             rw [hl292000_127] at HO_292000
             (try simp only [hl292000_127])
             (try simp only [hl292000_127] at BK263)
             (try simp only [hl292000_127] at BK264)
             (try simp only [hl292000_127] at BK278)
             (try simp only [hl292000_127] at BK282)
             (try simp only [hl292000_127] at BK291)
             (try simp only [hl292000_127] at BK314)
             (try simp only [hl292000_127] at HO_279000)
             (try simp only [hl292000_127] at HO_283000)
             (try simp only [hl292000_127] at HO_315000)
             cases kq with
             | zero => exact absurd HA.out (by simp [laws_FnExactDoAct.j2])
             | succ kj127 =>
              have H := HA.out
              clear HA
              simp only [laws_FnExactDoAct.j2] at H
              by_cases c172 : x100_127 = true
              ·subst c172
               have H1 : (some false) = some r := by rw [if_pos rfl] at H; exact H
               clear H
               have H := H1
               clear H1
               exact absurd ((Option.some.inj H).trans HLT.out) (by decide)
              ·replace c172 := Bool.eq_false_iff.mpr c172
               subst c172
               have H1 : ((laws_heldDisk.f kj127 t301 1).bind fun t316 => (if t316 < 0 then (some false) else (if t316 = t300 then (some true) else (some false)))) = some r := by rw [if_neg (show ¬ (false = true) by decide)] at H; exact H
               clear H
               have H := H1
               clear H1
               replace H := Option.bind_eq_some_iff.mp H
               obtain ⟨t316, A1730, H⟩ := H
               try dsimp only at H
               have A173 := Aside0.mk A1730
               clear A1730
               by_cases c174 : t316 < 0
               ·rw [if_pos c174] at H
                have c174b0 : decide (t316 < 0) = true := decide_eq_true c174
                clear c174
                exact absurd ((Option.some.inj H).trans HLT.out) (by decide)
               ·rw [if_neg c174] at H
                have c174b0 : decide (t316 < 0) = false := decide_eq_false c174
                clear c174
                by_cases c175 : t316 = t300
                ·rw [if_pos c175] at H
                 have c175b0 : (t316 == t300) = true := beq_iff_eq.mpr c175
                 have c175b1 : (t316 != t300) = false := bne_eq_false_iff_eq.mpr c175
                 clear c175
                 obtain rfl := Option.some.inj H
                 have hnb176 := NB291_263.out
                 have hnc176 := NB263_291.out
                 have hnb177 := NB291_264.out
                 have hnc177 := NB264_291.out
                 have hnb178 := NB291_278.out
                 have hnc178 := NB278_291.out
                 have hnb179 := NB291_282.out
                 have hnc179 := NB282_291.out
                 have hnb180 := NB291_314.out
                 have hnc180 := NB314_291.out
                 obtain ⟨hcz181_0, hfz181_0⟩ := zc1 BK291.out
                 go_wp2_with (first | ((with_reducible refine gate_callee (f := 15) rfl ?_); refine goesL_ (some 103) rfl rfl Try.func15 (by kernel_rfl) rfl #[.agg #[.slice Ao57 t301.length co57], .int .i64 1] rfl zr ?_; (with_reducible refine (laws_heldDisk.calls kj127 _ _ t301 1 t316 _ ?side1 ?side2 A173.out).mono ?_); (case side1 => repeat (first | exact (Kd.R_reads' HO_292000.out).2.2 | (with_reducible refine Kd.C_alloc ?_ _) | (with_reducible refine Kd.C_drewN ?_ _) | (with_reducible refine Kd.C_drew ?_))); (case side2 => exact (Kd.R_reads' HO_292000.out).2.1); rintro e w182 ⟨rfl, hb⟩; refine ⟨_, rfl, ?_⟩; have n0_ := am (Kd.R_below (rx HO_279000.out) hb); have n1_ := am (Kd.R_below (rx HO_283000.out) hb); have n2_ := am (Kd.R_below (rx HO_292000.out) hb); have n3_ := am (Kd.R_below (rx HO_315000.out) hb); have n4_ := am (bb hb (kx BK263.out)); have n5_ := am (bb hb (kx BK264.out)); have n6_ := am (bb hb (kx BK278.out)); have n7_ := am (bb hb (kx BK282.out)); have n8_ := am (bb hb (kx BK291.out)); have n9_ := am (bb hb (kx BK314.out)); have n10_ := am (below_step (bx HB.out) hb); clear HO_279000; clear HO_283000; clear HO_292000; clear HO_315000; clear BK263; clear BK264; clear BK278; clear BK282; clear BK291; clear BK314; clear HB; have HO_279000 := n0_; have HO_283000 := n1_; have HO_292000 := n2_; have HO_315000 := n3_; have BK263 := n4_; have BK264 := n5_; have BK278 := n6_; have BK282 := n7_; have BK291 := n8_; have BK314 := n9_; have HB := n10_; clear n0_ n1_ n2_ n3_ n4_ n5_ n6_ n7_ n8_ n9_ n10_; (try clear hb); (try clear hb2); (try clear hk); (try clear hi)))
                 go_ret
                 exact ⟨by first | rfl | (simp [errW_none, errW_some] <;> rfl) | (simp [*, errW_none, errW_some] <;> rfl), zb6 HB.out GE263.out GE264.out GE278.out GE282.out GE291.out GE314.out⟩
                ·rw [if_neg c175] at H
                 have c175b0 : (t316 == t300) = false := beq_eq_false_iff_ne.mpr c175
                 have c175b1 : (t316 != t300) = true := bne_iff_ne.mpr c175
                 exact absurd ((Option.some.inj H).trans HLT.out) (by decide)
           ·rw [if_neg c124] at H
            have c124b0 : (t302 == t300) = false := beq_eq_false_iff_ne.mpr c124
            have c124b1 : (t302 != t300) = true := bne_iff_ne.mpr c124
            exact absurd ((Option.some.inj H).trans HLT.out) (by decide)
      ·replace c84 := Bool.eq_false_iff.mpr c84
       subst c84
       have H1 : (some false) = some r := by rw [if_neg (show ¬ (false = true) by decide)] at H; exact H
       clear H
       have H := H1
       clear H1
       exact absurd ((Option.some.inj H).trans HLT.out) (by decide)

end Go.Proofs.Ytklbkkoojkmjbaa.QFnExactDoAct
