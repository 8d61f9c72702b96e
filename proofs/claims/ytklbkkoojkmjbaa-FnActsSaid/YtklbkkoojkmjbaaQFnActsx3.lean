/- Written by the kit's print.py, called by our own print2.sh with one import more; not by print.sh. -/
import Derived.Test.YtklbkkoojkmjbaaQFnActsx0
import Derived.Test.YtklbkkoojkmjbaaQFnActsx2
namespace Go.Proofs.Ytklbkkoojkmjbaa.QFnActs
open Go.RowKit Go.Proofs.YtklbkkoojkmjbaaW.PrintWords Go.Proofs.YtklbkkoojkmjbaaW.PrintLast Go.Proofs.YtklbkkoojkmjbaaW.PrintMore
attribute [local go_sem] max2_int min2_int max_two min_two max_three min_three max_four min_four   -- for this text's walks alone
open Go.Proofs.Ytklbkkoojkmjbaa.Short
set_option linter.unusedVariables false
set_option linter.unusedSimpArgs false

attribute [local go_sem high] gtr_str
/-! ### impl_withFile: function 41, by hand (slices.Insert at File) -/ -- making
open Go.Proofs.Ytklbkkoojkmjbaa.Base
theorem impl_withFile.ov (w : World) (g vb o lb cb : Nat) (cur : Array Value) (hne : vb ≠ g) (hr : w.heap[g]? = some (.cells cur 66 (0, 0))) (hp : 0 < cur.size) (f : S66) (hv : w.heap[vb]? = some (.cells #[.string f.f0, .string f.f1, .int .i64 f.f2] 66 (0, 0))) :
  (callFunc 75 #[.slice (some ⟨vb, 0, none⟩) 1 1, .slice (some ⟨g, o, none⟩) lb cb]).run Try.prog w = .ok (.value (.bool false)) w := by
 have hsa : w.shape? vb = some (66, 3) := by simp [World.shape?, hv]
 have hsb : w.shape? g = some (66, cur.size) := by simp [World.shape?, hr]
 rw [run_callFunc_extern Try.func75 (by kernel_rfl) (by kernel_rfl) (by kernel_rfl) (e := Extern.SlicesOverlaps.overlaps #[29, 29] #[4]) (by kernel_rfl),
  Lib.run_overlaps_apart w 29 4 66 Try.underlying29 3 Try.sizeOf66 ⟨vb, 0, none⟩ ⟨g, o, none⟩ 1 1 lb cb hne 66 66 3 cur.size hsa hsb (by omega) (blk_frozen hv 0) (blk_frozen hv 3)]
 rfl
theorem impl_withFile.row2 (cur : List Value) (xs : List S66) (f : S66) (i cap : Nat) (hl : cur.length = cap * 3) (htk : cur.take (xs.length * 3) = impl_withoutFile.fl xs) (hi : i ≤ xs.length) (hroom : xs.length + 1 ≤ cap) (cs : List Value) (hcs : cs = (cur.drop (i * 3)).take ((xs.length - i) * 3)) :
  ((((cur.take ((i + 1) * 3) ++ cs ++ cur.drop ((i + 1) * 3 + cs.length)).take (i * 3) ++ impl_withoutFile.fc f ++ (cur.take ((i + 1) * 3) ++ cs ++ cur.drop ((i + 1) * 3 + cs.length)).drop (i * 3 + (impl_withoutFile.fc f).length))).take ((xs.length + 1) * 3)) = impl_withoutFile.fl (xs.take i ++ f :: xs.drop i) := by
 have hfc : (impl_withoutFile.fc f).length = 3 := rfl
 have e1 : impl_withoutFile.fl (xs.take i) = cur.take (i * 3) := by rw [← impl_withoutFile.fl_take, ← htk, List.take_take, Nat.min_eq_left (by omega)]
 have e2 : impl_withoutFile.fl (xs.drop i) = cs := by rw [← impl_withoutFile.fl_drop, ← htk, hcs, List.drop_take]; congr 1; omega
 have hcl : cs.length = (xs.length - i) * 3 := by rw [hcs, List.length_take, List.length_drop]; omega
 rw [impl_withoutFile.fl_app, show impl_withoutFile.fl (f :: xs.drop i) = impl_withoutFile.fc f ++ impl_withoutFile.fl (xs.drop i) from rfl, e1, e2]
 have a1 : (cur.take ((i + 1) * 3) ++ cs ++ cur.drop ((i + 1) * 3 + cs.length)).take (i * 3) = cur.take (i * 3) := by
  rw [List.append_assoc, List.take_append_of_le_length (by rw [List.length_take]; omega), List.take_take, Nat.min_eq_left (by omega)]
 have a2 : (cur.take ((i + 1) * 3) ++ cs ++ cur.drop ((i + 1) * 3 + cs.length)).drop (i * 3 + 3) = cs ++ cur.drop ((i + 1) * 3 + cs.length) := by
  rw [List.append_assoc, List.drop_append, List.length_take, Nat.min_eq_left (by omega), show i * 3 + 3 - (i + 1) * 3 = 0 by omega, List.drop_zero, List.drop_eq_nil_of_le (by rw [List.length_take]; omega), List.nil_append]
 rw [hfc, a1, a2]
 have hL : (cur.take (i * 3) ++ impl_withoutFile.fc f ++ cs).length = (xs.length + 1) * 3 := by
  rw [List.length_append, List.length_append, hfc, hcl, List.length_take]; omega
 rw [← List.append_assoc, List.take_append_of_le_length (by omega), ← hL, List.take_length, List.append_assoc]
set_option maxHeartbeats 4000000 in
set_option maxRecDepth 100000 in
theorem impl_withFile.ins_room (w0 w : World) (base g vb cap i : Nat) (xs : List S66) (f : S66) (cur : Array Value) (row : w.heap[g]? = some (.cells cur 66 (0, 0))) (hsz : cur.size = cap * 3) (htk : cur.toList.take (xs.length * 3) = impl_withoutFile.fl xs)
  (hv : w.heap[vb]? = some (.cells #[.string f.f0, .string f.f1, .int .i64 f.f2] 66 (0, 0))) (hne : vb ≠ g) (hi : i < xs.length) (hroom : xs.length + 1 ≤ cap) (hcm : cap ≤ 9223372036854775807) (hb : Below base w0 w) (hg : base ≤ g) :
  Calls Try.prog 62 #[.slice (some ⟨g, 0, none⟩) xs.length cap, .int .i64 i, .slice (some ⟨vb, 0, none⟩) 1 1] w fun e w' => e = .returned (.slice (some ⟨g, 0, none⟩) (xs.length + 1) cap) ∧ Below base w0 w' ∧
   ∃ cur', w'.heap[g]? = some (.cells cur' 66 (0, 0)) ∧ cur'.size = cap * 3 ∧ cur'.toList.take ((xs.length + 1) * 3) = impl_withoutFile.fl (xs.take i ++ f :: xs.drop i) ∧ ∀ k, k < w.heap.size → k ≠ g → w'.heap[k]? = w.heap[k]? := by
 obtain ⟨n, hn⟩ : ∃ n, n = xs.length := ⟨_, rfl⟩
 obtain ⟨cs, hcs⟩ : ∃ cs, cs = (cur.toList.drop (i * 3)).take ((xs.length - i) * 3) := ⟨_, rfl⟩
 have hlc : cur.toList.length = cap * 3 := by rw [Array.length_toList, hsz]
 have hcl : cs.length = (n - i) * 3 := by rw [hcs, List.length_take, List.length_drop, hlc, hn]; omega
 have hc1 : ∀ v ∈ cs, v.oneCell' = true := fun v hv => by
  have e2 : cs = impl_withoutFile.fl (xs.drop i) := by rw [← impl_withoutFile.fl_drop, ← htk, hcs, List.drop_take]; congr 1; omega
  rw [e2] at hv
  exact impl_withoutFile.fl_one _ v hv
 have hsrc : ∀ (W : World), W.heap = w.heap → ∀ j v, cs[j]? = some v → W.cell? (Addr.add ⟨g, i * 3, none⟩ j) = some v := fun W hW j v hj => by
  rw [Addr.add_lit, show W.cell? ⟨g, i * 3 + j, none⟩ = w.cell? ⟨g, i * 3 + j, none⟩ from by simp only [World.cell?, hW], blk_cell row]
  rw [hcs, List.getElem?_take] at hj
  split at hj
  ·rw [List.getElem?_drop, Array.getElem?_toList] at hj; exact hj
  ·cases hj
 have hcp1 : ∀ ty dc sc, (Builtin.copy_ #[29, 29] ty #[.slice (some ⟨g, (i + 1) * 3, none⟩) (n - i) dc, .slice (some ⟨g, i * 3, none⟩) (n + 1 - i) sc]).run Try.prog w.drew = .ok (goInt ((n - i : Nat) : Int)) (w.drew.setRow g (cur.toList.take ((i + 1) * 3) ++ cs ++ cur.toList.drop ((i + 1) * 3 + cs.length)).toArray) := fun ty dc sc => by
  have hm : Nat.min (n + 1 - i) (n - i) = n - i := by simp only [Nat.min_def]; split <;> omega
  have := run_copy_wide (P := Try.prog) w.drew 29 29 ty 66 3 g ((i + 1) * 3) (n - i) dc ⟨g, i * 3, none⟩ (n + 1 - i) sc cur 66 cs Try.underlying29 (by kernel_rfl) row (by rw [hm, hcl]) (hsrc _ rfl) (by rw [hsz, hcl]; omega) hc1
  rw [hm] at this
  exact this
 obtain ⟨cur1, hcur1⟩ : ∃ c : Array Value, c = (cur.toList.take ((i + 1) * 3) ++ cs ++ cur.toList.drop ((i + 1) * 3 + cs.length)).toArray := ⟨_, rfl⟩
 have hl1 : cur1.size = cap * 3 := by
  rw [hcur1, List.size_toArray, List.length_append, List.length_append, List.length_take, List.length_drop, hlc, hcl]; omega
 rw [← hcur1] at hcp1
 have hcp2 : ∀ (W : World), W.heap = (w.setRow g cur1).heap → ∀ ty dc, (Builtin.copy_ #[29, 29] ty #[.slice (some ⟨g, i * 3, none⟩) (n + 1 - i) dc, .slice (some ⟨vb, 0, none⟩) 1 1]).run Try.prog W = .ok (goInt 1) (W.setRow g (cur1.toList.take (i * 3) ++ impl_withoutFile.fc f ++ cur1.toList.drop (i * 3 + (impl_withoutFile.fc f).length)).toArray) := fun W hW ty dc => by
  have hm : Nat.min 1 (n + 1 - i) = 1 := by simp only [Nat.min_def]; split <;> omega
  have hrow : W.heap[g]? = some (.cells cur1 66 (0, 0)) := by rw [hW]; exact setRow_heap w g _ _ _ _ row
  have hvb : W.heap[vb]? = some (.cells #[.string f.f0, .string f.f1, .int .i64 f.f2] 66 (0, 0)) := by rw [hW, setRow_other w g vb _ hne]; exact hv
  have := run_copy_wide (P := Try.prog) W 29 29 ty 66 3 g (i * 3) (n + 1 - i) dc ⟨vb, 0, none⟩ 1 1 cur1 66 (impl_withoutFile.fc f) Try.underlying29 (by kernel_rfl) hrow (by rw [hm]; rfl) (fun j v hj => by rw [Addr.add_lit, Nat.zero_add, blk_cell hvb]; show ([Value.string f.f0, Value.string f.f1, Value.int .i64 f.f2] : List Value).toArray[j]? = _; rw [List.getElem?_toArray]; exact hj) (by rw [hl1]; show i * 3 + 3 ≤ _; omega) (by intro u hu; simp [impl_withoutFile.fc] at hu; rcases hu with rfl | rfl | rfl <;> rfl)
  rw [hm] at this
  exact this
 have hov : ∀ o lb cb, (callFunc 75 #[.slice (some ⟨vb, 0, none⟩) 1 1, .slice (some ⟨g, o, none⟩) lb cb]).run Try.prog w = .ok (.value (.bool false)) w := fun o lb cb => impl_withFile.ov w g vb o lb cb cur hne row (by omega) f hv
 have hfin := impl_withFile.row2 cur.toList xs f i cap hlc htk (by omega) hroom cs hcs
 rw [← hn] at hi hroom
 have R0 := Aside0.mk row
 have HB := Aside0.mk hb
 have HF := Aside0.mk hfin
 have HC1 := Aside0.mk hcur1
 have HL1 := Aside0.mk hl1
 have hz2 : ¬ ((i : Int) = (n : Int)) := by omega
 have hz3 : ¬ ((cap : Int) < (n : Int) + 1) := by omega
 have hw1 : IntKind.i64.wrap ((i : Int) + 1) = (i : Int) + 1 := by rw [IntKind.wrap_i64]; omega
 have hw2 : IntKind.i64.wrap ((n : Int) + 1) = (n : Int) + 1 := by rw [IntKind.wrap_i64]; omega
 have hin : i ≤ n := by omega
 have hb2 : ¬ (cap = i + 1) := by omega
 have hb3 : (i : Int) ≤ (n : Int) + 1 := by omega
 have hb4 : ¬ (cap = i) := by omega
 have hb5 : i + 1 ≤ n + 1 := by omega
 rw [← hn]
 clear hfin hcur1 hl1 hb row htk hsz hcs hlc hcl hc1 hsrc hv
 have mixed : Try.prog.follows .mixedOrders = true := by kernel_rfl
 have hb1 : (0 : Int) ≤ (i : Int) + 1 := by omega
 have HN := Aside0.mk hn
 clear hn
 go_enter Try.func62, Try.ntmps62
 go_wp2_with (simp only [hov])
 go_region_law_o (refine step_copy_run_ rfl _ _ 29 29 rfl _ _ (by simp [Act.eval, Act.put]) (by simp [Act.eval, Act.put]) (hcp1 _ _ _) ?_)
 have hcp3 := hcp2 (w.drew.setRow g cur1) rfl
 clear hcp2 hcp1
 go_wp2
 go_ret
 have hrow : (w.drew.setRow g cur1).heap[g]? = some (.cells cur1 66 (0, 0)) := setRow_heap w.drew g _ _ _ _ R0.out
 refine ⟨rfl, Go.below_setRow (Go.below_setRow (below_drew HB.out) hg _) hg _, _, setRow_heap _ g _ _ _ _ hrow, ?_, ?_, fun k _ hk => (setRow_other _ g k _ hk).trans (setRow_other _ g k _ hk)⟩
 ·have h3 : (impl_withoutFile.fc f).length = 3 := rfl
  simp only [List.size_toArray, List.length_append, List.length_take, List.length_drop, Array.length_toList, HL1.out, h3]
  omega
 ·have h1 := HF.out
  rw [HC1.out, HN.out]
  show List.take _ (_ ++ (_ ++ _)) = _
  rw [← List.append_assoc]
  exact h1

set_option maxHeartbeats 4000000 in
set_option maxRecDepth 100000 in
theorem impl_withFile.ins_grow (w0 w : World) (base g vb cap i : Nat) (xs : List S66) (f : S66) (cur : Array Value) (row : w.heap[g]? = some (.cells cur 66 (0, 0))) (hsz : cur.size = cap * 3) (htk : cur.toList.take (xs.length * 3) = impl_withoutFile.fl xs)
  (hv : w.heap[vb]? = some (.cells #[.string f.f0, .string f.f1, .int .i64 f.f2] 66 (0, 0))) (hne : vb ≠ g) (hi : i < xs.length) (hroom : cap < xs.length + 1) (hnc : xs.length ≤ cap) (hlim : xs.length < 1000000) (hb : Below base w0 w) (hg : base ≤ g) :
  Calls Try.prog 62 #[.slice (some ⟨g, 0, none⟩) xs.length cap, .int .i64 i, .slice (some ⟨vb, 0, none⟩) 1 1] w fun e w' => ∃ g' cap', e = .returned (.slice (some ⟨g', 0, none⟩) (xs.length + 1) cap') ∧ base ≤ g' ∧ Below base w0 w' ∧ xs.length + 1 ≤ cap' ∧ cap' ≤ maxLen ∧
   ∃ cur', w'.heap[g']? = some (.cells cur' 66 (0, 0)) ∧ cur'.size = cap' * 3 ∧ cur'.toList.take ((xs.length + 1) * 3) = impl_withoutFile.fl (xs.take i ++ f :: xs.drop i) ∧ ∀ k, k < w.heap.size → w'.heap[k]? = w.heap[k]? := by
 obtain ⟨n, hn⟩ : ∃ n, n = xs.length := ⟨_, rfl⟩
 obtain ⟨cs, hcs⟩ : ∃ cs, cs = (cur.toList.drop (i * 3)).take ((xs.length - i) * 3) := ⟨_, rfl⟩
 have hgw : g < w.heap.size := blk_lt row
 have hvw : vb < w.heap.size := blk_lt hv
 have hlc : cur.toList.length = cap * 3 := by rw [Array.length_toList, hsz]
 have hcl : cs.length = (n - i) * 3 := by rw [hcs, List.length_take, List.length_drop, hlc, hn]; omega
 have hcf : cs = impl_withoutFile.fl (xs.drop i) := by rw [← impl_withoutFile.fl_drop, ← htk, hcs, List.drop_take]; congr 1; omega
 have hof : cur.toList.take (i * 3) = impl_withoutFile.fl (xs.take i) := by rw [← impl_withoutFile.fl_take, ← htk, List.take_take, Nat.min_eq_left (by omega)]
 have hc1 : ∀ v ∈ cs, v.oneCell' = true := fun v hv => by rw [hcf] at hv; exact impl_withoutFile.fl_one _ v hv
 obtain ⟨i0, hi0, hz0, hzs, hzb⟩ := info_parts (P := Try.prog) (e := 66) (z := .agg #[.string ⟨#[]⟩, .string ⟨#[]⟩, .int .i64 0]) (size := 3) (bytes := 40) info66
 have hold : (Builtin.firstCells i0.size i (.slice (some ⟨g, 0, none⟩) i cap)).run Try.prog w.drew = .ok (cur.toList.take (i * 3)).toArray w.drew := by
  rw [hzs]
  exact run_firstCells_some w.drew 3 i ⟨g, 0, none⟩ i cap (cur.toList.take (i * 3)) (by rw [List.length_take]; omega) (fun j v hj => by
   rw [Addr.add_lit, Nat.zero_add, show w.drew.cell? ⟨g, j, none⟩ = w.cell? ⟨g, j, none⟩ from rfl, blk_cell row]
   rw [List.getElem?_take] at hj
   split at hj
   ·rw [Array.getElem?_toList] at hj; exact hj
   ·cases hj)
 have hik : i + (n + 1 - i) = n + 1 := by omega
 have hkk : (n : Int) + 1 - (i : Int) = ((n + 1 - i : Nat) : Int) := by omega
 have hrz : ∀ ty, (Builtin.append_ #[29, 3] ty #[.slice (some ⟨g, 0, none⟩) i cap, .int .i64 ((n : Int) + 1 - (i : Int))]).run Try.prog w = .ok (.slice (some ⟨w.heap.size, 0, none⟩) (n + 1) (grownCap w (n + 1) cap 66))
   (w.drew.alloc (.cells ((cur.toList.take (i * 3)).toArray ++ Builtin.zeroCells (Value.agg #[.string ⟨#[]⟩, .string ⟨#[]⟩, .int .i64 0]).cells (n + 1 - i) ++ Builtin.zeroCells (Value.agg #[.string ⟨#[]⟩, .string ⟨#[]⟩, .int .i64 0]).cells (grownCap w (n + 1) cap 66 - (n + 1))) 66)) := fun ty => by
  have h := Lib.run_append_grow_zeros w 29 3 ty 66 i0 _ .i64 .i64 Try.underlying29 Try.underlying3 hi0 hz0 (some ⟨g, 0, none⟩) i cap (cur.toList.take (i * 3)) hold (n + 1 - i) (by omega) (by omega) (by omega) (by omega) (by rw [hzb]; omega) (by rw [hzb, hik]; exact growslice_fits (by omega) (by omega))
  rw [hik] at h
  rw [hkk]
  exact h
 obtain ⟨G, hG⟩ : ∃ G, G = grownCap w (n + 1) cap 66 := ⟨_, rfl⟩
 have hGn : n + 1 ≤ G := by rw [hG]; exact grownCap_ge w _ _ _
 have hGm : G ≤ maxLen := by rw [hG]; exact grownCap_le_maxLen w (n + 1) cap 66 (by unfold maxLen; omega)
 rw [← hG] at hrz
 obtain ⟨ROW, hROW⟩ : ∃ ROW : Array Value, ROW = (cur.toList.take (i * 3)).toArray ++ Builtin.zeroCells (Value.agg #[.string ⟨#[]⟩, .string ⟨#[]⟩, .int .i64 0]).cells (n + 1 - i) ++ Builtin.zeroCells (Value.agg #[.string ⟨#[]⟩, .string ⟨#[]⟩, .int .i64 0]).cells (G - (n + 1)) := ⟨_, rfl⟩
 rw [← hROW] at hrz
 have hol : (cur.toList.take (i * 3)).length = i * 3 := by rw [List.length_take]; omega
 have hzl : ∀ m, (Builtin.zeroCells (Value.agg #[.string ⟨#[]⟩, .string ⟨#[]⟩, .int .i64 0]).cells m).size = m * 3 := fun m => by
  have := zeroCells_length (Value.agg #[.string ⟨#[]⟩, .string ⟨#[]⟩, .int .i64 0]).cells m
  rw [Array.length_toList] at this
  exact this
 have hRs : ROW.size = G * 3 := by
  rw [hROW, Array.size_append, Array.size_append, hzl, hzl, List.size_toArray, hol]; omega
 have hRt : ROW.toList.take (i * 3) = cur.toList.take (i * 3) := by
  rw [hROW, Array.toList_append, Array.toList_append, List.append_assoc, List.take_append_of_le_length (by simp [hol]), List.take_of_length_le (by simp [hol])]
 obtain ⟨R1, hR1⟩ : ∃ R1 : Array Value, R1 = (ROW.toList.take (i * 3) ++ impl_withoutFile.fc f ++ ROW.toList.drop (i * 3 + (impl_withoutFile.fc f).length)).toArray := ⟨_, rfl⟩
 have h3 : (impl_withoutFile.fc f).length = 3 := rfl
 have hR1s : R1.size = G * 3 := by
  rw [hR1, List.size_toArray, List.length_append, List.length_append, List.length_take, List.length_drop, Array.length_toList, hRs, h3]; omega
 obtain ⟨W1, hW1⟩ : ∃ W1, W1 = w.alloc (.cells ROW 66) := ⟨_, rfl⟩
 have hN : W1.heap[w.heap.size]? = some (.cells ROW 66 (0, 0)) := by rw [hW1]; exact blk_new w _
 have hgN : g ≠ w.heap.size := by omega
 have hvN : vb ≠ w.heap.size := by omega
 have hcpA : ∀ (W : World), W.heap = W1.heap → ∀ ty dc, (Builtin.copy_ #[29, 29] ty #[.slice (some ⟨w.heap.size, i * 3, none⟩) (n + 1 - i) dc, .slice (some ⟨vb, 0, none⟩) 1 1]).run Try.prog W = .ok (goInt 1) (W.setRow w.heap.size R1) := fun W hW ty dc => by
  have hm : Nat.min 1 (n + 1 - i) = 1 := by simp only [Nat.min_def]; split <;> omega
  have hrow : W.heap[w.heap.size]? = some (.cells ROW 66 (0, 0)) := by rw [hW]; exact hN
  have hvb : W.heap[vb]? = some (.cells #[.string f.f0, .string f.f1, .int .i64 f.f2] 66 (0, 0)) := by rw [hW, hW1]; exact blk_alloc hv _
  have := run_copy_wide (P := Try.prog) W 29 29 ty 66 3 w.heap.size (i * 3) (n + 1 - i) dc ⟨vb, 0, none⟩ 1 1 ROW 66 (impl_withoutFile.fc f) Try.underlying29 (by kernel_rfl) hrow (by rw [hm]; rfl) (fun j v hj => by rw [Addr.add_lit, Nat.zero_add, blk_cell hvb]; show ([Value.string f.f0, Value.string f.f1, Value.int .i64 f.f2] : List Value).toArray[j]? = _; rw [List.getElem?_toArray]; exact hj) (by rw [hRs, h3]; omega) (by intro u hu; simp [impl_withoutFile.fc] at hu; rcases hu with rfl | rfl | rfl <;> rfl)
  rw [hm, ← hR1] at this
  exact this
 have hcpB : ∀ (W : World), W.heap = (W1.setRow w.heap.size R1).heap → ∀ ty dc sc, (Builtin.copy_ #[29, 29] ty #[.slice (some ⟨w.heap.size, (i + 1) * 3, none⟩) (n - i) dc, .slice (some ⟨g, i * 3, none⟩) (n - i) sc]).run Try.prog W = .ok (goInt ((n - i : Nat) : Int)) (W.setRow w.heap.size (R1.toList.take ((i + 1) * 3) ++ cs ++ R1.toList.drop ((i + 1) * 3 + cs.length)).toArray) := fun W hW ty dc sc => by
  have hm : Nat.min (n - i) (n - i) = n - i := Nat.min_self _
  have hrow : W.heap[w.heap.size]? = some (.cells R1 66 (0, 0)) := by rw [hW]; exact setRow_heap W1 _ _ _ _ _ hN
  have hsr : W.heap[g]? = some (.cells cur 66 (0, 0)) := by rw [hW, setRow_other W1 _ g _ hgN, hW1]; exact blk_alloc row _
  have := run_copy_wide (P := Try.prog) W 29 29 ty 66 3 w.heap.size ((i + 1) * 3) (n - i) dc ⟨g, i * 3, none⟩ (n - i) sc R1 66 cs Try.underlying29 (by kernel_rfl) hrow (by rw [hm, hcl]) (fun j v hj => by
   rw [Addr.add_lit, blk_cell hsr]
   rw [hcs, List.getElem?_take] at hj
   split at hj
   ·rw [List.getElem?_drop, Array.getElem?_toList] at hj; exact hj
   ·cases hj) (by rw [hR1s, hcl]; omega) hc1
  rw [hm] at this
  exact this
 have hfin : (R1.toList.take ((i + 1) * 3) ++ cs ++ R1.toList.drop ((i + 1) * 3 + cs.length)).take ((n + 1) * 3) = impl_withoutFile.fl (xs.take i ++ f :: xs.drop i) := by
  have a1 : R1.toList.take ((i + 1) * 3) = impl_withoutFile.fl (xs.take i) ++ impl_withoutFile.fc f := by
   rw [hR1]
   show List.take _ (ROW.toList.take (i * 3) ++ impl_withoutFile.fc f ++ _) = _
   have hL : (ROW.toList.take (i * 3) ++ impl_withoutFile.fc f).length = (i + 1) * 3 := by rw [hRt, List.length_append, hol, h3]; omega
   rw [List.take_append_of_le_length (by omega), ← hL, List.take_length, hRt, hof]
  rw [a1, impl_withoutFile.fl_app, show impl_withoutFile.fl (f :: xs.drop i) = impl_withoutFile.fc f ++ impl_withoutFile.fl (xs.drop i) from rfl, ← hcf]
  have hL : (impl_withoutFile.fl (xs.take i) ++ impl_withoutFile.fc f ++ cs).length = (n + 1) * 3 := by
   rw [List.length_append, List.length_append, h3, hcl, impl_withoutFile.fl_len, List.length_take]; omega
  rw [List.take_append_of_le_length (by omega), ← hL, List.take_length, List.append_assoc]
 have hR2s : (R1.toList.take ((i + 1) * 3) ++ cs ++ R1.toList.drop ((i + 1) * 3 + cs.length)).toArray.size = G * 3 := by
  rw [List.size_toArray, List.length_append, List.length_append, List.length_take, List.length_drop, Array.length_toList, hR1s, hcl]; omega
 obtain ⟨R2, hR2⟩ : ∃ R2 : Array Value, R2 = (R1.toList.take ((i + 1) * 3) ++ cs ++ R1.toList.drop ((i + 1) * 3 + cs.length)).toArray := ⟨_, rfl⟩
 have hfin2 : R2.toList.take ((n + 1) * 3) = impl_withoutFile.fl (xs.take i ++ f :: xs.drop i) := by rw [hR2]; exact hfin
 rw [← hR2] at hcpB hR2s
 have HB := Aside0.mk hb
 have HF := Aside0.mk hfin2
 have HS := Aside0.mk hR2s
 have HN1 := Aside0.mk hN
 have HGm := Aside0.mk hGm
 have HGn := Aside0.mk hGn
 rw [hn.symm] at hi hroom hnc hlim
 have hz2 : ¬ ((i : Int) = (n : Int)) := by omega
 have hz3 : (cap : Int) < (n : Int) + 1 := by omega
 have hw1 : IntKind.i64.wrap ((i : Int) + 1) = (i : Int) + 1 := by rw [IntKind.wrap_i64]; omega
 have hw2 : IntKind.i64.wrap ((n : Int) + 1) = (n : Int) + 1 := by rw [IntKind.wrap_i64]; omega
 have hw3 : IntKind.i64.wrap ((n : Int) + 1 - (i : Int)) = (n : Int) + 1 - (i : Int) := by rw [IntKind.wrap_i64]; omega
 have hin : i ≤ n := by omega
 have hic : i ≤ cap := by omega
 have hb1 : (0 : Int) ≤ (i : Int) + 1 := by omega
 have hb2 : ¬ (G = i + 1) := by omega
 have hb3 : (i : Int) ≤ (n : Int) + 1 := by omega
 have hb4 : ¬ (cap = i) := by omega
 have hb5 : ¬ (G = i) := by omega
 have hb6 : i ≤ n + 1 := by omega
 have HE := Aside0.mk hW1
 have HW0 : ∀ W : World, W.heap = (w.alloc (.cells ROW 66)).heap → W.heap = W1.heap := fun W h => by rw [hW1]; exact h
 have HW2 : ∀ W : World, W.heap = ((w.alloc (.cells ROW 66)).setRow w.heap.size R1).heap → W.heap = (W1.setRow w.heap.size R1).heap := fun W h => by rw [hW1]; exact h
 rw [show xs.length = n from hn.symm]
 have mixed : Try.prog.follows .mixedOrders = true := by kernel_rfl
 clear hfin hfin2 hR2 hR2s hR1s hR1 hRt hRs hROW hzl hol hG hGm hold hi0 hz0 hzs hzb hcf hof hc1 hcl hlc hcs hb hkk hik hW1 hN hgN hvN hv row htk hsz hn
 go_enter Try.func62, Try.ntmps62
 have hA := hcpA (w.alloc (.cells ROW 66)).drew (HW0 _ rfl)
 go_wp2_with (at_builtin; refine Lib.wpList_append_run _ rfl _ _ _ _ rfl _ _ rfl rfl _ _ (hrz _) ?_)
 clear hA hrz
 go_region_law_o (refine step_copy_run_ rfl _ _ 29 29 rfl (.slice (some ⟨w.heap.size, (i + 1) * 3, none⟩) (n - i) (G - (i + 1))) (.slice (some ⟨g, i * 3, none⟩) (n - i) (cap - i)) (by simp [Act.eval, Act.put]) (by simp [Act.eval, Act.put]) (hcpB _ (HW2 _ (by rfl)) 3 (G - (i + 1)) (cap - i)) ?_)
 go_wp2
 go_ret
 have hsz0 : base ≤ w.heap.size := Nat.le_trans hg (Nat.le_of_lt hgw)
 have hB1 : Below base w0 (w.alloc (.cells ROW 66)).drew := below_drew (HB.out.alloc hsz0 _)
 refine ⟨_, _, rfl, hsz0, ?_, HGn.out, HGm.out, R2, ?_, HS.out, HF.out, fun k hk => ?_⟩
 ·exact Go.below_setRow (below_drew (Go.below_setRow hB1 hsz0 _)) hsz0 _
 ·exact setRow_heap _ _ _ _ _ _ (setRow_heap _ _ ROW R1 _ _ (blk_new w _))
 ·have hne : k ≠ w.heap.size := by omega
  exact ((setRow_other _ _ k _ hne).trans (setRow_other _ _ k _ hne)).trans (Below.heap_alloc w _ k hk)
theorem impl_withFile.one_row (w : World) (vb : Nat) (f : S66) (hv : w.heap[vb]? = some (.cells #[.string f.f0, .string f.f1, .int .i64 f.f2] 66 (0, 0))) : Kd.C k66 w (some ⟨vb, 0, none⟩) 1 [f] :=
 ⟨rfl, by decide, fun _ => ⟨⟨vb, 0, none⟩, rfl, fun j p hj => by
  obtain ⟨hlt, e⟩ := List.getElem?_eq_some_iff.1 hj
  obtain rfl : j = 0 := by simpa using hlt
  have e' : f = p := by simpa using e
  subst e'
  refine ⟨impl_withoutFile.fc f, rfl, ⟨[.string f.f0], [.string f.f1, .int .i64 f.f2], rfl, rfl, [.string f.f1], [.int .i64 f.f2], rfl, rfl, rfl⟩, fun t u hu => ?_⟩
  rw [Addr.add_lit, show 0 + (0 * k66.sz + t) = t by omega, blk_cell hv]
  show ([Value.string f.f0, Value.string f.f1, Value.int .i64 f.f2] : List Value).toArray[t]? = _
  rw [List.getElem?_toArray]
  exact hu⟩⟩
set_option maxHeartbeats 4000000 in
set_option maxRecDepth 100000 in
theorem impl_withFile.ins_end0 (w0 w : World) (base vb : Nat) (f : S66) (hR : Kd.R k66 66 w base (fun _ => True) (.slice none 0 0) ([] : List S66)) (hv : w.heap[vb]? = some (.cells #[.string f.f0, .string f.f1, .int .i64 f.f2] 66 (0, 0))) (hb : Below base w0 w) (hbw : base ≤ w.heap.size) :
  Calls Try.prog 62 #[.slice none 0 0, .int .i64 0, .slice (some ⟨vb, 0, none⟩) 1 1] w fun e w' => ∃ v', e = .returned v' ∧ Kd.R k66 66 w' base (fun _ => True) v' [f] ∧ Below base w0 w' ∧ ∀ k, k < w.heap.size → some k ≠ (Value.slice none 0 0).ownBlock → w'.heap[k]? = w.heap[k]? := by
 have HR := Aside0.mk hR
 have HB := Aside0.mk hb
 have HC := Aside0.mk (impl_withFile.one_row w vb f hv)
 have HW := Aside0.mk hbw
 clear hR hb hv hbw
 go_enter Try.func62, Try.ntmps62
 go_wp2_with ((with_reducible refine gate_builtin (b := .append) (xs := #[.tmp 23, .tmp 24]) rfl ?_); at_builtin; refine Kd.R_append_rows k66 (w0 := w0) base rfl (.tmp 23) (.tmp 24) 29 66 (.agg #[(.string ⟨#[]⟩), (.string ⟨#[]⟩), (.int .i64 0)]) 40 rfl Try.underlying29 info66 rfl (by decide) (by omega) (.slice none 0 0) [] [f] (some ⟨vb, 0, none⟩) 1 1 (fun _ => True) (fun _ => False) rfl rfl HR.out HC.out (fun _ _ h => h) (fun _ h => h.elim) (fun _ _ => trivial) HB.out HW.out (by decide) ?_; intro v1 w1 ho hb1 hg1 ha1; have HO := Aside0.mk ho; have HB1 := Aside0.mk hb1; have HG1 := Aside0.mk hg1; clear ho hb1 hg1 ha1)
 go_ret
 exact ⟨_, rfl, HO.out, HB1.out, fun k hk hne => HG1.out.block k hk hne⟩
set_option maxHeartbeats 4000000 in
set_option maxRecDepth 100000 in
theorem impl_withFile.ins_end (w0 w : World) (base g vb cap : Nat) (xs : List S66) (f : S66) (hnc : xs.length ≤ cap) (hlim : xs.length < 1000000) (hR : Kd.R k66 66 w base (fun _ => True) (.slice (some ⟨g, 0, none⟩) xs.length cap) xs) (hv : w.heap[vb]? = some (.cells #[.string f.f0, .string f.f1, .int .i64 f.f2] 66 (0, 0))) (hb : Below base w0 w) (hbw : base ≤ w.heap.size) :
  Calls Try.prog 62 #[.slice (some ⟨g, 0, none⟩) xs.length cap, .int .i64 xs.length, .slice (some ⟨vb, 0, none⟩) 1 1] w fun e w' => ∃ v', e = .returned v' ∧ Kd.R k66 66 w' base (fun _ => True) v' (xs ++ [f]) ∧ Below base w0 w' ∧ ∀ k, k < w.heap.size → some k ≠ (Value.slice (some ⟨g, 0, none⟩) xs.length cap).ownBlock → w'.heap[k]? = w.heap[k]? := by
 have HR := Aside0.mk hR
 have HB := Aside0.mk hb
 have HC := Aside0.mk (impl_withFile.one_row w vb f hv)
 have HW := Aside0.mk hbw
 have HL := Aside0.mk (show (xs.length + 1) * 40 ≤ 140737488355328 by omega)
 clear hR hb hv hbw hlim
 go_enter Try.func62, Try.ntmps62
 go_wp2_with ((with_reducible refine gate_builtin (b := .append) (xs := #[.tmp 23, .tmp 24]) rfl ?_); at_builtin; refine Kd.R_append_rows k66 (w0 := w0) base rfl (.tmp 23) (.tmp 24) 29 66 (.agg #[(.string ⟨#[]⟩), (.string ⟨#[]⟩), (.int .i64 0)]) 40 rfl Try.underlying29 info66 rfl (by decide) (by omega) (.slice (some ⟨g, 0, none⟩) xs.length cap) xs [f] (some ⟨vb, 0, none⟩) 1 1 (fun _ => True) (fun _ => False) rfl rfl HR.out HC.out (fun _ _ h => h) (fun _ h => h.elim) (fun _ _ => trivial) HB.out HW.out HL.out ?_; intro v1 w1 ho hb1 hg1 ha1; have HO := Aside0.mk ho; have HB1 := Aside0.mk hb1; have HG1 := Aside0.mk hg1; clear ho hb1 hg1 ha1)
 all_goals (go_ret; exact ⟨_, rfl, HO.out, HB1.out, fun k hk hne => HG1.out.block k hk hne⟩)
theorem impl_withFile.ins_any (w0 w : World) (base vb i : Nat) (v : Value) (xs : List S66) (f : S66) (hR : Kd.R k66 66 w base (fun _ => True) v xs) (hv : w.heap[vb]? = some (.cells #[.string f.f0, .string f.f1, .int .i64 f.f2] 66 (0, 0))) (hvg : some vb ≠ v.ownBlock) (hi : i ≤ xs.length) (hlim : xs.length < 1000000) (hb : Below base w0 w) (hbw : base ≤ w.heap.size) :
  Calls Try.prog 62 #[v, .int .i64 i, .slice (some ⟨vb, 0, none⟩) 1 1] w fun e w' => ∃ v', e = .returned v' ∧ Kd.R k66 66 w' base (fun _ => True) v' (xs.take i ++ f :: xs.drop i) ∧ Below base w0 w' ∧ ∀ k, k < w.heap.size → some k ≠ v.ownBlock → w'.heap[k]? = w.heap[k]? := by
 obtain ⟨hlen, ⟨hvn, h0⟩ | ⟨g, cap, cur, hvs, hg, hh, hnc, hcm, hsz, htk⟩⟩ := impl_withoutFile.of_R hR
 ·subst hvn
  obtain rfl : xs = [] := List.eq_nil_of_length_eq_zero h0
  obtain rfl : i = 0 := by simpa using hi
  exact impl_withFile.ins_end0 w0 w base vb f hR hv hb hbw
 ·subst hvs
  have hne : vb ≠ g := fun e => hvg (by rw [e]; rfl)
  rcases Nat.lt_or_ge i xs.length with hlt | hge
  ·rcases Nat.lt_or_ge cap (xs.length + 1) with hr | hr
   ·refine (impl_withFile.ins_grow w0 w base g vb cap i xs f cur hh hsz htk hv hne hlt hr hnc hlim hb hg).mono ?_
    rintro e w' ⟨g', cap', rfl, hg', hb', hn', hm', cur', hh', hs', ht', hkk⟩
    have hll : (xs.take i ++ f :: xs.drop i).length = xs.length + 1 := by rw [List.length_append, List.length_cons, List.length_take, List.length_drop]; omega
    exact ⟨_, rfl, impl_withoutFile.to_R (by rw [hll]; exact ⟨by rw [impl_withoutFile.fl_len, hll], Or.inr ⟨g', cap', cur', rfl, hg', hh', hn', hm', hs', ht'⟩⟩), hb', fun k hk _ => hkk k hk⟩
   ·refine (impl_withFile.ins_room w0 w base g vb cap i xs f cur hh hsz htk hv hne hlt hr (by unfold maxLen at hcm; omega) hb hg).mono ?_
    rintro e w' ⟨rfl, hb', cur', hh', hs', ht', hkk⟩
    have hll : (xs.take i ++ f :: xs.drop i).length = xs.length + 1 := by rw [List.length_append, List.length_cons, List.length_take, List.length_drop]; omega
    exact ⟨_, rfl, impl_withoutFile.to_R (by rw [hll]; exact ⟨by rw [impl_withoutFile.fl_len, hll], Or.inr ⟨g, cap, cur', rfl, hg, hh', hr, hcm, hs', ht'⟩⟩), hb', fun k hk hne => hkk k hk (fun e => hne (by rw [e]; rfl))⟩
  ·obtain rfl : i = xs.length := by omega
   rw [List.take_length, List.drop_length]
   exact impl_withFile.ins_end w0 w base g vb cap xs f hnc hlim hR hv hb hbw
theorem impl_withFile.ins_at (w0 w : World) (base vb : Nat) (x : Int) (v : Value) (xs : List S66) (f : S66) (hR : Kd.R k66 66 w base (fun _ => True) v xs) (hv : w.heap[vb]? = some (.cells #[.string f.f0, .string f.f1, .int .i64 f.f2] 66 (0, 0))) (hvg : some vb ≠ v.ownBlock) (h0 : 0 ≤ x) (hi : x ≤ (xs.length : Int)) (hlim : xs.length < 1000000) (hb : Below base w0 w) (hbw : base ≤ w.heap.size) :
  Calls Try.prog 62 #[v, .int .i64 x, .slice (some ⟨vb, 0, none⟩) 1 1] w fun e w' => ∃ v', e = .returned v' ∧ Kd.R k66 66 w' base (fun _ => True) v' (xs.take x.toNat ++ f :: xs.drop x.toNat) ∧ Below base w0 w' ∧ ∀ k, k < w.heap.size → some k ≠ v.ownBlock → w'.heap[k]? = w.heap[k]? := by
 obtain ⟨i, rfl⟩ : ∃ i : Nat, x = i := ⟨x.toNat, by omega⟩
 rw [Int.toNat_natCast]
 exact impl_withFile.ins_any w0 w base vb i v xs f hR hv hvg (by omega) hlim hb hbw
def impl_withFile.place (nm : ByteArray) : List S66 → Nat
 | [] => 0
 | y :: r => if Op.bytesLess y.f0.toList nm.toList = true then impl_withFile.place nm r + 1 else 0
theorem impl_withFile.place_le (nm : ByteArray) : ∀ l : List S66, impl_withFile.place nm l ≤ l.length
 | [] => Nat.le_refl _
 | y :: r => by
  unfold impl_withFile.place
  split
  ·have := impl_withFile.place_le nm r; rw [List.length_cons]; omega
  ·omega
def impl_withFile.put (f : S66) (l : List S66) : List S66 := l.take (impl_withFile.place f.f0 l) ++ f :: l.drop (impl_withFile.place f.f0 l)
def impl_withFile.f (l0_0 : List (S66)) (a1_0 : ByteArray) (a1_1 : ByteArray) (a1_2 : Int) : Option (List (S66)) := (impl_withoutFile.f l0_0 a1_0).bind fun y => some (impl_withFile.put ⟨a1_0, a1_1, a1_2⟩ y)
/-- What stands while the place is looked for. -/
structure impl_withFile.Mid (w_r W : World) (go gf gr : Nat) (A : Option Addr) (c : Nat) (y : List S66) (f : S66) : Prop where
 o : W.heap[go]? = some (.cells #[.slice A y.length c] 31 (0, 0))
 f_ : W.heap[gf]? = some (.cells #[.string f.f0, .string f.f1, .int .i64 f.f2] 66 (0, 0))
 r : W.heap[gr]? = some (.cells #[.slice none 0 0] 31 (0, 0))
 R : Kd.R k66 66 W w_r.heap.size (fun _ => True) (.slice A y.length c) y
 b : Below w_r.heap.size w_r W
 go_ : w_r.heap.size ≤ go
theorem impl_withFile.Mid.drewN {w_r W : World} {go gf gr : Nat} {A : Option Addr} {c : Nat} {y : List S66} {f : S66} (h : impl_withFile.Mid w_r W go gf gr A c y f) (n : Nat) : impl_withFile.Mid w_r (W.drewN n) go gf gr A c y f :=
 ⟨h.o, h.f_, h.r, Kd.R_drewN h.R n, pw_below_drewN h.b n, h.go_⟩
theorem own_new_ne {w : World} {base n : Nat} {A : Option Addr} {c : Nat} {xs : List S66} (h : Kd.R k66 66 w base (fun _ => True) (.slice A n c) xs) : some w.heap.size ≠ (Value.slice A n c).ownBlock := fun e => by
 have h2 := (Kd.R_bound h).1 w.heap.size e.symm
 have := h2.2.2.1
 omega
theorem impl_withFile.place_step (nm : ByteArray) (y : List S66) (x : Int) (h0 : 0 ≤ x) (h1 : x < (y.length : Int)) : impl_withFile.place nm (y.drop x.toNat) = if Op.bytesLess (rd_T66 y x).f0.toList nm.toList = true then impl_withFile.place nm (y.drop (x + 1).toNat) + 1 else 0 := by
 have hlt : x.toNat < y.length := by omega
 have e : rd_T66 y x = y[x.toNat] := by unfold rd_T66; rw [List.getD_eq_getElem?_getD, List.getElem?_eq_getElem hlt]; rfl
 rw [List.drop_eq_getElem_cons hlt, e, show (x + 1).toNat = x.toNat + 1 by omega]
 rfl
set_option maxHeartbeats 8000000 in
set_option maxRecDepth 100000 in
theorem impl_withFile.calls (A0_0 : Option Addr) (c0_0 : Nat) (l0_0 : List (S66)) (a1_0 : ByteArray) (a1_1 : ByteArray) (a1_2 : Int) (r : List (S66)) (w : World) (hr0_0 : Kd.C k66 w A0_0 l0_0.length l0_0) (hc0_0 : l0_0.length ≤ c0_0) (h : impl_withFile.f l0_0 a1_0 a1_1 a1_2 = some r) :
  Calls Try.prog 41 #[.agg #[.slice A0_0 l0_0.length c0_0], .agg #[.string a1_0, .string a1_1, .int .i64 a1_2]] w fun e w' => ∃ v0_ : Value, e = .returned (.agg #[v0_]) ∧ Kd.R k66 66 w' w.heap.size (fun _ => True) v0_ r ∧ Below w.heap.size w w' := by
 unfold impl_withFile.f at h
 obtain ⟨y, hy, h⟩ := Option.bind_eq_some_iff.mp h
 obtain rfl := Option.some.inj h
 have HY := Aside0.mk hy
 have HR := Aside0.mk hr0_0
 have HC := Aside0.mk hc0_0
 have hyl : y.length < 1000000 := by
  unfold impl_withoutFile.f at hy
  split at hy
  ·obtain rfl := Option.some.inj hy
   have := List.length_filter_le (impl_withoutFile.keep a1_0) l0_0
   omega
  ·cases hy
 have HYL := Aside0.mk hyl
 clear h hy hr0_0 hc0_0 hyl
 go_enter Try.func41, Try.ntmps41
 go_wp2_with (first
  | ((with_reducible refine gate_dst (N := 2) rfl ?_); refine box_event rfl (N := 2) rfl (cs := #[.slice A0_0 l0_0.length c0_0]) (t := 31) zrun ?_; intro gd hg w_d hbox hb; have YD := Aside0.mk hbox; have ZD := Aside0.mk hb; have GD := Aside0.mk hg; clear hbox hb hg)
  | ((with_reducible refine gate_dst (N := 3) rfl ?_); refine box_event rfl (N := 3) rfl (cs := #[.string a1_0, .string a1_1, .int .i64 a1_2]) (t := 66) zrun ?_; intro gf hg w_f hbox hb; have YF := Aside0.mk hbox; have ZF := Aside0.mk hb; have GF := Aside0.mk hg; clear hbox hb hg)
  | ((with_reducible refine gate_dst (N := 4) rfl ?_); refine box_event rfl (N := 4) rfl (cs := #[.slice none 0 0]) (t := 31) zrun ?_; intro gr hg w_r hbox hb; have YR := Aside0.mk hbox; have ZR := Aside0.mk (below_step (below_step ZD.out ZF.out) hb); have GR : Aside0 (w.heap.size ≤ gr) := ⟨by rw [hg]; exact (below_step ZD.out ZF.out).size⟩; have YD2 := Aside0.mk (blk_below (blk_below YD.out ZF.out) hb); have YF2 := Aside0.mk (blk_below YF.out hb); have d0 := blk_cell YD2.out 0; simp only [List.getElem?_toArray, List.getElem?_cons_zero] at d0; have f0 := blk_cell YF2.out 0; simp only [List.getElem?_toArray, List.getElem?_cons_zero] at f0; clear hbox hb hg)
  | (go_at_call 42; refine (impl_withoutFile.calls A0_0 c0_0 l0_0 a1_0 y _ (Kd.C_below HR.out ZR.out) HC.out HY.out).mono ?_; rintro e_ w1 ⟨v0, rfl, hR, hb⟩; obtain ⟨A1_, c1_, ev⟩ := Kd.R_slice hR; subst ev; have R1 := Aside0.mk hR; have B1 := Aside0.mk hb; clear hR hb d0 f0)
  | ((with_reducible refine gate_dst (N := 5) rfl ?_); refine box_event rfl (N := 5) rfl (cs := #[.slice none 0 0]) (t := 31) zrun ?_; intro go hg w_o hbox hb; have YO := Aside0.mk hbox; have ZO := Aside0.mk (below_step B1.out hb); have ZOb := Aside0.mk hb; have GO := Aside0.mk hg; have o0 := blk_cell hbox 0; simp only [List.getElem?_toArray, List.getElem?_cons_zero] at o0; have of0 := blk_frozen hbox 0; clear hbox hb hg))
 have NE : Aside0 (go ≠ gr) := ⟨by rw [GO.out]; have := blk_lt YR.out; have := B1.out.size; omega⟩
 have M0 : Aside0 (impl_withFile.Mid w_r (w_o.setCell ⟨go, 0, none⟩ (.slice A1_ y.length c1_)) go gf gr A1_ c1_ y ⟨a1_0, a1_1, a1_2⟩) := by
  have hgo : w_r.heap.size ≤ go := by rw [GO.out]; exact B1.out.size
  have h1 := blk_below YF2.out ZO.out
  have h2 := blk_below YR.out ZO.out
  have n1 : gf ≠ go := by have := blk_lt YF2.out; omega
  have n2 : gr ≠ go := by have := blk_lt YR.out; omega
  exact ⟨⟨blk_put YO.out 0 _ rfl, blk_far h1 n1 _, blk_far h2 n2 _, Kd.R_mono (Kd.R_far (Kd.R_types (Kd.R_below R1.out ZOb.out) YO.out (by decide)) (fun _ q => q.2) _) (fun _ _ => trivial), ZO.out.setCell hgo _, hgo⟩⟩
 clear R1 B1 YO ZO ZOb GO o0 of0 YD YF YD2 YF2 YR ZD ZF GD GF HR HC HY
 go_loopg [6] y.length (fun gg s6 wr => ∃ x : Int, s6 = .int .i64 x ∧ 0 ≤ x ∧ x ≤ (y.length : Int) ∧ ((impl_withFile.place a1_0 (y.drop x.toNat) : Nat) : Int) + x = ((impl_withFile.place a1_0 y : Nat) : Int) ∧ (y.length : Int) - x ≤ gg ∧ Aside0 (impl_withFile.Mid w_r wr go gf gr A1_ c1_ y ⟨a1_0, a1_1, a1_2⟩))
 case atStart => exact ⟨0, rfl, by omega, by omega, by rw [show (0 : Int).toNat = 0 from rfl, List.drop_zero]; omega, by omega, M0⟩
 case round =>
  obtain ⟨x, rfl, hx0, hxn, hpl, hgg, M⟩ := hrel
  clear M0
  have o0 := blk_cell M.out.o 0
  simp only [List.getElem?_toArray, List.getElem?_cons_zero] at o0
  have f0 := blk_cell M.out.f_ 0
  have f1 := blk_cell M.out.f_ 1
  have f2 := blk_cell M.out.f_ 2
  simp only [List.getElem?_toArray, List.getElem?_cons_zero, List.getElem?_cons_succ] at f0 f1 f2
  have HG := Aside0.mk hgg
  have PL := Aside0.mk hpl
  clear hpl
  by_cases c : x < (y.length : Int)
  ·have c1 : decide (x < (y.length : Int)) = true := decide_eq_true c
   have c2 : decide ((y.length : Int) ≤ x) = false := decide_eq_false (by omega)
   obtain ⟨ad, e, t0, t1, t2⟩ := at_T66 (Kd.R_reads' M.out.R).2.2 x hx0 c
   cases e
   have p0 := eq_true hx0
   have q0 := eq_true c
   have C := Aside0.mk c
   have CX : Aside0 (x ≤ (y.length : Int)) := ⟨Int.le_of_lt c⟩
   have X0 := Aside0.mk hx0
   have PS := Aside0.mk (impl_withFile.place_step a1_0 y x hx0 c)
   clear c hx0
   cases hq : Op.bytesLess (rd_T66 y x).f0.toList a1_0.toList with
   | true =>
    have hw : IntKind.i64.wrap (x + 1) = x + 1 := by rw [IntKind.wrap_i64]; have := C.out; have := X0.out; have := HYL.out; omega
    have PS2 : Aside0 (((impl_withFile.place a1_0 (y.drop (x + 1).toNat) : Nat) : Int) + (x + 1) = ((impl_withFile.place a1_0 y : Nat) : Int)) := ⟨by
     have h1 := PS.out
     rw [if_pos hq] at h1
     have h2 := PL.out
     rw [h1] at h2
     omega⟩
    clear hgg
    go_wp2
    go_quiet (fail)
    go_wp2
    go_roundg (y.length - (x + 1).toNat)
    case measure => have := C.out; have := X0.out; have := HG.out; omega
    case rel => exact ⟨x + 1, by go_num, by have := X0.out; omega, by have := C.out; omega, PS2.out, by have := C.out; have := X0.out; omega, ⟨impl_withFile.Mid.drewN M.out _⟩⟩
   | false =>
    have HZ : Aside0 (y.take x.toNat ++ (⟨a1_0, a1_1, a1_2⟩ : S66) :: y.drop x.toNat = impl_withFile.put ⟨a1_0, a1_1, a1_2⟩ y) := ⟨by
     have h2 := PL.out
     have h3 : impl_withFile.place a1_0 y = x.toNat := by have h1 := PS.out; rw [if_neg (by rw [hq]; decide)] at h1; rw [h1] at h2; have := X0.out; omega
     show _ = y.take (impl_withFile.place a1_0 y) ++ _ :: y.drop (impl_withFile.place a1_0 y)
     rw [h3]⟩
    go_wp2
    go_quiet (fail)
    go_wp2_with fail
    refine (impl_withFile.ins_at w_r _ w_r.heap.size _ x _ y ⟨a1_0, a1_1, a1_2⟩ (Kd.R_alloc (Kd.R_drewN M.out.R _) _) (blk_new _ _) (own_new_ne (Kd.R_drewN M.out.R _)) X0.out CX.out HYL.out ((impl_withFile.Mid.drewN M.out nq).b.alloc (impl_withFile.Mid.drewN M.out nq).b.size _) (Nat.le_trans M.out.b.size (below_alloc (Below.refl _ _) _).size)).mono ?_
    rintro e_ w2 ⟨v2, rfl, hR2, hb2, hk2⟩
    rw [HZ.out] at hR2
    obtain ⟨A2_, c2_, ev⟩ := Kd.R_slice hR2
    subst ev
    have G2 := Aside0.mk ((hk2 go (blk_lt (blk_alloc (blk_drewN M.out.o _) _)) (Kd.R_ne M.out.R M.out.o (by decide))).trans (blk_alloc (blk_drewN M.out.o _) _))
    have Q2 := Aside0.mk ((hk2 gr (blk_lt (blk_alloc (blk_drewN M.out.r _) _)) (Kd.R_ne M.out.R M.out.r (by decide))).trans (blk_alloc (blk_drewN M.out.r _) _))
    have R2 := Aside0.mk hR2
    have B2 := Aside0.mk hb2
    clear hR2 hb2 hk2 o0 f0 f1 f2
    have g0 := blk_cell G2.out 0
    simp only [List.getElem?_toArray, List.getElem?_cons_zero] at g0
    have gf0 := blk_frozen G2.out 0
    have r0 := blk_cell Q2.out 0
    simp only [List.getElem?_toArray, List.getElem?_cons_zero] at r0
    have rf0 := blk_frozen Q2.out 0
    have hn1 := NE.out
    have hn2 := Ne.symm NE.out
    go_wp2
    refine bodyPost_ret (results_cell_row rfl _ _ gr 31 #[.slice A2_ (impl_withFile.put ⟨a1_0, a1_1, a1_2⟩ y).length c2_] (0, 0) _ rfl (blk_put (blk_far Q2.out (Ne.symm NE.out) _) 0 _ rfl) Try.underlying31 rfl (by kernel_rfl)) rfl ?_
    exact ⟨_, rfl, Kd.R_mono (Kd.R_far (Kd.R_far (Kd.R_lower (Kd.R_types (Kd.R_types R2.out G2.out (by decide)) Q2.out (by decide)) ZR.out.size) (fun _ q => q.1.2) _) (fun _ q => q.2) _) (fun _ _ => trivial), below_set (below_set (below_step ZR.out B2.out) (Nat.le_trans ZR.out.size M.out.go_)) GR.out⟩
  ·have c1 : decide (x < (y.length : Int)) = false := decide_eq_false c
   have c2 : decide ((y.length : Int) ≤ x) = true := decide_eq_true (by omega)
   have X0 := Aside0.mk hx0
   have XN := Aside0.mk hxn
   have XE := Aside0.mk (show x.toNat = y.length by omega)
   clear hxn hgg c hx0
   have HZ : Aside0 (y.take x.toNat ++ (⟨a1_0, a1_1, a1_2⟩ : S66) :: y.drop x.toNat = impl_withFile.put ⟨a1_0, a1_1, a1_2⟩ y) := ⟨by
    have h2 := PL.out
    have h3 : impl_withFile.place a1_0 y = x.toNat := by rw [XE.out, List.drop_length] at h2; have h4 : impl_withFile.place a1_0 [] = 0 := rfl; rw [h4] at h2; have := X0.out; omega
    show _ = y.take (impl_withFile.place a1_0 y) ++ _ :: y.drop (impl_withFile.place a1_0 y)
    rw [h3]⟩
   go_wp2
   go_quiet (fail)
   go_wp2_with fail
   refine (impl_withFile.ins_at w_r _ w_r.heap.size _ x _ y ⟨a1_0, a1_1, a1_2⟩ (Kd.R_alloc (Kd.R_drewN M.out.R _) _) (blk_new _ _) (own_new_ne (Kd.R_drewN M.out.R _)) X0.out XN.out HYL.out ((impl_withFile.Mid.drewN M.out nq).b.alloc (impl_withFile.Mid.drewN M.out nq).b.size _) (Nat.le_trans M.out.b.size (below_alloc (Below.refl _ _) _).size)).mono ?_
   rintro e_ w2 ⟨v2, rfl, hR2, hb2, hk2⟩
   rw [HZ.out] at hR2
   obtain ⟨A2_, c2_, ev⟩ := Kd.R_slice hR2
   subst ev
   have G2 := Aside0.mk ((hk2 go (blk_lt (blk_alloc (blk_drewN M.out.o _) _)) (Kd.R_ne M.out.R M.out.o (by decide))).trans (blk_alloc (blk_drewN M.out.o _) _))
   have Q2 := Aside0.mk ((hk2 gr (blk_lt (blk_alloc (blk_drewN M.out.r _) _)) (Kd.R_ne M.out.R M.out.r (by decide))).trans (blk_alloc (blk_drewN M.out.r _) _))
   have R2 := Aside0.mk hR2
   have B2 := Aside0.mk hb2
   clear hR2 hb2 hk2 o0 f0 f1 f2
   have g0 := blk_cell G2.out 0
   simp only [List.getElem?_toArray, List.getElem?_cons_zero] at g0
   have gf0 := blk_frozen G2.out 0
   have r0 := blk_cell Q2.out 0
   simp only [List.getElem?_toArray, List.getElem?_cons_zero] at r0
   have rf0 := blk_frozen Q2.out 0
   have hn1 := NE.out
   have hn2 := Ne.symm NE.out
   go_wp2
   refine bodyPost_ret (results_cell_row rfl _ _ gr 31 #[.slice A2_ (impl_withFile.put ⟨a1_0, a1_1, a1_2⟩ y).length c2_] (0, 0) _ rfl (blk_put (blk_far Q2.out (Ne.symm NE.out) _) 0 _ rfl) Try.underlying31 rfl (by kernel_rfl)) rfl ?_
   exact ⟨_, rfl, Kd.R_mono (Kd.R_far (Kd.R_far (Kd.R_lower (Kd.R_types (Kd.R_types R2.out G2.out (by decide)) Q2.out (by decide)) ZR.out.size) (fun _ q => q.1.2) _) (fun _ q => q.2) _) (fun _ _ => trivial), below_set (below_set (below_step ZR.out B2.out) (Nat.le_trans ZR.out.size M.out.go_)) GR.out⟩

end Go.Proofs.Ytklbkkoojkmjbaa.QFnActs
