/- Written by the kit's print.py, called by our own print2.sh with one import more; not by print.sh. -/
import Derived.Test.YtogifkjkbfdocaaQFnExactReadJournalx0
import Derived.Test.YtogifkjkbfdocaaQFnExactReadJournalx1
import Derived.Test.YtogifkjkbfdocaaQFnExactReadJournalx2
import Derived.Test.YtogifkjkbfdocaaQFnExactReadJournalx3
import Derived.Test.YtogifkjkbfdocaaQFnExactReadJournalx4
import Derived.Test.YtogifkjkbfdocaaQFnExactReadJournalx6
import Derived.Test.YtogifkjkbfdocaaQFnExactReadJournalx7
namespace Go.Proofs.Ytogifkjkbfdocaa.QFnExactReadJournal
open Go.RowKit Go.Proofs.YtogifkjkbfdocaaW.PrintWords Go.Proofs.YtogifkjkbfdocaaW.PrintLast Go.Proofs.YtogifkjkbfdocaaW.PrintMore
attribute [local go_sem] max2_int min2_int max_two min_two max_three min_three max_four min_four   -- for this text's walks alone
open Go.Proofs.Ytogifkjkbfdocaa.Short
set_option linter.unusedVariables false
set_option linter.unusedSimpArgs false

/-- A state of type 26 at block g of W; what its slices lead to came in by w0. -/
def IsS26 (w0 W : World) (g : Nat) (f0 : Int) (f1 : Int) (f2 : Int) (f3 : Int) (f4 : Int) (f5 : List (S56)) : Prop := ∃ A5 c5, W.heap[g]? = some (.cells #[.int .i64 f0, .int .i64 f1, .int .i64 f2, .int .i64 f3, .int .i64 f4, .slice A5 f5.length c5] 26 (0, 0)) ∧ w0.heap.size ≤ g ∧ Kd.C k56 w0 A5 f5.length f5
theorem IsS26.grown {w0 W : World} {g : Nat} {f0 : Int} {f1 : Int} {f2 : Int} {f3 : Int} {f4 : Int} {f5 : List (S56)} {W1 : World} {row : Option Nat} (h : IsS26 w0 W g f0 f1 f2 f3 f4 f5) (hw : W.grownBy W1 row) (hne : some g ≠ row) : IsS26 w0 W1 g f0 f1 f2 f3 f4 f5 := by
 obtain ⟨A5, c5, hb, hg, hr5⟩ := h
 exact ⟨A5, c5, blk_grown hb hw hne, hg, hr5⟩
theorem IsS26.own_neN {w0 W : World} {g : Nat} {f0 : Int} {f1 : Int} {f2 : Int} {f3 : Int} {f4 : Int} {f5 : List (S56)} {α : Type} {d : Kd α} {e : Nat} {base : Nat} {ok : Nat → Prop} {v : Value} {xs : List α} (h : IsS26 w0 W g f0 f1 f2 f3 f4 f5) (ho : Kd.N d e W base ok v xs) (ht : e ≠ 26) : some g ≠ v.ownBlock := by
 obtain ⟨A5, c5, hb, hg, hr5⟩ := h
 exact Kd.N_ne ho hb ht
theorem IsS26.fresh {w0 W : World} {g : Nat} {f0 : Int} {f1 : Int} {f2 : Int} {f3 : Int} {f4 : Int} {f5 : List (S56)} (h : IsS26 w0 W g f0 f1 f2 f3 f4 f5) : ∀ k, W.heap.size ≤ k → k ≠ g := by
 obtain ⟨A5, c5, hb, hg, hr5⟩ := h
 exact Kd.freshB hb
theorem IsS26.kept {w0 W : World} {g : Nat} {f0 : Int} {f1 : Int} {f2 : Int} {f3 : Int} {f4 : Int} {f5 : List (S56)} {W1 : World} {S : Nat → Prop} (h : IsS26 w0 W g f0 f1 f2 f3 f4 f5) (hk : Kept W W1 S) (hne : ¬ S g) : IsS26 w0 W1 g f0 f1 f2 f3 f4 f5 := by
 obtain ⟨A5, c5, hb, hg, hr5⟩ := h
 exact ⟨A5, c5, blk_kept hb hk hne, hg, hr5⟩
theorem IsS26.below {w0 W : World} {g : Nat} {f0 : Int} {f1 : Int} {f2 : Int} {f3 : Int} {f4 : Int} {f5 : List (S56)} {W1 : World} (h : IsS26 w0 W g f0 f1 f2 f3 f4 f5) (hw : Below W.heap.size W W1) : IsS26 w0 W1 g f0 f1 f2 f3 f4 f5 := h.grown (grown_of_below hw none) (by simp)
theorem IsS26.alloc {w0 W : World} {g : Nat} {f0 : Int} {f1 : Int} {f2 : Int} {f3 : Int} {f4 : Int} {f5 : List (S56)} (h : IsS26 w0 W g f0 f1 f2 f3 f4 f5) (o : Obj) : IsS26 w0 (W.alloc o) g f0 f1 f2 f3 f4 f5 := h.below (below_alloc (Below.refl _ _) o)
theorem IsS26.drewN {w0 W : World} {g : Nat} {f0 : Int} {f1 : Int} {f2 : Int} {f3 : Int} {f4 : Int} {f5 : List (S56)} (h : IsS26 w0 W g f0 f1 f2 f3 f4 f5) (m : Nat) : IsS26 w0 (W.drewN m) g f0 f1 f2 f3 f4 f5 := h
theorem IsS26.drew {w0 W : World} {g : Nat} {f0 : Int} {f1 : Int} {f2 : Int} {f3 : Int} {f4 : Int} {f5 : List (S56)} (h : IsS26 w0 W g f0 f1 f2 f3 f4 f5) : IsS26 w0 W.drew g f0 f1 f2 f3 f4 f5 := h
theorem IsS26.at_ {w0 W : World} {g : Nat} {f0 : Int} {f1 : Int} {f2 : Int} {f3 : Int} {f4 : Int} {f5 : List (S56)} {w' : World} {m : Nat} (hq : W.drewN m = w') (h : IsS26 w0 W g f0 f1 f2 f3 f4 f5) : IsS26 w0 w' g f0 f1 f2 f3 f4 f5 := by subst hq; exact IsS26.drewN h m
theorem IsS26.apart {w0 W : World} {g : Nat} {f0 : Int} {f1 : Int} {f2 : Int} {f3 : Int} {f4 : Int} {f5 : List (S56)} {α : Type} {d : Kd α} {e : Nat} {base : Nat} {ok : Nat → Prop} {v : Value} {xs : List α} (h : IsS26 w0 W g f0 f1 f2 f3 f4 f5) (ho : d.R e W base ok v xs) (ht : ∀ q, q ∈ e :: d.E → q ≠ 26) : d.R e W base (fun k => ok k ∧ k ≠ g) v xs := by
 obtain ⟨A5, c5, hb, hg, hr5⟩ := h
 exact Kd.R_types ho hb ht
theorem IsS26.own_ne {w0 W : World} {g : Nat} {f0 : Int} {f1 : Int} {f2 : Int} {f3 : Int} {f4 : Int} {f5 : List (S56)} {α : Type} {d : Kd α} {e : Nat} {base : Nat} {ok : Nat → Prop} {v : Value} {xs : List α} (h : IsS26 w0 W g f0 f1 f2 f3 f4 f5) (ho : d.R e W base ok v xs) (ht : e ≠ 26) : some g ≠ v.ownBlock := by
 obtain ⟨A5, c5, hb, hg, hr5⟩ := h
 exact Kd.R_ne ho hb ht
theorem IsS26.apartQ {w0 W : World} {g : Nat} {f0 : Int} {f1 : Int} {f2 : Int} {f3 : Int} {f4 : Int} {f5 : List (S56)} {α : Type} {d : Kd α} {e : Nat} {base : Nat} {ok : Nat → Prop} {v : Value} {xs : List α} (h : IsS26 w0 W g f0 f1 f2 f3 f4 f5) (ho : d.Q e W base ok v xs) (ht : ∀ q, q ∈ e :: d.E → q ≠ 26) : d.Q e W base (fun k => ok k ∧ k ≠ g) v xs := by
 obtain ⟨A5, c5, hb, hg, hr5⟩ := h
 exact Kd.Q_types ho hb ht
theorem IsS26.own_neQ {w0 W : World} {g : Nat} {f0 : Int} {f1 : Int} {f2 : Int} {f3 : Int} {f4 : Int} {f5 : List (S56)} {α : Type} {d : Kd α} {e : Nat} {base : Nat} {ok : Nat → Prop} {v : Value} {xs : List α} (h : IsS26 w0 W g f0 f1 f2 f3 f4 f5) (ho : d.Q e W base ok v xs) (ht : e ≠ 26) : some g ≠ v.ownBlock := by
 obtain ⟨A5, c5, hb, hg, hr5⟩ := h
 exact Kd.Q_ne ho hb ht
theorem IsS26.apartS {w0 W : World} {g : Nat} {f0 : Int} {f1 : Int} {f2 : Int} {f3 : Int} {f4 : Int} {f5 : List (S56)} {α : Type} {d : Kd α} {e : Nat} {base : Nat} {ok : Nat → Prop} {v : Value} {xs : List α} (h : IsS26 w0 W g f0 f1 f2 f3 f4 f5) (ho : d.S e W base ok v xs) (ht : ∀ q, q ∈ e :: d.E → q ≠ 26) : d.S e W base (fun k => ok k ∧ k ≠ g) v xs := by
 obtain ⟨A5, c5, hb, hg, hr5⟩ := h
 exact Kd.S_types ho hb ht
theorem IsS26.own_neS {w0 W : World} {g : Nat} {f0 : Int} {f1 : Int} {f2 : Int} {f3 : Int} {f4 : Int} {f5 : List (S56)} {α : Type} {d : Kd α} {e : Nat} {base : Nat} {ok : Nat → Prop} {v : Value} {xs : List α} (h : IsS26 w0 W g f0 f1 f2 f3 f4 f5) (ho : d.S e W base ok v xs) (ht : e ≠ 26) : some g ≠ v.ownBlock := by
 obtain ⟨A5, c5, hb, hg, hr5⟩ := h
 exact Kd.S_ne ho hb ht
theorem IsS26.lt {w0 W : World} {g : Nat} {f0 : Int} {f1 : Int} {f2 : Int} {f3 : Int} {f4 : Int} {f5 : List (S56)} (h : IsS26 w0 W g f0 f1 f2 f3 f4 f5) : g < W.heap.size := by
 obtain ⟨A5, c5, hb, hg, hr5⟩ := h
 exact blk_lt hb
theorem IsS26.ge {w0 W : World} {g : Nat} {f0 : Int} {f1 : Int} {f2 : Int} {f3 : Int} {f4 : Int} {f5 : List (S56)} (h : IsS26 w0 W g f0 f1 f2 f3 f4 f5) : w0.heap.size ≤ g := by
 obtain ⟨A5, c5, hb, hg, hr5⟩ := h
 exact hg
theorem IsS26.ne_blk {w0 W : World} {g : Nat} {f0 : Int} {f1 : Int} {f2 : Int} {f3 : Int} {f4 : Int} {f5 : List (S56)} {a : Nat} {cs : Array Value} {t : TypeId} {fr : Nat × Nat} (h : IsS26 w0 W g f0 f1 f2 f3 f4 f5) (hb2 : W.heap[a]? = some (.cells cs t fr)) (ht : t ≠ 26) : g ≠ a := by
 obtain ⟨A5, c5, hb, hg, hr5⟩ := h
 rintro rfl
 rw [hb] at hb2
 injection hb2 with hb2
 injection hb2 with _ ht2
 exact ht ht2.symm
theorem IsS26.far {w0 W : World} {g : Nat} {f0 : Int} {f1 : Int} {f2 : Int} {f3 : Int} {f4 : Int} {f5 : List (S56)} {p : Addr} (h : IsS26 w0 W g f0 f1 f2 f3 f4 f5) (hne : g ≠ p.block) (u : Value) : IsS26 w0 (W.setCell p u) g f0 f1 f2 f3 f4 f5 := by
 obtain ⟨A5, c5, hb, hg, hr5⟩ := h
 exact ⟨A5, c5, blk_far hb hne u, hg, hr5⟩
theorem cellS26_0 {W : World} {g : Nat} {A5 : Option Addr} {c5 : Nat} {f0 : Int} {f1 : Int} {f2 : Int} {f3 : Int} {f4 : Int} {f5 : List (S56)} (h : W.heap[g]? = some (.cells #[.int .i64 f0, .int .i64 f1, .int .i64 f2, .int .i64 f3, .int .i64 f4, .slice A5 f5.length c5] 26 (0, 0))) : W.cell? ⟨g, 0, none⟩ = some (.int .i64 f0) := (blk_cell h 0).trans rfl
theorem IsS26.set_0 {w0 W : World} {g : Nat} {f0 : Int} {f1 : Int} {f2 : Int} {f3 : Int} {f4 : Int} {f5 : List (S56)} (h : IsS26 w0 W g f0 f1 f2 f3 f4 f5) (x : Int) : IsS26 w0 (W.setCell ⟨g, 0, none⟩ (.int .i64 x)) g x f1 f2 f3 f4 f5 := by
 obtain ⟨A5, c5, hb, hg, hr5⟩ := h
 exact ⟨A5, c5, by simpa using blk_set hb 0 (.int .i64 x), hg, hr5⟩
theorem cellS26_1 {W : World} {g : Nat} {A5 : Option Addr} {c5 : Nat} {f0 : Int} {f1 : Int} {f2 : Int} {f3 : Int} {f4 : Int} {f5 : List (S56)} (h : W.heap[g]? = some (.cells #[.int .i64 f0, .int .i64 f1, .int .i64 f2, .int .i64 f3, .int .i64 f4, .slice A5 f5.length c5] 26 (0, 0))) : W.cell? ⟨g, 1, none⟩ = some (.int .i64 f1) := (blk_cell h 1).trans rfl
theorem IsS26.set_1 {w0 W : World} {g : Nat} {f0 : Int} {f1 : Int} {f2 : Int} {f3 : Int} {f4 : Int} {f5 : List (S56)} (h : IsS26 w0 W g f0 f1 f2 f3 f4 f5) (x : Int) : IsS26 w0 (W.setCell ⟨g, 1, none⟩ (.int .i64 x)) g f0 x f2 f3 f4 f5 := by
 obtain ⟨A5, c5, hb, hg, hr5⟩ := h
 exact ⟨A5, c5, by simpa using blk_set hb 1 (.int .i64 x), hg, hr5⟩
theorem cellS26_2 {W : World} {g : Nat} {A5 : Option Addr} {c5 : Nat} {f0 : Int} {f1 : Int} {f2 : Int} {f3 : Int} {f4 : Int} {f5 : List (S56)} (h : W.heap[g]? = some (.cells #[.int .i64 f0, .int .i64 f1, .int .i64 f2, .int .i64 f3, .int .i64 f4, .slice A5 f5.length c5] 26 (0, 0))) : W.cell? ⟨g, 2, none⟩ = some (.int .i64 f2) := (blk_cell h 2).trans rfl
theorem IsS26.set_2 {w0 W : World} {g : Nat} {f0 : Int} {f1 : Int} {f2 : Int} {f3 : Int} {f4 : Int} {f5 : List (S56)} (h : IsS26 w0 W g f0 f1 f2 f3 f4 f5) (x : Int) : IsS26 w0 (W.setCell ⟨g, 2, none⟩ (.int .i64 x)) g f0 f1 x f3 f4 f5 := by
 obtain ⟨A5, c5, hb, hg, hr5⟩ := h
 exact ⟨A5, c5, by simpa using blk_set hb 2 (.int .i64 x), hg, hr5⟩
theorem cellS26_3 {W : World} {g : Nat} {A5 : Option Addr} {c5 : Nat} {f0 : Int} {f1 : Int} {f2 : Int} {f3 : Int} {f4 : Int} {f5 : List (S56)} (h : W.heap[g]? = some (.cells #[.int .i64 f0, .int .i64 f1, .int .i64 f2, .int .i64 f3, .int .i64 f4, .slice A5 f5.length c5] 26 (0, 0))) : W.cell? ⟨g, 3, none⟩ = some (.int .i64 f3) := (blk_cell h 3).trans rfl
theorem IsS26.set_3 {w0 W : World} {g : Nat} {f0 : Int} {f1 : Int} {f2 : Int} {f3 : Int} {f4 : Int} {f5 : List (S56)} (h : IsS26 w0 W g f0 f1 f2 f3 f4 f5) (x : Int) : IsS26 w0 (W.setCell ⟨g, 3, none⟩ (.int .i64 x)) g f0 f1 f2 x f4 f5 := by
 obtain ⟨A5, c5, hb, hg, hr5⟩ := h
 exact ⟨A5, c5, by simpa using blk_set hb 3 (.int .i64 x), hg, hr5⟩
theorem cellS26_4 {W : World} {g : Nat} {A5 : Option Addr} {c5 : Nat} {f0 : Int} {f1 : Int} {f2 : Int} {f3 : Int} {f4 : Int} {f5 : List (S56)} (h : W.heap[g]? = some (.cells #[.int .i64 f0, .int .i64 f1, .int .i64 f2, .int .i64 f3, .int .i64 f4, .slice A5 f5.length c5] 26 (0, 0))) : W.cell? ⟨g, 4, none⟩ = some (.int .i64 f4) := (blk_cell h 4).trans rfl
theorem IsS26.set_4 {w0 W : World} {g : Nat} {f0 : Int} {f1 : Int} {f2 : Int} {f3 : Int} {f4 : Int} {f5 : List (S56)} (h : IsS26 w0 W g f0 f1 f2 f3 f4 f5) (x : Int) : IsS26 w0 (W.setCell ⟨g, 4, none⟩ (.int .i64 x)) g f0 f1 f2 f3 x f5 := by
 obtain ⟨A5, c5, hb, hg, hr5⟩ := h
 exact ⟨A5, c5, by simpa using blk_set hb 4 (.int .i64 x), hg, hr5⟩
theorem cellS26_5 {W : World} {g : Nat} {A5 : Option Addr} {c5 : Nat} {f0 : Int} {f1 : Int} {f2 : Int} {f3 : Int} {f4 : Int} {f5 : List (S56)} (h : W.heap[g]? = some (.cells #[.int .i64 f0, .int .i64 f1, .int .i64 f2, .int .i64 f3, .int .i64 f4, .slice A5 f5.length c5] 26 (0, 0))) : W.cell? ⟨g, 5, none⟩ = some (.slice A5 f5.length c5) := (blk_cell h 5).trans rfl
theorem IsS26.new (w0 W : World) (A5 : Option Addr) (c5 : Nat) (f0 : Int) (f1 : Int) (f2 : Int) (f3 : Int) (f4 : Int) (f5 : List (S56)) (hB : Below w0.heap.size w0 W) (hr5 : Kd.C k56 w0 A5 f5.length f5) : IsS26 w0 (W.alloc (.cells #[.int .i64 f0, .int .i64 f1, .int .i64 f2, .int .i64 f3, .int .i64 f4, .slice A5 f5.length c5] 26)) W.heap.size f0 f1 f2 f3 f4 f5 := ⟨A5, c5, by simpa using heap_alloc_new W _, hB.size, hr5⟩

/-! ### spec_l07More: function 13, by hand -/ -- rounds making
/-- What stands while l07More goes on: the journal in block g, its row (in no block that Q bars), all else as it was. -/
structure spec_l07More.Inv (w0 w W : World) (g : Nat) (Q : Nat → Prop) (n t v a b : Int) (u : Value) (l : List (S56)) : Prop where
 c : W.heap[g]? = some (.cells #[.int .i64 n, .int .i64 t, .int .i64 v, .int .i64 a, .int .i64 b, u] 26 (0, 0))
 r : Kd.R k56 56 W w0.heap.size Q u l
 hQ : ∀ k, Q k → k ≠ g
 bl : Below w0.heap.size w0 W
 kp : KeepBut w W g none
 gw : w0.heap.size ≤ g
section
variable {w0 w W W' : World} {g e : Nat} {Q : Nat → Prop} {n t v a b : Int} {u : Value} {l : List (S56)}
theorem spec_l07More.keep_below (h : KeepBut w W g none) (hb : Below W.heap.size W W') : KeepBut w W' g none := ⟨Nat.le_trans h.1 hb.size, fun i hi hg hr => (hb.block i (Nat.lt_of_lt_of_le hi h.1)).trans (h.2 i hi hg hr)⟩
theorem spec_l07More.keep_own (h : KeepBut w W g none) (j : Nat) (x : Value) : KeepBut w (W.setCell ⟨g, j, none⟩ x) g none := ⟨by simpa [World.setCell] using h.1, fun i hi hg hr => (Below.heap_setCell W ⟨g, j, none⟩ x i hg).trans (h.2 i hi hg hr)⟩
theorem spec_l07More.Inv.below (h : spec_l07More.Inv w0 w W g Q n t v a b u l) (hb : Below W.heap.size W W') : spec_l07More.Inv w0 w W' g Q n t v a b u l := ⟨blk_below h.c hb, Kd.R_below h.r hb, h.hQ, below_step h.bl hb, spec_l07More.keep_below h.kp hb, h.gw⟩
theorem spec_l07More.Inv.box (h : spec_l07More.Inv w0 w W g Q n t v a b u l) (he : e = W.heap.size) (hb : Below W.heap.size W W') : spec_l07More.Inv w0 w W' g (fun k => Q k ∧ k ≠ e) n t v a b u l := ⟨blk_below h.c hb, Kd.R_below (Kd.R_elderB h.r e (Nat.le_of_eq he.symm)) hb, fun k q => h.hQ k q.1, below_step h.bl hb, spec_l07More.keep_below h.kp hb, h.gw⟩
theorem spec_l07More.Inv.drew (h : spec_l07More.Inv w0 w W g Q n t v a b u l) : spec_l07More.Inv w0 w W.drew g Q n t v a b u l := ⟨blk_drew h.c, Kd.R_drew h.r, h.hQ, below_drew1 h.bl, h.kp, h.gw⟩
theorem spec_l07More.Inv.drewN (h : spec_l07More.Inv w0 w W g Q n t v a b u l) (m : Nat) : spec_l07More.Inv w0 w (W.drewN m) g Q n t v a b u l := ⟨blk_drewN h.c m, by apply Kd.R_drewN; exact h.r, h.hQ, pw_below_drewN h.bl m, h.kp, h.gw⟩
theorem spec_l07More.Inv.far (h : spec_l07More.Inv w0 w W g Q n t v a b u l) (hq : ∀ k, Q k → k ≠ e) (hne : g ≠ e) (hw : w.heap.size ≤ e) (hw0 : w0.heap.size ≤ e) (j : Nat) (x : Value) : spec_l07More.Inv w0 w (W.setCell ⟨e, j, none⟩ x) g Q n t v a b u l := ⟨blk_far h.c hne _, Kd.R_far h.r hq x, h.hQ, below_set h.bl hw0, keep_far h.kp hw x, h.gw⟩
theorem spec_l07More.Inv.put1 (h : spec_l07More.Inv w0 w W g Q n t v a b u l) (x : Int) : spec_l07More.Inv w0 w (W.setCell ⟨g, 1, none⟩ (.int .i64 x)) g Q n x v a b u l := ⟨blk_put h.c 1 _ rfl, Kd.R_far h.r h.hQ _, h.hQ, below_set h.bl h.gw, spec_l07More.keep_own h.kp 1 _, h.gw⟩
theorem spec_l07More.Inv.put2 (h : spec_l07More.Inv w0 w W g Q n t v a b u l) (x : Int) : spec_l07More.Inv w0 w (W.setCell ⟨g, 2, none⟩ (.int .i64 x)) g Q n t x a b u l := ⟨blk_put h.c 2 _ rfl, Kd.R_far h.r h.hQ _, h.hQ, below_set h.bl h.gw, spec_l07More.keep_own h.kp 2 _, h.gw⟩
theorem spec_l07More.Inv.put3 (h : spec_l07More.Inv w0 w W g Q n t v a b u l) (x : Int) : spec_l07More.Inv w0 w (W.setCell ⟨g, 3, none⟩ (.int .i64 x)) g Q n t v x b u l := ⟨blk_put h.c 3 _ rfl, Kd.R_far h.r h.hQ _, h.hQ, below_set h.bl h.gw, spec_l07More.keep_own h.kp 3 _, h.gw⟩
theorem spec_l07More.Inv.put4 (h : spec_l07More.Inv w0 w W g Q n t v a b u l) (x : Int) : spec_l07More.Inv w0 w (W.setCell ⟨g, 4, none⟩ (.int .i64 x)) g Q n t v a x u l := ⟨blk_put h.c 4 _ rfl, Kd.R_far h.r h.hQ _, h.hQ, below_set h.bl h.gw, spec_l07More.keep_own h.kp 4 _, h.gw⟩
theorem spec_l07More.Inv.put5 (h : spec_l07More.Inv w0 w W g Q n t v a b u l) {Q' : Nat → Prop} {u' : Value} {l' : List (S56)} (r : Kd.R k56 56 W w0.heap.size Q' u' l') (hQ : ∀ k, Q' k → k ≠ g) : spec_l07More.Inv w0 w (W.setCell ⟨g, 5, none⟩ u') g Q' n t v a b u' l' := ⟨blk_put h.c 5 _ rfl, Kd.R_far r hQ _, hQ, below_set h.bl h.gw, spec_l07More.keep_own h.kp 5 _, h.gw⟩
end
def spec_l07More.f (k : Nat) (t v a b : Int) (l : List (S56)) (r : ByteArray) : Option (Int × Int × Int × Int × (List (S56)) × Bool) :=
 (spec_l07Two.f k r (⟨#[72]⟩ : ByteArray)).bind fun p => (if p.2.2 = true then ((spec_l01In.f p.1 0 100000).bind fun q1 => (if q1 = true then ((spec_l01In.f p.2.1 0 4).bind fun q2 => (if q2 = true then some (p.1, p.2.1, a, b, l, true) else some (t, v, a, b, l, false))) else some (t, v, a, b, l, false)))
  else ((spec_ReadEntry.f k r).bind fun q => (if q.2.2.2.2 = true then ((spec_LogPut.f k a b l q.1 q.2.1 q.2.2.1 q.2.2.2.1).bind fun s => (if s.2.2.2 = true then some (t, v, s.1, s.2.1, s.2.2.1, true) else some (t, v, a, b, l, false))) else some (t, v, a, b, l, false))))
theorem spec_l07More.mono : ∀ t v a b l r k, LeO (spec_l07More.f k t v a b l r) (spec_l07More.f (k + 1) t v a b l r) := by
 intro t v a b l r k
 unfold spec_l07More.f
 repeat' first
   | (with_reducible exact spec_l07Two.mono _ _ _)
   | (with_reducible exact spec_ReadEntry.mono _ _)
   | (with_reducible exact spec_LogPut.mono _ _ _ _ _ _ _ _)
   | (with_reducible exact LeO.refl _)
   | (with_reducible exact LeO.none _)
   | (with_reducible refine LeO.ite ?_ ?_)
   | (with_reducible refine LeO.bind ?_ (fun _ => ?_))
def spec_l07More.T11 : Bool × List (List Nat × List Nat) := (true, [([], []), ([0], [0]), ([1], [1]), ([2], [2]), ([], []), ([], []), ([3, 4, 5], [3, 4, 5]), ([6], [6]), ([7], [7]), ([7], [7]), ([], []), ([10, 8, 6, 0, 1, 2, 3, 4, 5, 6, 7, 8, 10], [8, 10]), ([9, 11, 0, 1, 2, 3, 4, 5, 6, 7, 8, 9, 10, 11], [9])])
def spec_l07More.B11 : List Nat := [0, 1, 3, 7, 0, 0, 63, 127, 255, 255, 0, 1535, 4095]
theorem spec_l07More.tab11 : rtab .any (opsOf Try.f13 11) = spec_l07More.T11 := by kernel_rfl
theorem spec_l07More.bits11 : waitsOk spec_l07More.T11.2 spec_l07More.B11 = true := by kernel_rfl
set_option maxHeartbeats 8000000 in
set_option maxRecDepth 100000 in
theorem spec_l07More.calls (k : Nat) (g : Nat) (n t v a b : Int) (u : Value) (l : List (S56)) (r : ByteArray) (t' v' a' b' : Int) (l' : List (S56)) (o : Bool) (w0 w : World) (hB : Below w0.heap.size w0 w) (hg : w.heap[g]? = some (.cells #[.int .i64 n, .int .i64 t, .int .i64 v, .int .i64 a, .int .i64 b, u] 26 (0, 0))) (hw : w0.heap.size ≤ g) (ho : Kd.R k56 56 w w0.heap.size (fun _ => True) u l) (h : spec_l07More.f k t v a b l r = some (t', v', a', b', l', o)) :
  Calls Try.prog 13 #[.pointer (some ⟨g, 0, none⟩), .string r] w fun e w' => e = .returned (.bool o) ∧ ∃ u' : Value, w'.heap[g]? = some (.cells #[.int .i64 n, .int .i64 t', .int .i64 v', .int .i64 a', .int .i64 b', u'] 26 (0, 0)) ∧ Kd.R k56 56 w' w0.heap.size (fun _ => True) u' l' ∧ Below w0.heap.size w0 w' ∧ KeepBut w w' g none := by
 obtain ⟨A_, c_, rfl⟩ := Kd.R_slice ho
 have I0 := Aside0.mk (show spec_l07More.Inv w0 w w g (fun k => k ≠ g) n t v a b (.slice A_ l.length c_) l from ⟨hg, Kd.R_mono (Kd.R_types ho hg (by decide)) (fun _ q => q.2), fun _ q => q, hB, KeepBut.refl w g none, hw⟩)
 have fin : ∀ {W : World} {Q : Nat → Prop} {t v a b : Int} {u : Value} {l : List (S56)}, spec_l07More.Inv w0 w W g Q n t v a b u l → ∃ u' : Value, W.heap[g]? = some (.cells #[.int .i64 n, .int .i64 t, .int .i64 v, .int .i64 a, .int .i64 b, u'] 26 (0, 0)) ∧ Kd.R k56 56 W w0.heap.size (fun _ => True) u' l ∧ Below w0.heap.size w0 W ∧ KeepBut w W g none := fun h => ⟨_, h.c, Kd.R_mono h.r (fun _ _ => trivial), h.bl, h.kp⟩
 have FIN := Aside0.mk @fin
 clear fin ho hg hB
 unfold spec_l07More.f at h
 obtain ⟨⟨x1, x2, x3⟩, h1, h⟩ := Option.bind_eq_some_iff.mp h
 simp only at h1 h
 have A1 := Aside0.mk h1
 have H := Aside0.mk h
 clear h1 h
 have no_ : (some (t, v, a, b, l, false) = some (t', v', a', b', l', o)) → t' = t ∧ v' = v ∧ a' = a ∧ b' = b ∧ l' = l ∧ o = false := fun h => by simp only [Option.some.injEq, Prod.mk.injEq] at h; exact ⟨h.1.symm, h.2.1.symm, h.2.2.1.symm, h.2.2.2.1.symm, h.2.2.2.2.1.symm, h.2.2.2.2.2.symm⟩
 have NO := Aside0.mk no_
 clear no_
 go_enter Try.func13, Try.ntmps13
 go_wp2_with fail
 refine (spec_l07Two.calls k r (⟨#[72]⟩ : ByteArray) x1 x2 x3 _ A1.out).mono ?_
 rintro e_ w1 ⟨rfl, hb⟩
 have I1 := Aside0.mk (I0.out.below hb)
 clear hb I0 A1
 cases x3 with
 | true =>
  have H1 := H.out
  simp only [if_true] at H1
  obtain ⟨q1, hq1, H2⟩ := Option.bind_eq_some_iff.mp H1
  have Q1 := Aside0.mk hq1
  clear H H1 hq1
  cases q1 with
  | false =>
   obtain ⟨rfl, rfl, rfl, rfl, rfl, rfl⟩ := NO.out (by simpa using H2)
   clear NO H2
   go_wp2_with (go_at_call 10; (with_reducible refine (spec_l01In.calls x1 0 100000 false _ Q1.out).mono ?_); rintro e_ w' ⟨rfl, ⟨nd, rfl⟩⟩)
   go_ret
   exact ⟨rfl, FIN.out (I1.out.drewN nd)⟩
  | true =>
   simp only [if_true] at H2
   obtain ⟨q2, hq2, H3⟩ := Option.bind_eq_some_iff.mp H2
   have Q2 := Aside0.mk hq2
   clear H2 hq2
   cases q2 with
   | false =>
    obtain ⟨rfl, rfl, rfl, rfl, rfl, rfl⟩ := NO.out (by simpa using H3)
    clear NO H3
    go_wp2_with fail
    (with_reducible refine (spec_l01In.calls x1 0 100000 true _ Q1.out).mono ?_); rintro e_ w' ⟨rfl, ⟨nd, rfl⟩⟩
    go_wp2_with fail
    (with_reducible refine (spec_l01In.calls x2 0 4 false _ Q2.out).mono ?_); rintro e_ w' ⟨rfl, ⟨ne, rfl⟩⟩
    go_wp2
    go_ret
    exact ⟨rfl, FIN.out (I1.out.drewN (nd + ne))⟩
   | true =>
    simp only [if_true, Option.some.injEq, Prod.mk.injEq] at H3
    obtain ⟨rfl, rfl, rfl, rfl, rfl, rfl⟩ := H3
    clear NO
    have c1 := blk_cell I1.out.c 1
    have c2 := blk_cell I1.out.c 2
    simp only [List.getElem?_toArray, List.getElem?_cons_zero, List.getElem?_cons_succ] at c1 c2
    have f1 := blk_frozen I1.out.c 1
    have f2 := blk_frozen I1.out.c 2
    go_wp2_with fail
    (with_reducible refine (spec_l01In.calls x1 0 100000 true _ Q1.out).mono ?_); rintro e_ w' ⟨rfl, ⟨nd, rfl⟩⟩
    go_wp2_with fail
    (with_reducible refine (spec_l01In.calls x2 0 4 true _ Q2.out).mono ?_); rintro e_ w' ⟨rfl, ⟨ne, rfl⟩⟩
    go_wp2
    go_ret
    exact ⟨rfl, FIN.out (((I1.out.drewN (nd + ne)).put1 x1).put2 x2)⟩
 | false =>
  have H1 := H.out
  simp only [Bool.false_eq_true, if_false] at H1
  obtain ⟨⟨e1, e2, e3, e4, e5⟩, he, H2⟩ := Option.bind_eq_some_iff.mp H1
  simp only at he H2
  have AE := Aside0.mk he
  clear H H1 he
  go_wp2_with fail
  refine (spec_ReadEntry.calls k r e1 e2 e3 e4 e5 _ AE.out).mono ?_
  rintro e_ w2 ⟨rfl, hb⟩
  have I2 := Aside0.mk (I1.out.below hb)
  clear hb I1 AE
  cases e5 with
  | false =>
   obtain ⟨rfl, rfl, rfl, rfl, rfl, rfl⟩ := NO.out (by simpa using H2)
   clear NO H2
   go_wp2_with ((with_reducible refine gate_dst (N := 9) rfl ?_); refine box_event rfl (N := 9) rfl (cs := #[.int .i64 0, .int .i64 0, .string (⟨#[]⟩ : ByteArray)]) (t := 56) zrun ?_; intro be hg w3 hbox hb; have I3 := Aside0.mk (I2.out.box hg hb); have Ye := Aside0.mk hbox; have NE := Aside0.mk (show g ≠ be by rw [hg]; exact Nat.ne_of_lt (blk_lt I2.out.c)); have GE := Aside0.mk (show w.heap.size ≤ be by rw [hg]; exact I2.out.kp.1); have GE0 := Aside0.mk (show w0.heap.size ≤ be by rw [hg]; exact I2.out.bl.size); clear hbox hb hg I2; have c0 := blk_cell Ye.out 0; have c1 := blk_cell Ye.out 1; have c2 := blk_cell Ye.out 2; simp only [List.getElem?_toArray, List.getElem?_cons_zero, List.getElem?_cons_succ] at c0 c1 c2; have f0 := blk_frozen Ye.out 0; have f1 := blk_frozen Ye.out 1; have f2 := blk_frozen Ye.out 2)
   go_ret
   exact ⟨rfl, FIN.out (((I3.out.far (fun _ q => q.2) NE.out GE.out GE0.out 0 (.int .i64 e2)).far (fun _ q => q.2) NE.out GE.out GE0.out 1 (.int .i64 e3)).far (fun _ q => q.2) NE.out GE.out GE0.out 2 (.string e4))⟩
  | true =>
   simp only [if_true] at H2
   obtain ⟨⟨s1, s2, s3, s4⟩, hs, H3⟩ := Option.bind_eq_some_iff.mp H2
   simp only at hs H3
   have AL := Aside0.mk hs
   have H := Aside0.mk H3
   clear H2 H3 hs
   go_wp2_with ((with_reducible refine gate_dst (N := 9) rfl ?_); refine box_event rfl (N := 9) rfl (cs := #[.int .i64 0, .int .i64 0, .string (⟨#[]⟩ : ByteArray)]) (t := 56) zrun ?_; intro be hg w3 hbox hb; have I3 := Aside0.mk (I2.out.box hg hb); have Ye := Aside0.mk hbox; have NE := Aside0.mk (show g ≠ be by rw [hg]; exact Nat.ne_of_lt (blk_lt I2.out.c)); have GE := Aside0.mk (show w.heap.size ≤ be by rw [hg]; exact I2.out.kp.1); have GE0 := Aside0.mk (show w0.heap.size ≤ be by rw [hg]; exact I2.out.bl.size); clear hbox hb hg I2; have c0 := blk_cell Ye.out 0; have c1 := blk_cell Ye.out 1; have c2 := blk_cell Ye.out 2; simp only [List.getElem?_toArray, List.getElem?_cons_zero, List.getElem?_cons_succ] at c0 c1 c2; have f0 := blk_frozen Ye.out 0; have f1 := blk_frozen Ye.out 1; have f2 := blk_frozen Ye.out 2)
   have I4 := Aside0.mk (((I3.out.far (fun _ q => q.2) NE.out GE.out GE0.out 0 (.int .i64 e2)).far (fun _ q => q.2) NE.out GE.out GE0.out 1 (.int .i64 e3)).far (fun _ q => q.2) NE.out GE.out GE0.out 2 (.string e4))
   have E4 := Aside0.mk (blk_put (blk_put (blk_put Ye.out 0 (.int .i64 e2) rfl) 1 (.int .i64 e3) rfl) 2 (.string e4) rfl)
   clear I3 Ye c0 c1 c2 f0 f1 f2
   generalize (((w3.setCell ⟨be, 0, none⟩ (.int .i64 e2)).setCell ⟨be, 1, none⟩ (.int .i64 e3)).setCell ⟨be, 2, none⟩ (.string e4)) = w4 at I4 E4 ⊢

   refine start_ (n := 13) (S := fun w' => (w'.cell? ⟨g, 3, none⟩ = some (.int .i64 a) ∧ w'.cell? ⟨g, 4, none⟩ = some (.int .i64 b) ∧ w'.cell? ⟨g, 5, none⟩ = some (.slice A_ l.length c_) ∧ w'.cell? ⟨be, 0, none⟩ = some (.int .i64 e2) ∧ w'.cell? ⟨be, 1, none⟩ = some (.int .i64 e3) ∧ w'.cell? ⟨be, 2, none⟩ = some (.string e4))) (ds := []) #[false, false, false, false, false, false, false, false, false, false, false, false, false] (by kernel_rfl) rfl rfl ⟨(blk_cell I4.out.c 3).trans rfl, (blk_cell I4.out.c 4).trans rfl, (blk_cell I4.out.c 5).trans rfl, (blk_cell E4.out 0).trans rfl, (blk_cell E4.out 1).trans rfl, (blk_cell E4.out 2).trans rfl⟩ (fun hHeld => ?_); refine with_tabW spec_l07More.tab11 spec_l07More.bits11 (fun HT_ HW_ => ?_)
   have I5 := Aside0.mk I4.out.drew
   have E5 := Aside0.mk (blk_drew E4.out)
   clear I4 E4
   generalize w4.drew = w5 at I5 E5 hHeld ⊢
   refine zpu 0 45 #[true, false, false, false, false, false, false, false, false, false, false, false, false] HT_ ?_
   refine zpu 1 46 #[true, true, false, false, false, false, false, false, false, false, false, false, false] HT_ ?_
   refine zpu 2 47 #[true, true, true, false, false, false, false, false, false, false, false, false, false] HT_ ?_
   refine zpu 4 49 #[true, true, true, false, true, false, false, false, false, false, false, false, false] HT_ ?_
   refine ztk6 3 48 #[true, true, true, true, true, false, false, false, false, false, false, false, false] HT_ HW_ hHeld ?_
   refine ztk6 5 50 #[true, true, true, true, true, true, false, false, false, false, false, false, false] HT_ HW_ hHeld ?_
   refine join_ (σ := Value × Nat) 2 #[true, true, true, true, true, true, true, true, true, true, true, false, false] (fun s_ => [(51, .tuple #[.agg #[.int .i64 s1, .int .i64 s2, s_.1], .bool s4]), (11, .pointer (some ⟨s_.2, 0, none⟩)), (44, .tuple #[.agg #[.int .i64 s1, .int .i64 s2, s_.1], .bool s4]), (52, .agg #[.int .i64 s1, .int .i64 s2, s_.1]), (53, .bool s4)]) (fun s_ w' => (w'.cell? ⟨g, 3, none⟩ = some (.int .i64 a) ∧ w'.cell? ⟨g, 4, none⟩ = some (.int .i64 b) ∧ w'.cell? ⟨g, 5, none⟩ = some (.slice A_ l.length c_) ∧ w'.cell? ⟨be, 0, none⟩ = some (.int .i64 e2) ∧ w'.cell? ⟨be, 1, none⟩ = some (.int .i64 e3) ∧ w'.cell? ⟨be, 2, none⟩ = some (.string e4)) ∧ spec_l07More.Inv w0 w w' g (fun k => ((k ≠ g ∧ k ≠ be) ∧ k ≠ s_.2)) n t v a b (.slice A_ l.length c_) l ∧ Kd.R k56 56 w' w0.heap.size (fun k => k ≠ g ∧ k ≠ s_.2) s_.1 s3 ∧ w'.heap[s_.2]? = some (.cells #[.int .i64 0, .int .i64 0, .slice none 0 0] 24 (0, 0)) ∧ w.heap.size ≤ s_.2 ∧ w0.heap.size ≤ s_.2 ∧ g ≠ s_.2 ∧ be ≠ s_.2) ?_ ?_
   rotate_left
   ·intro hCont
    refine two_ (i := 6) (j := 10) (Ni := some 51) (Nj := some 11) #[true, true, true, true, true, true, true, false, false, false, false, false, false] #[true, true, true, true, true, true, false, false, false, false, true, false, false] rfl rfl rfl rfl (two_of HT_.out (by kernel_rfl)) (by decide) (by decide) (fun K hK => ?_) (fun K hK => ?_)
    ·skip
     refine goes_ Try.func30 (by kernel_rfl) rfl #[.agg #[.int .i64 a, .int .i64 b, .slice A_ l.length c_], .int .i64 e1, .agg #[.int .i64 e2, .int .i64 e3, .string e4]] (by rfl) rfl rfl (by (try simp only [List.map_toArray, List.map_cons, List.map_nil]); first | done | rfl) ?_
     with_reducible refine (spec_LogPut.calls k a b A_ c_ l e1 e2 e3 e4 s1 s2 s3 s4 _ (Kd.R_reads' I5.out.r).2.2 (Kd.R_reads' I5.out.r).2.1 AL.out).mono ?_
     rintro e_ w6 ⟨vs, rfl, ho0, hb⟩
     refine ⟨_, rfl, ?_⟩
     have I6 := Aside0.mk (I5.out.below hb)
     have E6 := Aside0.mk (blk_below E5.out hb)
     have R6 := Aside0.mk (Kd.R_lower (Kd.R_types ho0 I6.out.c (by decide)) I5.out.bl.size)
     clear ho0 hb I5 E5
     refine hK.out _ _ ⟨(blk_cell I6.out.c 3).trans rfl, (blk_cell I6.out.c 4).trans rfl, (blk_cell I6.out.c 5).trans rfl, (blk_cell E6.out 0).trans rfl, (blk_cell E6.out 1).trans rfl, (blk_cell E6.out 2).trans rfl⟩ (fun hHeld => ?_)
     clear hK K
     refine znm 51 ?_
     refine zpu 7 44 #[true, true, true, true, true, true, true, true, false, false, false, false, false] HT_ ?_
     refine zpu 8 52 #[true, true, true, true, true, true, true, true, true, false, false, false, false] HT_ ?_
     refine zpu 9 53 #[true, true, true, true, true, true, true, true, true, true, false, false, false] HT_ ?_
     refine zon 10 #[true, true, true, true, true, true, true, true, true, true, true, false, false] HT_ (fun K hK => ?_)
     refine box_step ?hg (N := 11) ?hd (cs := #[.int .i64 0, .int .i64 0, .slice none 0 0]) (t := 24) ?hr ?_; (case hd => rfl); (case hg => rfl); (case hr => first | (go_simp; done) | (go_simp; rfl))
     intro bl hg w7 hbox hb
     have I7 := Aside0.mk (I6.out.box hg hb)
     have E7 := Aside0.mk (blk_below E6.out hb)
     have R7 := Aside0.mk (Kd.R_below (Kd.R_elderB R6.out bl (Nat.le_of_eq hg.symm)) hb)
     have Y7 := Aside0.mk hbox
     have NL := Aside0.mk (show g ≠ bl by rw [hg]; exact Nat.ne_of_lt (blk_lt I6.out.c))
     have NB := Aside0.mk (show be ≠ bl by rw [hg]; exact Nat.ne_of_lt (blk_lt E6.out))
     have GL := Aside0.mk (show w.heap.size ≤ bl by rw [hg]; exact I6.out.kp.1)
     have GL0 := Aside0.mk (show w0.heap.size ≤ bl by rw [hg]; exact I6.out.bl.size)
     clear hbox hb hg I6 E6 R6
     refine hK.out _ _ ⟨(blk_cell I7.out.c 3).trans rfl, (blk_cell I7.out.c 4).trans rfl, (blk_cell I7.out.c 5).trans rfl, (blk_cell E7.out 0).trans rfl, (blk_cell E7.out 1).trans rfl, (blk_cell E7.out 2).trans rfl⟩ (fun hHeld => ?_)
     clear hK K
     refine znm 11 ?_
     exact norm_ (by first | (simp only [putAll, Act.put, List.setIfInBounds_toArray, List.set_cons_zero, List.set_cons_succ]; done) | (simp only [putAll, Act.put, List.setIfInBounds_toArray, List.set_cons_zero, List.set_cons_succ]; rfl)) (hCont (vs, bl) _ ⟨hHeld, I7.out, Kd.R_mono R7.out (fun _ q => ⟨q.1.2, q.2⟩), Y7.out, GL.out, GL0.out, NL.out, NB.out⟩)
    ·skip
     refine box_step ?hg (N := 11) ?hd (cs := #[.int .i64 0, .int .i64 0, .slice none 0 0]) (t := 24) ?hr ?_; (case hd => rfl); (case hg => rfl); (case hr => first | (go_simp; done) | (go_simp; rfl))
     intro bl hg w7 hbox hb
     have I6 := Aside0.mk (I5.out.box hg hb)
     have E6 := Aside0.mk (blk_below E5.out hb)
     have Y6 := Aside0.mk hbox
     have NL := Aside0.mk (show g ≠ bl by rw [hg]; exact Nat.ne_of_lt (blk_lt I5.out.c))
     have NB := Aside0.mk (show be ≠ bl by rw [hg]; exact Nat.ne_of_lt (blk_lt E5.out))
     have GL := Aside0.mk (show w.heap.size ≤ bl by rw [hg]; exact I5.out.kp.1)
     have GL0 := Aside0.mk (show w0.heap.size ≤ bl by rw [hg]; exact I5.out.bl.size)
     clear hbox hb hg I5 E5
     refine hK.out _ _ ⟨(blk_cell I6.out.c 3).trans rfl, (blk_cell I6.out.c 4).trans rfl, (blk_cell I6.out.c 5).trans rfl, (blk_cell E6.out 0).trans rfl, (blk_cell E6.out 1).trans rfl, (blk_cell E6.out 2).trans rfl⟩ (fun hHeld => ?_)
     clear hK K
     refine znm 11 ?_
     refine zon 6 #[true, true, true, true, true, true, true, false, false, false, true, false, false] HT_ (fun K hK => ?_)
     refine goes_ Try.func30 (by kernel_rfl) rfl #[.agg #[.int .i64 a, .int .i64 b, .slice A_ l.length c_], .int .i64 e1, .agg #[.int .i64 e2, .int .i64 e3, .string e4]] (by rfl) rfl rfl (by (try simp only [List.map_toArray, List.map_cons, List.map_nil]); first | done | rfl) ?_
     with_reducible refine (spec_LogPut.calls k a b A_ c_ l e1 e2 e3 e4 s1 s2 s3 s4 _ (Kd.R_reads' I6.out.r).2.2 (Kd.R_reads' I6.out.r).2.1 AL.out).mono ?_
     rintro e_ w6 ⟨vs, rfl, ho0, hb⟩
     refine ⟨_, rfl, ?_⟩
     have I7 := Aside0.mk (I6.out.below hb)
     have E7 := Aside0.mk (blk_below E6.out hb)
     have Y7 := Aside0.mk (blk_below Y6.out hb)
     have R7 := Aside0.mk (Kd.R_lower (Kd.R_types (Kd.R_types ho0 I7.out.c (by decide)) Y7.out (by decide)) I6.out.bl.size)
     clear ho0 hb I6 E6 Y6
     refine hK.out _ _ ⟨(blk_cell I7.out.c 3).trans rfl, (blk_cell I7.out.c 4).trans rfl, (blk_cell I7.out.c 5).trans rfl, (blk_cell E7.out 0).trans rfl, (blk_cell E7.out 1).trans rfl, (blk_cell E7.out 2).trans rfl⟩ (fun hHeld => ?_)
     clear hK K
     refine znm 51 ?_
     refine zpu 7 44 #[true, true, true, true, true, true, true, true, false, false, true, false, false] HT_ ?_
     refine zpu 8 52 #[true, true, true, true, true, true, true, true, true, false, true, false, false] HT_ ?_
     refine zpu 9 53 #[true, true, true, true, true, true, true, true, true, true, true, false, false] HT_ ?_
     exact norm_ (by first | (simp only [putAll, Act.put, List.setIfInBounds_toArray, List.set_cons_zero, List.set_cons_succ]; done) | (simp only [putAll, Act.put, List.setIfInBounds_toArray, List.set_cons_zero, List.set_cons_succ]; rfl)) (hCont (vs, bl) _ ⟨hHeld, I7.out, Kd.R_mono R7.out (fun _ q => ⟨q.1.2, q.2⟩), Y7.out, GL.out, GL0.out, NL.out, NB.out⟩)
   rintro ⟨vs, bl⟩ w8 ⟨hHeld, I8_, R8_, Y8_, GL_, GL0_, NL_, NB_⟩
   have I8 := Aside0.mk I8_
   have R8 := Aside0.mk R8_
   have Y8 := Aside0.mk Y8_
   have GL := Aside0.mk GL_
   have GL0 := Aside0.mk GL0_
   have NL := Aside0.mk NL_
   have NB := Aside0.mk NB_
   clear I8_ R8_ Y8_ GL_ GL0_ NL_ NB_ E5 I5
   obtain ⟨As, cs_, evs⟩ := Kd.R_slice R8.out
   simp only at evs
   subst evs
   refine norm_ (a' := ?_) ?_ ?_
   rotate_left
   ·simp only [putAll, Act.put, List.setIfInBounds_toArray, List.set_cons_zero, List.set_cons_succ]
    rfl
   have d0 := blk_cell Y8.out 0
   have d1 := blk_cell Y8.out 1
   have d2 := blk_cell Y8.out 2
   simp only [List.getElem?_toArray, List.getElem?_cons_zero, List.getElem?_cons_succ] at d0 d1 d2
   have h0 := blk_frozen Y8.out 0
   have h1 := blk_frozen Y8.out 1
   have h2 := blk_frozen Y8.out 2
   refine zon 11 #[true, true, true, true, true, true, true, true, true, true, true, true, false] HT_ (fun K hK => ?_)
   refine skip_ (w1 := ?_) (by rfl) rfl ?_ ?_
   rotate_left
   ·go_simp
    rfl
   have I9 := Aside0.mk (((I8.out.far (fun _ q => q.2) NL.out GL.out GL0.out 0 (.int .i64 s1)).far (fun _ q => q.2) NL.out GL.out GL0.out 1 (.int .i64 s2)).far (fun _ q => q.2) NL.out GL.out GL0.out 2 (.slice As s3.length cs_))
   have R9 := Aside0.mk (Kd.R_far (p := ⟨bl, 2, none⟩) (Kd.R_far (p := ⟨bl, 1, none⟩) (Kd.R_far (p := ⟨bl, 0, none⟩) R8.out (fun _ q => q.2) (.int .i64 s1)) (fun _ q => q.2) (.int .i64 s2)) (fun _ q => q.2) (.slice As s3.length cs_))
   have Y9 := Aside0.mk (blk_put (blk_put (blk_put Y8.out 0 (.int .i64 s1) rfl) 1 (.int .i64 s2) rfl) 2 (.slice As s3.length cs_) rfl)
   clear d0 d1 d2 h0 h1 h2 I8 R8 Y8
   refine hK.out _ _ ⟨(cell_far (p := ⟨bl, 2, none⟩) NL.out _).trans ((cell_far (p := ⟨bl, 1, none⟩) NL.out _).trans ((cell_far (p := ⟨bl, 0, none⟩) NL.out _).trans hHeld.1)), (cell_far (p := ⟨bl, 2, none⟩) NL.out _).trans ((cell_far (p := ⟨bl, 1, none⟩) NL.out _).trans ((cell_far (p := ⟨bl, 0, none⟩) NL.out _).trans hHeld.2.1)), (cell_far (p := ⟨bl, 2, none⟩) NL.out _).trans ((cell_far (p := ⟨bl, 1, none⟩) NL.out _).trans ((cell_far (p := ⟨bl, 0, none⟩) NL.out _).trans hHeld.2.2.1)), (cell_far (p := ⟨bl, 2, none⟩) NB.out _).trans ((cell_far (p := ⟨bl, 1, none⟩) NB.out _).trans ((cell_far (p := ⟨bl, 0, none⟩) NB.out _).trans hHeld.2.2.2.1)), (cell_far (p := ⟨bl, 2, none⟩) NB.out _).trans ((cell_far (p := ⟨bl, 1, none⟩) NB.out _).trans ((cell_far (p := ⟨bl, 0, none⟩) NB.out _).trans hHeld.2.2.2.2.1)), (cell_far (p := ⟨bl, 2, none⟩) NB.out _).trans ((cell_far (p := ⟨bl, 1, none⟩) NB.out _).trans ((cell_far (p := ⟨bl, 0, none⟩) NB.out _).trans hHeld.2.2.2.2.2))⟩ (fun hHeld => ?_)
   clear hK K
   generalize (((w8.setCell ⟨bl, 0, none⟩ (.int .i64 s1)).setCell ⟨bl, 1, none⟩ (.int .i64 s2)).setCell ⟨bl, 2, none⟩ (.slice As s3.length cs_)) = w9 at I9 R9 Y9 hHeld ⊢
   refine zpu 12 12 #[true, true, true, true, true, true, true, true, true, true, true, true, true] HT_ ?_
   refine zdn HT_ ?_
   clear HT_ HW_ hHeld
   have c3 := blk_cell I9.out.c 3
   have c4 := blk_cell I9.out.c 4
   have c5 := blk_cell I9.out.c 5
   have d0 := blk_cell Y9.out 0
   have d1 := blk_cell Y9.out 1
   have d2 := blk_cell Y9.out 2
   simp only [List.getElem?_toArray, List.getElem?_cons_zero, List.getElem?_cons_succ] at c3 c4 c5 d0 d1 d2
   have f3 := blk_frozen I9.out.c 3
   have f4 := blk_frozen I9.out.c 4
   have f5 := blk_frozen I9.out.c 5
   cases s4 with
   | false =>
    obtain ⟨rfl, rfl, rfl, rfl, rfl, rfl⟩ := NO.out (by have h_ := H.out; simpa using h_)
    clear H NO
    go_wp2
    go_ret
    exact ⟨rfl, FIN.out I9.out⟩
   | true =>
    have H1 := H.out
    simp only [if_true, Option.some.injEq, Prod.mk.injEq] at H1
    obtain ⟨rfl, rfl, rfl, rfl, rfl, rfl⟩ := H1
    clear H NO
    go_wp2
    go_ret
    exact ⟨rfl, FIN.out (((I9.out.put3 s1).put4 s2).put5 (Kd.R_far (p := ⟨g, 4, none⟩) (Kd.R_far (p := ⟨g, 3, none⟩) R9.out (fun _ q => q.1) (.int .i64 s1)) (fun _ q => q.1) (.int .i64 s2)) (fun _ q => q.1))⟩

/-! ### spec_ReadJournal: function 4, by hand -/ -- rounds making
/-- What stands while ReadJournal goes on: the answer (nothing yet) in block br, the journal in block g, the row of the records. -/
structure spec_ReadJournal.Inv (w W : World) (br g : Nat) (A : Option Addr) (c : Nat) (rs : List ByteArray) (cs : Array Value) : Prop where
 rb : W.heap[br]? = some (.cells #[.int .i64 0, .int .i64 0, .int .i64 0, .int .i64 0, .int .i64 0, .slice none 0 0] 26 (0, 0))
 jb : W.heap[g]? = some (.cells cs 26 (0, 0))
 rl : Kd.R Kd.string 9 W w.heap.size (fun k => k ≠ br ∧ k ≠ g) (.slice A rs.length c) rs
 bl : Below w.heap.size w W
 gr : w.heap.size ≤ br
 gg : w.heap.size ≤ g
 ne : br ≠ g
section
variable {w W W' : World} {br g c : Nat} {A : Option Addr} {rs : List ByteArray} {cs cs' : Array Value}
theorem spec_ReadJournal.Inv.below (h : spec_ReadJournal.Inv w W br g A c rs cs) (hb : Below W.heap.size W W') : spec_ReadJournal.Inv w W' br g A c rs cs := ⟨blk_below h.rb hb, blk_below h.jb hb, Kd.R_below h.rl hb, below_step h.bl hb, h.gr, h.gg, h.ne⟩
theorem spec_ReadJournal.Inv.put (h : spec_ReadJournal.Inv w W br g A c rs cs) (j : Nat) (x : Value) (e : cs.setIfInBounds j x = cs') : spec_ReadJournal.Inv w (W.setCell ⟨g, j, none⟩ x) br g A c rs cs' := ⟨blk_far h.rb h.ne _, blk_put h.jb j _ e, Kd.R_far h.rl (fun _ q => q.2) x, below_set h.bl h.gg, h.gr, h.gg, h.ne⟩
theorem spec_ReadJournal.Inv.more (h : spec_ReadJournal.Inv w W br g A c rs cs) (hj : W'.heap[g]? = some (.cells cs' 26 (0, 0))) (hk : KeepBut W W' g none) (hb : Below w.heap.size w W') : spec_ReadJournal.Inv w W' br g A c rs cs' := ⟨hk.blk h.rb h.ne (by simp), hj, Kd.R_keep h.rl hk (fun _ q => q.2), hb, h.gr, h.gg, h.ne⟩
/-- The answer is written: what it is, what it leads to. -/
theorem spec_ReadJournal.Inv.fin (h : spec_ReadJournal.Inv w W br g A c rs cs) {a b d e f : Int} {u : Value} {l : List (S56)} (r : Kd.R k56 56 W w.heap.size (fun _ => True) u l) : Kd.R k56 56 ((((((W.setCell ⟨br, 0, none⟩ (.int .i64 a)).setCell ⟨br, 1, none⟩ (.int .i64 b)).setCell ⟨br, 2, none⟩ (.int .i64 d)).setCell ⟨br, 3, none⟩ (.int .i64 e)).setCell ⟨br, 4, none⟩ (.int .i64 f)).setCell ⟨br, 5, none⟩ u) w.heap.size (fun _ => True) u l ∧ Below w.heap.size w ((((((W.setCell ⟨br, 0, none⟩ (.int .i64 a)).setCell ⟨br, 1, none⟩ (.int .i64 b)).setCell ⟨br, 2, none⟩ (.int .i64 d)).setCell ⟨br, 3, none⟩ (.int .i64 e)).setCell ⟨br, 4, none⟩ (.int .i64 f)).setCell ⟨br, 5, none⟩ u) :=
 ⟨Kd.R_mono (Kd.R_far (p := ⟨br, 5, none⟩) (Kd.R_far (p := ⟨br, 4, none⟩) (Kd.R_far (p := ⟨br, 3, none⟩) (Kd.R_far (p := ⟨br, 2, none⟩) (Kd.R_far (p := ⟨br, 1, none⟩) (Kd.R_far (p := ⟨br, 0, none⟩) (Kd.R_types r h.rb (by decide)) (fun _ q => q.2) _) (fun _ q => q.2) _) (fun _ q => q.2) _) (fun _ q => q.2) _) (fun _ q => q.2) _) (fun _ q => q.2) _) (fun _ _ => trivial),
  below_set (below_set (below_set (below_set (below_set (below_set h.bl h.gr) h.gr) h.gr) h.gr) h.gr) h.gr⟩
end
def spec_ReadJournal.l0 : Nat → Int → List ByteArray → Int → Int → Int → Int → Int → Int → List (S56) → Option (Int × Int × Int × Int × Int × (List (S56)) × Int × Bool)
 | 0, _, _, _, _, _, _, _, _, _ => none
 | k + 1, d, rs, i, n, t, v, a, b, l => if i < (rs.length : Int) then (if 0 ≤ i then (if i > 0 then ((spec_l07More.f k t v a b l (rdOf ByteArray.empty rs i)).bind fun m => (if m.2.2.2.2.2 = true then ((spec_Frame.f k (rdOf ByteArray.empty rs i)).bind fun fr => (spec_ReadJournal.l0 k (wrap64 (d + (fr.1.size : Int))) rs (wrap64 (i + 1)) n m.1 m.2.1 m.2.2.1 m.2.2.2.1 m.2.2.2.2.1)) else some (n, m.1, m.2.1, m.2.2.1, m.2.2.2.1, m.2.2.2.2.1, d, true)))
   else ((spec_Frame.f k (rdOf ByteArray.empty rs i)).bind fun fr => (spec_ReadJournal.l0 k (wrap64 (d + (fr.1.size : Int))) rs (wrap64 (i + 1)) n t v a b l))) else none) else some (n, t, v, a, b, l, d, true)
def spec_ReadJournal.f (k : Nat) (a0 : Int) (a1 : ByteArray) : Option (Int × Int × Int × Int × Int × (List (S56)) × Int × Bool) :=
 (spec_Unframe.f k a1).bind fun u => ((spec_l01In.f a0 0 999).bind fun q => (if q = true then (if 0 < (u.1.length : Int) then ((spec_l07Two.f k (rdOf ByteArray.empty u.1 0) (⟨#[66]⟩ : ByteArray)).bind fun p => (if p.2.2 = true then ((spec_LogOk.f k p.1 p.2.1 ([] : List (S56))).bind fun o => (if o = true then (spec_ReadJournal.l0 k 0 u.1 0 a0 0 0 p.1 p.2.1 ([] : List (S56))) else some (0, 0, 0, 0, 0, ([] : List (S56)), 0, false))) else some (0, 0, 0, 0, 0, ([] : List (S56)), 0, false))) else some (0, 0, 0, 0, 0, ([] : List (S56)), 0, false)) else some (0, 0, 0, 0, 0, ([] : List (S56)), 0, false)))
theorem spec_ReadJournal.mono_l : ∀ k, (∀ y0 y1 y2 y3 y4 y5 y6 y7 y8, LeO (spec_ReadJournal.l0 k y0 y1 y2 y3 y4 y5 y6 y7 y8) (spec_ReadJournal.l0 (k + 1) y0 y1 y2 y3 y4 y5 y6 y7 y8))
 | 0 => fun _ _ _ _ _ _ _ _ _ r h => by simp [spec_ReadJournal.l0] at h
 | k + 1 => by
  have ih0 := spec_ReadJournal.mono_l k
  intro y0 y1 y2 y3 y4 y5 y6 y7 y8
  unfold spec_ReadJournal.l0
  repeat' first
   | (with_reducible exact ih0 _ _ _ _ _ _ _ _ _)
   | (with_reducible exact spec_l07More.mono _ _ _ _ _ _ _)
   | (with_reducible exact spec_Frame.mono _ _)
   | (with_reducible exact LeO.refl _)
   | (with_reducible exact LeO.none _)
   | (with_reducible refine LeO.ite ?_ ?_)
   | (with_reducible refine LeO.bind ?_ (fun _ => ?_))
theorem spec_ReadJournal.mono : ∀ a0 a1 k, LeO (spec_ReadJournal.f k a0 a1) (spec_ReadJournal.f (k + 1) a0 a1) := by
 intro a0 a1 k
 have ih0 := spec_ReadJournal.mono_l k
 unfold spec_ReadJournal.f
 repeat' first
   | (with_reducible exact ih0 _ _ _ _ _ _ _ _ _)
   | (with_reducible exact spec_Unframe.mono _ _)
   | (with_reducible exact spec_l07Two.mono _ _ _)
   | (with_reducible exact spec_LogOk.mono _ _ _ _)
   | (with_reducible exact LeO.refl _)
   | (with_reducible exact LeO.none _)
   | (with_reducible refine LeO.ite ?_ ?_)
   | (with_reducible refine LeO.bind ?_ (fun _ => ?_))
set_option maxHeartbeats 8000000 in
set_option maxRecDepth 100000 in
theorem spec_ReadJournal.calls (k : Nat) (a0 : Int) (a1 : ByteArray) (r1 : Int) (r2 : Int) (r3 : Int) (r4 : Int) (r5 : Int) (r6 : List (S56)) (r7 : Int) (r8 : Bool) (w : World) (h : spec_ReadJournal.f k a0 a1 = some (r1, r2, r3, r4, r5, r6, r7, r8)) :
  Calls Try.prog 4 #[.int .i64 a0, .string a1] w fun e w' => ∃ v5_ : Value, e = .returned (.tuple #[.agg #[.int .i64 r1, .int .i64 r2, .int .i64 r3, .int .i64 r4, .int .i64 r5, v5_], .int .i64 r7, .bool r8]) ∧ Kd.R k56 56 w' w.heap.size (fun _ => True) v5_ r6 ∧ Below w.heap.size w w' := by
 unfold spec_ReadJournal.f at h
 obtain ⟨⟨us, un⟩, hu, h⟩ := Option.bind_eq_some_iff.mp h
 obtain ⟨q, hq, h⟩ := Option.bind_eq_some_iff.mp h
 simp only at hu hq h
 have AU := Aside0.mk hu
 have AQ := Aside0.mk hq
 have H := Aside0.mk h
 clear hu hq h
 have no_ : (some (0, 0, 0, 0, 0, ([] : List (S56)), 0, false) = some (r1, r2, r3, r4, r5, r6, r7, r8)) → r1 = 0 ∧ r2 = 0 ∧ r3 = 0 ∧ r4 = 0 ∧ r5 = 0 ∧ r6 = [] ∧ r7 = 0 ∧ r8 = false := fun h => by simp only [Option.some.injEq, Prod.mk.injEq] at h; exact ⟨h.1.symm, h.2.1.symm, h.2.2.1.symm, h.2.2.2.1.symm, h.2.2.2.2.1.symm, h.2.2.2.2.2.1.symm, h.2.2.2.2.2.2.1.symm, h.2.2.2.2.2.2.2.symm⟩
 have NO := Aside0.mk no_
 clear no_
 go_enter Try.func4, Try.ntmps4
 go_wp2_with ((with_reducible refine gate_dst (N := 4) rfl ?_); refine box_event rfl (N := 4) rfl (cs := #[.int .i64 0, .int .i64 0, .int .i64 0, .int .i64 0, .int .i64 0, .slice none 0 0]) (t := 26) zrun ?_; intro br hg w1 hbox hb; have Y1 := Aside0.mk hbox; have B1 := Aside0.mk (below_step (Below.refl _ _) hb); have G1 := Aside0.mk (show w.heap.size ≤ br from Nat.le_of_eq hg.symm); clear hbox hb hg)
 refine (spec_Unframe.calls k a1 us un _ AU.out).mono ?_
 rintro e_ w2 ⟨vl, rfl, hr, hb⟩
 obtain ⟨AL, cL, rfl⟩ := Kd.R_slice hr
 have Y2 := Aside0.mk (blk_below Y1.out hb)
 have L2 := Aside0.mk (Kd.R_lower (Kd.R_types hr Y2.out (by decide)) B1.out.size)
 have B2 := Aside0.mk (below_step B1.out hb)
 clear hr hb Y1 B1 AU
 go_wp2_with fail
 (with_reducible refine (spec_l01In.calls a0 0 999 q _ AQ.out).mono ?_)
 rintro e_ w3 ⟨rfl, nq, hq_⟩
 have hb : Below w2.heap.size w2 w3 := (by first | (rw [hq_]; exact pw_below_drewN (Below.refl _ _) nq) | (rw [← hq_]; exact pw_below_drewN (Below.refl _ _) nq))
 have Y3 := Aside0.mk (blk_below Y2.out hb)
 have L3 := Aside0.mk (Kd.R_below L2.out hb)
 have B3 := Aside0.mk (below_step B2.out hb)
 clear hb hq_ Y2 L2 B2 AQ
 cases q with
 | false =>
  obtain ⟨rfl, rfl, rfl, rfl, rfl, rfl, rfl, rfl⟩ := NO.out (by have h_ := H.out; simpa using h_)
  clear NO H L3
  have d0 := blk_cell Y3.out 0
  have d1 := blk_cell Y3.out 1
  have d2 := blk_cell Y3.out 2
  have d3 := blk_cell Y3.out 3
  have d4 := blk_cell Y3.out 4
  have d5 := blk_cell Y3.out 5
  simp only [List.getElem?_toArray, List.getElem?_cons_zero, List.getElem?_cons_succ] at d0 d1 d2 d3 d4 d5
  have z0 := blk_frozen Y3.out 0
  have z1 := blk_frozen Y3.out 1
  have z2 := blk_frozen Y3.out 2
  have z3 := blk_frozen Y3.out 3
  have z4 := blk_frozen Y3.out 4
  have z5 := blk_frozen Y3.out 5
  go_wp2
  refine bodyPost_ret (results_ctt rfl _ _ br 26 #[.int .i64 0, .int .i64 0, .int .i64 0, .int .i64 0, .int .i64 0, .slice none 0 0] (0, 0) _ rfl (blk_put (blk_put (blk_put (blk_put (blk_put (blk_put Y3.out 0 _ rfl) 1 _ rfl) 2 _ rfl) 3 _ rfl) 4 _ rfl) 5 _ rfl) Try.underlying26 rfl (by kernel_rfl)) rfl ?_
  exact ⟨_, rfl, Kd.R_nil _ _ _ _ _, below_set (below_set (below_set (below_set (below_set (below_set (B3.out) G1.out) G1.out) G1.out) G1.out) G1.out) G1.out⟩
 | true =>
  have H1 := H.out
  simp only [if_true] at H1
  clear H
  by_cases c0 : 0 < (us.length : Int)
  ·rw [if_pos c0] at H1
   have n0 : ((us.length : Int) == 0) = false := beq_eq_false_iff_ne.2 (by omega)
   have n1 : decide ((0 : Int) < (us.length : Int)) = true := decide_eq_true c0
   have n2 : decide (0 < us.length) = true := decide_eq_true (by omega)
   obtain ⟨⟨x1, x2, x3⟩, hp, H2⟩ := Option.bind_eq_some_iff.mp H1
   simp only at hp H2
   have AP := Aside0.mk hp
   have H := Aside0.mk H2
   clear hp H1 H2
   have c0b := Aside0.mk c0
   obtain ⟨ad, ea, hx⟩ := Kd.at_string (Kd.R_reads' L3.out).2.2 0 (by omega) c0
   cases ea
   have qi : (0 < us.length) = True := eq_true (by omega)
   (try rw [show ((0 : Int)).toNat = 0 from rfl] at hx)
   (try rw [Addr.add_zero'] at hx)
   have p0_ : ((0 : Int) ≤ 0) = True := eq_true (by omega)
   have q0_ : ((0 : Int) < (us.length : Int)) = True := eq_true c0
   clear c0
   go_wp2_with fail
   refine (spec_l07Two.calls k (rdOf ByteArray.empty us 0) (⟨#[66]⟩ : ByteArray) x1 x2 x3 _ AP.out).mono ?_
   rintro e_ w4 ⟨rfl, hb⟩
   have Y4 := Aside0.mk (blk_below Y3.out hb)
   have L4 := Aside0.mk (Kd.R_below L3.out hb)
   have B4 := Aside0.mk (below_step B3.out hb)
   clear hb Y3 L3 B3 AP hx qi p0_ q0_ n0 n1 n2
   cases x3 with
   | false =>
    obtain ⟨rfl, rfl, rfl, rfl, rfl, rfl, rfl, rfl⟩ := NO.out (by have h_ := H.out; simpa using h_)
    clear NO H
    go_wp2_with ((with_reducible refine gate_dst (N := 12) rfl ?_); refine box_event rfl (N := 12) rfl (cs := #[.int .i64 0, .int .i64 0, .int .i64 0, .int .i64 0, .int .i64 0, .slice none 0 0]) (t := 26) zrun ?_; intro g hg w5 hbox hb; have J5 := Aside0.mk (show spec_ReadJournal.Inv w w5 br g (some ad) cL us #[.int .i64 0, .int .i64 0, .int .i64 0, .int .i64 0, .int .i64 0, .slice none 0 0] from ⟨blk_below Y4.out hb, hbox, Kd.R_mono (Kd.R_types (Kd.R_below L4.out hb) hbox (by decide)) (fun _ q => ⟨q.1.2, q.2⟩), below_step B4.out hb, G1.out, by rw [hg]; exact B4.out.size, by rw [hg]; exact Nat.ne_of_lt (blk_lt Y4.out)⟩); clear hbox hb hg Y4 L4 B4; have c0 := blk_cell J5.out.jb 0; have c1 := blk_cell J5.out.jb 1; have c2 := blk_cell J5.out.jb 2; have c3 := blk_cell J5.out.jb 3; have c4 := blk_cell J5.out.jb 4; have c5 := blk_cell J5.out.jb 5; simp only [List.getElem?_toArray, List.getElem?_cons_zero, List.getElem?_cons_succ] at c0 c1 c2 c3 c4 c5; have f0 := blk_frozen J5.out.jb 0; have f1 := blk_frozen J5.out.jb 1; have f2 := blk_frozen J5.out.jb 2; have f3 := blk_frozen J5.out.jb 3; have f4 := blk_frozen J5.out.jb 4; have f5 := blk_frozen J5.out.jb 5; have d0 := blk_cell J5.out.rb 0; have d1 := blk_cell J5.out.rb 1; have d2 := blk_cell J5.out.rb 2; have d3 := blk_cell J5.out.rb 3; have d4 := blk_cell J5.out.rb 4; have d5 := blk_cell J5.out.rb 5; simp only [List.getElem?_toArray, List.getElem?_cons_zero, List.getElem?_cons_succ] at d0 d1 d2 d3 d4 d5; have z0 := blk_frozen J5.out.rb 0; have z1 := blk_frozen J5.out.rb 1; have z2 := blk_frozen J5.out.rb 2; have z3 := blk_frozen J5.out.rb 3; have z4 := blk_frozen J5.out.rb 4; have z5 := blk_frozen J5.out.rb 5; have ne_ := J5.out.ne; have ne2_ := Ne.symm ne_)
    have J6 := Aside0.mk ((((((J5.out.put 0 (.int .i64 a0) rfl).put 1 (.int .i64 0) rfl).put 2 (.int .i64 0) rfl).put 3 (.int .i64 x1) rfl).put 4 (.int .i64 x2) rfl).put 5 (.slice none 0 0) rfl)
    refine bodyPost_ret (results_ctt rfl _ _ br 26 #[.int .i64 0, .int .i64 0, .int .i64 0, .int .i64 0, .int .i64 0, .slice none 0 0] (0, 0) _ rfl (blk_put (blk_put (blk_put (blk_put (blk_put (blk_put J6.out.rb 0 _ rfl) 1 _ rfl) 2 _ rfl) 3 _ rfl) 4 _ rfl) 5 _ rfl) Try.underlying26 rfl (by kernel_rfl)) rfl ?_
    exact ⟨_, rfl, Kd.R_nil _ _ _ _ _, below_set (below_set (below_set (below_set (below_set (below_set (J6.out.bl) J6.out.gr) J6.out.gr) J6.out.gr) J6.out.gr) J6.out.gr) J6.out.gr⟩
   | true =>
    go_wp2_with ((with_reducible refine gate_dst (N := 12) rfl ?_); refine box_event rfl (N := 12) rfl (cs := #[.int .i64 0, .int .i64 0, .int .i64 0, .int .i64 0, .int .i64 0, .slice none 0 0]) (t := 26) zrun ?_; intro g hg w5 hbox hb; have J5 := Aside0.mk (show spec_ReadJournal.Inv w w5 br g (some ad) cL us #[.int .i64 0, .int .i64 0, .int .i64 0, .int .i64 0, .int .i64 0, .slice none 0 0] from ⟨blk_below Y4.out hb, hbox, Kd.R_mono (Kd.R_types (Kd.R_below L4.out hb) hbox (by decide)) (fun _ q => ⟨q.1.2, q.2⟩), below_step B4.out hb, G1.out, by rw [hg]; exact B4.out.size, by rw [hg]; exact Nat.ne_of_lt (blk_lt Y4.out)⟩); clear hbox hb hg Y4 L4 B4; have c0 := blk_cell J5.out.jb 0; have c1 := blk_cell J5.out.jb 1; have c2 := blk_cell J5.out.jb 2; have c3 := blk_cell J5.out.jb 3; have c4 := blk_cell J5.out.jb 4; have c5 := blk_cell J5.out.jb 5; simp only [List.getElem?_toArray, List.getElem?_cons_zero, List.getElem?_cons_succ] at c0 c1 c2 c3 c4 c5; have f0 := blk_frozen J5.out.jb 0; have f1 := blk_frozen J5.out.jb 1; have f2 := blk_frozen J5.out.jb 2; have f3 := blk_frozen J5.out.jb 3; have f4 := blk_frozen J5.out.jb 4; have f5 := blk_frozen J5.out.jb 5; have d0 := blk_cell J5.out.rb 0; have d1 := blk_cell J5.out.rb 1; have d2 := blk_cell J5.out.rb 2; have d3 := blk_cell J5.out.rb 3; have d4 := blk_cell J5.out.rb 4; have d5 := blk_cell J5.out.rb 5; simp only [List.getElem?_toArray, List.getElem?_cons_zero, List.getElem?_cons_succ] at d0 d1 d2 d3 d4 d5; have z0 := blk_frozen J5.out.rb 0; have z1 := blk_frozen J5.out.rb 1; have z2 := blk_frozen J5.out.rb 2; have z3 := blk_frozen J5.out.rb 3; have z4 := blk_frozen J5.out.rb 4; have z5 := blk_frozen J5.out.rb 5; have ne_ := J5.out.ne; have ne2_ := Ne.symm ne_)
    have J6 := Aside0.mk ((((((J5.out.put 0 (.int .i64 a0) rfl).put 1 (.int .i64 0) rfl).put 2 (.int .i64 0) rfl).put 3 (.int .i64 x1) rfl).put 4 (.int .i64 x2) rfl).put 5 (.slice none 0 0) rfl)
    clear J5 c0 c1 c2 c3 c4 c5 f0 f1 f2 f3 f4 f5 d0 d1 d2 d3 d4 d5 z0 z1 z2 z3 z4 z5 ne_ ne2_
    have H1 := H.out
    simp only [if_true] at H1
    obtain ⟨o, ho, H2⟩ := Option.bind_eq_some_iff.mp H1
    have AO := Aside0.mk ho
    have H3 := Aside0.mk H2
    clear H H1 ho H2
    refine (spec_LogOk.calls k x1 x2 none 0 ([] : List (S56)) o _ (Kd.R_reads' (Kd.R_nil k56 56 _ 0 (fun _ => True))).2.2 (Nat.le_refl _) AO.out).mono ?_
    rintro e_ w7 ⟨rfl, hb⟩
    have J7 := Aside0.mk (J6.out.below hb)
    clear hb J6 AO
    cases o with
    | false =>
     obtain ⟨rfl, rfl, rfl, rfl, rfl, rfl, rfl, rfl⟩ := NO.out (by have h_ := H3.out; simpa using h_)
     clear NO H3
     have d0 := blk_cell J7.out.rb 0
     have d1 := blk_cell J7.out.rb 1
     have d2 := blk_cell J7.out.rb 2
     have d3 := blk_cell J7.out.rb 3
     have d4 := blk_cell J7.out.rb 4
     have d5 := blk_cell J7.out.rb 5
     simp only [List.getElem?_toArray, List.getElem?_cons_zero, List.getElem?_cons_succ] at d0 d1 d2 d3 d4 d5
     have z0 := blk_frozen J7.out.rb 0
     have z1 := blk_frozen J7.out.rb 1
     have z2 := blk_frozen J7.out.rb 2
     have z3 := blk_frozen J7.out.rb 3
     have z4 := blk_frozen J7.out.rb 4
     have z5 := blk_frozen J7.out.rb 5
     go_wp2
     refine bodyPost_ret (results_ctt rfl _ _ br 26 #[.int .i64 0, .int .i64 0, .int .i64 0, .int .i64 0, .int .i64 0, .slice none 0 0] (0, 0) _ rfl (blk_put (blk_put (blk_put (blk_put (blk_put (blk_put J7.out.rb 0 _ rfl) 1 _ rfl) 2 _ rfl) 3 _ rfl) 4 _ rfl) 5 _ rfl) Try.underlying26 rfl (by kernel_rfl)) rfl ?_
     exact ⟨_, rfl, Kd.R_nil _ _ _ _ _, below_set (below_set (below_set (below_set (below_set (below_set (J7.out.bl) J7.out.gr) J7.out.gr) J7.out.gr) J7.out.gr) J7.out.gr) J7.out.gr⟩
    | true =>
     have H' := Aside0.mk (show spec_ReadJournal.l0 k 0 us 0 a0 0 0 x1 x2 ([] : List (S56)) = some (r1, r2, r3, r4, r5, r6, r7, r8) by have h_ := H3.out; simpa using h_)
     clear NO H3
     go_wp2
     go_loopg [13, 14] k (fun kq v13 v14 w' => ∃ (d i n t v a b : Int) (l : List (S56)) (u : Value), v13 = .int .i64 d ∧ v14 = .int .i64 i ∧ Aside0 (spec_ReadJournal.l0 kq d us i n t v a b l = some (r1, r2, r3, r4, r5, r6, r7, r8)) ∧ Aside0 (kq ≤ k) ∧ Aside0 (spec_ReadJournal.Inv w w' br g (some ad) cL us #[.int .i64 n, .int .i64 t, .int .i64 v, .int .i64 a, .int .i64 b, u]) ∧ Aside0 (Kd.R k56 56 w' w.heap.size (fun _ => True) u l))
     case atStart => exact ⟨0, 0, a0, 0, 0, x1, x2, ([] : List (S56)), .slice none 0 0, (by first | rfl | (simp; done)), (by first | rfl | (simp; done)), H', ⟨Nat.le_refl _⟩, J7, ⟨Kd.R_nil _ _ _ _ _⟩⟩
     case round =>
      clear H' J7 c0b
      obtain ⟨d, i, n, t, v, a, b, l, u, rfl, rfl, HA, HK, JI, RJ⟩ := hrel
      obtain ⟨Au, cu, eu⟩ := Kd.R_slice RJ.out
      subst eu
      cases gk with
      | zero => exact absurd HA.out (by simp [spec_ReadJournal.l0])
      | succ k1 =>
       have H := HA.out
       clear HA
       simp only [spec_ReadJournal.l0] at H
       by_cases c1 : i < (us.length : Int)
       ·rw [if_pos c1] at H
        have c1b0 : decide (i < (us.length : Int)) = true := decide_eq_true c1
        have c1b1 : decide ((us.length : Int) ≤ i) = false := decide_eq_false (by omega)
        by_cases c2 : 0 ≤ i
        ·rw [if_pos c2] at H
         have c2b0 : decide (0 ≤ i) = true := decide_eq_true c2
         obtain ⟨ad2, ea, hx⟩ := Kd.at_string (Kd.R_reads' JI.out.rl).2.2 i c2 c1
         obtain rfl : ad = ad2 := (by injection ea)
         have p0_ := eq_true c2
         have q0_ := eq_true c1
         by_cases c3 : i > 0
         ·rw [if_pos c3] at H
          have c3b0 : decide (0 < i) = true := decide_eq_true c3
          clear c1 c2 c3
          obtain ⟨⟨m1, m2, m3, m4, m5, m6⟩, hm, H⟩ := Option.bind_eq_some_iff.mp H
          simp only at hm H
          have AM := Aside0.mk hm
          have H1 := Aside0.mk H
          clear hm H
          go_wp2_with fail
          refine (spec_l07More.calls k1 g n t v a b (.slice Au l.length cu) l (rdOf ByteArray.empty us i) m1 m2 m3 m4 m5 m6 w _ JI.out.bl JI.out.jb JI.out.gg RJ.out AM.out).mono ?_
          rintro e_ w8 ⟨rfl, u', hj, hr, hb, hk⟩
          have J8 := Aside0.mk (JI.out.more hj hk hb)
          have R8 := Aside0.mk hr
          clear hj hr hb hk JI RJ AM hx
          obtain ⟨Av, cv, ev⟩ := Kd.R_slice R8.out
          subst ev
          cases m6 with
          | false =>
           have H2 := H1.out
           simp only [Bool.false_eq_true, if_false, Option.some.injEq, Prod.mk.injEq] at H2
           obtain ⟨rfl, rfl, rfl, rfl, rfl, rfl, rfl, rfl⟩ := H2
           clear H1
           have c0 := blk_cell J8.out.jb 0
           have c1 := blk_cell J8.out.jb 1
           have c2 := blk_cell J8.out.jb 2
           have c3 := blk_cell J8.out.jb 3
           have c4 := blk_cell J8.out.jb 4
           have c5 := blk_cell J8.out.jb 5
           simp only [List.getElem?_toArray, List.getElem?_cons_zero, List.getElem?_cons_succ] at c0 c1 c2 c3 c4 c5
           have f0 := blk_frozen J8.out.jb 0
           have f1 := blk_frozen J8.out.jb 1
           have f2 := blk_frozen J8.out.jb 2
           have f3 := blk_frozen J8.out.jb 3
           have f4 := blk_frozen J8.out.jb 4
           have f5 := blk_frozen J8.out.jb 5
           have d0 := blk_cell J8.out.rb 0
           have d1 := blk_cell J8.out.rb 1
           have d2 := blk_cell J8.out.rb 2
           have d3 := blk_cell J8.out.rb 3
           have d4 := blk_cell J8.out.rb 4
           have d5 := blk_cell J8.out.rb 5
           simp only [List.getElem?_toArray, List.getElem?_cons_zero, List.getElem?_cons_succ] at d0 d1 d2 d3 d4 d5
           have z0 := blk_frozen J8.out.rb 0
           have z1 := blk_frozen J8.out.rb 1
           have z2 := blk_frozen J8.out.rb 2
           have z3 := blk_frozen J8.out.rb 3
           have z4 := blk_frozen J8.out.rb 4
           have z5 := blk_frozen J8.out.rb 5
           have ne_ := J8.out.ne
           have ne2_ := Ne.symm ne_
           go_wp2
           refine bodyPost_ret (results_ctt rfl _ _ br 26 #[.int .i64 n, .int .i64 m1, .int .i64 m2, .int .i64 m3, .int .i64 m4, .slice Av m5.length cv] (0, 0) _ rfl (blk_put (blk_put (blk_put (blk_put (blk_put (blk_put J8.out.rb 0 _ rfl) 1 _ rfl) 2 _ rfl) 3 _ rfl) 4 _ rfl) 5 _ rfl) Try.underlying26 rfl (by kernel_rfl)) rfl ?_
           exact ⟨_, rfl, J8.out.fin R8.out⟩
          | true =>
           have H2 := H1.out
           simp only [if_true] at H2
           obtain ⟨⟨fr, fo⟩, hf, H3⟩ := Option.bind_eq_some_iff.mp H2
           have AF := Aside0.mk hf
           have H' := Aside0.mk H3
           clear H1 H2 H3 hf
           obtain ⟨ad3, ea3, hx⟩ := Kd.at_string (Kd.R_reads' J8.out.rl).2.2 i (of_eq_true p0_) (of_eq_true q0_)
           obtain rfl : ad = ad3 := (by injection ea3)
           go_wp2_with fail
           refine (spec_Frame.calls k1 (rdOf ByteArray.empty us i) fr fo _ AF.out).mono ?_
           rintro e_ w9 ⟨rfl, hb⟩
           have J9 := Aside0.mk (J8.out.below hb)
           have R9 := Aside0.mk (Kd.R_below R8.out hb)
           clear hb AF hx J8 R8
           go_wp2
           go_roundg k1
           case measure => have := HK.out; omega
           case rel => exact ⟨(wrap64 (d + (fr.size : Int))), (wrap64 (i + 1)), n, m1, m2, m3, m4, m5, _, (by first | rfl | (simp; done) | (simp [*]; done)), (by first | rfl | (simp; done) | (simp [*]; done)), H', ⟨by have := HK.out; omega⟩, J9, R9⟩
         ·rw [if_neg c3] at H
          have c3b0 : decide (0 < i) = false := decide_eq_false c3
          clear c1 c2 c3
          have H1 := Aside0.mk H
          clear H hx
          have H2 := H1.out
          obtain ⟨⟨fr, fo⟩, hf, H3⟩ := Option.bind_eq_some_iff.mp H2
          have AF := Aside0.mk hf
          have H' := Aside0.mk H3
          clear H1 H2 H3 hf
          obtain ⟨ad3, ea3, hx⟩ := Kd.at_string (Kd.R_reads' JI.out.rl).2.2 i (of_eq_true p0_) (of_eq_true q0_)
          obtain rfl : ad = ad3 := (by injection ea3)
          go_wp2_with fail
          refine (spec_Frame.calls k1 (rdOf ByteArray.empty us i) fr fo _ AF.out).mono ?_
          rintro e_ w9 ⟨rfl, hb⟩
          have J9 := Aside0.mk (JI.out.below hb)
          have R9 := Aside0.mk (Kd.R_below RJ.out hb)
          clear hb AF hx JI RJ
          go_wp2
          go_roundg k1
          case measure => have := HK.out; omega
          case rel => exact ⟨(wrap64 (d + (fr.size : Int))), (wrap64 (i + 1)), n, t, v, a, b, l, _, (by first | rfl | (simp; done) | (simp [*]; done)), (by first | rfl | (simp; done) | (simp [*]; done)), H', ⟨by have := HK.out; omega⟩, J9, R9⟩
        ·rw [if_neg c2] at H
         cases H
       ·rw [if_neg c1] at H
        have c1b0 : decide (i < (us.length : Int)) = false := decide_eq_false c1
        have c1b1 : decide ((us.length : Int) ≤ i) = true := decide_eq_true (by omega)
        clear c1
        simp only [Option.some.injEq, Prod.mk.injEq] at H
        obtain ⟨rfl, rfl, rfl, rfl, rfl, rfl, rfl, rfl⟩ := H
        have c0 := blk_cell JI.out.jb 0
        have c1 := blk_cell JI.out.jb 1
        have c2 := blk_cell JI.out.jb 2
        have c3 := blk_cell JI.out.jb 3
        have c4 := blk_cell JI.out.jb 4
        have c5 := blk_cell JI.out.jb 5
        simp only [List.getElem?_toArray, List.getElem?_cons_zero, List.getElem?_cons_succ] at c0 c1 c2 c3 c4 c5
        have f0 := blk_frozen JI.out.jb 0
        have f1 := blk_frozen JI.out.jb 1
        have f2 := blk_frozen JI.out.jb 2
        have f3 := blk_frozen JI.out.jb 3
        have f4 := blk_frozen JI.out.jb 4
        have f5 := blk_frozen JI.out.jb 5
        have d0 := blk_cell JI.out.rb 0
        have d1 := blk_cell JI.out.rb 1
        have d2 := blk_cell JI.out.rb 2
        have d3 := blk_cell JI.out.rb 3
        have d4 := blk_cell JI.out.rb 4
        have d5 := blk_cell JI.out.rb 5
        simp only [List.getElem?_toArray, List.getElem?_cons_zero, List.getElem?_cons_succ] at d0 d1 d2 d3 d4 d5
        have z0 := blk_frozen JI.out.rb 0
        have z1 := blk_frozen JI.out.rb 1
        have z2 := blk_frozen JI.out.rb 2
        have z3 := blk_frozen JI.out.rb 3
        have z4 := blk_frozen JI.out.rb 4
        have z5 := blk_frozen JI.out.rb 5
        have ne_ := JI.out.ne
        have ne2_ := Ne.symm ne_
        go_wp2
        refine bodyPost_ret (results_ctt rfl _ _ br 26 #[.int .i64 n, .int .i64 t, .int .i64 v, .int .i64 a, .int .i64 b, .slice Au l.length cu] (0, 0) _ rfl (blk_put (blk_put (blk_put (blk_put (blk_put (blk_put JI.out.rb 0 _ rfl) 1 _ rfl) 2 _ rfl) 3 _ rfl) 4 _ rfl) 5 _ rfl) Try.underlying26 rfl (by kernel_rfl)) rfl ?_
        exact ⟨_, rfl, JI.out.fin RJ.out⟩
  ·rw [if_neg c0] at H1
   obtain ⟨rfl, rfl, rfl, rfl, rfl, rfl, rfl, rfl⟩ := NO.out H1
   have n0 : ((us.length : Int) == 0) = true := beq_iff_eq.2 (by omega)
   clear NO H1 L3 c0
   have d0 := blk_cell Y3.out 0
   have d1 := blk_cell Y3.out 1
   have d2 := blk_cell Y3.out 2
   have d3 := blk_cell Y3.out 3
   have d4 := blk_cell Y3.out 4
   have d5 := blk_cell Y3.out 5
   simp only [List.getElem?_toArray, List.getElem?_cons_zero, List.getElem?_cons_succ] at d0 d1 d2 d3 d4 d5
   have z0 := blk_frozen Y3.out 0
   have z1 := blk_frozen Y3.out 1
   have z2 := blk_frozen Y3.out 2
   have z3 := blk_frozen Y3.out 3
   have z4 := blk_frozen Y3.out 4
   have z5 := blk_frozen Y3.out 5
   go_wp2
   refine bodyPost_ret (results_ctt rfl _ _ br 26 #[.int .i64 0, .int .i64 0, .int .i64 0, .int .i64 0, .int .i64 0, .slice none 0 0] (0, 0) _ rfl (blk_put (blk_put (blk_put (blk_put (blk_put (blk_put Y3.out 0 _ rfl) 1 _ rfl) 2 _ rfl) 3 _ rfl) 4 _ rfl) 5 _ rfl) Try.underlying26 rfl (by kernel_rfl)) rfl ?_
   exact ⟨_, rfl, Kd.R_nil _ _ _ _ _, below_set (below_set (below_set (below_set (below_set (below_set (B3.out) G1.out) G1.out) G1.out) G1.out) G1.out) G1.out⟩

/-! ### impl_within: function 16 -/
def impl_within.f (a0 : Int) (a1 : Int) (a2 : Int) : Option (Bool) := if a0 ≥ a1 then (some (decide (a0 ≤ a2))) else (some false)
set_option maxHeartbeats 8000000 in
set_option maxRecDepth 100000 in
theorem impl_within.calls (a0 : Int) (a1 : Int) (a2 : Int) (r : Bool) (w : World) (h : impl_within.f a0 a1 a2 = some r) :
  Calls Try.prog 16 #[.int .i64 a0, .int .i64 a1, .int .i64 a2] w fun e w' => e = .returned (.bool r) ∧ Drawn0 w w' := by
 have H : (if a0 ≥ a1 then (some (decide (a0 ≤ a2))) else (some false)) = some r := h
 clear h
 by_cases c4 : a0 ≥ a1
 ·rw [if_pos c4] at H
  have c4b0 : decide (a1 ≤ a0) = true := decide_eq_true c4
  have c4b1 : decide (a0 < a1) = false := decide_eq_false (by omega)
  clear c4
  obtain rfl := Option.some.inj H
  go_enter Try.func16, Try.ntmps16
  go_wp2
  go_ret
  exact ⟨by first | rfl | (simp; done) | (simp [*]; done), by repeat (first | exact Drawn0.refl _ | apply Drawn0.step)⟩
 ·rw [if_neg c4] at H
  have c4b0 : decide (a1 ≤ a0) = false := decide_eq_false c4
  have c4b1 : decide (a0 < a1) = true := decide_eq_true (by omega)
  clear c4
  obtain rfl := Option.some.inj H
  go_enter Try.func16, Try.ntmps16
  go_wp2
  go_ret
  exact ⟨by first | rfl | (simp; done) | (simp [*]; done), by repeat (first | exact Drawn0.refl _ | apply Drawn0.step)⟩

end Go.Proofs.Ytogifkjkbfdocaa.QFnExactReadJournal
