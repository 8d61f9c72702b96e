/- How a value that comes in is opened, kind by kind: out of its reading as data, a plain value and what its cells say. No program in sight. -/
import Derived.Test.YtogifkjkbfdocaaGreatDoorBase
import Derived.Deep.Slices
import Derived.ChangeArms
import Derived.WideShapes
namespace Go.Proofs.YtogifkjkbfdocaaGreatDoor.Base
open Go.RowKit Go.Proofs.YtogifkjkbfdocaaGreatDoorW.PrintWords Go.Proofs.YtogifkjkbfdocaaGreatDoorW.PrintMore Go.ChangeShapes Go.WideShapes Go.Deep

structure Opens (P : Program) (t : TypeId) {α : Type} (d : Kd α) (g : α → Prop) : Prop where
  sz : P.cellsOf t = d.sz
  op : ∀ {H : Type} {enc : TypeId × Value → H} {w : World} {base : Nat} {spare : Nat → Bool} {held : Bool} {fuel : Nat} {cs : List Value} {y : DataW H × List MemPlace},
    DataW.trod enc P w base spare held fuel t cs = some y → ∃ x, d.K w x cs ∧ g x

theorem Opens.int {P : Program} {t : TypeId} {k : IntKind} (hu : P.underlying t = some (.int k)) (hC : P.cellsOf t = 1) : Opens P t (Kd.int k) (fun x => (Lit.int k x).wf = true) := by
  refine ⟨hC, fun {H enc w base spare held fuel cs y} h => ?_⟩
  obtain ⟨n, e, _, hw⟩ := DataW.trod_int hu h
  exact ⟨n, e, hw⟩
theorem Opens.string {P : Program} {t : TypeId} (hu : P.underlying t = some .string) (hC : P.cellsOf t = 1) : Opens P t Kd.string (fun x => x.size ≤ 9223372036854775807) := by
  refine ⟨hC, fun {H enc w base spare held fuel cs y} h => ?_⟩
  obtain ⟨s, e, _, hw⟩ := DataW.trod_string hu h
  exact ⟨s, e, hw⟩
theorem Opens.bool {P : Program} {t : TypeId} (hu : P.underlying t = some .bool) (hC : P.cellsOf t = 1) : Opens P t Kd.bool (fun _ => True) := by
  refine ⟨hC, fun {H enc w base spare held fuel cs y} h => ?_⟩
  obtain ⟨b, e, _⟩ := DataW.trod_bool hu h
  exact ⟨b, e, trivial⟩
theorem Opens.iso {P : Program} {t : TypeId} {α β : Type} {d : Kd α} {g : α → Prop} (h : Opens P t d g) (f : β → α) (fi : α → β) (hf : ∀ a, f (fi a) = a) : Opens P t (Kd.iso d f) (fun x => g (f x)) := by
  refine ⟨h.sz, fun {H enc w base spare held fuel cs y} hy => ?_⟩
  obtain ⟨x, hx, gx⟩ := h.op hy
  refine ⟨fi x, ?_, ?_⟩
  · show d.K w (f (fi x)) cs
    rw [hf]; exact hx
  · show g (f (fi x))
    rw [hf]; exact gx

/-- The fields from one on, which lie from a place on. -/
structure OpensF (P : Program) (fl : List Field) (off : Nat) {α : Type} (d : Kd α) (g : α → Prop) : Prop where
  op : ∀ {H : Type} {enc : TypeId × Value → H} {w : World} {base : Nat} {spare : Nat → Bool} {held : Bool} {n : Nat} {cs : List Value}, cs.length = off + d.sz →
    (∀ (i : Nat) (f : Field), fl[i]? = some f → ∃ y, DataW.trod enc P w base spare held n f.type ((cs.drop f.offset).take (P.cellsOf f.type)) = some y) → ∃ x, d.K w x (cs.drop off) ∧ g x
theorem OpensF.one {P : Program} {f : Field} {off : Nat} {α : Type} {d : Kd α} {g : α → Prop} (h : Opens P f.type d g) (ho : f.offset = off) : OpensF P [f] off d g := by
  refine ⟨fun {H enc w base spare held n cs} hl hf => ?_⟩
  obtain ⟨y, hy⟩ := hf 0 f rfl
  rw [ho, h.sz, List.take_of_length_le (by rw [List.length_drop]; omega)] at hy
  exact h.op hy
theorem OpensF.cons {P : Program} {f : Field} {fl : List Field} {off : Nat} {α β : Type} {a : Kd α} {b : Kd β} {ga : α → Prop} {gb : β → Prop} (h : Opens P f.type a ga) (ho : f.offset = off) (hr : OpensF P fl (off + a.sz) b gb) :
    OpensF P (f :: fl) off (Kd.pair a b) (fun x => ga x.1 ∧ gb x.2) := by
  refine ⟨fun {H enc w base spare held n cs} hl hf => ?_⟩
  have hl' : cs.length = off + (a.sz + b.sz) := hl
  obtain ⟨y, hy⟩ := hf 0 f rfl
  rw [ho, h.sz] at hy
  obtain ⟨x, hx, gx⟩ := h.op hy
  obtain ⟨z, hz, gz⟩ := hr.op (enc := enc) (w := w) (base := base) (spare := spare) (held := held) (n := n) (cs := cs) (by omega) (fun i f' hf' => hf (i + 1) f' hf')
  refine ⟨(x, z), ⟨(cs.drop off).take a.sz, cs.drop (off + a.sz), ?_, hx, hz⟩, gx, gz⟩
  rw [← List.drop_drop, List.take_append_drop]
theorem Opens.struct {P : Program} {t : TypeId} {fs : Array Field} {α : Type} {d : Kd α} {g : α → Prop} (hu : P.underlying t = some (.struct fs)) (hr : OpensF P fs.toList 0 d g) (hC : P.cellsOf t = d.sz) : Opens P t d g := by
  refine ⟨hC, fun {H enc w base spare held fuel cs y} h => ?_⟩
  obtain ⟨ys, n, _, _, hl, hyl, hf⟩ := DataW.trod_struct hu h
  have := hr.op (enc := enc) (w := w) (base := base) (spare := spare) (held := held) (n := n) (cs := cs) (by omega) (fun i f hi => by
    have hi' : fs[i]? = some f := by simpa using hi
    have hlt : i < fs.size := (Array.getElem?_eq_some_iff.1 hi').1
    refine ⟨ys[i]'(by omega), ?_⟩
    rw [hf i f hi', List.getElem?_eq_getElem (by omega)])
  simpa using this
theorem Opens.slice {P : Program} {t e : TypeId} {α : Type} {d : Kd α} {g : α → Prop} (hu : P.underlying t = some (.slice e)) (h : Opens P e d g) (hC : P.cellsOf t = 1) :
    Opens P t (Kd.slice e d) (fun xs => xs.length ≤ 9223372036854775807 ∧ ∀ x ∈ xs, g x) := by
  refine ⟨hC, fun {H enc w base spare held fuel cs y} hy => ?_⟩
  rcases open_slice hu hy with ⟨rfl, _⟩ | ⟨a, len, cap, m, n, D, Pl, rfl, hb, hl, hm, hmm, hx, hi⟩
  · exact ⟨[], ⟨none, 0, rfl, Nat.le_refl _, rfl, by simp, fun hn => absurd hn (by simp)⟩, by simp, by simp⟩
  · have hmm' : len ≤ m := by rw [hmm]; split <;> omega
    have hex : ∀ i, i < len → ∃ x c, w.cells? base (a.add (i * d.sz)) d.sz = some c ∧ d.K w x c ∧ g x := by
      intro i hil
      obtain ⟨c, hc, ht⟩ := hi i (by omega)
      rw [h.sz] at hc
      obtain ⟨x, hx, gx⟩ := h.op ht
      exact ⟨x, c, hc, hx, gx⟩
    have hxs : ∀ k, k ≤ len → ∃ xs : List α, xs.length = k ∧ (∀ j p, xs[j]? = some p → ∃ c, w.cells? base (a.add (j * d.sz)) d.sz = some c ∧ d.K w p c ∧ g p) := by
      intro k
      induction k with
      | zero => intro _; exact ⟨[], rfl, fun j p hj => by simp at hj⟩
      | succ k ih =>
        intro hk
        obtain ⟨xs, hlen, hall⟩ := ih (by omega)
        obtain ⟨x, c, hc, hx, gx⟩ := hex k (by omega)
        refine ⟨xs ++ [x], by simp [hlen], fun j p hj => ?_⟩
        rcases Nat.lt_or_ge j xs.length with hjl | hjl
        · rw [List.getElem?_append_left hjl] at hj
          exact hall j p hj
        · have hjk : j = k := by
            have := (List.getElem?_eq_some_iff.1 hj).1
            simp at this
            omega
          subst hjk
          rw [List.getElem?_append_right hjl, hlen, Nat.sub_self] at hj
          simp at hj
          subst hj
          exact ⟨c, hc, hx, gx⟩
    obtain ⟨xs, hlen, hall⟩ := hxs len (Nat.le_refl _)
    have hmx : cap ≤ 9223372036854775807 := hm
    refine ⟨xs, ⟨some a, cap, by rw [hlen], by omega, ⟨rfl, by omega, fun _ => ⟨a, rfl, fun j p hj => ?_⟩⟩⟩, by omega, fun x hxm => ?_⟩
    · obtain ⟨c, hc, hk, _⟩ := hall j p hj
      obtain ⟨_, hcl, hat⟩ := World.cells?_some hc
      refine ⟨c, hcl, hk, fun i u hu' => ?_⟩
      have hic : i < d.sz := by
        have := (List.getElem?_eq_some_iff.1 hu').1
        omega
      rw [← Go.Deep.add_add, hat i hic, hu']
    · obtain ⟨j, hj⟩ := List.getElem?_of_mem hxm
      obtain ⟨c, _, _, gx⟩ := hall j x hj
      exact gx

end Go.Proofs.YtogifkjkbfdocaaGreatDoor.Base
