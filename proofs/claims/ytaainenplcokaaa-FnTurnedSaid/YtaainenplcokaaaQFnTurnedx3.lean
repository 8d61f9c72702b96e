/- Our own text: the walk of FnTurned (function 3); its callees are the printed ones. -/
import Derived.Test.YtaainenplcokaaaQFnTurnedx2
namespace Go.Proofs.Ytaainenplcokaaa.QFnTurned
open Go.RowKit Go.Proofs.YtaainenplcokaaaW.PrintWords Go.Proofs.YtaainenplcokaaaW.PrintLast Go.Proofs.YtaainenplcokaaaW.PrintMore
set_option linter.unusedVariables false
set_option linter.unusedSimpArgs false

/-- The bytes with one changed. -/
def turn (t : ByteArray) (i c : Int) : List Int := (bytesOf t).set i.toNat (Go.bits .xor .u8 (bt t i) ((wrap64 (1 + (Int.tmod c 255))) % 256))

theorem new_cell (w : World) (t : ByteArray) (i : Int) (h0 : 0 ≤ i) (h1 : i < (t.size : Int)) : (Lib.bytesWorld w 5 t).cell? ⟨w.heap.size, i.toNat, none⟩ = some (.int .u8 (bt t i)) := by
  rw [Lib.bytesWorld_cell w 5 t i.toNat (by omega)]
  congr 2
  rw [← rd_bytesOf]
  simp [rd, bytesOf, List.getD_eq_getElem?_getD]
  have : i.toNat < t.data.size := by have : t.data.size = t.size := rfl; omega
  rw [Array.getElem?_eq_getElem this]; rfl
theorem new_thaw (w : World) (t : ByteArray) (i : Int) (h0 : 0 ≤ i) (h1 : i < (t.size : Int)) : (Lib.bytesWorld w 5 t).frozen? ⟨w.heap.size, i.toNat, none⟩ = false := by
  have hs : t.size ≤ (Lib.bytesCells w 5 t).size := by
    have : t.data.size = t.size := rfl
    simp [Lib.bytesCells]
  simp [World.frozen?, Lib.bytesWorld_at_new]
  omega
theorem new_below (w : World) (t : ByteArray) : Below w.heap.size w (Lib.bytesWorld w 5 t) :=
  ⟨rfl, rfl, rfl, by rw [Lib.bytesWorld_size]; omega, fun i hi => Lib.bytesWorld_at_old w 5 t i hi⟩
theorem set_cells (w : World) (t : ByteArray) (i c : Int) (h0 : 0 ≤ i) (h1 : i < (t.size : Int)) (j : Nat) (hj : j < t.size) :
    ((Lib.bytesWorld w 5 t).setCell ⟨w.heap.size, i.toNat, none⟩ (.int .u8 (Go.bits .xor .u8 (bt t i) ((wrap64 (1 + (Int.tmod c 255))) % 256)))).cell? ((⟨w.heap.size, 0, none⟩ : Addr).add j) = some (.int .u8 ((turn t i c).getD j 0)) := by
  have hc := new_cell w t (j : Int) (by omega) (by omega)
  rw [add_plain]
  simp only [World.cell?, World.setCell, Array.getElem?_modify, Lib.bytesWorld_at_new, Int.toNat_natCast] at hc ⊢
  have e1 : (turn t i c).getD j 0 = if i.toNat = j then Go.bits .xor .u8 (bt t i) ((wrap64 (1 + (Int.tmod c 255))) % 256) else bt t j := by
    unfold turn
    have hl := bytesOf_length t
    by_cases h : i.toNat = j
    · subst h; simp [List.getD_eq_getElem?_getD, hl, hj]
    · have := rd_bytesOf t (j : Int)
      simp only [h, if_false]
      rw [← this]; unfold rd
      simp [List.getD_eq_getElem?_getD, List.getElem?_set, h]
  rw [e1]
  by_cases h : i.toNat = j
  · subst h
    simp at hc ⊢
    have : i.toNat < (Lib.bytesCells w 5 t).size := by
      rcases Nat.lt_or_ge i.toNat (Lib.bytesCells w 5 t).size with h' | h'
      · exact h'
      · simp [Array.getElem?_eq_none h'] at hc
    simp [this]
  · simp [h] at hc ⊢
    rw [hc]

set_option maxHeartbeats 8000000 in
set_option maxRecDepth 100000 in
theorem laws_FnTurned.calls (k : Nat) (A0 : Option Addr) (c0 : Nat) (l0 : List Int) (s t u' x' : ByteArray) (p : List Int) (sa sc : Int) (w : World) (hr0 : Kd.C (Kd.int .u8) w A0 l0.length l0) (hc0 : l0.length ≤ c0)
    (h1 : laws_big.f l0 = some false) (h2 : spec_DrawSumOf.f k l0 = some s) (h3 : spec_DrawPlaces.f k l0 = some p) (h4 : impl_Sealed.f k s = some (t, true)) (h5 : impl_Unsealed.f k t = some (s, true))
    (hz : (t.size : Int) = wrap64 ((s.size : Int) + 4)) (ht : 0 < t.size) (hp : 1 < p.length) (i c : Int) (hi : Int.tmod (rd p 0) (t.size : Int) = i) (hc : rd p 1 = c) (i0 : 0 ≤ i) (i1 : i < (t.size : Int))
    (h6 : impl_Unsealed.f k (strOfNums (turn t i c)) = some (x', false)) (h7 : impl_SumOf.f k s = some sa) (h8 : impl_SumMore.f k sa (⟨#[120]⟩ : ByteArray) = some sc) (h9 : impl_SumOf.f k (s ++ (⟨#[120]⟩ : ByteArray)) = some sc) (hsz : s.size ≤ 100000) :
    Calls Try.prog 3 #[.slice A0 l0.length c0] w fun e w' => e = .returned (.bool true) ∧ Below w.heap.size w w' := by
  have HR := Aside0.mk hr0
  have HC := Aside0.mk hc0
  have H1 := Aside0.mk h1
  have H2 := Aside0.mk h2
  have H3 := Aside0.mk h3
  have H4 := Aside0.mk h4
  have H5 := Aside0.mk h5
  have H6 := Aside0.mk h6
  have H7 := Aside0.mk h7
  have H8 := Aside0.mk h8
  have H9 := Aside0.mk h9
  have HZ := Aside0.mk hz
  have HT := Aside0.mk ht
  have HP := Aside0.mk hp
  have HI := Aside0.mk hi
  have HCC := Aside0.mk hc
  have I0 := Aside0.mk i0
  have I1 := Aside0.mk i1
  have HS := Aside0.mk hsz
  clear hr0 hc0 h1 h2 h3 h4 h5 h6 h7 h8 h9 ht hp hi hc i0 i1 hsz
  have z1 : ((t.size : Int) != wrap64 ((s.size : Int) + 4)) = false := by simp [hz]
  clear hz
  go_enter Try.func3, Try.ntmps3
  go_upto_region 10 with (first
    | (go_at_call 15; refine (laws_big.calls A0 c0 l0 false _ HR.out HC.out H1.out).mono ?_; rintro e_ w1 ⟨rfl, ⟨nd, rfl⟩⟩)
    | (go_at_call 16; refine (spec_DrawSumOf.calls k A0 c0 l0 s _ (by repeat (first | exact HR.out | (with_reducible refine Kd.C_drewN ?_ _) | (with_reducible refine Kd.C_drew ?_))) HC.out H2.out).mono ?_; rintro e_ w2 ⟨rfl, hb⟩; have HB2 := Aside0.mk (below_step (pw_below_drewN (Below.refl w.heap.size w) nd) hb); clear hb)
    | (go_at_call 17; refine (spec_DrawPlaces.calls k A0 c0 l0 p _ (Kd.C_below HR.out HB2.out) HC.out H3.out).mono ?_; rintro e_ w3 ⟨pv, rfl, ho, hb⟩; obtain ⟨Ap, cp, ep⟩ := Kd.R_slice ho; subst ep; have HB3 := Aside0.mk (below_step HB2.out hb); have HO3 := Aside0.mk ho; clear hb ho)
    | (go_at_call 18; refine (impl_Sealed.calls k s t true _ H4.out).mono ?_; rintro e_ w4 ⟨rfl, hb⟩; have HB4 := Aside0.mk (below_step HB3.out hb); have HO4 := Aside0.mk (Kd.R_below HO3.out hb); clear hb)
    | (go_at_call 19; refine (impl_Unsealed.calls k t s true _ H5.out).mono ?_; rintro e_ w5 ⟨rfl, hb⟩; have HB5 := Aside0.mk (below_step HB4.out hb); have HO5 := Aside0.mk (Kd.R_below HO4.out hb); clear hb; have hcv := Lib.run_convert_string_bytes (P := Try.prog) w5 9 22 5 t Try.underlying9 Try.underlying22 Try.underlying5))
  have hi0 := I0.out
  have hi1 := I1.out
  have c0 := new_cell w5 t i hi0 hi1
  have f0 := new_thaw w5 t i hi0 hi1
  have b5 := new_below w5 t
  have HP5 := Aside0.mk (Kd.R_below HO5.out b5)
  have hcv2 := run_convert_bytes_arg (P := Try.prog) (w := ((Lib.bytesWorld w5 5 t).setCell ⟨w5.heap.size, i.toNat, none⟩ (.int .u8 (Go.bits .xor .u8 (bt t i) ((wrap64 (1 + (Int.tmod c 255))) % 256)))).drew) 22 5 Try.underlying22 Try.underlying5 w5.heap.size 0 t.size (grownCap w5 t.size 0 5) (turn t i c) (by simp [turn, bytesOf_length]) (fun j hj => by have h_ := set_cells w5 t i c hi0 hi1 j hj; rw [add_plain] at h_; rw [Nat.zero_add]; exact h_) 9 Try.underlying9
  have HB6 := Aside0.mk (Below.refl (Lib.bytesWorld w5 5 t).heap.size (Lib.bytesWorld w5 5 t))
  have hb6 : Below w.heap.size w ((Lib.bytesWorld w5 5 t).setCell ⟨w5.heap.size, i.toNat, none⟩ (.int .u8 (Go.bits .xor .u8 (bt t i) ((wrap64 (1 + (Int.tmod c 255))) % 256)))) := below_set (below_step HB5.out b5) (by have := HB5.out.size; omega)
  have HB7 := Aside0.mk (below_drew hb6)
  clear hb6 b5 hcv
  have hp0 := HP.out
  obtain ⟨gp, cp2, ep, gb, gl, gc⟩ := Kd.R_form HP5.out (by omega)
  injection ep with ep1 ep2 ep3
  subst ep1
  obtain ⟨x0, y0⟩ := Kd.R_celln 0 HP5.out 0 (by decide) (by omega)
  obtain ⟨x1, y1⟩ := Kd.R_celln 0 HP5.out 1 (by decide) (by omega)
  have e0 : rdOf 0 p 0 = rd p 0 := rfl
  have e1 : rdOf 0 p 1 = c := HCC.out
  rw [e0] at x0
  rw [e1] at x1
  have x0 : (Lib.bytesWorld w5 5 t).cell? ⟨gp, 0, none⟩ = some (.int .i64 (rd p 0)) := x0
  have x1 : (Lib.bytesWorld w5 5 t).cell? ⟨gp, 1, none⟩ = some (.int .i64 c) := x1
  have y0 : (Lib.bytesWorld w5 5 t).frozen? ⟨gp, 0, none⟩ = false := y0
  have y1 : (Lib.bytesWorld w5 5 t).frozen? ⟨gp, 1, none⟩ = false := y1
  have q0 := eq_true (show (0 : Int) < (p.length : Int) by omega)
  have q1 := eq_true (show (1 : Int) < (p.length : Int) by omega)
  have t0 := HT.out
  have n0 : decide ((t.size : Int) = 0) = false := decide_eq_false (by omega)
  have n1 := eq_false (show ¬ ((t.size : Int) = 0) by omega)
  have n2 := eq_false (show ¬ (t.size = 0) by omega)
  have hI := HI.out
  go_upto_region 11 with fail
  have i0 := eq_true hi0
  have i1 := eq_true hi1
  have HB7 := HB7.out
  clear HO3 HO4 HO5 HB2 HB3 HB4 HB6 hI e0 e1 hp0 hi0 hi1
  clear H1 H2 H3 H4 H5 HZ HT HP HI HCC I0 I1 z1 n0 n1 n2 t0
  have hgb := HB5.out.size
  have hsz := HS.out
  have m1 := eq_false (show ¬ (9223372036854775807 < s.size + 1) by omega)
  clear hsz
  generalize hg6 : grownCap w5 t.size 0 5 = cb at hcv2 ⊢
  clear hg6
  generalize Lib.bytesWorld w5 5 t = w6 at *
  generalize w5.heap.size = g5 at *
  have HB8 := Aside0.mk HB7
  clear HB7
  go_region
  go_wp2_with (first
    | (go_at_call 19; refine (impl_Unsealed.calls k _ x' false _ H6.out).mono ?_; rintro e_ w7 ⟨rfl, hb⟩; have HB9 := Aside0.mk (below_step HB8.out hb); clear hb)
    | (go_at_call 21; first | (refine (impl_SumOf.calls k s sa _ H7.out).mono ?_; rintro e_ w8 ⟨rfl, ⟨nd1, rfl⟩⟩) | (refine (impl_SumOf.calls k _ sc _ H9.out).mono ?_; rintro e_ w8 ⟨rfl, ⟨nd2, rfl⟩⟩))
    | (go_at_call 20; refine (impl_SumMore.calls k sa _ sc _ H8.out).mono ?_; rintro e_ w8 ⟨rfl, ⟨nd3, rfl⟩⟩))
  go_ret
  exact ⟨rfl, pw_below_drewN HB9.out _⟩

set_option maxHeartbeats 8000000 in
set_option maxRecDepth 100000 in
theorem laws_FnTurned.calls_big (A0 : Option Addr) (c0 : Nat) (l0 : List Int) (w : World) (hr0 : Kd.C (Kd.int .u8) w A0 l0.length l0) (hc0 : l0.length ≤ c0) (h1 : laws_big.f l0 = some true) :
    Calls Try.prog 3 #[.slice A0 l0.length c0] w fun e w' => e = .returned (.bool true) ∧ Below w.heap.size w w' := by
  have HR := Aside0.mk hr0
  have HC := Aside0.mk hc0
  have H1 := Aside0.mk h1
  clear hr0 hc0 h1
  go_enter Try.func3, Try.ntmps3
  go_wp2_with (first
    | (go_at_call 15; refine (laws_big.calls A0 c0 l0 true _ HR.out HC.out H1.out).mono ?_; rintro e_ w1 ⟨rfl, ⟨nd, rfl⟩⟩))
  go_ret
  exact ⟨rfl, pw_below_drewN (Below.refl w.heap.size w) _⟩

/-- What is to be proved of plain values. -/
def laws_FnTurned.Pure : Prop := ∀ (l0 : List Int), l0.length ≤ maxLen → l0.length * 1 ≤ 140737488351232 → (∀ x ∈ l0, (Lit.int .u8 x).wf = true) →
  laws_big.f l0 = some true ∨ laws_big.f l0 = some false ∧ ∃ (k : Nat) (s t x' : ByteArray) (p : List Int) (sa sc i c : Int), spec_DrawSumOf.f k l0 = some s ∧ spec_DrawPlaces.f k l0 = some p ∧ impl_Sealed.f k s = some (t, true) ∧ impl_Unsealed.f k t = some (s, true) ∧
    (t.size : Int) = wrap64 ((s.size : Int) + 4) ∧ 0 < t.size ∧ 1 < p.length ∧ Int.tmod (rd p 0) (t.size : Int) = i ∧ rd p 1 = c ∧ 0 ≤ i ∧ i < (t.size : Int) ∧
    impl_Unsealed.f k (strOfNums (turn t i c)) = some (x', false) ∧ impl_SumOf.f k s = some sa ∧ impl_SumMore.f k sa (⟨#[120]⟩ : ByteArray) = some sc ∧ impl_SumOf.f k (s ++ (⟨#[120]⟩ : ByteArray)) = some sc ∧ s.size ≤ 100000
theorem laws_FnTurned.walk (P : laws_FnTurned.Pure) (a0 : Option Addr) (len0 cap0 : Nat) (z0 : List Int) (w : World) (w0 : (a0 = none ∧ len0 = 0 ∧ cap0 = 0 ∧ z0 = []) ∨ ∃ x, a0 = some x ∧ len0 ≤ cap0 ∧ cap0 ≤ maxLen ∧ z0.length = cap0 ∧ (∀ i, i < z0.length → w.cell? (x.add i) = some (.int .u8 (z0.getD i 0))) ∧ ∀ n ∈ z0, (Lit.int .u8 n).wf = true) (y0 : len0 * 1 ≤ 140737488351232) :
    Calls Try.prog 3 #[.slice a0 len0 cap0] w fun e w' => e = .returned (.bool true) ∧ Below w.heap.size w w' := by
  obtain ⟨l0, rfl, hr0, hm0, hw0, hc0⟩ := ReadsInt.ofRowC w0
  have hr := Kd.C_of_reads (d := (0 : Int)) (h1 := fun _ => rfl) hr0
  rcases P l0 hm0 y0 hw0 with h | ⟨h, k, s, t, x', p, sa, sc, i, c, g2, g3, g4, g5, g6, g7, g8, g9, g10, g11, g12, g13, g14, g15, g16, g17⟩
  · exact laws_FnTurned.calls_big _ _ l0 w hr hc0 h
  · exact laws_FnTurned.calls k _ _ l0 s t t x' p sa sc w hr hc0 h g2 g3 g4 g5 g6 g7 g8 i c g9 g10 g11 g12 g13 g14 g15 g16 g17

end Go.Proofs.Ytaainenplcokaaa.QFnTurned
