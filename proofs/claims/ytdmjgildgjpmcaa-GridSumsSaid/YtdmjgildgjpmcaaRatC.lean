/- The walks of ratio's Make, Of, Norm, Sign. -/
import Derived.Test.YtdmjgildgjpmcaaRatB
namespace Go.Proofs.Ytdmjgildgjpmcaa
open Go.RowKit
set_option linter.unusedVariables false

theorem keep4t {w : World} {g : Nat} {x y z x1 x2 x3 x4 : Value} (h : w.cell? ⟨g, 0, none⟩ = some x1 ∧ w.cell? ⟨g, 1, none⟩ = some x2 ∧ w.cell? ⟨g + 1, 0, none⟩ = some x3 ∧ w.cell? ⟨g + 1, 1, none⟩ = some x4) :
    (((w.setCell ⟨g + 2, 0, none⟩ x).setCell ⟨g + 2, 1, none⟩ y).setCell ⟨g + 2, 2, none⟩ z).cell? ⟨g, 0, none⟩ = some x1 ∧ (((w.setCell ⟨g + 2, 0, none⟩ x).setCell ⟨g + 2, 1, none⟩ y).setCell ⟨g + 2, 2, none⟩ z).cell? ⟨g, 1, none⟩ = some x2 ∧ (((w.setCell ⟨g + 2, 0, none⟩ x).setCell ⟨g + 2, 1, none⟩ y).setCell ⟨g + 2, 2, none⟩ z).cell? ⟨g + 1, 0, none⟩ = some x3 ∧ (((w.setCell ⟨g + 2, 0, none⟩ x).setCell ⟨g + 2, 1, none⟩ y).setCell ⟨g + 2, 2, none⟩ z).cell? ⟨g + 1, 1, none⟩ = some x4 := by
  obtain ⟨h1, h2, h3, h4⟩ := h
  have n1 : ∀ (w : World) (a b k : Nat) (z : Value), a < g + 2 → (w.setCell ⟨g + 2, b, none⟩ z).cell? ⟨a, k, none⟩ = w.cell? ⟨a, k, none⟩ := fun w a b k z ha => World.cell?_setCell_other _ _ _ _ (fun e => by injection e with e _ _; omega)
  refine ⟨?_, ?_, ?_, ?_⟩
  · rw [n1 _ _ _ _ _ (by omega), n1 _ _ _ _ _ (by omega), n1 _ _ _ _ _ (by omega)]; exact h1
  · rw [n1 _ _ _ _ _ (by omega), n1 _ _ _ _ _ (by omega), n1 _ _ _ _ _ (by omega)]; exact h2
  · rw [n1 _ _ _ _ _ (by omega), n1 _ _ _ _ _ (by omega), n1 _ _ _ _ _ (by omega)]; exact h3
  · rw [n1 _ _ _ _ _ (by omega), n1 _ _ _ _ _ (by omega), n1 _ _ _ _ _ (by omega)]; exact h4
/-- The numerator when the denominator's sign goes into it. -/
def flipZ (p s : Int) : Int := if s < 0 then -p else p
theorem sg_flip (na nb : Bool) (a b : Nat) (hb : 0 < b) : sg (!na == nb) a = flipZ (sg na a) (sg nb b) := by
  unfold flipZ sg
  cases na <;> cases nb <;> simp <;> omega

set_option maxHeartbeats 4000000 in
theorem qmake_no (v u : Value) (p : Int) (L M : Nat) (w : World) (ha : IntA w v p L) (hb : IntA w u 0 M) :
    Calls Try.prog 33 #[v, u] w fun e w' => ∃ x, e = .returned (.tuple #[x, .bool false]) ∧ RatF w.heap.size w' x 0 1 2 ∧ Below w.heap.size w w' := by
  have ha0 := ha
  have hb0 := hb
  obtain ⟨na, av, la, rfl, hla, kla, HA⟩ := ha
  obtain ⟨nb, bv, lb, rfl, hlb, klb, HB⟩ := hb
  have hla' := hla
  have hlb' := hlb
  obtain ⟨⟨A, cA, rfl, _, _, _⟩, _⟩ := hla'
  obtain ⟨⟨B, cB, rfl, _, _, _⟩, _⟩ := hlb'
  obtain ⟨W0, hW0⟩ : ∃ W0 : World, W0 = ((w.alloc (.cells #[.bool na, .slice A la.length cA] 40)).alloc (.cells #[.bool nb, .slice B lb.length cB] 40)).alloc (.cells #[.bool false, .slice none 0 0, .slice none 0 0] 42) := ⟨_, rfl⟩
  have r0 : Row W0 w.heap.size 40 [.bool na, .slice A la.length cA] := by rw [hW0]; exact ((Row.new w 40 [.bool na, .slice A la.length cA]).alloc _).alloc _
  have r1 : Row W0 (w.heap.size + 1) 40 [.bool nb, .slice B lb.length cB] := by
    rw [hW0]
    have := (Row.new (w.alloc (.cells #[.bool na, .slice A la.length cA] 40)) 40 [.bool nb, .slice B lb.length cB]).alloc (.cells #[.bool false, .slice none 0 0, .slice none 0 0] 42)
    simpa using this
  have r2 : Row W0 (w.heap.size + 2) 42 [.bool false, .slice none 0 0, .slice none 0 0] := by
    rw [hW0]
    have := Row.new ((w.alloc (.cells #[.bool na, .slice A la.length cA] 40)).alloc (.cells #[.bool nb, .slice B lb.length cB] 40)) 42 [.bool false, .slice none 0 0, .slice none 0 0]
    simpa using this
  have B0 : Below w.heap.size w W0 := by rw [hW0]; exact (((Below.refl _ _).alloc (Nat.le_refl _) _).alloc (by simp) _).alloc (by simp; omega) _
  have a0 : W0.cell? ⟨w.heap.size, 0, none⟩ = some (.bool na) := r0.cell 0
  have a1 : W0.cell? ⟨w.heap.size, 1, none⟩ = some (.slice A la.length cA) := r0.cell 1
  have b0 : W0.cell? ⟨w.heap.size + 1, 0, none⟩ = some (.bool nb) := r1.cell 0
  have b1 : W0.cell? ⟨w.heap.size + 1, 1, none⟩ = some (.slice B lb.length cB) := r1.cell 1
  have d0 : W0.cell? ⟨w.heap.size + 2, 0, none⟩ = some (.bool false) := r2.cell 0
  have d1 : W0.cell? ⟨w.heap.size + 2, 1, none⟩ = some (.slice none 0 0) := r2.cell 1
  have d2 : W0.cell? ⟨w.heap.size + 2, 2, none⟩ = some (.slice none 0 0) := r2.cell 2
  have e2 : W0.frozen? ⟨w.heap.size + 2, 2, none⟩ = false := r2.frozen 2
  have e0 : W0.frozen? ⟨w.heap.size + 2, 0, none⟩ = false := r2.frozen 0
  have e1 : W0.frozen? ⟨w.heap.size + 2, 1, none⟩ = false := r2.frozen 1
  have z0 := r0.lt
  have z1 := r1.lt
  have z2 := r2.lt
  have hz : w.heap.size + 3 ≤ W0.heap.size := z2
  have hla2 := hla.below B0
  have hlb2 := hlb.below B0
  go_enter Try.func33, Try.ntmps33
  go_wp2_with fail
  rw [← hW0]
  clear hW0
  go_wp2_with fail
  refine (isign_any _ 0 M _ (hb0.below B0)).mono ?_
  rintro e w5 ⟨rfl, h5⟩
  rw [show sgnZ 0 = 0 from rfl]
  go_wp2_with fail
  refine (rzero_any _).mono ?_
  rintro e w6 ⟨v6, rfl, ⟨mv, dv, rfl, hm, hd, fm, fd⟩, h6⟩
  have B6' : Below W0.heap.size W0 w6 := h5.trans (h6.mono h5.size)
  have hm' := hm
  have hd' := hd
  obtain ⟨l6, ⟨⟨A6, c6, rfl, _, _, _⟩, _⟩, _⟩ := hm'
  obtain ⟨l7, ⟨⟨A7, c7, rfl, _, _, _⟩, _⟩, _⟩ := hd'
  have r6 := r2.keep B6'
  have d60 : w6.cell? ⟨w.heap.size + 2, 0, none⟩ = some (.bool false) := r6.cell 0
  have d61 : w6.cell? ⟨w.heap.size + 2, 1, none⟩ = some (.slice none 0 0) := r6.cell 1
  have d62 : w6.cell? ⟨w.heap.size + 2, 2, none⟩ = some (.slice none 0 0) := r6.cell 2
  have f60 := r6.frozen 0
  have f61 := r6.frozen 1
  have f62 := r6.frozen 2
  have hfm : Fresh (w.heap.size + 3) (.slice A6 l6.length c6) := fm.mono (Nat.le_trans hz h5.size)
  have hfd : Fresh (w.heap.size + 3) (.slice A7 l7.length c7) := fd.mono (Nat.le_trans hz h5.size)
  clear r6
  go_wp2_with fail
  refine bodyPost_ret (v := .tuple #[.agg #[.bool false, .slice A6 l6.length c6, .slice A7 l7.length c7], .bool false]) (by simp [results, Try.results33, go_sem, d60, d61, d62]) rfl ⟨_, rfl, ⟨_, _, rfl, ?_, ?_, hfm.mono (by omega), hfd.mono (by omega)⟩, (((B0.trans (B6'.mono B0.size)).setCell (by simp; omega) _).setCell (by simp; omega) _).setCell (by simp; omega) _⟩
  · exact ((hm.set_ hfm (by simp) _).set_ hfm (by simp) _).set_ hfm (by simp) _
  · exact ((hd.set_ hfd (by simp) _).set_ hfd (by simp) _).set_ hfd (by simp) _

set_option maxHeartbeats 8000000 in
theorem qmake_any (v u : Value) (p s : Int) (L M : Nat) (w : World) (ha : IntA w v p L) (hb : IntA w u s M) (hL : L ≤ 70368744177600) (hM : M ≤ 70368744177600) (hs : s ≠ 0) :
    Calls Try.prog 33 #[v, u] w fun e w' => ∃ x, e = .returned (.tuple #[x, .bool true]) ∧ RatF w.heap.size w' x (redP (flipZ p s) s.natAbs) (redQ (flipZ p s) s.natAbs) (max L M) ∧ Below w.heap.size w w' := by
  have ha0 := ha
  have hb0 := hb
  obtain ⟨na, av, la, rfl, hla, kla, HA⟩ := ha
  obtain ⟨nb, bv, lb, rfl, hlb, klb, HB⟩ := hb
  have hla' := hla
  have hlb' := hlb
  obtain ⟨⟨A, cA, rfl, _, _, _⟩, _⟩ := hla'
  obtain ⟨⟨B, cB, rfl, _, _, _⟩, _⟩ := hlb'
  obtain ⟨W0, hW0⟩ : ∃ W0 : World, W0 = ((w.alloc (.cells #[.bool na, .slice A la.length cA] 40)).alloc (.cells #[.bool nb, .slice B lb.length cB] 40)).alloc (.cells #[.bool false, .slice none 0 0, .slice none 0 0] 42) := ⟨_, rfl⟩
  have r0 : Row W0 w.heap.size 40 [.bool na, .slice A la.length cA] := by rw [hW0]; exact ((Row.new w 40 [.bool na, .slice A la.length cA]).alloc _).alloc _
  have r1 : Row W0 (w.heap.size + 1) 40 [.bool nb, .slice B lb.length cB] := by
    rw [hW0]
    have := (Row.new (w.alloc (.cells #[.bool na, .slice A la.length cA] 40)) 40 [.bool nb, .slice B lb.length cB]).alloc (.cells #[.bool false, .slice none 0 0, .slice none 0 0] 42)
    simpa using this
  have r2 : Row W0 (w.heap.size + 2) 42 [.bool false, .slice none 0 0, .slice none 0 0] := by
    rw [hW0]
    have := Row.new ((w.alloc (.cells #[.bool na, .slice A la.length cA] 40)).alloc (.cells #[.bool nb, .slice B lb.length cB] 40)) 42 [.bool false, .slice none 0 0, .slice none 0 0]
    simpa using this
  have B0 : Below w.heap.size w W0 := by rw [hW0]; exact (((Below.refl _ _).alloc (Nat.le_refl _) _).alloc (by simp) _).alloc (by simp; omega) _
  have hsa : s.natAbs = val lb := by rw [HB, sg_abs]
  have HSA := Lib.hid hsa
  have hpos : 0 < val lb := by omega
  have HF : Hid (sg (!na == nb) (val la) = flipZ p s) := by unfold Hid; rw [HA, HB]; exact sg_flip na nb _ _ hpos
  have hsn : (sgnZ s == 0) = false := by
    rw [beq_eq_false_iff_ne]; unfold sgnZ
    split
    · decide
    · decide
  have hka : la.length ≤ 70368744177650 := by omega
  have hmax1 : la.length ≤ max L M := by omega
  have hmax2 : lb.length ≤ max L M := by omega
  have hmax3 : max L M ≤ 70368744177600 := by omega
  have hlb0 := hlb
  clear HA HB hs hsa
  go_enter Try.func33, Try.ntmps33
  go_wp2_with fail
  rw [← hW0]
  clear hW0
  have a0 : W0.cell? ⟨w.heap.size, 0, none⟩ = some (.bool na) := r0.cell 0
  have a1 : W0.cell? ⟨w.heap.size, 1, none⟩ = some (.slice A la.length cA) := r0.cell 1
  have b0 : W0.cell? ⟨w.heap.size + 1, 0, none⟩ = some (.bool nb) := r1.cell 0
  have b1 : W0.cell? ⟨w.heap.size + 1, 1, none⟩ = some (.slice B lb.length cB) := r1.cell 1
  have d0 : W0.cell? ⟨w.heap.size + 2, 0, none⟩ = some (.bool false) := r2.cell 0
  have d1 : W0.cell? ⟨w.heap.size + 2, 1, none⟩ = some (.slice none 0 0) := r2.cell 1
  have d2 : W0.cell? ⟨w.heap.size + 2, 2, none⟩ = some (.slice none 0 0) := r2.cell 2
  have e2 : W0.frozen? ⟨w.heap.size + 2, 2, none⟩ = false := r2.frozen 2
  have e0 : W0.frozen? ⟨w.heap.size + 2, 0, none⟩ = false := r2.frozen 0
  have e1 : W0.frozen? ⟨w.heap.size + 2, 1, none⟩ = false := r2.frozen 1
  have z0 := r0.lt
  have z1 := r1.lt
  have z2 := r2.lt
  have hz : w.heap.size + 3 ≤ W0.heap.size := z2
  have hla2 := hla.below B0
  have hlb2 := hlb.below B0
  go_wp2_with fail
  refine (isign_any _ s M _ (hb0.below B0)).mono ?_
  rintro e w1 ⟨rfl, hb1⟩
  generalize sgnZ s = ss at *
  have k0 := (hb1.cell (p := ⟨w.heap.size, 0, none⟩) z0).trans a0
  have k1 := (hb1.cell (p := ⟨w.heap.size, 1, none⟩) z0).trans a1
  have k2 := (hb1.cell (p := ⟨w.heap.size + 1, 0, none⟩) z1).trans b0
  have k3 := (hb1.cell (p := ⟨w.heap.size + 1, 1, none⟩) z1).trans b1
  have j0 := (hb1.cell (p := ⟨w.heap.size + 2, 0, none⟩) z2).trans d0
  have j1 := (hb1.cell (p := ⟨w.heap.size + 2, 1, none⟩) z2).trans d1
  have j2 := (hb1.cell (p := ⟨w.heap.size + 2, 2, none⟩) z2).trans d2
  have i0 := (hb1.frozen (p := ⟨w.heap.size + 2, 0, none⟩) z2).trans e0
  have i1 := (hb1.frozen (p := ⟨w.heap.size + 2, 1, none⟩) z2).trans e1
  have i2 := (hb1.frozen (p := ⟨w.heap.size + 2, 2, none⟩) z2).trans e2
  have y0 : w.heap.size < w1.heap.size := Nat.lt_of_lt_of_le z0 hb1.size
  have y1 : w.heap.size + 1 < w1.heap.size := Nat.lt_of_lt_of_le z1 hb1.size
  have y2 : w.heap.size + 2 < w1.heap.size := Nat.lt_of_lt_of_le z2 hb1.size
  have B1 := B0.trans (hb1.mono B0.size)
  have hla3 := hla.below B1
  have hlb3 := hlb.below B1
  clear a0 a1 b0 b1 d0 d1 d2 e0 e1 e2
  go_wp2_with fail
  go_region_held3 (fun w' => w'.cell? ⟨w.heap.size, 0, none⟩ = some (.bool na) ∧ w'.cell? ⟨w.heap.size, 1, none⟩ = some (.slice A la.length cA) ∧ w'.cell? ⟨w.heap.size + 1, 0, none⟩ = some (.bool nb) ∧ w'.cell? ⟨w.heap.size + 1, 1, none⟩ = some (.slice B lb.length cB))
    (first
      | (refine keep4c y0 y0 y1 y1 k0 k1 k2 k3 ?_; (repeat (first | with_reducible exact Below.refl _ _ | with_reducible refine bl_call h5 ?_ | with_reducible refine bl_call h6 ?_ | with_reducible refine bl_drew ?_)); done)
      | (refine keep4t (keep4c y0 y0 y1 y1 k0 k1 k2 k3 ?_); (repeat (first | with_reducible exact Below.refl _ _ | with_reducible refine bl_call h5 ?_ | with_reducible refine bl_call h6 ?_ | with_reducible refine bl_drew ?_)); done))
    (first
      | (go_at_call 49; ((with_reducible refine (imake_any _ _ la _ (hla3.below ?_) hka).mono ?_); ((repeat (first | with_reducible exact Below.refl _ _ | with_reducible refine bl_call h5 ?_ | with_reducible refine bl_call h6 ?_ | with_reducible refine bl_drew ?_))); rintro e w5 ⟨v5, rfl, hI5, h5⟩; have hI5' := hI5.intA; obtain ⟨mv5, rfl, hn5, hf5⟩ := hI5))
      | (go_at_call 53; ((with_reducible refine (reduce_any _ _ _ lb (max L M) _ (hI5'.mono hmax1) (hlb3.below ?_) hmax3 hmax2 hpos).mono ?_); ((repeat (first | with_reducible exact Below.refl _ _ | with_reducible refine bl_call h5 ?_ | with_reducible refine bl_call h6 ?_ | with_reducible refine bl_drew ?_))); rintro e w6 ⟨v6, rfl, ⟨mv6, dv6, rfl, hm6, hd6, fm6, fd6⟩, h6⟩; have hm6' := hm6; have hd6' := hd6; obtain ⟨l6, ⟨⟨A6, c6, rfl, _, _, _⟩, _⟩, _⟩ := hm6'; obtain ⟨l7, ⟨⟨A7, c7, rfl, _, _, _⟩, _⟩, _⟩ := hd6'; have B6 : Below w1.heap.size w1 w6 := bl_call h6 (bl_call h5 (bl_drew (Below.refl _ _))); have d60 := (B6.cell (p := ⟨w.heap.size + 2, 0, none⟩) y2).trans j0; have d61 := (B6.cell (p := ⟨w.heap.size + 2, 1, none⟩) y2).trans j1; have d62 := (B6.cell (p := ⟨w.heap.size + 2, 2, none⟩) y2).trans j2; have f60 := (B6.frozen (p := ⟨w.heap.size + 2, 0, none⟩) y2).trans i0; have f61 := (B6.frozen (p := ⟨w.heap.size + 2, 1, none⟩) y2).trans i1; have f62 := (B6.frozen (p := ⟨w.heap.size + 2, 2, none⟩) y2).trans i2)))
  have hm7 : NatAt w6 (.slice A6 l6.length c6) (redP (flipZ p s) s.natAbs).natAbs (max L M) := by rw [HSA.out, ← HF.out]; exact hm6
  have hd7 : NatAt w6 (.slice A7 l7.length c7) (redQ (flipZ p s) s.natAbs) (max L M) := by rw [HSA.out, ← HF.out]; exact hd6
  have B16 : Below w1.heap.size w1 w6 := bl_call h6 (bl_call h5 (bl_drew (Below.refl _ _)))
  have y3 : w.heap.size + 3 ≤ w1.heap.size := y2
  have hfm : Fresh (w.heap.size + 3) (.slice A6 l6.length c6) := fm6.mono (Nat.le_trans y3 (bl_call h5 (bl_drew (Below.refl _ _))).size)
  have hfd : Fresh (w.heap.size + 3) (.slice A7 l7.length c7) := fd6.mono (Nat.le_trans y3 (bl_call h5 (bl_drew (Below.refl _ _))).size)
  have HP7 : Hid (redP (sg (!na == nb) (val la)) (val lb) = redP (flipZ p s) s.natAbs) := by unfold Hid; rw [HSA.out, HF.out]
  rw [HP7.out]
  go_wp2_with fail
  refine bodyPost_ret (v := .tuple #[.agg #[.bool (decide (redP (flipZ p s) s.natAbs < 0)), .slice A6 l6.length c6, .slice A7 l7.length c7], .bool true]) (by simp [results, Try.results33, go_sem, d60, d61, d62]) rfl ⟨_, rfl, ⟨_, _, rfl, ?_, ?_, hfm.mono (by omega), hfd.mono (by omega)⟩, (((B1.trans (B16.mono B1.size)).setCell (by simp; omega) _).setCell (by simp; omega) _).setCell (by simp; omega) _⟩
  · exact ((hm7.set_ hfm (by simp) _).set_ hfm (by simp) _).set_ hfm (by simp) _
  · exact ((hd7.set_ hfd (by simp) _).set_ hfd (by simp) _).set_ hfd (by simp) _

set_option maxHeartbeats 4000000 in
theorem qof_any (n d : Int) (w : World) (h1 : -9223372036854775808 ≤ n) (h2 : n ≤ 9223372036854775807) (hd0 : 0 < d) (hd1 : d ≤ 9223372036854775807) :
    Calls Try.prog 26 #[.int .i64 n, .int .i64 d] w fun e w' => ∃ x, e = .returned (.tuple #[x, .bool true]) ∧ RatF w.heap.size w' x (redP n d.toNat) (redQ n d.toNat) 2 ∧ Below w.heap.size w w' := by
  have hgb := Row.new w 42 [.bool false, .slice none 0 0, .slice none 0 0]
  have B0 : Below w.heap.size w (w.alloc (.cells #[.bool false, .slice none 0 0, .slice none 0 0] 42)) := (Below.refl _ _).alloc (Nat.le_refl _) _
  have hz : (w.alloc (.cells #[.bool false, .slice none 0 0, .slice none 0 0] 42)).heap.size = w.heap.size + 1 := by simp
  have HZ := Lib.hid hz
  have HFL : Hid (flipZ n d = n ∧ d.natAbs = d.toNat) := ⟨if_neg (by omega), by omega⟩
  clear hz
  go_enter Try.func26, Try.ntmps26
  go_wp2_with fail
  refine (iof_any n _ h1 h2).mono ?_
  rintro e w1 ⟨v1, rfl, hI1, hb1⟩
  have B1 := B0.trans (hb1.mono B0.size)
  have hI1' := hI1
  obtain ⟨mv1, rfl, hn1, hf1⟩ := hI1'
  go_wp2_with fail
  refine (iof_any d _ (by omega) (by omega)).mono ?_
  rintro e w2 ⟨v2, rfl, hI2, hb2⟩
  have B2 := B1.trans (hb2.mono B1.size)
  have hI2' := hI2
  obtain ⟨mv2, rfl, hn2, hf2⟩ := hI2'
  go_wp2_with fail
  refine (qmake_any _ _ n d 2 2 _ (hI1.intA.below hb2) hI2.intA (by omega) (by omega) (by omega)).mono ?_
  rintro e w6 ⟨x, rfl, hx, h6⟩
  rw [HFL.out.1, HFL.out.2] at hx
  have hx' := hx
  obtain ⟨mv6, dv6, rfl, hm6, hd6, fm6, fd6⟩ := hx'
  have hm6' := hm6
  have hd6' := hd6
  obtain ⟨l6, ⟨⟨A6, c6, rfl, _, _, _⟩, _⟩, _⟩ := hm6'
  obtain ⟨l7, ⟨⟨A7, c7, rfl, _, _, _⟩, _⟩, _⟩ := hd6'
  have B06 := hb1.trans ((hb2.trans (h6.mono hb2.size)).mono hb1.size)
  have B6 := B0.trans (B06.mono B0.size)
  have r6 := hgb.keep B06
  have d60 : w6.cell? ⟨w.heap.size, 0, none⟩ = some (.bool false) := r6.cell 0
  have d61 : w6.cell? ⟨w.heap.size, 1, none⟩ = some (.slice none 0 0) := r6.cell 1
  have d62 : w6.cell? ⟨w.heap.size, 2, none⟩ = some (.slice none 0 0) := r6.cell 2
  have f60 := r6.frozen 0
  have f61 := r6.frozen 1
  have f62 := r6.frozen 2
  have hs1 := hb1.size
  have hs2 := hb2.size
  rw [HZ.out] at hs1
  have hfm : Fresh (w.heap.size + 1) (.slice A6 l6.length c6) := fm6.mono (by omega)
  have hfd : Fresh (w.heap.size + 1) (.slice A7 l7.length c7) := fd6.mono (by omega)
  clear r6
  go_wp2_with fail
  refine bodyPost_ret (v := .tuple #[.agg #[.bool (decide (redP n d.toNat < 0)), .slice A6 l6.length c6, .slice A7 l7.length c7], .bool true]) (by simp [results, Try.results26, go_sem, d60, d61, d62]) rfl ⟨_, rfl, ⟨_, _, rfl, ?_, ?_, hfm.mono (by omega), hfd.mono (by omega)⟩, ((B6.setCell (Nat.le_refl _) _).setCell (Nat.le_refl _) _).setCell (Nat.le_refl _) _⟩
  · exact ((hm6.set_ hfm (by simp) _).set_ hfm (by simp) _).set_ hfm (by simp) _
  · exact ((hd6.set_ hfd (by simp) _).set_ hfd (by simp) _).set_ hfd (by simp) _
end Go.Proofs.Ytdmjgildgjpmcaa
