/- The walk of ratio's Cmp. -/
import Derived.Test.YtdmjgildgjpmcaaRatD
namespace Go.Proofs.Ytdmjgildgjpmcaa
open Go.RowKit
set_option linter.unusedVariables false

set_option maxHeartbeats 8000000 in
theorem qcmp_any (v u : Value) (p p' : Int) (q q' L : Nat) (w : World) (ha : RatA w v p q L) (hb : RatA w u p' q' L) (hL : 2 ≤ L) (hM : L ≤ 35184372088800) :
    Calls Try.prog 43 #[v, u] w fun e w' => e = .returned (.int .i64 (cmpZ (p * (q' : Int)) (p' * (q : Int)))) ∧ Below w.heap.size w w' := by
  have hp1 := ha.pos
  have hp2 := hb.pos
  obtain ⟨na, A, n, cA, B, k, cB, rfl⟩ := ha.show_
  obtain ⟨nb, A', n', cA', B', k', cB', rfl⟩ := hb.show_
  obtain ⟨W0, hW0⟩ : ∃ W0 : World, W0 = (w.alloc (.cells #[.bool na, .slice A n cA, .slice B k cB] 42)).alloc (.cells #[.bool nb, .slice A' n' cA', .slice B' k' cB'] 42) := ⟨_, rfl⟩
  have r0 : Row W0 w.heap.size 42 [.bool na, .slice A n cA, .slice B k cB] := by rw [hW0]; exact (Row.new w 42 [.bool na, .slice A n cA, .slice B k cB]).alloc _
  have r1 : Row W0 (w.heap.size + 1) 42 [.bool nb, .slice A' n' cA', .slice B' k' cB'] := by
    rw [hW0]
    have := (Row.new (w.alloc (.cells #[.bool na, .slice A n cA, .slice B k cB] 42)) 42 [.bool nb, .slice A' n' cA', .slice B' k' cB'])
    simpa using this
  have B0 : Below w.heap.size w W0 := by rw [hW0]; exact ((Below.refl _ _).alloc (Nat.le_refl _) _).alloc (by simp) _
  have hz : w.heap.size + 2 ≤ W0.heap.size := r1.lt
  have a0 : W0.cell? ⟨w.heap.size, 0, none⟩ = some (.bool na) := r0.cell 0
  have a1 : W0.cell? ⟨w.heap.size, 1, none⟩ = some (.slice A n cA) := r0.cell 1
  have a2 : W0.cell? ⟨w.heap.size, 2, none⟩ = some (.slice B k cB) := r0.cell 2
  go_enter Try.func43, Try.ntmps43
  go_wp2_with fail
  rw [← hW0]
  clear hW0
  go_wp2_with fail
  refine (parts_any _ p q L _ (ha.below B0) hL).mono ?_
  rintro e w1 ⟨x1, y1, lq1, rfl, hx1, hy1, hv1, hk1, hb1⟩
  obtain ⟨nx, X, kx, cx, rfl⟩ := hx1.show_
  obtain ⟨Y, ky, cy, rfl⟩ := hy1.show_
  have B1 := B0.trans (hb1.mono B0.size)
  obtain ⟨W1, hW1⟩ : ∃ W1 : World, W1 = w1.alloc (.cells #[.bool nx, .slice X kx cx] 40) := ⟨_, rfl⟩
  have r5 : Row W1 w1.heap.size 40 [.bool nx, .slice X kx cx] := by rw [hW1]; exact Row.new w1 40 [.bool nx, .slice X kx cx]
  have B1' : Below w1.heap.size w1 W1 := by rw [hW1]; exact (Below.refl _ _).alloc (Nat.le_refl _) _
  have B01 : Below W0.heap.size W0 W1 := hb1.trans (B1'.mono hb1.size)
  have s1 := r1.keep B01
  have b0 : W1.cell? ⟨w.heap.size + 1, 0, none⟩ = some (.bool nb) := s1.cell 0
  have b1 : W1.cell? ⟨w.heap.size + 1, 1, none⟩ = some (.slice A' n' cA') := s1.cell 1
  have b2 : W1.cell? ⟨w.heap.size + 1, 2, none⟩ = some (.slice B' k' cB') := s1.cell 2
  have b0' := b0
  have b1' := b1
  have b2' := b2
  rw [hW1] at b0' b1' b2'
  have BW1 := B0.trans (B01.mono B0.size)
  clear s1 a0 a1 a2
  go_wp2_with fail
  rw [← hW1]
  clear b0' b1' b2' hW1
  go_wp2_with fail
  refine (parts_any _ p' q' L _ (hb.below BW1) hL).mono ?_
  rintro e w2 ⟨x2, y2, lq2, rfl, hx2, hy2, hv2, hk2, hb2⟩
  obtain ⟨nu, U, ku, cu, rfl⟩ := hx2.show_
  obtain ⟨V, kv, cv, rfl⟩ := hy2.show_
  have B2 := BW1.trans (hb2.mono BW1.size)
  obtain ⟨W2, hW2⟩ : ∃ W2 : World, W2 = w2.alloc (.cells #[.bool nu, .slice U ku cu] 40) := ⟨_, rfl⟩
  have r7 : Row W2 w2.heap.size 40 [.bool nu, .slice U ku cu] := by rw [hW2]; exact Row.new w2 40 [.bool nu, .slice U ku cu]
  have B2' : Below w2.heap.size w2 W2 := by rw [hW2]; exact (Below.refl _ _).alloc (Nat.le_refl _) _
  have B12 : Below W1.heap.size W1 W2 := hb2.trans (B2'.mono hb2.size)
  have BW2 := BW1.trans (B12.mono BW1.size)
  have r5' := r5.keep B12
  have c0 : W2.cell? ⟨w1.heap.size, 0, none⟩ = some (.bool nx) := r5'.cell 0
  have c1 : W2.cell? ⟨w1.heap.size, 1, none⟩ = some (.slice X kx cx) := r5'.cell 1
  have d0 : W2.cell? ⟨w2.heap.size, 0, none⟩ = some (.bool nu) := r7.cell 0
  have d1 : W2.cell? ⟨w2.heap.size, 1, none⟩ = some (.slice U ku cu) := r7.cell 1
  have z5 := r5'.lt
  have z7 := r7.lt
  have hX1 := (hx1.below B1').below B12
  have hY1 := (hy1.below B1').below B12
  have hX2 := hx2.below B2'
  have hY2 := hy2.below B2'
  have i1 : lq1.length ≤ 70368744177650 := by omega
  have i2 : lq2.length ≤ 70368744177650 := by omega
  have i3 : L + L ≤ 70368744177600 := by omega
  have i4 : L ≤ 35184372088820 := by omega
  have HV1 := Lib.hid hv1
  have HV2 := Lib.hid hv2
  clear b0 b1 b2 r5 hx1 hx2 hy1 hy2 B1 B2 B01 ha hb r0 r1 B1' B2' B12 BW1 B0 hb1 hb2 r5' hv1 hv2
  go_wp2_with fail
  rw [← hW2]
  clear hW2
  go_wp2_with fail
  go_region_held3 (fun w' => w'.cell? ⟨w1.heap.size, 0, none⟩ = some (.bool nx) ∧ w'.cell? ⟨w1.heap.size, 1, none⟩ = some (.slice X kx cx) ∧ w'.cell? ⟨w2.heap.size, 0, none⟩ = some (.bool nu) ∧ w'.cell? ⟨w2.heap.size, 1, none⟩ = some (.slice U ku cu))
      ((refine keep4c z5 z5 z7 z7 c0 c1 d0 d1 ?_; (repeat (first | with_reducible exact Below.refl _ _ | with_reducible refine bl_call h9 ?_ | with_reducible refine bl_call h8 ?_ | with_reducible refine bl_call h7 ?_ | with_reducible refine bl_call h6 ?_ | with_reducible refine bl_call h5 ?_ | with_reducible refine bl_drew ?_)); done))
      (first
        | (go_at_call 73; ((with_reducible refine (whole_any (.slice V kv cv) lq2 _ (hY2.below ?_) i2).mono ?_); ((repeat (first | with_reducible exact Below.refl _ _ | with_reducible refine bl_call h9 ?_ | with_reducible refine bl_call h8 ?_ | with_reducible refine bl_call h7 ?_ | with_reducible refine bl_call h6 ?_ | with_reducible refine bl_call h5 ?_ | with_reducible refine bl_drew ?_))); rintro e w5 ⟨v5, rfl, hI5, h5⟩; rw [HV2.out] at hI5; have hJ5 := hI5.intA.mono hk2; clear hI5))
        | (go_at_call 39; ((with_reducible refine (imul_any (.agg #[.bool nx, .slice X kx cx]) _ p _ L L _ (hX1.below ?_) (hJ5.below ?_) i4 i4).mono ?_); ((repeat (first | with_reducible exact Below.refl _ _ | with_reducible refine bl_call h9 ?_ | with_reducible refine bl_call h8 ?_ | with_reducible refine bl_call h7 ?_ | with_reducible refine bl_call h6 ?_ | with_reducible refine bl_call h5 ?_ | with_reducible refine bl_drew ?_))); ((repeat (first | with_reducible exact Below.refl _ _ | with_reducible refine bl_call h9 ?_ | with_reducible refine bl_call h8 ?_ | with_reducible refine bl_call h7 ?_ | with_reducible refine bl_call h6 ?_ | with_reducible refine bl_call h5 ?_ | with_reducible refine bl_drew ?_))); rintro e w6 ⟨v6, rfl, hI6, h6⟩; have hJ6 := hI6.intA; clear hI6))
        | (go_at_call 73; ((with_reducible refine (whole_any (.slice Y ky cy) lq1 _ (hY1.below ?_) i1).mono ?_); ((repeat (first | with_reducible exact Below.refl _ _ | with_reducible refine bl_call h9 ?_ | with_reducible refine bl_call h8 ?_ | with_reducible refine bl_call h7 ?_ | with_reducible refine bl_call h6 ?_ | with_reducible refine bl_call h5 ?_ | with_reducible refine bl_drew ?_))); rintro e w7 ⟨v7, rfl, hI7, h7⟩; rw [HV1.out] at hI7; have hJ7 := hI7.intA.mono hk1; clear hI7))
        | (go_at_call 39; ((with_reducible refine (imul_any (.agg #[.bool nu, .slice U ku cu]) _ p' _ L L _ (hX2.below ?_) (hJ7.below ?_) i4 i4).mono ?_); ((repeat (first | with_reducible exact Below.refl _ _ | with_reducible refine bl_call h9 ?_ | with_reducible refine bl_call h8 ?_ | with_reducible refine bl_call h7 ?_ | with_reducible refine bl_call h6 ?_ | with_reducible refine bl_call h5 ?_ | with_reducible refine bl_drew ?_))); ((repeat (first | with_reducible exact Below.refl _ _ | with_reducible refine bl_call h9 ?_ | with_reducible refine bl_call h8 ?_ | with_reducible refine bl_call h7 ?_ | with_reducible refine bl_call h6 ?_ | with_reducible refine bl_call h5 ?_ | with_reducible refine bl_drew ?_))); rintro e w8 ⟨v8, rfl, hI8, h8⟩; have hJ8 := hI8.intA; clear hI8))
        | (go_at_call 72; ((with_reducible refine (icmp_any _ _ _ _ _ _ _ (hJ6.below ?_) (hJ8.below ?_)).mono ?_); ((repeat (first | with_reducible exact Below.refl _ _ | with_reducible refine bl_call h9 ?_ | with_reducible refine bl_call h8 ?_ | with_reducible refine bl_call h7 ?_ | with_reducible refine bl_call h6 ?_ | with_reducible refine bl_call h5 ?_ | with_reducible refine bl_drew ?_))); ((repeat (first | with_reducible exact Below.refl _ _ | with_reducible refine bl_call h9 ?_ | with_reducible refine bl_call h8 ?_ | with_reducible refine bl_call h7 ?_ | with_reducible refine bl_call h6 ?_ | with_reducible refine bl_call h5 ?_ | with_reducible refine bl_drew ?_))); rintro e w9 ⟨rfl, h9⟩)))
  go_wp2_with fail
  go_ret
  refine ⟨rfl, BW2.trans (Below.mono ?_ BW2.size)⟩
  (repeat (first | with_reducible exact Below.refl _ _ | with_reducible refine bl_call h9 ?_ | with_reducible refine bl_call h8 ?_ | with_reducible refine bl_call h7 ?_ | with_reducible refine bl_call h6 ?_ | with_reducible refine bl_call h5 ?_ | with_reducible refine bl_drew ?_))
end Go.Proofs.Ytdmjgildgjpmcaa
