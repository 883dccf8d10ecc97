/- The walk of ratio's Add. -/
import Derived.Test.YtdmjgildgjpmcaaRatE
import Derived.Deep.CutRange
import Derived.Deep.DeepCutAuto
import Derived.Deep.Light
namespace Go.Proofs.Ytdmjgildgjpmcaa
open Go.RowKit
set_option linter.unusedVariables false

theorem bl_alloc {a w : World} (h : Below a.heap.size a w) (o : Obj) : Below a.heap.size a (w.alloc o) := h.alloc h.size o
theorem bl_set {a w : World} (h : Below a.heap.size a w) {p : Addr} (hp : a.heap.size ≤ p.block) (x : Value) : Below a.heap.size a (w.setCell p x) := h.setCell hp x
theorem keep2c {W w' : World} {p1 p2 : Addr} {x1 x2 : Value} (l1 : p1.block < W.heap.size) (l2 : p2.block < W.heap.size) (h1 : W.cell? p1 = some x1) (h2 : W.cell? p2 = some x2) (hb : Below W.heap.size W w') :
    w'.cell? p1 = some x1 ∧ w'.cell? p2 = some x2 := ⟨(hb.cell l1).trans h1, (hb.cell l2).trans h2⟩
theorem keep2t {w : World} {g b : Nat} {x y z x1 x2 : Value} (hne : b < g) (h : w.cell? ⟨g, 0, none⟩ = some x1 ∧ w.cell? ⟨g, 1, none⟩ = some x2) :
    (((w.setCell ⟨b, 0, none⟩ x).setCell ⟨b, 1, none⟩ y).setCell ⟨b, 2, none⟩ z).cell? ⟨g, 0, none⟩ = some x1 ∧ (((w.setCell ⟨b, 0, none⟩ x).setCell ⟨b, 1, none⟩ y).setCell ⟨b, 2, none⟩ z).cell? ⟨g, 1, none⟩ = some x2 := by
  obtain ⟨h1, h2⟩ := h
  have n1 : ∀ (w : World) (k k' : Nat) (z : Value), (w.setCell ⟨b, k', none⟩ z).cell? ⟨g, k, none⟩ = w.cell? ⟨g, k, none⟩ := fun w k k' z => World.cell?_setCell_other _ _ _ _ (fun e => by injection e with e _ _; omega)
  refine ⟨?_, ?_⟩
  · rw [n1, n1, n1]; exact h1
  · rw [n1, n1, n1]; exact h2

theorem NatAt.tight {w : World} {v : Value} {n M L : Nat} (h : NatAt w v n M) (hn : n < bp L) : NatAt w v n L := by
  obtain ⟨ls, h1, h2, h3, h4⟩ := h
  refine ⟨ls, h1, h2, h3, ?_⟩
  rcases Nat.lt_or_ge L ls.length with hlt | hge
  · exfalso
    have hge := NoTop.ge h2 (by omega)
    have hm : bp L ≤ bp (ls.length - 1) := bp_mono (by omega)
    omega
  · exact hge
theorem IntF.tight {b : Nat} {w : World} {v : Value} {p : Int} {M L : Nat} (h : IntF b w v p M) (hp : p.natAbs < bp L) : IntF b w v p L := by
  obtain ⟨mv, e, h1, f1⟩ := h
  exact ⟨mv, e, h1.tight hp, f1⟩
theorem RatF.tight {b : Nat} {w : World} {v : Value} {p : Int} {q M L : Nat} (h : RatF b w v p q M) (hp : p.natAbs < bp L) (hq : q < bp L) : RatF b w v p q L := by
  obtain ⟨mv, dv, e, h1, h2, f1, f2⟩ := h
  exact ⟨mv, dv, e, h1.tight hp, h2.tight hq, f1, f2⟩
theorem RatA.lt {w : World} {v : Value} {p : Int} {q L : Nat} (h : RatA w v p q L) (hL : 1 ≤ L) : p.natAbs < bp L ∧ q < bp L := by
  obtain ⟨neg, mv, ls, dv, ld, rfl, h1, h2, h3, h4, hp, hq⟩ := h
  have b1 : 1 < bp L := Nat.lt_of_lt_of_le (by rw [bp_one]; decide) (bp_mono hL)
  have a1 := Nat.lt_of_lt_of_le (val_lt h1.2) (bp_mono h3)
  have a2 := Nat.lt_of_lt_of_le (val_lt h2.2) (bp_mono h4)
  constructor
  · rw [hp]
    split
    · simp; omega
    · rw [sg_abs]; exact a1
  · rw [hq]
    split
    · exact b1
    · exact a2
theorem add_lt {p p' : Int} {q q' L : Nat} (h1 : p.natAbs < bp L ∧ q < bp L) (h2 : p'.natAbs < bp L ∧ q' < bp L) : (p * (q' : Int) + p' * (q : Int)).natAbs < bp (L + L + 1) := by
  have a1 : p.natAbs * q' ≤ bp L * bp L := Nat.mul_le_mul (Nat.le_of_lt h1.1) (Nat.le_of_lt h2.2)
  have a2 : p'.natAbs * q ≤ bp L * bp L := Nat.mul_le_mul (Nat.le_of_lt h2.1) (Nat.le_of_lt h1.2)
  have a3 : (p * (q' : Int) + p' * (q : Int)).natAbs ≤ p.natAbs * q' + p'.natAbs * q := by
    have := Int.natAbs_add_le (p * (q' : Int)) (p' * (q : Int))
    rw [Int.natAbs_mul, Int.natAbs_mul, Int.natAbs_natCast, Int.natAbs_natCast] at this
    exact this
  have a4 : bp (L + L + 1) = bp L * bp L * 4294967296 := by rw [bp_succ, bp_add]
  have a5 : 0 < bp L * bp L := Nat.mul_pos (bp_pos _) (bp_pos _)
  omega

set_option maxHeartbeats 16000000 in
theorem qadd_wide (v u : Value) (p p' : Int) (q q' L : Nat) (w : World) (ha : RatA w v p q L) (hb : RatA w u p' q' L) (hL : 2 ≤ L) (hM : L ≤ 35184372088700) :
    Calls Try.prog 90 #[v, u] w fun e w' => ∃ x, e = .returned x ∧ RatF w.heap.size w' x (redP (p * (q' : Int) + p' * (q : Int)) (q * q')) (redQ (p * (q' : Int) + p' * (q : Int)) (q * q')) (L + L + 1) ∧ Below w.heap.size w w' := by
  have hp1 := ha.pos
  have HTB := Lib.hid (add_lt (ha.lt (by omega)) (hb.lt (by omega)))
  have hp2 := hb.pos
  obtain ⟨na, A, n, cA, B, k, cB, rfl⟩ := ha.show_
  obtain ⟨nb, A', n', cA', B', k', cB', rfl⟩ := hb.show_
  obtain ⟨W0, hW0⟩ : ∃ W0 : World, W0 = ((w.alloc (.cells #[.bool na, .slice A n cA, .slice B k cB] 42)).alloc (.cells #[.bool nb, .slice A' n' cA', .slice B' k' cB'] 42)).alloc (.cells #[.bool false, .slice none 0 0, .slice none 0 0] 42) := ⟨_, rfl⟩
  have r0 : Row W0 w.heap.size 42 [.bool na, .slice A n cA, .slice B k cB] := by rw [hW0]; exact ((Row.new w 42 [.bool na, .slice A n cA, .slice B k cB]).alloc _).alloc _
  have r1 : Row W0 (w.heap.size + 1) 42 [.bool nb, .slice A' n' cA', .slice B' k' cB'] := by
    rw [hW0]
    have := (Row.new (w.alloc (.cells #[.bool na, .slice A n cA, .slice B k cB] 42)) 42 [.bool nb, .slice A' n' cA', .slice B' k' cB']).alloc (.cells #[.bool false, .slice none 0 0, .slice none 0 0] 42)
    simpa using this
  have r2 : Row W0 (w.heap.size + 2) 42 [.bool false, .slice none 0 0, .slice none 0 0] := by
    rw [hW0]
    have := Row.new ((w.alloc (.cells #[.bool na, .slice A n cA, .slice B k cB] 42)).alloc (.cells #[.bool nb, .slice A' n' cA', .slice B' k' cB'] 42)) 42 [.bool false, .slice none 0 0, .slice none 0 0]
    simpa using this
  have B0 : Below w.heap.size w W0 := by rw [hW0]; exact (((Below.refl _ _).alloc (Nat.le_refl _) _).alloc (by simp) _).alloc (by simp; omega) _
  have hz : w.heap.size + 3 ≤ W0.heap.size := r2.lt
  have a0 : W0.cell? ⟨w.heap.size, 0, none⟩ = some (.bool na) := r0.cell 0
  have a1 : W0.cell? ⟨w.heap.size, 1, none⟩ = some (.slice A n cA) := r0.cell 1
  have a2 : W0.cell? ⟨w.heap.size, 2, none⟩ = some (.slice B k cB) := r0.cell 2
  go_enter Try.func90, Try.ntmps90
  go_wp2_with fail
  rw [← hW0]
  clear hW0
  go_wp2_with fail
  refine (parts_any _ p q L _ (ha.below B0) hL).mono ?_
  rintro e w1 ⟨x1, y1, lq1, rfl, hx1, hy1, hv1, hk1, hb1⟩
  obtain ⟨nx, X, kx, cx, rfl⟩ := hx1.show_
  obtain ⟨Y, ky, cy, rfl⟩ := hy1.show_
  have B1 := B0.trans (hb1.mono B0.size)
  obtain ⟨W1, hW1⟩ : ∃ W1 : World, W1 = w1.alloc (.cells #[.bool nx, .slice X kx cx] 40) := ⟨_, rfl⟩
  have r5 : Row W1 w1.heap.size 40 [.bool nx, .slice X kx cx] := by rw [hW1]; exact Row.new w1 40 [.bool nx, .slice X kx cx]
  have B1' : Below w1.heap.size w1 W1 := by rw [hW1]; exact (Below.refl _ _).alloc (Nat.le_refl _) _
  have B01 : Below W0.heap.size W0 W1 := hb1.trans (B1'.mono hb1.size)
  have s1 := r1.keep B01
  have b0 : W1.cell? ⟨w.heap.size + 1, 0, none⟩ = some (.bool nb) := s1.cell 0
  have b1 : W1.cell? ⟨w.heap.size + 1, 1, none⟩ = some (.slice A' n' cA') := s1.cell 1
  have b2 : W1.cell? ⟨w.heap.size + 1, 2, none⟩ = some (.slice B' k' cB') := s1.cell 2
  have b0' := b0
  have b1' := b1
  have b2' := b2
  rw [hW1] at b0' b1' b2'
  have BW1 := B0.trans (B01.mono B0.size)
  clear s1 a0 a1 a2
  go_wp2_with fail
  rw [← hW1]
  clear b0' b1' b2' hW1
  go_wp2_with fail
  refine (parts_any _ p' q' L _ (hb.below BW1) hL).mono ?_
  rintro e w2 ⟨x2, y2, lq2, rfl, hx2, hy2, hv2, hk2, hb2⟩
  obtain ⟨nu, U, ku, cu, rfl⟩ := hx2.show_
  obtain ⟨V, kv, cv, rfl⟩ := hy2.show_
  have B2 := BW1.trans (hb2.mono BW1.size)
  obtain ⟨W2, hW2⟩ : ∃ W2 : World, W2 = w2.alloc (.cells #[.bool nu, .slice U ku cu] 40) := ⟨_, rfl⟩
  have r7 : Row W2 w2.heap.size 40 [.bool nu, .slice U ku cu] := by rw [hW2]; exact Row.new w2 40 [.bool nu, .slice U ku cu]
  have B2' : Below w2.heap.size w2 W2 := by rw [hW2]; exact (Below.refl _ _).alloc (Nat.le_refl _) _
  have B12 : Below W1.heap.size W1 W2 := hb2.trans (B2'.mono hb2.size)
  have BW2 := BW1.trans (B12.mono BW1.size)
  have r5' := r5.keep B12
  have c0 : W2.cell? ⟨w1.heap.size, 0, none⟩ = some (.bool nx) := r5'.cell 0
  have c1 : W2.cell? ⟨w1.heap.size, 1, none⟩ = some (.slice X kx cx) := r5'.cell 1
  have d0 : W2.cell? ⟨w2.heap.size, 0, none⟩ = some (.bool nu) := r7.cell 0
  have d1 : W2.cell? ⟨w2.heap.size, 1, none⟩ = some (.slice U ku cu) := r7.cell 1
  have z5 := r5'.lt
  have z7 := r7.lt
  have hX1 := (hx1.below B1').below B12
  have hY1 := (hy1.below B1').below B12
  have hX2 := hx2.below B2'
  have hY2 := hy2.below B2'
  have i12 : lq1.length + lq2.length ≤ 70368744177650 := by omega
  have i1 : lq1.length ≤ 70368744177650 := by omega
  have i2 : lq2.length ≤ 70368744177650 := by omega
  have i3 : L + L ≤ 70368744177600 := by omega
  have i4 : L ≤ 35184372088820 := by omega
  have B02 : Below W0.heap.size W0 W2 := B01.trans (B12.mono B01.size)
  have r2' := r2.keep B02
  have HV1 := Lib.hid hv1
  have HV2 := Lib.hid hv2
  clear b0 b1 b2 r5 hx1 hx2 hy1 hy2 B1 B2 B01 ha hb r0 r1 B1' B2' B12 BW1 B0 hb1 hb2 r5' hv1 hv2
  go_wp2_with fail
  rw [← hW2]
  clear hW2
  go_wp2_with fail
  have HL : Hid (∀ l : List Nat, l.length ≤ lq1.length + lq2.length → l.length ≤ (L + L + 1)) := fun l h => by omega
  have i5 : (L + L + 1) ≤ 70368744177600 := by omega
  have HQQ : Hid (∀ l : List Nat, val l = val lq1 * val lq2 → 0 < val l ∧ val l = q * q') := fun l h => by
    rw [HV1.out, HV2.out] at h
    exact ⟨by rw [h]; exact Nat.mul_pos hp1 hp2, h⟩
  have z2 : w.heap.size + 2 < W2.heap.size := r2'.lt
  go_cut [9] (fun s9 wx => ∃ (g : Nat) (nz : Bool) (Z : Option Addr) (kz cz : Nat), s9 = .pointer (some ⟨g, 0, none⟩) ∧ W2.heap.size ≤ g ∧ Row wx g 40 [.bool nz, .slice Z kz cz] ∧ IntA wx (.agg #[.bool nz, .slice Z kz cz]) (p * (q' : Int) + p' * (q : Int)) (L + L + 1) ∧ Below W2.heap.size W2 wx)
  case first =>
    go_region_held3 (fun w' => w'.cell? ⟨w1.heap.size, 0, none⟩ = some (.bool nx) ∧ w'.cell? ⟨w1.heap.size, 1, none⟩ = some (.slice X kx cx) ∧ w'.cell? ⟨w2.heap.size, 0, none⟩ = some (.bool nu) ∧ w'.cell? ⟨w2.heap.size, 1, none⟩ = some (.slice U ku cu))
      ((refine keep4c z5 z5 z7 z7 c0 c1 d0 d1 ?_; (repeat (first | with_reducible exact Below.refl _ _ | ((with_reducible refine bl_set ?_ ?_ _); rotate_left; (first | exact Nat.le_refl _ | exact g5 | exact g6 | exact g7 | exact g8 | exact g9)) | with_reducible refine bl_call h9 ?_ | with_reducible refine bl_call h8 ?_ | with_reducible refine bl_call h7 ?_ | with_reducible refine bl_call h6 ?_ | with_reducible refine bl_call h5 ?_ | with_reducible refine bl_alloc ?_ _ | with_reducible refine bl_drew ?_)); done))
      (first
        | (go_at_call 73; ((with_reducible refine (whole_any (.slice V kv cv) lq2 _ (hY2.below ?_) i2).mono ?_); ((repeat (first | with_reducible exact Below.refl _ _ | ((with_reducible refine bl_set ?_ ?_ _); rotate_left; (first | exact Nat.le_refl _ | exact g5 | exact g6 | exact g7 | exact g8 | exact g9)) | with_reducible refine bl_call h9 ?_ | with_reducible refine bl_call h8 ?_ | with_reducible refine bl_call h7 ?_ | with_reducible refine bl_call h6 ?_ | with_reducible refine bl_call h5 ?_ | with_reducible refine bl_alloc ?_ _ | with_reducible refine bl_drew ?_))); rintro e w5 ⟨v5, rfl, hI5, h5⟩; have g5 : W2.heap.size ≤ w5.heap.size := (bl_call h5 (by (repeat (first | with_reducible exact Below.refl _ _ | ((with_reducible refine bl_set ?_ ?_ _); rotate_left; (first | exact Nat.le_refl _ | exact g5 | exact g6 | exact g7 | exact g8 | exact g9)) | with_reducible refine bl_call h9 ?_ | with_reducible refine bl_call h8 ?_ | with_reducible refine bl_call h7 ?_ | with_reducible refine bl_call h6 ?_ | with_reducible refine bl_call h5 ?_ | with_reducible refine bl_alloc ?_ _ | with_reducible refine bl_drew ?_))) : Below W2.heap.size W2 w5).size; rw [HV2.out] at hI5; have hJ5 := hI5.intA.mono hk2; clear hI5))
        | (go_at_call 39; ((with_reducible refine (imul_any (.agg #[.bool nx, .slice X kx cx]) _ p _ L L _ (hX1.below ?_) (hJ5.below ?_) i4 i4).mono ?_); ((repeat (first | with_reducible exact Below.refl _ _ | ((with_reducible refine bl_set ?_ ?_ _); rotate_left; (first | exact Nat.le_refl _ | exact g5 | exact g6 | exact g7 | exact g8 | exact g9)) | with_reducible refine bl_call h9 ?_ | with_reducible refine bl_call h8 ?_ | with_reducible refine bl_call h7 ?_ | with_reducible refine bl_call h6 ?_ | with_reducible refine bl_call h5 ?_ | with_reducible refine bl_alloc ?_ _ | with_reducible refine bl_drew ?_))); ((repeat (first | with_reducible exact Below.refl _ _ | ((with_reducible refine bl_set ?_ ?_ _); rotate_left; (first | exact Nat.le_refl _ | exact g5 | exact g6 | exact g7 | exact g8 | exact g9)) | with_reducible refine bl_call h9 ?_ | with_reducible refine bl_call h8 ?_ | with_reducible refine bl_call h7 ?_ | with_reducible refine bl_call h6 ?_ | with_reducible refine bl_call h5 ?_ | with_reducible refine bl_alloc ?_ _ | with_reducible refine bl_drew ?_))); rintro e w6 ⟨v6, rfl, hI6, h6⟩; have g6 : W2.heap.size ≤ w6.heap.size := (bl_call h6 (by (repeat (first | with_reducible exact Below.refl _ _ | ((with_reducible refine bl_set ?_ ?_ _); rotate_left; (first | exact Nat.le_refl _ | exact g5 | exact g6 | exact g7 | exact g8 | exact g9)) | with_reducible refine bl_call h9 ?_ | with_reducible refine bl_call h8 ?_ | with_reducible refine bl_call h7 ?_ | with_reducible refine bl_call h6 ?_ | with_reducible refine bl_call h5 ?_ | with_reducible refine bl_alloc ?_ _ | with_reducible refine bl_drew ?_))) : Below W2.heap.size W2 w6).size; have hJ6 := hI6.intA; clear hI6))
        | (go_at_call 73; ((with_reducible refine (whole_any (.slice Y ky cy) lq1 _ (hY1.below ?_) i1).mono ?_); ((repeat (first | with_reducible exact Below.refl _ _ | ((with_reducible refine bl_set ?_ ?_ _); rotate_left; (first | exact Nat.le_refl _ | exact g5 | exact g6 | exact g7 | exact g8 | exact g9)) | with_reducible refine bl_call h9 ?_ | with_reducible refine bl_call h8 ?_ | with_reducible refine bl_call h7 ?_ | with_reducible refine bl_call h6 ?_ | with_reducible refine bl_call h5 ?_ | with_reducible refine bl_alloc ?_ _ | with_reducible refine bl_drew ?_))); rintro e w7 ⟨v7, rfl, hI7, h7⟩; have g7 : W2.heap.size ≤ w7.heap.size := (bl_call h7 (by (repeat (first | with_reducible exact Below.refl _ _ | ((with_reducible refine bl_set ?_ ?_ _); rotate_left; (first | exact Nat.le_refl _ | exact g5 | exact g6 | exact g7 | exact g8 | exact g9)) | with_reducible refine bl_call h9 ?_ | with_reducible refine bl_call h8 ?_ | with_reducible refine bl_call h7 ?_ | with_reducible refine bl_call h6 ?_ | with_reducible refine bl_call h5 ?_ | with_reducible refine bl_alloc ?_ _ | with_reducible refine bl_drew ?_))) : Below W2.heap.size W2 w7).size; rw [HV1.out] at hI7; have hJ7 := hI7.intA.mono hk1; clear hI7))
        | (go_at_call 39; ((with_reducible refine (imul_any (.agg #[.bool nu, .slice U ku cu]) _ p' _ L L _ (hX2.below ?_) (hJ7.below ?_) i4 i4).mono ?_); ((repeat (first | with_reducible exact Below.refl _ _ | ((with_reducible refine bl_set ?_ ?_ _); rotate_left; (first | exact Nat.le_refl _ | exact g5 | exact g6 | exact g7 | exact g8 | exact g9)) | with_reducible refine bl_call h9 ?_ | with_reducible refine bl_call h8 ?_ | with_reducible refine bl_call h7 ?_ | with_reducible refine bl_call h6 ?_ | with_reducible refine bl_call h5 ?_ | with_reducible refine bl_alloc ?_ _ | with_reducible refine bl_drew ?_))); ((repeat (first | with_reducible exact Below.refl _ _ | ((with_reducible refine bl_set ?_ ?_ _); rotate_left; (first | exact Nat.le_refl _ | exact g5 | exact g6 | exact g7 | exact g8 | exact g9)) | with_reducible refine bl_call h9 ?_ | with_reducible refine bl_call h8 ?_ | with_reducible refine bl_call h7 ?_ | with_reducible refine bl_call h6 ?_ | with_reducible refine bl_call h5 ?_ | with_reducible refine bl_alloc ?_ _ | with_reducible refine bl_drew ?_))); rintro e w8 ⟨v8, rfl, hI8, h8⟩; have g8 : W2.heap.size ≤ w8.heap.size := (bl_call h8 (by (repeat (first | with_reducible exact Below.refl _ _ | ((with_reducible refine bl_set ?_ ?_ _); rotate_left; (first | exact Nat.le_refl _ | exact g5 | exact g6 | exact g7 | exact g8 | exact g9)) | with_reducible refine bl_call h9 ?_ | with_reducible refine bl_call h8 ?_ | with_reducible refine bl_call h7 ?_ | with_reducible refine bl_call h6 ?_ | with_reducible refine bl_call h5 ?_ | with_reducible refine bl_alloc ?_ _ | with_reducible refine bl_drew ?_))) : Below W2.heap.size W2 w8).size; have hJ8 := hI8.intA; clear hI8))
        | (go_at_call 50; ((with_reducible refine (iadd_any _ _ _ _ _ _ _ (hJ6.below ?_) (hJ8.below ?_) i3 i3).mono ?_); ((repeat (first | with_reducible exact Below.refl _ _ | ((with_reducible refine bl_set ?_ ?_ _); rotate_left; (first | exact Nat.le_refl _ | exact g5 | exact g6 | exact g7 | exact g8 | exact g9)) | with_reducible refine bl_call h9 ?_ | with_reducible refine bl_call h8 ?_ | with_reducible refine bl_call h7 ?_ | with_reducible refine bl_call h6 ?_ | with_reducible refine bl_call h5 ?_ | with_reducible refine bl_alloc ?_ _ | with_reducible refine bl_drew ?_))); ((repeat (first | with_reducible exact Below.refl _ _ | ((with_reducible refine bl_set ?_ ?_ _); rotate_left; (first | exact Nat.le_refl _ | exact g5 | exact g6 | exact g7 | exact g8 | exact g9)) | with_reducible refine bl_call h9 ?_ | with_reducible refine bl_call h8 ?_ | with_reducible refine bl_call h7 ?_ | with_reducible refine bl_call h6 ?_ | with_reducible refine bl_call h5 ?_ | with_reducible refine bl_alloc ?_ _ | with_reducible refine bl_drew ?_))); rintro e w9 ⟨v9, rfl, hI9, h9⟩; replace hI9 := hI9.tight HTB.out; have g9 : W2.heap.size ≤ w9.heap.size := (bl_call h9 (by (repeat (first | with_reducible exact Below.refl _ _ | ((with_reducible refine bl_set ?_ ?_ _); rotate_left; (first | exact Nat.le_refl _ | exact g5 | exact g6 | exact g7 | exact g8 | exact g9)) | with_reducible refine bl_call h9 ?_ | with_reducible refine bl_call h8 ?_ | with_reducible refine bl_call h7 ?_ | with_reducible refine bl_call h6 ?_ | with_reducible refine bl_call h5 ?_ | with_reducible refine bl_alloc ?_ _ | with_reducible refine bl_drew ?_))) : Below W2.heap.size W2 w9).size; have hI9' := hI9; obtain ⟨mv9, rfl, hn9, hf9⟩ := hI9'; obtain ⟨Z, kz, cz, rfl⟩ := hn9.lim1.choose_spec.1.show_; (first | (have R8 : Row w8 W2.heap.size 40 [.bool false, .slice none 0 0] := ((((Row.new _ 40 [.bool false, .slice none 0 0]).keep h5).keep h6).keep h7).keep h8) | (have R8 : Row w8 W2.heap.size 40 [.bool false, .slice none 0 0] := (((((Row.new W2 40 [.bool false, .slice none 0 0]).drew).keep h5).keep h6).keep h7).keep h8) | (have R8 : Row w8 w5.heap.size 40 [.bool false, .slice none 0 0] := (((Row.new _ 40 [.bool false, .slice none 0 0]).keep h6).keep h7).keep h8) | (have R8 : Row w8 w6.heap.size 40 [.bool false, .slice none 0 0] := ((Row.new _ 40 [.bool false, .slice none 0 0]).keep h7).keep h8) | (have R8 : Row w8 w7.heap.size 40 [.bool false, .slice none 0 0] := (Row.new _ 40 [.bool false, .slice none 0 0]).keep h8) | (have R8 : Row (w8.alloc (.cells #[.bool false, .slice none 0 0] 40)) w8.heap.size 40 [.bool false, .slice none 0 0] := Row.new _ _ _; have R8' := R8.keep h9) | (have R9 : Row (w9.alloc (.cells #[.bool false, .slice none 0 0] 40)) w9.heap.size 40 [.bool false, .slice none 0 0] := Row.new _ _ _; have e0 := R9.cell 0; have e1 := R9.cell 1; simp only [List.getElem?_cons_zero, List.getElem?_cons_succ] at e0 e1; have f0 := R9.frozen 0; have f1 := R9.frozen 1; have f2 := R9.lt)); (try (have R9 := R8.keep h9; have zg := R8.lt; have e0 := R9.cell 0; have e1 := R9.cell 1; simp only [List.getElem?_cons_zero, List.getElem?_cons_succ] at e0 e1; have f0 := R9.frozen 0; have f1 := R9.frozen 1)))))
    all_goals go_wp2_with fail
    all_goals go_meet
    all_goals go_light
    all_goals
      refine ⟨_, decide ((p * (q' : Int) + p' * (q : Int)) < 0), Z, kz, cz, rfl, ?_, ?_, ?_, ?_⟩
      · (first | exact Nat.le_refl _ | exact g5 | exact g6 | exact g7 | exact g8 | exact g9)
      · (first | exact Row.new _ _ _ | exact (R9.set_ 0 _).set_ 1 _)
      · (first | exact hI9.intA.below ((Below.refl _ _).alloc (Nat.le_refl _) _) | exact ((hI9.set_ zg _).set_ zg _).intA)
      · (repeat (first | with_reducible exact Below.refl _ _ | ((with_reducible refine bl_set ?_ ?_ _); rotate_left; (first | exact Nat.le_refl _ | exact g5 | exact g6 | exact g7 | exact g8 | exact g9)) | with_reducible refine bl_call h9 ?_ | with_reducible refine bl_call h8 ?_ | with_reducible refine bl_call h7 ?_ | with_reducible refine bl_call h6 ?_ | with_reducible refine bl_call h5 ?_ | with_reducible refine bl_alloc ?_ _ | with_reducible refine bl_drew ?_))
  case rest =>
    obtain ⟨g, nz, Z, kz, cz, rfl, hg2, hrg, hIz, hbc⟩ := hcut
    have r2c := r2'.keep hbc
    have hYc1 := hY1.below hbc
    have hYc2 := hY2.below hbc
    have BC := BW2.trans (hbc.mono BW2.size)
    have j0 : wc.cell? ⟨w.heap.size + 2, 0, none⟩ = some (.bool false) := r2c.cell 0
    have j1 : wc.cell? ⟨w.heap.size + 2, 1, none⟩ = some (.slice none 0 0) := r2c.cell 1
    have j2 : wc.cell? ⟨w.heap.size + 2, 2, none⟩ = some (.slice none 0 0) := r2c.cell 2
    have k0 := r2c.frozen 0
    have k1 := r2c.frozen 1
    have k2 := r2c.frozen 2
    have y2 : w.heap.size + 2 < wc.heap.size := r2c.lt
    have y3 : w.heap.size + 3 ≤ wc.heap.size := y2
    have o0 : wc.cell? ⟨g, 0, none⟩ = some (.bool nz) := hrg.cell 0
    have o1 : wc.cell? ⟨g, 1, none⟩ = some (.slice Z kz cz) := hrg.cell 1
    have zg : g < wc.heap.size := hrg.lt
    have zb : w.heap.size + 2 < g := Nat.lt_of_lt_of_le z2 hg2
    clear c0 c1 d0 d1 hX1 hX2 hY1 hY2 r7 r2' hbc hrg r2c z5 z7 hg2
    go_wp2_with fail
    go_region_held3 (fun w' => w'.cell? ⟨g, 0, none⟩ = some (.bool nz) ∧ w'.cell? ⟨g, 1, none⟩ = some (.slice Z kz cz))
      (first
        | (refine keep2c zg zg o0 o1 ?_; (repeat (first | with_reducible exact Below.refl _ _ | with_reducible refine bl_call m6 ?_ | with_reducible refine bl_call m5 ?_ | with_reducible refine bl_drew ?_)); done)
        | (refine keep2t zb (keep2c zg zg o0 o1 ?_); (repeat (first | with_reducible exact Below.refl _ _ | with_reducible refine bl_call m6 ?_ | with_reducible refine bl_call m5 ?_ | with_reducible refine bl_drew ?_)); done))
      (first
        | (go_at_call 62; ((with_reducible refine (mul_wide _ _ lq1 lq2 _ (hYc1.below ?_) (hYc2.below ?_) i12).mono ?_); ((repeat (first | with_reducible exact Below.refl _ _ | with_reducible refine bl_call m6 ?_ | with_reducible refine bl_call m5 ?_ | with_reducible refine bl_drew ?_))); ((repeat (first | with_reducible exact Below.refl _ _ | with_reducible refine bl_call m6 ?_ | with_reducible refine bl_call m5 ?_ | with_reducible refine bl_drew ?_))); rintro e w5 ⟨v5, rfl, l5, hl5, nt5, hv5, hk5, hf5, m5⟩; have HM := Lib.hid (HQQ.out l5 hv5); have hk5' := HL.out l5 hk5; clear hv5 hk5))
        | (go_at_call 53; ((with_reducible refine (reduce_any _ _ _ l5 (L + L + 1) _ (hIz.below ?_) hl5 i5 hk5' HM.out.1).mono ?_); ((repeat (first | with_reducible exact Below.refl _ _ | with_reducible refine bl_call m6 ?_ | with_reducible refine bl_call m5 ?_ | with_reducible refine bl_drew ?_))); rintro e w6 ⟨v6, rfl, ⟨mv6, dv6, rfl, hm6, hd6, fm6, fd6⟩, m6⟩; have hm6' := hm6; have hd6' := hd6; obtain ⟨l6, ⟨⟨A6, c6, rfl, _, _, _⟩, _⟩, _⟩ := hm6'; obtain ⟨l7, ⟨⟨A7, c7, rfl, _, _, _⟩, _⟩, _⟩ := hd6'; have B6 : Below wc.heap.size wc w6 := bl_call m6 (bl_call m5 (bl_drew (Below.refl _ _))); have d60 := (B6.cell (p := ⟨w.heap.size + 2, 0, none⟩) y2).trans j0; have d61 := (B6.cell (p := ⟨w.heap.size + 2, 1, none⟩) y2).trans j1; have d62 := (B6.cell (p := ⟨w.heap.size + 2, 2, none⟩) y2).trans j2; have f60 := (B6.frozen (p := ⟨w.heap.size + 2, 0, none⟩) y2).trans k0; have f61 := (B6.frozen (p := ⟨w.heap.size + 2, 1, none⟩) y2).trans k1; have f62 := (B6.frozen (p := ⟨w.heap.size + 2, 2, none⟩) y2).trans k2)))
    have hm7 := hm6
    have hd7 := hd6
    rw [HM.out.2] at hm7 hd7
    have B16 : Below wc.heap.size wc w6 := bl_call m6 (bl_call m5 (bl_drew (Below.refl _ _)))
    have hfm : Fresh (w.heap.size + 3) (.slice A6 l6.length c6) := fm6.mono (Nat.le_trans y3 (bl_call m5 (bl_drew (Below.refl _ _))).size)
    have hfd : Fresh (w.heap.size + 3) (.slice A7 l7.length c7) := fd6.mono (Nat.le_trans y3 (bl_call m5 (bl_drew (Below.refl _ _))).size)
    rw [HM.out.2]
    go_wp2_with fail
    refine bodyPost_ret (v := .agg #[.bool (decide (redP (p * (q' : Int) + p' * (q : Int)) (q * q') < 0)), .slice A6 l6.length c6, .slice A7 l7.length c7]) (by simp [results, Try.results90, go_sem, d60, d61, d62]) rfl ⟨_, rfl, ⟨_, _, rfl, ?_, ?_, hfm.mono (by omega), hfd.mono (by omega)⟩, (((BC.trans (B16.mono BC.size)).setCell (by simp; omega) _).setCell (by simp; omega) _).setCell (by simp; omega) _⟩
    · exact ((hm7.set_ hfm (by simp) _).set_ hfm (by simp) _).set_ hfm (by simp) _
    · exact ((hd7.set_ hfd (by simp) _).set_ hfd (by simp) _).set_ hfd (by simp) _
theorem qadd_any (v u : Value) (p p' : Int) (q q' L : Nat) (w : World) (ha : RatA w v p q L) (hb : RatA w u p' q' L) (hL : 2 ≤ L) (hM : L ≤ 17592186044000) :
    Calls Try.prog 90 #[v, u] w fun e w' => ∃ x, e = .returned x ∧ RatF w.heap.size w' x (redP (p * (q' : Int) + p' * (q : Int)) (q * q')) (redQ (p * (q' : Int) + p' * (q : Int)) (q * q')) (L + L + (L + L) + 1) ∧ Below w.heap.size w w' := by
  refine (qadd_wide v u p p' q q' L w ha hb hL (by omega)).mono ?_
  rintro e w' ⟨x, he, hx, hb⟩
  exact ⟨x, he, hx.mono (by omega), hb⟩

end Go.Proofs.Ytdmjgildgjpmcaa
