/- The walks of integer's Neg and Sub, of ratio's Neg, Abs and Sub. -/
import Derived.Test.YtfoleamcaflfeaaGreatDoorRatQ
namespace Go.Proofs.YtfoleamcaflfeaaGreatDoor
open Go.RowKit
set_option linter.unusedVariables false

theorem sg_not (b : Bool) (n : Nat) : sg (!b) n = -(sg b n) := by cases b <;> simp [sg]

set_option maxHeartbeats 4000000 in
theorem ineg_any (v : Value) (p : Int) (L : Nat) (w : World) (h : IntA w v p L) (hL : L ≤ 70368744177650) :
    Calls Tryz.prog 86 #[v] w fun e w' => ∃ x, e = .returned x ∧ IntF w.heap.size w' x (-p) L ∧ Below w.heap.size w w' := by
  obtain ⟨na, av, la, rfl, hla, kla, HA⟩ := h
  have hla' := hla
  obtain ⟨⟨A, cA, rfl, _, _, _⟩, _⟩ := hla'
  obtain ⟨W0, hW0⟩ : ∃ W0 : World, W0 = (w.alloc (.cells #[.bool na, .slice A la.length cA] 26)).alloc (.cells #[.bool false, .slice none 0 0] 26) := ⟨_, rfl⟩
  have r0 : Row W0 w.heap.size 26 [.bool na, .slice A la.length cA] := by
    rw [hW0]
    have := Row.alloc (Row.new w 26 [.bool na, .slice A la.length cA]) (.cells #[.bool false, .slice none 0 0] 26)
    simpa using this
  have r1 : Row W0 (w.heap.size + 1) 26 [.bool false, .slice none 0 0] := by
    rw [hW0]
    have := Row.new (w.alloc (.cells #[.bool na, .slice A la.length cA] 26)) 26 [.bool false, .slice none 0 0]
    simpa using this
  have B0 : Below w.heap.size w W0 := by rw [hW0]; exact (((Below.refl _ _).alloc (Nat.le_refl _) _).alloc (by simp) _)
  have a0 : W0.cell? ⟨w.heap.size, 0, none⟩ = some (.bool na) := r0.cell 0
  have a1 : W0.cell? ⟨w.heap.size, 1, none⟩ = some (.slice A la.length cA) := r0.cell 1
  have hz : w.heap.size + 2 ≤ W0.heap.size := r1.lt
  have HP : Hid (sg (!na) (val la) = -p) := by unfold Hid; rw [HA, sg_not]
  clear HA
  go_enter Tryz.func86, Tryz.ntmps86
  go_wp2_with fail
  rw [← hW0]
  clear hW0
  go_wp2_with fail
  refine (imake_any _ _ la _ (hla.below B0) (by omega)).mono ?_
  rintro e w6 ⟨v6, rfl, hI, h6⟩
  rw [HP.out] at hI
  obtain ⟨mv6, rfl, hn6, hf6⟩ := hI
  have hn6' := hn6
  obtain ⟨l6, ⟨⟨A6, c6, rfl, _, _, _⟩, _⟩, _⟩ := hn6'
  have B6 := B0.trans (h6.mono B0.size)
  have r6 := r1.keep h6
  have d60 : w6.cell? ⟨w.heap.size + 1, 0, none⟩ = some (.bool false) := r6.cell 0
  have d61 : w6.cell? ⟨w.heap.size + 1, 1, none⟩ = some (.slice none 0 0) := r6.cell 1
  have f60 := r6.frozen 0
  have f61 := r6.frozen 1
  have hf7 : Fresh (w.heap.size + 2) (.slice A6 l6.length c6) := hf6.mono hz
  clear r6
  go_wp2_with fail
  refine bodyPost_ret (v := .agg #[.bool (decide (-p < 0)), .slice A6 l6.length c6]) (by simp [results, Tryz.results86, go_sem, d60, d61]) rfl ⟨_, rfl, ⟨_, rfl, ?_, hf7.mono (by omega)⟩, (B6.setCell (by simp) _).setCell (by simp) _⟩
  exact ((hn6.set_ hf7 (by simp) _).set_ hf7 (by simp) _).mono kla

set_option maxHeartbeats 4000000 in
theorem isub_any (v u : Value) (p q : Int) (L M : Nat) (w : World) (ha : IntA w v p L) (hb : IntA w u q M) (hL : L ≤ 70368744177600) (hM : M ≤ 70368744177600) :
    Calls Tryz.prog 74 #[v, u] w fun e w' => ∃ x, e = .returned x ∧ IntF w.heap.size w' x (p - q) (L + M + 1) ∧ Below w.heap.size w w' := by
  obtain ⟨na, A, kA, cA, rfl⟩ := ha.show_
  obtain ⟨nb, B, kB, cB, rfl⟩ := hb.show_
  obtain ⟨W0, hW0⟩ : ∃ W0 : World, W0 = ((w.alloc (.cells #[.bool na, .slice A kA cA] 26)).alloc (.cells #[.bool nb, .slice B kB cB] 26)).alloc (.cells #[.bool false, .slice none 0 0] 26) := ⟨_, rfl⟩
  have r0 : Row W0 w.heap.size 26 [.bool na, .slice A kA cA] := by
    rw [hW0]
    have := Row.alloc (Row.alloc (Row.new w 26 [.bool na, .slice A kA cA]) (.cells #[.bool nb, .slice B kB cB] 26)) (.cells #[.bool false, .slice none 0 0] 26)
    simpa using this
  have r1 : Row W0 (w.heap.size + 1) 26 [.bool nb, .slice B kB cB] := by
    rw [hW0]
    have := Row.alloc (Row.new (w.alloc (.cells #[.bool na, .slice A kA cA] 26)) 26 [.bool nb, .slice B kB cB]) (.cells #[.bool false, .slice none 0 0] 26)
    simpa using this
  have r2 : Row W0 (w.heap.size + 2) 26 [.bool false, .slice none 0 0] := by
    rw [hW0]
    have := Row.new ((w.alloc (.cells #[.bool na, .slice A kA cA] 26)).alloc (.cells #[.bool nb, .slice B kB cB] 26)) 26 [.bool false, .slice none 0 0]
    simpa using this
  have B0 : Below w.heap.size w W0 := by rw [hW0]; exact ((((Below.refl _ _).alloc (Nat.le_refl _) _).alloc (by simp) _).alloc (by simp; omega) _)
  have a0 : W0.cell? ⟨w.heap.size, 0, none⟩ = some (.bool na) := r0.cell 0
  have a1 : W0.cell? ⟨w.heap.size, 1, none⟩ = some (.slice A kA cA) := r0.cell 1
  have b0 : W0.cell? ⟨w.heap.size + 1, 0, none⟩ = some (.bool nb) := r1.cell 0
  have b1 : W0.cell? ⟨w.heap.size + 1, 1, none⟩ = some (.slice B kB cB) := r1.cell 1
  have d0 : W0.cell? ⟨w.heap.size + 2, 0, none⟩ = some (.bool false) := r2.cell 0
  have d1 : W0.cell? ⟨w.heap.size + 2, 1, none⟩ = some (.slice none 0 0) := r2.cell 1
  have e0 : W0.frozen? ⟨w.heap.size + 2, 0, none⟩ = false := r2.frozen 0
  have e1 : W0.frozen? ⟨w.heap.size + 2, 1, none⟩ = false := r2.frozen 1
  have z0 := r0.lt
  have z1 := r1.lt
  have z2 := r2.lt
  have hz : w.heap.size + 3 ≤ W0.heap.size := z2
  have ha2 := ha.below B0
  have hb2 := hb.below B0
  have hM2 : M ≤ 70368744177650 := by omega
  have HPQ : Hid (p + -q = p - q) := by unfold Hid; omega
  go_enter Tryz.func74, Tryz.ntmps74
  go_wp2_with fail
  rw [← hW0]
  clear hW0
  go_wp2_with fail
  go_region_held3 (fun w' => w'.cell? ⟨w.heap.size, 0, none⟩ = some (.bool na) ∧ w'.cell? ⟨w.heap.size, 1, none⟩ = some (.slice A kA cA) ∧ w'.cell? ⟨w.heap.size + 1, 0, none⟩ = some (.bool nb) ∧ w'.cell? ⟨w.heap.size + 1, 1, none⟩ = some (.slice B kB cB))
      (first
        | (refine keep4c z0 z0 z1 z1 a0 a1 b0 b1 ?_; (repeat (first | with_reducible exact Below.refl _ _ | with_reducible refine bl_call h5 ?_ | with_reducible refine bl_call h6 ?_ | with_reducible refine bl_drew ?_)); done)
        | (refine keep4s (keep4c z0 z0 z1 z1 a0 a1 b0 b1 ?_); (repeat (first | with_reducible exact Below.refl _ _ | with_reducible refine bl_call h5 ?_ | with_reducible refine bl_call h6 ?_ | with_reducible refine bl_drew ?_)); done))
      (first
        | (go_at_call 86; ((with_reducible refine (ineg_any _ q M _ (hb2.below ?_) hM2).mono ?_); (repeat (first | with_reducible exact Below.refl _ _ | with_reducible refine bl_call h5 ?_ | with_reducible refine bl_call h6 ?_ | with_reducible refine bl_drew ?_)); rintro e w5 ⟨v5, rfl, hI5, h5⟩))
        | (go_at_call 85; ((with_reducible refine (iadd_any _ _ p (-q) L M _ (ha2.below ?_) hI5.intA hL hM).mono ?_); (repeat (first | with_reducible exact Below.refl _ _ | with_reducible refine bl_call h5 ?_ | with_reducible refine bl_call h6 ?_ | with_reducible refine bl_drew ?_)); rintro e w6 ⟨v6, rfl, ⟨mv6, rfl, hn6, hf6⟩, h6⟩; have hn6' := hn6; obtain ⟨l6, ⟨⟨A6, c6, rfl, _, _, _⟩, _⟩, _⟩ := hn6'; have B6 : Below W0.heap.size W0 w6 := bl_call h6 (bl_call h5 (bl_drew (Below.refl _ _))); have d60 := (B6.cell (p := ⟨w.heap.size + 2, 0, none⟩) z2).trans d0; have d61 := (B6.cell (p := ⟨w.heap.size + 2, 1, none⟩) z2).trans d1; have f60 := (B6.frozen (p := ⟨w.heap.size + 2, 0, none⟩) z2).trans e0; have f61 := (B6.frozen (p := ⟨w.heap.size + 2, 1, none⟩) z2).trans e1)))
  have hn7 : NatAt w6 (.slice A6 l6.length c6) (p - q).natAbs (L + M + 1) := by rw [← HPQ.out]; exact hn6
  have hf7 : Fresh (w.heap.size + 3) (.slice A6 l6.length c6) := hf6.mono (Nat.le_trans hz ((bl_call h5 (bl_drew (Below.refl _ _))).size))
  rw [HPQ.out]
  go_wp2_with fail
  refine bodyPost_ret (v := .agg #[.bool (decide (p - q < 0)), .slice A6 l6.length c6]) (by simp [results, Tryz.results74, go_sem, d60, d61]) rfl ⟨_, rfl, ⟨_, rfl, ?_, hf7.mono (by omega)⟩, ((B0.trans (B6.mono B0.size)).setCell (p := ⟨w.heap.size + 1 + 1, 0, none⟩) (by simp; omega) _).setCell (p := ⟨w.heap.size + 1 + 1, 1, none⟩) (by simp; omega) _⟩
  exact (hn7.set_ hf7 (by simp) _).set_ hf7 (by simp) _

theorem keep6c {W w' : World} {p1 p2 p3 p4 p5 p6 : Addr} {x1 x2 x3 x4 x5 x6 : Value} (l1 : p1.block < W.heap.size) (l2 : p2.block < W.heap.size) (l3 : p3.block < W.heap.size) (l4 : p4.block < W.heap.size) (l5 : p5.block < W.heap.size) (l6 : p6.block < W.heap.size) (h1 : W.cell? p1 = some x1) (h2 : W.cell? p2 = some x2) (h3 : W.cell? p3 = some x3) (h4 : W.cell? p4 = some x4) (h5 : W.cell? p5 = some x5) (h6 : W.cell? p6 = some x6) (hb : Below W.heap.size W w') :
    w'.cell? p1 = some x1 ∧ w'.cell? p2 = some x2 ∧ w'.cell? p3 = some x3 ∧ w'.cell? p4 = some x4 ∧ w'.cell? p5 = some x5 ∧ w'.cell? p6 = some x6 := ⟨(hb.cell l1).trans h1, (hb.cell l2).trans h2, (hb.cell l3).trans h3, (hb.cell l4).trans h4, (hb.cell l5).trans h5, (hb.cell l6).trans h6⟩
theorem keep6s {w : World} {g : Nat} {x y z x1 x2 x3 x4 x5 x6 : Value} (h : w.cell? ⟨g, 0, none⟩ = some x1 ∧ w.cell? ⟨g, 1, none⟩ = some x2 ∧ w.cell? ⟨g, 2, none⟩ = some x3 ∧ w.cell? ⟨g + 1, 0, none⟩ = some x4 ∧ w.cell? ⟨g + 1, 1, none⟩ = some x5 ∧ w.cell? ⟨g + 1, 2, none⟩ = some x6) :
    (((w.setCell ⟨g + 2, 0, none⟩ x).setCell ⟨g + 2, 1, none⟩ y).setCell ⟨g + 2, 2, none⟩ z).cell? ⟨g, 0, none⟩ = some x1 ∧ (((w.setCell ⟨g + 2, 0, none⟩ x).setCell ⟨g + 2, 1, none⟩ y).setCell ⟨g + 2, 2, none⟩ z).cell? ⟨g, 1, none⟩ = some x2 ∧ (((w.setCell ⟨g + 2, 0, none⟩ x).setCell ⟨g + 2, 1, none⟩ y).setCell ⟨g + 2, 2, none⟩ z).cell? ⟨g, 2, none⟩ = some x3 ∧ (((w.setCell ⟨g + 2, 0, none⟩ x).setCell ⟨g + 2, 1, none⟩ y).setCell ⟨g + 2, 2, none⟩ z).cell? ⟨g + 1, 0, none⟩ = some x4 ∧ (((w.setCell ⟨g + 2, 0, none⟩ x).setCell ⟨g + 2, 1, none⟩ y).setCell ⟨g + 2, 2, none⟩ z).cell? ⟨g + 1, 1, none⟩ = some x5 ∧ (((w.setCell ⟨g + 2, 0, none⟩ x).setCell ⟨g + 2, 1, none⟩ y).setCell ⟨g + 2, 2, none⟩ z).cell? ⟨g + 1, 2, none⟩ = some x6 := by
  obtain ⟨h1, h2, h3, h4, h5, h6⟩ := h
  have n1 : ∀ (w : World) (a b k : Nat) (z : Value), a < g + 2 → (w.setCell ⟨g + 2, b, none⟩ z).cell? ⟨a, k, none⟩ = w.cell? ⟨a, k, none⟩ := fun w a b k z ha => World.cell?_setCell_other _ _ _ _ (fun e => by injection e with e _ _; omega)
  refine ⟨?_, ?_, ?_, ?_, ?_, ?_⟩
  · rw [n1 _ _ _ _ _ (by omega), n1 _ _ _ _ _ (by omega), n1 _ _ _ _ _ (by omega)]; exact h1
  · rw [n1 _ _ _ _ _ (by omega), n1 _ _ _ _ _ (by omega), n1 _ _ _ _ _ (by omega)]; exact h2
  · rw [n1 _ _ _ _ _ (by omega), n1 _ _ _ _ _ (by omega), n1 _ _ _ _ _ (by omega)]; exact h3
  · rw [n1 _ _ _ _ _ (by omega), n1 _ _ _ _ _ (by omega), n1 _ _ _ _ _ (by omega)]; exact h4
  · rw [n1 _ _ _ _ _ (by omega), n1 _ _ _ _ _ (by omega), n1 _ _ _ _ _ (by omega)]; exact h5
  · rw [n1 _ _ _ _ _ (by omega), n1 _ _ _ _ _ (by omega), n1 _ _ _ _ _ (by omega)]; exact h6

theorem red_sub (p p' : Int) (q q' : Nat) (hq : 0 < q) (hq' : 0 < q') : redP (p * ((redQ (-p') q' : Nat) : Int) + redP (-p') q' * (q : Int)) (q * redQ (-p') q') = redP (p * (q' : Int) - p' * (q : Int)) (q * q') ∧ redQ (p * ((redQ (-p') q' : Nat) : Int) + redP (-p') q' * (q : Int)) (q * redQ (-p') q') = redQ (p * (q' : Int) - p' * (q : Int)) (q * q') := by
  obtain ⟨m1, m2⟩ := red_mul (-p') q'
  have hQ := redQ_pos (p := -p') hq'
  generalize Nat.gcd (-p').natAbs q' = g at *
  refine red_cross (Nat.mul_pos hq hQ) (Nat.mul_pos hq hq') ?_
  generalize redP (-p') q' = P at *
  generalize redQ (-p') q' = Q at *
  have e : (q' : Int) = (Q : Int) * (g : Int) := by rw [m2, Int.natCast_mul]
  have e2 : p' = -(P * (g : Int)) := by omega
  rw [Int.natCast_mul, Int.natCast_mul, e, e2]
  grind

end Go.Proofs.YtfoleamcaflfeaaGreatDoor
