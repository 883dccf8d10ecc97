/- The walks of the reference's integers: Norm, Make, Neg, Add, Mul (package examboardref02). -/
import Derived.Test.YtfoleamcaflfeaaGreatDoorRfQ
import Derived.Test.YtfoleamcaflfeaaGreatDoorRefB
import Derived.Test.YtfoleamcaflfeaaGreatDoorIntC
namespace Go.Proofs.YtfoleamcaflfeaaGreatDoor
open Go.RowKit
set_option linter.unusedVariables false

set_option maxHeartbeats 4000000 in
theorem r2norm_core (neg : Bool) (v : Value) (ls : List Nat) (w : World) (h : Lim w v ls) (hl : ls.length ≤ 70368744177664) :
    Calls Tryz.prog 64 #[.agg #[.bool neg, v]] w fun e w' => ∃ u, e = .returned u ∧ IntF w.heap.size w' u (sg neg (val ls)) ls.length ∧ Below w.heap.size w w' := by
  obtain ⟨⟨A0, c0, rfl, _, _, _⟩, _⟩ := id h
  obtain ⟨m0, hm0⟩ : ∃ m, ls.length = m := ⟨_, rfl⟩
  obtain ⟨W0, hW0⟩ : ∃ W0 : World, W0 = (w.alloc (.cells #[.bool neg, .slice A0 ls.length c0] 26)).alloc (.cells #[.bool false, .slice none 0 0] 26) := ⟨_, rfl⟩
  have r0 : Row W0 w.heap.size 26 [.bool neg, .slice A0 ls.length c0] := by rw [hW0]; exact (Row.new w 26 [.bool neg, .slice A0 ls.length c0]).alloc _
  have r1 : Row W0 (w.heap.size + 1) 26 [.bool false, .slice none 0 0] := by
    rw [hW0]
    have := Row.new (w.alloc (.cells #[.bool neg, .slice A0 ls.length c0] 26)) 26 [.bool false, .slice none 0 0]
    simpa using this
  have B0 : Below w.heap.size w W0 := by rw [hW0]; exact (((Below.refl _ _).alloc (Nat.le_refl _) _).alloc (by simp) _)
  have HSN := Lib.hid (sg_neg neg (val ls))
  have HSA := Lib.hid (sg_abs neg (val ls))
  clear hm0
  go_enter Tryz.func64, Tryz.ntmps64
  go_wp2_with fail
  rw [← hW0]
  clear hW0
  have x0 : W0.cell? ⟨w.heap.size, 0, none⟩ = some (.bool neg) := r0.cell 0
  have x1 : W0.cell? ⟨w.heap.size, 1, none⟩ = some (.slice A0 ls.length c0) := r0.cell 1
  go_wp2_with fail
  refine (rnorm_any _ ls _ (h.below B0) hl).mono ?_
  rintro e w1 ⟨v1, rfl, hN⟩
  have hb1 := hN.bel
  have B1 : Below w.heap.size w w1 := B0.trans (hb1.mono B0.size)
  replace r0 := r0.keep hb1
  have hz0 := r1.lt
  replace r1 := r1.keep hb1
  have hf := hN.fresh
  have hn := hN.nat
  obtain ⟨A, k, c, rfl, hk, hk2⟩ := natAt_pos hn
  have hf1 : Fresh (w.heap.size + 2) (.slice A k c) := hf.mono hz0
  clear x0 x1
  have x0 : w1.cell? ⟨w.heap.size, 0, none⟩ = some (.bool neg) := r0.cell 0
  have c0' : w1.cell? ⟨w.heap.size + 1, 0, none⟩ = some (.bool false) := r1.cell 0
  have c1' : w1.cell? ⟨w.heap.size + 1, 1, none⟩ = some (.slice none 0 0) := r1.cell 1
  have f0 : w1.frozen? ⟨w.heap.size + 1, 0, none⟩ = false := r1.frozen 0
  have f1 : w1.frozen? ⟨w.heap.size + 1, 1, none⟩ = false := r1.frozen 1
  have z0 := r0.lt
  have z1 := r1.lt
  have HK : Hid (decide (0 < k) = decide (0 < val ls)) := by unfold Hid; rw [Bool.eq_iff_iff]; simpa using hk
  clear hk hN hf
  rcases neg with _ | _
  · go_wp2_with fail
    refine bodyPost_ret (v := .agg #[.bool false, .slice A k c]) (by simp [results, Tryz.results64, go_sem, c0', c1']) rfl ⟨_, rfl, ⟨.slice A k c, by rw [HSN.out]; rfl, ?_, hf1.mono (by omega)⟩, (B1.setCell (by simp) _).setCell (by simp) _⟩
    rw [HSA.out]
    exact (hn.set_ hf1 (by simp) _).set_ hf1 (by simp) _
  · rcases hd : decide (0 < k) with _ | _
    · go_wp2_with fail
      refine bodyPost_ret (v := .agg #[.bool false, .slice A k c]) (by simp [results, Tryz.results64, go_sem, c0', c1']) rfl ⟨_, rfl, ⟨.slice A k c, by rw [HSN.out, ← HK.out, hd]; rfl, ?_, hf1.mono (by omega)⟩, (B1.setCell (by simp) _).setCell (by simp) _⟩
      rw [HSA.out]
      exact (hn.set_ hf1 (by simp) _).set_ hf1 (by simp) _
    · go_wp2_with fail
      refine bodyPost_ret (v := .agg #[.bool true, .slice A k c]) (by simp [results, Tryz.results64, go_sem, c0', c1']) rfl ⟨_, rfl, ⟨.slice A k c, by rw [HSN.out, ← HK.out, hd]; rfl, ?_, hf1.mono (by omega)⟩, (B1.setCell (by simp) _).setCell (by simp) _⟩
      rw [HSA.out]
      exact (hn.set_ hf1 (by simp) _).set_ hf1 (by simp) _
theorem r2norm_any (v : Value) (p : Int) (L : Nat) (w : World) (h : IntA w v p L) (hL : L ≤ 70368744177664) :
    Calls Tryz.prog 64 #[v] w fun e w' => ∃ u, e = .returned u ∧ IntF w.heap.size w' u p L ∧ Below w.heap.size w w' := by
  obtain ⟨neg, mv, ls, rfl, h1, h2, h3⟩ := h
  refine (r2norm_core neg mv ls w h1 (by omega)).mono ?_
  rintro e w' ⟨u, he, hu, hb⟩
  exact ⟨u, he, by rw [h3]; exact hu.mono h2, hb⟩
set_option maxHeartbeats 2000000 in
theorem r2make_any (neg : Bool) (v : Value) (ls : List Nat) (w : World) (h : Lim w v ls) (hl : ls.length ≤ 70368744177663) :
    Calls Tryz.prog 42 #[.bool neg, v] w fun e w' => ∃ u, e = .returned u ∧ IntF w.heap.size w' u (sg neg (val ls)) ls.length ∧ Below w.heap.size w w' := by
  have hgb := Row.new w 26 [.bool false, .slice none 0 0]
  have B0 : Below w.heap.size w (w.alloc (.cells #[.bool false, .slice none 0 0] 26)) := (Below.refl _ _).alloc (Nat.le_refl _) _
  have h0 := h.below B0
  have HNC := Lib.hid (r2norm_core neg v ls _ h0 (by omega))
  obtain ⟨⟨A0, c0', rfl, _, _, _⟩, _⟩ := id h
  go_enter Tryz.func42, Tryz.ntmps42
  go_wp2_with fail
  refine HNC.out.mono ?_
  rintro e w1 ⟨u, rfl, hu, hb⟩
  replace hgb := hgb.keep hb
  obtain ⟨mv, rfl, hn, hf⟩ := hu
  obtain ⟨A, k, c, rfl, _, _⟩ := natAt_pos hn
  have c0 := hgb.cell 0
  have c1 := hgb.cell 1
  have f0 := hgb.frozen 0
  have f1 := hgb.frozen 1
  have z := hgb.lt
  simp only [List.getElem?_cons_zero, List.getElem?_cons_succ] at c0 c1
  have hf1 : Fresh (w.heap.size + 1) (.slice A k c) := by rw [show w.heap.size + 1 = (w.alloc (.cells #[.bool false, .slice none 0 0] 26)).heap.size by simp]; exact hf
  clear hf
  go_wp2_with fail
  refine bodyPost_ret (v := .agg #[.bool (decide (sg neg (val ls) < 0)), .slice A k c]) (by simp [results, Tryz.results42, go_sem, c0, c1]) rfl ⟨_, rfl, ⟨_, rfl, ?_, hf1.mono (by omega)⟩, ((B0.trans (hb.mono B0.size)).setCell (Nat.le_refl _) _).setCell (Nat.le_refl _) _⟩
  exact (hn.set_ hf1 (by simp) _).set_ hf1 (by simp) _

theorem rmulW (v u : Value) (la lb : List Nat) (w : World) (ha : Lim w v la) (hb : Lim w u lb) (hsum : la.length + lb.length ≤ 70368744177663) :
    Calls Tryz.prog 67 #[v, u] w fun e w' => ∃ v, e = .returned v ∧ NRes w w' v (val la * val lb) (la.length + lb.length) := rmul_wide v u la lb w ha hb (by omega)
theorem rsubG (v u : Value) (a b : List Nat) (w : World) (ha : Lim w v a) (hb : Lim w u b) (h1 : a.length ≤ 70368744177663) (h2 : b.length ≤ 70368744177663) (hle : val b ≤ val a) :
    Calls Tryz.prog 92 #[v, u] w fun e w' => ∃ x, e = .returned (.tuple #[x, .bool true]) ∧ NRes w w' x (val a - val b) a.length := rsub_ge v u a b w ha hb (by omega) (by omega) hle
theorem rsub_ltB (v u : Value) (la lb : List Nat) (w : World) (ha : Lim w v la) (hb : Lim w u lb) (h1 : la.length ≤ 70368744177664) (h2 : lb.length ≤ 70368744177664) (hlt : val la < val lb) :
    Calls Tryz.prog 92 #[v, u] w fun e w' => e = .returned (.tuple #[.slice none 0 0, .bool false]) ∧ Below w.heap.size w w' :=
  (rsub_lt v u la lb w ha hb h1 h2 hlt).mono fun e w' h => ⟨h.1, by rw [← h.2]; exact Below.refl _ _⟩
theorem sg_notR (b : Bool) (n : Nat) : sg (!b) n = -(sg b n) := by cases b <;> simp [sg]


set_option maxHeartbeats 4000000 in
theorem r2mul_wide (v u : Value) (p q : Int) (L M : Nat) (w : World) (ha : IntA w v p L) (hb : IntA w u q M) (hLM : L + M ≤ 70368744177663) :
    Calls Tryz.prog 41 #[v, u] w fun e w' => ∃ x, e = .returned x ∧ IntF w.heap.size w' x (p * q) (L + M) ∧ Below w.heap.size w w' := by
  have ha0 := ha
  have hb0 := hb
  obtain ⟨na, av, la, rfl, hla, kla, HA⟩ := ha
  obtain ⟨nb, bv, lb, rfl, hlb, klb, HB⟩ := hb
  have hla' := hla
  have hlb' := hlb
  obtain ⟨⟨A, cA, rfl, _, _, _⟩, _⟩ := hla'
  obtain ⟨⟨B, cB, rfl, _, _, _⟩, _⟩ := hlb'
  obtain ⟨W0, hW0⟩ : ∃ W0 : World, W0 = ((w.alloc (.cells #[.bool na, .slice A la.length cA] 26)).alloc (.cells #[.bool nb, .slice B lb.length cB] 26)).alloc (.cells #[.bool false, .slice none 0 0] 26) := ⟨_, rfl⟩
  have r0 : Row W0 w.heap.size 26 [.bool na, .slice A la.length cA] := by rw [hW0]; exact ((Row.new w 26 [.bool na, .slice A la.length cA]).alloc _).alloc _
  have r1 : Row W0 (w.heap.size + 1) 26 [.bool nb, .slice B lb.length cB] := by
    rw [hW0]
    have := (Row.new (w.alloc (.cells #[.bool na, .slice A la.length cA] 26)) 26 [.bool nb, .slice B lb.length cB]).alloc (.cells #[.bool false, .slice none 0 0] 26)
    simpa using this
  have r2 : Row W0 (w.heap.size + 2) 26 [.bool false, .slice none 0 0] := by
    rw [hW0]
    have := Row.new ((w.alloc (.cells #[.bool na, .slice A la.length cA] 26)).alloc (.cells #[.bool nb, .slice B lb.length cB] 26)) 26 [.bool false, .slice none 0 0]
    simpa using this
  have B0 : Below w.heap.size w W0 := by rw [hW0]; exact (((Below.refl _ _).alloc (Nat.le_refl _) _).alloc (by simp) _).alloc (by simp; omega) _
  have hka : la.length ≤ 70368744177663 := by omega
  have hkb : lb.length ≤ 70368744177663 := by omega
  have hkk : la.length + lb.length ≤ 70368744177663 := by omega
  have HPQ : Hid (sg (!na == nb) (val la * val lb) = p * q) := by
    unfold Hid; rw [HA, HB]
    cases na <;> cases nb <;> simp [sg, Int.neg_mul, Int.mul_neg]
  clear HA HB
  go_enter Tryz.func41, Tryz.ntmps41
  go_wp2_with fail
  rw [← hW0]
  clear hW0
  have a0 : W0.cell? ⟨w.heap.size, 0, none⟩ = some (.bool na) := r0.cell 0
  have a1 : W0.cell? ⟨w.heap.size, 1, none⟩ = some (.slice A la.length cA) := r0.cell 1
  have b0 : W0.cell? ⟨w.heap.size + 1, 0, none⟩ = some (.bool nb) := r1.cell 0
  have b1 : W0.cell? ⟨w.heap.size + 1, 1, none⟩ = some (.slice B lb.length cB) := r1.cell 1
  have d0 : W0.cell? ⟨w.heap.size + 2, 0, none⟩ = some (.bool false) := r2.cell 0
  have d1 : W0.cell? ⟨w.heap.size + 2, 1, none⟩ = some (.slice none 0 0) := r2.cell 1
  have e0 : W0.frozen? ⟨w.heap.size + 2, 0, none⟩ = false := r2.frozen 0
  have e1 : W0.frozen? ⟨w.heap.size + 2, 1, none⟩ = false := r2.frozen 1
  have z0 := r0.lt
  have z1 := r1.lt
  have z2 := r2.lt
  have hz : w.heap.size + 3 ≤ W0.heap.size := z2
  have hla2 := hla.below B0
  have hlb2 := hlb.below B0
  go_region_held3 (fun w' => w'.cell? ⟨w.heap.size, 0, none⟩ = some (.bool na) ∧ w'.cell? ⟨w.heap.size, 1, none⟩ = some (.slice A la.length cA) ∧ w'.cell? ⟨w.heap.size + 1, 0, none⟩ = some (.bool nb) ∧ w'.cell? ⟨w.heap.size + 1, 1, none⟩ = some (.slice B lb.length cB))
      (first
        | (refine keep4c z0 z0 z1 z1 a0 a1 b0 b1 ?_; (repeat (first | with_reducible exact Below.refl _ _ | with_reducible refine bl_call h5 ?_ | with_reducible refine bl_call h6 ?_ | with_reducible refine bl_drew ?_)); done)
        | (refine keep4s (keep4c z0 z0 z1 z1 a0 a1 b0 b1 ?_); (repeat (first | with_reducible exact Below.refl _ _ | with_reducible refine bl_call h5 ?_ | with_reducible refine bl_call h6 ?_ | with_reducible refine bl_drew ?_)); done))
      (first
        | (go_at_call 67; ((with_reducible refine (rmulW _ _ la lb _ (hla2.below ?_) (hlb2.below ?_) hkk).mono ?_); ((repeat (first | with_reducible exact Below.refl _ _ | with_reducible refine bl_call h5 ?_ | with_reducible refine bl_call h6 ?_ | with_reducible refine bl_drew ?_))); ((repeat (first | with_reducible exact Below.refl _ _ | with_reducible refine bl_call h5 ?_ | with_reducible refine bl_call h6 ?_ | with_reducible refine bl_drew ?_))); rintro e w5 ⟨v5, rfl, l5, hl5, nt5, hv5, hk5, hf5, h5⟩))
        | (go_at_call 42; ((with_reducible refine (r2make_any _ _ _ _ hl5 (Nat.le_trans hk5 hkk)).mono ?_); rintro e w6 ⟨v6, rfl, ⟨mv6, rfl, hn6, hf6⟩, h6⟩; have hn6' := hn6; obtain ⟨l6, ⟨⟨A6, c6, rfl, _, _, _⟩, _⟩, _⟩ := hn6'; have B6 : Below W0.heap.size W0 w6 := bl_call h6 (bl_call h5 (bl_drew (Below.refl _ _))); have d60 := (B6.cell (p := ⟨w.heap.size + 2, 0, none⟩) z2).trans d0; have d61 := (B6.cell (p := ⟨w.heap.size + 2, 1, none⟩) z2).trans d1; have f60 := (B6.frozen (p := ⟨w.heap.size + 2, 0, none⟩) z2).trans e0; have f61 := (B6.frozen (p := ⟨w.heap.size + 2, 1, none⟩) z2).trans e1)))
  have hPQ : sg (!na == nb) (val l5) = p * q := by rw [hv5]; exact HPQ.out
  have hPQ2 : sg (na != nb) (val l5) = p * q := by rw [← hPQ]; rfl
  have hn7 : NatAt w6 (.slice A6 l6.length c6) (p * q).natAbs (L + M) := by rw [← hPQ2]; exact hn6.mono (by omega)
  have hf7 : Fresh (w.heap.size + 3) (.slice A6 l6.length c6) := hf6.mono (Nat.le_trans hz ((bl_call h5 (bl_drew (Below.refl _ _))).size))
  have hdp : decide (sg (na != nb) (val l5) < 0) = decide (p * q < 0) := by rw [hPQ2]
  go_wp2_with fail
  refine bodyPost_ret (v := .agg #[.bool (decide (p * q < 0)), .slice A6 l6.length c6]) (by simp [results, Tryz.results41, go_sem, d60, d61, HPQ.out]) rfl ⟨_, rfl, ⟨_, rfl, ?_, hf7.mono (by omega)⟩, ((B0.trans (B6.mono B0.size)).setCell (p := ⟨w.heap.size + 1 + 1, 0, none⟩) (by simp; omega) _).setCell (p := ⟨w.heap.size + 1 + 1, 1, none⟩) (by simp; omega) _⟩
  exact (hn7.set_ hf7 (by simp) _).set_ hf7 (by simp) _

theorem r2mul_any (v u : Value) (p q : Int) (L M : Nat) (w : World) (ha : IntA w v p L) (hb : IntA w u q M) (hL : L ≤ 35184372088820) (hM : M ≤ 35184372088820) :
    Calls Tryz.prog 41 #[v, u] w fun e w' => ∃ x, e = .returned x ∧ IntF w.heap.size w' x (p * q) (L + M) ∧ Below w.heap.size w w' := r2mul_wide v u p q L M w ha hb (by omega)
set_option maxHeartbeats 4000000 in
theorem r2neg_any (v : Value) (p : Int) (L : Nat) (w : World) (h : IntA w v p L) (hL : L ≤ 70368744177663) :
    Calls Tryz.prog 81 #[v] w fun e w' => ∃ x, e = .returned x ∧ IntF w.heap.size w' x (-p) L ∧ Below w.heap.size w w' := by
  obtain ⟨na, av, la, rfl, hla, kla, HA⟩ := h
  have hla' := hla
  obtain ⟨⟨A, cA, rfl, _, _, _⟩, _⟩ := hla'
  obtain ⟨W0, hW0⟩ : ∃ W0 : World, W0 = (w.alloc (.cells #[.bool na, .slice A la.length cA] 26)).alloc (.cells #[.bool false, .slice none 0 0] 26) := ⟨_, rfl⟩
  have r0 : Row W0 w.heap.size 26 [.bool na, .slice A la.length cA] := by
    rw [hW0]
    have := Row.alloc (Row.new w 26 [.bool na, .slice A la.length cA]) (.cells #[.bool false, .slice none 0 0] 26)
    simpa using this
  have r1 : Row W0 (w.heap.size + 1) 26 [.bool false, .slice none 0 0] := by
    rw [hW0]
    have := Row.new (w.alloc (.cells #[.bool na, .slice A la.length cA] 26)) 26 [.bool false, .slice none 0 0]
    simpa using this
  have B0 : Below w.heap.size w W0 := by rw [hW0]; exact (((Below.refl _ _).alloc (Nat.le_refl _) _).alloc (by simp) _)
  have a0 : W0.cell? ⟨w.heap.size, 0, none⟩ = some (.bool na) := r0.cell 0
  have a1 : W0.cell? ⟨w.heap.size, 1, none⟩ = some (.slice A la.length cA) := r0.cell 1
  have hz : w.heap.size + 2 ≤ W0.heap.size := r1.lt
  have HP : Hid (sg (!na) (val la) = -p) := by unfold Hid; rw [HA, sg_notR]
  clear HA
  go_enter Tryz.func81, Tryz.ntmps81
  go_wp2_with fail
  rw [← hW0]
  clear hW0
  go_wp2_with fail
  refine (r2make_any _ _ la _ (hla.below B0) (by omega)).mono ?_
  rintro e w6 ⟨v6, rfl, hI, h6⟩
  rw [HP.out] at hI
  obtain ⟨mv6, rfl, hn6, hf6⟩ := hI
  have hn6' := hn6
  obtain ⟨l6, ⟨⟨A6, c6, rfl, _, _, _⟩, _⟩, _⟩ := hn6'
  have B6 := B0.trans (h6.mono B0.size)
  have r6 := r1.keep h6
  have d60 : w6.cell? ⟨w.heap.size + 1, 0, none⟩ = some (.bool false) := r6.cell 0
  have d61 : w6.cell? ⟨w.heap.size + 1, 1, none⟩ = some (.slice none 0 0) := r6.cell 1
  have f60 := r6.frozen 0
  have f61 := r6.frozen 1
  have hf7 : Fresh (w.heap.size + 2) (.slice A6 l6.length c6) := hf6.mono hz
  clear r6
  go_wp2_with fail
  refine bodyPost_ret (v := .agg #[.bool (decide (-p < 0)), .slice A6 l6.length c6]) (by simp [results, Tryz.results81, go_sem, d60, d61]) rfl ⟨_, rfl, ⟨_, rfl, ?_, hf7.mono (by omega)⟩, (B6.setCell (by simp) _).setCell (by simp) _⟩
  exact ((hn6.set_ hf7 (by simp) _).set_ hf7 (by simp) _).mono kla

end Go.Proofs.YtfoleamcaflfeaaGreatDoor
