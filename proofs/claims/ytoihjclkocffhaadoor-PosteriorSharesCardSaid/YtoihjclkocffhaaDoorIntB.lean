/- The walks of integer's Of, Sign, Cmp, Mul and Add. -/
import Derived.Test.YtoihjclkocffhaaDoorIntA
import Derived.Deep.RegionHeld3
namespace Go.Proofs.YtoihjclkocffhaaDoor
open Go.RowKit
set_option linter.unusedVariables false

theorem bl_call {a W w1 : World} (h : Below W.heap.size W w1) (h0 : Below a.heap.size a W) : Below a.heap.size a w1 := h0.trans (h.mono h0.size)
theorem bl_drew {a w : World} (h : Below a.heap.size a w) : Below a.heap.size a w.drew := h.drew
theorem keep4c {W w' : World} {p1 p2 p3 p4 : Addr} {x1 x2 x3 x4 : Value} (l1 : p1.block < W.heap.size) (l2 : p2.block < W.heap.size) (l3 : p3.block < W.heap.size) (l4 : p4.block < W.heap.size) (h1 : W.cell? p1 = some x1) (h2 : W.cell? p2 = some x2) (h3 : W.cell? p3 = some x3) (h4 : W.cell? p4 = some x4) (hb : Below W.heap.size W w') :
    w'.cell? p1 = some x1 ∧ w'.cell? p2 = some x2 ∧ w'.cell? p3 = some x3 ∧ w'.cell? p4 = some x4 := ⟨(hb.cell l1).trans h1, (hb.cell l2).trans h2, (hb.cell l3).trans h3, (hb.cell l4).trans h4⟩
theorem keep4s {w : World} {g i j : Nat} {x y x1 x2 x3 x4 : Value} (h : w.cell? ⟨g, 0, none⟩ = some x1 ∧ w.cell? ⟨g, 1, none⟩ = some x2 ∧ w.cell? ⟨g + 1, 0, none⟩ = some x3 ∧ w.cell? ⟨g + 1, 1, none⟩ = some x4) :
    ((w.setCell ⟨g + 2, i, none⟩ x).setCell ⟨g + 2, j, none⟩ y).cell? ⟨g, 0, none⟩ = some x1 ∧ ((w.setCell ⟨g + 2, i, none⟩ x).setCell ⟨g + 2, j, none⟩ y).cell? ⟨g, 1, none⟩ = some x2 ∧ ((w.setCell ⟨g + 2, i, none⟩ x).setCell ⟨g + 2, j, none⟩ y).cell? ⟨g + 1, 0, none⟩ = some x3 ∧ ((w.setCell ⟨g + 2, i, none⟩ x).setCell ⟨g + 2, j, none⟩ y).cell? ⟨g + 1, 1, none⟩ = some x4 := by
  obtain ⟨h1, h2, h3, h4⟩ := h
  have n1 : ∀ (w : World) (a b k : Nat) (z : Value), a < g + 2 → (w.setCell ⟨g + 2, b, none⟩ z).cell? ⟨a, k, none⟩ = w.cell? ⟨a, k, none⟩ := fun w a b k z ha => World.cell?_setCell_other _ _ _ _ (fun e => by injection e with e _ _; omega)
  refine ⟨?_, ?_, ?_, ?_⟩
  · rw [n1 _ _ _ _ _ (by omega), n1 _ _ _ _ _ (by omega)]; exact h1
  · rw [n1 _ _ _ _ _ (by omega), n1 _ _ _ _ _ (by omega)]; exact h2
  · rw [n1 _ _ _ _ _ (by omega), n1 _ _ _ _ _ (by omega)]; exact h3
  · rw [n1 _ _ _ _ _ (by omega), n1 _ _ _ _ _ (by omega)]; exact h4

def sgnZ (p : Int) : Int := if p < 0 then -1 else if p = 0 then 0 else 1
def cmpZ (p q : Int) : Int := if p < q then -1 else if q < p then 1 else 0
theorem sgn_sg (neg : Bool) (n : Nat) : sgnZ (sg neg n) = if neg then -(cmpN n 0) else cmpN n 0 := by
  unfold sgnZ sg cmpN
  cases neg <;> simp <;> repeat' split
  all_goals omega

set_option maxHeartbeats 2000000 in
theorem isign_any (v : Value) (p : Int) (L : Nat) (w : World) (h : IntA w v p L) :
    Calls Tryd.prog 94 #[v] w fun e w' => e = .returned (.int .i64 (sgnZ p)) ∧ Below w.heap.size w w' := by
  obtain ⟨neg, mv, ls, rfl, h1, h3, h4⟩ := h
  have h1' := h1
  obtain ⟨⟨A, c, rfl, _, _, _⟩, _⟩ := h1'
  have B0 : Below w.heap.size w (w.alloc (.cells #[.bool neg, .slice A ls.length c] 52)) := (Below.refl _ _).alloc (Nat.le_refl _) _
  have HC := Lib.hid (cmp_any _ _ ls [] _ (h1.below B0) (Lim.nil _))
  have HS := Lib.hid (sgn_sg neg (val ls))
  rw [← h4] at HS
  have hcm : -1 ≤ cmpN (val ls) 0 ∧ cmpN (val ls) 0 ≤ 1 := by unfold cmpN; repeat' split
                                                              all_goals omega
  go_enter Tryd.func94, Tryd.ntmps94
  go_wp2_with fail
  refine HC.out.mono ?_
  rintro e w' ⟨rfl, d, rfl⟩
  rw [show val ([] : List Nat) = 0 from rfl]
  generalize cmpN (val ls) 0 = cm at *
  cases neg
  · go_wp2_with fail
    go_ret
    exact ⟨by rw [HS.out]; rfl, below_drewN B0 d⟩
  · go_wp2_with fail
    go_ret
    exact ⟨by rw [HS.out]; rfl, below_drewN B0 d⟩

set_option maxHeartbeats 4000000 in
theorem imul_any (v u : Value) (p q : Int) (L M : Nat) (w : World) (ha : IntA w v p L) (hb : IntA w u q M) (hL : L ≤ 35184372088820) (hM : M ≤ 35184372088820) :
    Calls Tryd.prog 73 #[v, u] w fun e w' => ∃ x, e = .returned x ∧ IntF w.heap.size w' x (p * q) (L + M) ∧ Below w.heap.size w w' := by
  have ha0 := ha
  have hb0 := hb
  obtain ⟨na, av, la, rfl, hla, kla, HA⟩ := ha
  obtain ⟨nb, bv, lb, rfl, hlb, klb, HB⟩ := hb
  have hla' := hla
  have hlb' := hlb
  obtain ⟨⟨A, cA, rfl, _, _, _⟩, _⟩ := hla'
  obtain ⟨⟨B, cB, rfl, _, _, _⟩, _⟩ := hlb'
  obtain ⟨W0, hW0⟩ : ∃ W0 : World, W0 = ((w.alloc (.cells #[.bool na, .slice A la.length cA] 52)).alloc (.cells #[.bool nb, .slice B lb.length cB] 52)).alloc (.cells #[.bool false, .slice none 0 0] 52) := ⟨_, rfl⟩
  have r0 : Row W0 w.heap.size 52 [.bool na, .slice A la.length cA] := by rw [hW0]; exact ((Row.new w 52 [.bool na, .slice A la.length cA]).alloc _).alloc _
  have r1 : Row W0 (w.heap.size + 1) 52 [.bool nb, .slice B lb.length cB] := by
    rw [hW0]
    have := (Row.new (w.alloc (.cells #[.bool na, .slice A la.length cA] 52)) 52 [.bool nb, .slice B lb.length cB]).alloc (.cells #[.bool false, .slice none 0 0] 52)
    simpa using this
  have r2 : Row W0 (w.heap.size + 2) 52 [.bool false, .slice none 0 0] := by
    rw [hW0]
    have := Row.new ((w.alloc (.cells #[.bool na, .slice A la.length cA] 52)).alloc (.cells #[.bool nb, .slice B lb.length cB] 52)) 52 [.bool false, .slice none 0 0]
    simpa using this
  have B0 : Below w.heap.size w W0 := by rw [hW0]; exact (((Below.refl _ _).alloc (Nat.le_refl _) _).alloc (by simp) _).alloc (by simp; omega) _
  have hka : la.length ≤ 70368744177650 := by omega
  have hkb : lb.length ≤ 70368744177650 := by omega
  have hkk : la.length + lb.length ≤ 70368744177650 := by omega
  have HPQ : Hid (sg (!na == nb) (val la * val lb) = p * q) := by
    unfold Hid; rw [HA, HB]
    cases na <;> cases nb <;> simp [sg, Int.neg_mul, Int.mul_neg]
  clear HA HB
  go_enter Tryd.func73, Tryd.ntmps73
  go_wp2_with fail
  rw [← hW0]
  clear hW0
  have a0 : W0.cell? ⟨w.heap.size, 0, none⟩ = some (.bool na) := r0.cell 0
  have a1 : W0.cell? ⟨w.heap.size, 1, none⟩ = some (.slice A la.length cA) := r0.cell 1
  have b0 : W0.cell? ⟨w.heap.size + 1, 0, none⟩ = some (.bool nb) := r1.cell 0
  have b1 : W0.cell? ⟨w.heap.size + 1, 1, none⟩ = some (.slice B lb.length cB) := r1.cell 1
  have d0 : W0.cell? ⟨w.heap.size + 2, 0, none⟩ = some (.bool false) := r2.cell 0
  have d1 : W0.cell? ⟨w.heap.size + 2, 1, none⟩ = some (.slice none 0 0) := r2.cell 1
  have e0 : W0.frozen? ⟨w.heap.size + 2, 0, none⟩ = false := r2.frozen 0
  have e1 : W0.frozen? ⟨w.heap.size + 2, 1, none⟩ = false := r2.frozen 1
  have z0 := r0.lt
  have z1 := r1.lt
  have z2 := r2.lt
  have hz : w.heap.size + 3 ≤ W0.heap.size := z2
  have hla2 := hla.below B0
  have hlb2 := hlb.below B0
  go_region_held3 (fun w' => w'.cell? ⟨w.heap.size, 0, none⟩ = some (.bool na) ∧ w'.cell? ⟨w.heap.size, 1, none⟩ = some (.slice A la.length cA) ∧ w'.cell? ⟨w.heap.size + 1, 0, none⟩ = some (.bool nb) ∧ w'.cell? ⟨w.heap.size + 1, 1, none⟩ = some (.slice B lb.length cB))
      (first
        | (refine keep4c z0 z0 z1 z1 a0 a1 b0 b1 ?_; (repeat (first | with_reducible exact Below.refl _ _ | with_reducible refine bl_call h5 ?_ | with_reducible refine bl_call h6 ?_ | with_reducible refine bl_drew ?_)); done)
        | (refine keep4s (keep4c z0 z0 z1 z1 a0 a1 b0 b1 ?_); (repeat (first | with_reducible exact Below.refl _ _ | with_reducible refine bl_call h5 ?_ | with_reducible refine bl_call h6 ?_ | with_reducible refine bl_drew ?_)); done))
      (first
        | (go_at_call 33; ((with_reducible refine (mul_wide _ _ la lb _ (hla2.below ?_) (hlb2.below ?_) hkk).mono ?_); ((repeat (first | with_reducible exact Below.refl _ _ | with_reducible refine bl_call h5 ?_ | with_reducible refine bl_call h6 ?_ | with_reducible refine bl_drew ?_))); ((repeat (first | with_reducible exact Below.refl _ _ | with_reducible refine bl_call h5 ?_ | with_reducible refine bl_call h6 ?_ | with_reducible refine bl_drew ?_))); rintro e w5 ⟨v5, rfl, l5, hl5, nt5, hv5, hk5, hf5, h5⟩))
        | (go_at_call 91; ((with_reducible refine (imake_any _ _ _ _ hl5 (Nat.le_trans hk5 hkk)).mono ?_); rintro e w6 ⟨v6, rfl, ⟨mv6, rfl, hn6, hf6⟩, h6⟩; have hn6' := hn6; obtain ⟨l6, ⟨⟨A6, c6, rfl, _, _, _⟩, _⟩, _⟩ := hn6'; have B6 : Below W0.heap.size W0 w6 := bl_call h6 (bl_call h5 (bl_drew (Below.refl _ _))); have d60 := (B6.cell (p := ⟨w.heap.size + 2, 0, none⟩) z2).trans d0; have d61 := (B6.cell (p := ⟨w.heap.size + 2, 1, none⟩) z2).trans d1; have f60 := (B6.frozen (p := ⟨w.heap.size + 2, 0, none⟩) z2).trans e0; have f61 := (B6.frozen (p := ⟨w.heap.size + 2, 1, none⟩) z2).trans e1)))
  have hPQ : sg (!na == nb) (val l5) = p * q := by rw [hv5]; exact HPQ.out
  have hPQ2 : sg (na != nb) (val l5) = p * q := by rw [← hPQ]; rfl
  have hn7 : NatAt w6 (.slice A6 l6.length c6) (p * q).natAbs (L + M) := by rw [← hPQ2]; exact hn6.mono (by omega)
  have hf7 : Fresh (w.heap.size + 3) (.slice A6 l6.length c6) := hf6.mono (Nat.le_trans hz ((bl_call h5 (bl_drew (Below.refl _ _))).size))
  have hdp : decide (sg (na != nb) (val l5) < 0) = decide (p * q < 0) := by rw [hPQ2]
  go_wp2_with fail
  refine bodyPost_ret (v := .agg #[.bool (decide (p * q < 0)), .slice A6 l6.length c6]) (by simp [results, Tryd.results73, go_sem, d60, d61, HPQ.out]) rfl ⟨_, rfl, ⟨_, rfl, ?_, hf7.mono (by omega)⟩, ((B0.trans (B6.mono B0.size)).setCell (p := ⟨w.heap.size + 1 + 1, 0, none⟩) (by simp; omega) _).setCell (p := ⟨w.heap.size + 1 + 1, 1, none⟩) (by simp; omega) _⟩
  exact (hn7.set_ hf7 (by simp) _).set_ hf7 (by simp) _

set_option maxHeartbeats 4000000 in
theorem iadd_any (v u : Value) (p q : Int) (L M : Nat) (w : World) (ha : IntA w v p L) (hb : IntA w u q M) (hL : L ≤ 70368744177600) (hM : M ≤ 70368744177600) :
    Calls Tryd.prog 97 #[v, u] w fun e w' => ∃ x, e = .returned x ∧ IntF w.heap.size w' x (p + q) (L + M + 1) ∧ Below w.heap.size w w' := by
  have ha0 := ha
  have hb0 := hb
  obtain ⟨na, av, la, rfl, hla, kla, HA⟩ := ha
  obtain ⟨nb, bv, lb, rfl, hlb, klb, HB⟩ := hb
  have hla' := hla
  have hlb' := hlb
  obtain ⟨⟨A, cA, rfl, _, _, _⟩, _⟩ := hla'
  obtain ⟨⟨B, cB, rfl, _, _, _⟩, _⟩ := hlb'
  obtain ⟨W0, hW0⟩ : ∃ W0 : World, W0 = ((w.alloc (.cells #[.bool na, .slice A la.length cA] 52)).alloc (.cells #[.bool nb, .slice B lb.length cB] 52)).alloc (.cells #[.bool false, .slice none 0 0] 52) := ⟨_, rfl⟩
  have r0 : Row W0 w.heap.size 52 [.bool na, .slice A la.length cA] := by rw [hW0]; exact ((Row.new w 52 [.bool na, .slice A la.length cA]).alloc _).alloc _
  have r1 : Row W0 (w.heap.size + 1) 52 [.bool nb, .slice B lb.length cB] := by
    rw [hW0]
    have := (Row.new (w.alloc (.cells #[.bool na, .slice A la.length cA] 52)) 52 [.bool nb, .slice B lb.length cB]).alloc (.cells #[.bool false, .slice none 0 0] 52)
    simpa using this
  have r2 : Row W0 (w.heap.size + 2) 52 [.bool false, .slice none 0 0] := by
    rw [hW0]
    have := Row.new ((w.alloc (.cells #[.bool na, .slice A la.length cA] 52)).alloc (.cells #[.bool nb, .slice B lb.length cB] 52)) 52 [.bool false, .slice none 0 0]
    simpa using this
  have B0 : Below w.heap.size w W0 := by rw [hW0]; exact (((Below.refl _ _).alloc (Nat.le_refl _) _).alloc (by simp) _).alloc (by simp; omega) _
  have hka : la.length ≤ 70368744177650 := by omega
  have hkb : lb.length ≤ 70368744177650 := by omega
  have hkk : max la.length lb.length + 1 ≤ 70368744177650 := by omega
  by_cases hs : na = nb
  · have HPQ : Hid (sg na (val la + val lb) = p + q) := by
      unfold Hid; rw [HA, HB, ← hs]
      cases na <;> simp [sg] <;> omega
    have f1 : (na == nb) = true := by rw [hs]; simp
    clear HA HB hs
    go_enter Tryd.func97, Tryd.ntmps97
    go_wp2_with fail
    rw [← hW0]
    clear hW0
    have a0 : W0.cell? ⟨w.heap.size, 0, none⟩ = some (.bool na) := r0.cell 0
    have a1 : W0.cell? ⟨w.heap.size, 1, none⟩ = some (.slice A la.length cA) := r0.cell 1
    have b0 : W0.cell? ⟨w.heap.size + 1, 0, none⟩ = some (.bool nb) := r1.cell 0
    have b1 : W0.cell? ⟨w.heap.size + 1, 1, none⟩ = some (.slice B lb.length cB) := r1.cell 1
    have d0 : W0.cell? ⟨w.heap.size + 2, 0, none⟩ = some (.bool false) := r2.cell 0
    have d1 : W0.cell? ⟨w.heap.size + 2, 1, none⟩ = some (.slice none 0 0) := r2.cell 1
    have e0 : W0.frozen? ⟨w.heap.size + 2, 0, none⟩ = false := r2.frozen 0
    have e1 : W0.frozen? ⟨w.heap.size + 2, 1, none⟩ = false := r2.frozen 1
    have z0 := r0.lt
    have z1 := r1.lt
    have z2 := r2.lt
    have hz : w.heap.size + 3 ≤ W0.heap.size := z2
    have hla2 := hla.below B0
    have hlb2 := hlb.below B0
    go_wp2_with fail
    go_region_held3 (fun w' => w'.cell? ⟨w.heap.size, 0, none⟩ = some (.bool na) ∧ w'.cell? ⟨w.heap.size, 1, none⟩ = some (.slice A la.length cA) ∧ w'.cell? ⟨w.heap.size + 1, 0, none⟩ = some (.bool nb) ∧ w'.cell? ⟨w.heap.size + 1, 1, none⟩ = some (.slice B lb.length cB))
      (first
        | (refine keep4c z0 z0 z1 z1 a0 a1 b0 b1 ?_; (repeat (first | with_reducible exact Below.refl _ _ | with_reducible refine bl_call h5 ?_ | with_reducible refine bl_call h6 ?_ | with_reducible refine bl_drew ?_)); done)
        | (refine keep4s (keep4c z0 z0 z1 z1 a0 a1 b0 b1 ?_); (repeat (first | with_reducible exact Below.refl _ _ | with_reducible refine bl_call h5 ?_ | with_reducible refine bl_call h6 ?_ | with_reducible refine bl_drew ?_)); done))
      (first
        | (go_at_call 62; ((with_reducible refine (add_any _ _ la lb _ (hla2.below ?_) (hlb2.below ?_) hka hkb).mono ?_); ((repeat (first | with_reducible exact Below.refl _ _ | with_reducible refine bl_call h5 ?_ | with_reducible refine bl_call h6 ?_ | with_reducible refine bl_drew ?_))); ((repeat (first | with_reducible exact Below.refl _ _ | with_reducible refine bl_call h5 ?_ | with_reducible refine bl_call h6 ?_ | with_reducible refine bl_drew ?_))); rintro e w5 ⟨v5, rfl, l5, hl5, nt5, hv5, hk5, hf5, h5⟩))
        | (go_at_call 91; ((with_reducible refine (imake_any _ _ _ _ hl5 (Nat.le_trans hk5 hkk)).mono ?_); rintro e w6 ⟨v6, rfl, ⟨mv6, rfl, hn6, hf6⟩, h6⟩; have hn6' := hn6; obtain ⟨l6, ⟨⟨A6, c6, rfl, _, _, _⟩, _⟩, _⟩ := hn6'; have B6 : Below W0.heap.size W0 w6 := bl_call h6 (bl_call h5 (bl_drew (Below.refl _ _))); have d60 := (B6.cell (p := ⟨w.heap.size + 2, 0, none⟩) z2).trans d0; have d61 := (B6.cell (p := ⟨w.heap.size + 2, 1, none⟩) z2).trans d1; have f60 := (B6.frozen (p := ⟨w.heap.size + 2, 0, none⟩) z2).trans e0; have f61 := (B6.frozen (p := ⟨w.heap.size + 2, 1, none⟩) z2).trans e1)))
    have hPQ2 : sg na (val l5) = p + q := by rw [hv5]; exact HPQ.out
    have hn7 : NatAt w6 (.slice A6 l6.length c6) (p + q).natAbs (L + M + 1) := by rw [← hPQ2]; exact hn6.mono (by omega)
    have hf7 : Fresh (w.heap.size + 3) (.slice A6 l6.length c6) := hf6.mono (Nat.le_trans hz ((bl_call h5 (bl_drew (Below.refl _ _))).size))
    have hdp : decide (sg na (val l5) < 0) = decide (p + q < 0) := by rw [hPQ2]
    go_wp2_with fail
    refine bodyPost_ret (v := .agg #[.bool (decide (p + q < 0)), .slice A6 l6.length c6]) (by simp [results, Tryd.results97, go_sem, d60, d61, HPQ.out]) rfl ⟨_, rfl, ⟨_, rfl, ?_, hf7.mono (by omega)⟩, ((B0.trans (B6.mono B0.size)).setCell (p := ⟨w.heap.size + 1 + 1, 0, none⟩) (by simp; omega) _).setCell (p := ⟨w.heap.size + 1 + 1, 1, none⟩) (by simp; omega) _⟩
    exact (hn7.set_ hf7 (by simp) _).set_ hf7 (by simp) _
  · have f1 : (na == nb) = false := by rw [beq_eq_false_iff_ne]; exact hs
    by_cases hge : val lb ≤ val la
    · have HPQ : Hid (sg na (val la - val lb) = p + q) := by
        unfold Hid; rw [HA, HB]
        cases na <;> cases nb <;> simp_all [sg] <;> omega
      have HGE := Lib.hid hge
      clear HA HB hs hge
      go_enter Tryd.func97, Tryd.ntmps97
      go_wp2_with fail
      rw [← hW0]
      clear hW0
      have a0 : W0.cell? ⟨w.heap.size, 0, none⟩ = some (.bool na) := r0.cell 0
      have a1 : W0.cell? ⟨w.heap.size, 1, none⟩ = some (.slice A la.length cA) := r0.cell 1
      have b0 : W0.cell? ⟨w.heap.size + 1, 0, none⟩ = some (.bool nb) := r1.cell 0
      have b1 : W0.cell? ⟨w.heap.size + 1, 1, none⟩ = some (.slice B lb.length cB) := r1.cell 1
      have d0 : W0.cell? ⟨w.heap.size + 2, 0, none⟩ = some (.bool false) := r2.cell 0
      have d1 : W0.cell? ⟨w.heap.size + 2, 1, none⟩ = some (.slice none 0 0) := r2.cell 1
      have e0 : W0.frozen? ⟨w.heap.size + 2, 0, none⟩ = false := r2.frozen 0
      have e1 : W0.frozen? ⟨w.heap.size + 2, 1, none⟩ = false := r2.frozen 1
      have z0 := r0.lt
      have z1 := r1.lt
      have z2 := r2.lt
      have hz : w.heap.size + 3 ≤ W0.heap.size := z2
      have hla2 := hla.below B0
      have hlb2 := hlb.below B0
      go_wp2_with fail
      refine (sub_ge _ _ la lb _ hla2 hlb2 hka HGE.out).mono ?_
      rintro e w5 ⟨v5, rfl, l5, hl5, nt5, hv5, hk5, hf5, h5⟩
      have a05 := (h5.cell (p := ⟨w.heap.size, 0, none⟩) z0).trans a0
      go_wp2_with fail
      refine (imake_any _ _ _ _ hl5 (Nat.le_trans hk5 hka)).mono ?_
      rintro e w6 ⟨v6, rfl, ⟨mv6, rfl, hn6, hf6⟩, h6⟩
      have hn6' := hn6
      obtain ⟨l6, ⟨⟨A6, c6, rfl, _, _, _⟩, _⟩, _⟩ := hn6'
      have B6 : Below W0.heap.size W0 w6 := bl_call h6 h5
      have d60 := (B6.cell (p := ⟨w.heap.size + 2, 0, none⟩) z2).trans d0
      have d61 := (B6.cell (p := ⟨w.heap.size + 2, 1, none⟩) z2).trans d1
      have f60 := (B6.frozen (p := ⟨w.heap.size + 2, 0, none⟩) z2).trans e0
      have f61 := (B6.frozen (p := ⟨w.heap.size + 2, 1, none⟩) z2).trans e1
      have hPQ2 : sg na (val l5) = p + q := by rw [hv5]; exact HPQ.out
      have hn7 : NatAt w6 (.slice A6 l6.length c6) (p + q).natAbs (L + M + 1) := by rw [← hPQ2]; exact hn6.mono (by omega)
      have hf7 : Fresh (w.heap.size + 3) (.slice A6 l6.length c6) := hf6.mono (Nat.le_trans hz (h5.size))
      have hdp : decide (sg na (val l5) < 0) = decide (p + q < 0) := by rw [hPQ2]
      go_wp2_with fail
      refine bodyPost_ret (v := .agg #[.bool (decide (p + q < 0)), .slice A6 l6.length c6]) (by simp [results, Tryd.results97, go_sem, d60, d61, HPQ.out]) rfl ⟨_, rfl, ⟨_, rfl, ?_, hf7.mono (by omega)⟩, ((B0.trans (B6.mono B0.size)).setCell (p := ⟨w.heap.size + 1 + 1, 0, none⟩) (by simp; omega) _).setCell (p := ⟨w.heap.size + 1 + 1, 1, none⟩) (by simp; omega) _⟩
      exact (hn7.set_ hf7 (by simp) _).set_ hf7 (by simp) _
    · have hlt : val la < val lb := by omega
      have HPQ : Hid (sg nb (val lb - val la) = p + q) := by
        unfold Hid; rw [HA, HB]
        cases na <;> cases nb <;> simp_all [sg] <;> omega
      have HGE := Lib.hid hlt
      clear HA HB hs hge hlt
      go_enter Tryd.func97, Tryd.ntmps97
      go_wp2_with fail
      rw [← hW0]
      clear hW0
      have a0 : W0.cell? ⟨w.heap.size, 0, none⟩ = some (.bool na) := r0.cell 0
      have a1 : W0.cell? ⟨w.heap.size, 1, none⟩ = some (.slice A la.length cA) := r0.cell 1
      have b0 : W0.cell? ⟨w.heap.size + 1, 0, none⟩ = some (.bool nb) := r1.cell 0
      have b1 : W0.cell? ⟨w.heap.size + 1, 1, none⟩ = some (.slice B lb.length cB) := r1.cell 1
      have d0 : W0.cell? ⟨w.heap.size + 2, 0, none⟩ = some (.bool false) := r2.cell 0
      have d1 : W0.cell? ⟨w.heap.size + 2, 1, none⟩ = some (.slice none 0 0) := r2.cell 1
      have e0 : W0.frozen? ⟨w.heap.size + 2, 0, none⟩ = false := r2.frozen 0
      have e1 : W0.frozen? ⟨w.heap.size + 2, 1, none⟩ = false := r2.frozen 1
      have z0 := r0.lt
      have z1 := r1.lt
      have z2 := r2.lt
      have hz : w.heap.size + 3 ≤ W0.heap.size := z2
      have hla2 := hla.below B0
      have hlb2 := hlb.below B0
      go_wp2_with fail
      refine (sub_lt _ _ la lb _ hla2 hlb2 HGE.out).mono ?_
      rintro e w4 ⟨rfl, h4⟩
      have a14 := (h4.cell (p := ⟨w.heap.size, 1, none⟩) z0).trans a1
      have b14 := (h4.cell (p := ⟨w.heap.size + 1, 1, none⟩) z1).trans b1
      go_wp2_with fail
      refine (sub_ge _ _ lb la _ (hlb2.below h4) (hla2.below h4) hkb (Nat.le_of_lt HGE.out)).mono ?_
      rintro e w5 ⟨v5, rfl, l5, hl5, nt5, hv5, hk5, hf5, h5'⟩
      have h5 : Below W0.heap.size W0 w5 := h4.trans (h5'.mono h4.size)
      have b05 := (h5.cell (p := ⟨w.heap.size + 1, 0, none⟩) z1).trans b0
      go_wp2_with fail
      refine (imake_any _ _ _ _ hl5 (Nat.le_trans hk5 hkb)).mono ?_
      rintro e w6 ⟨v6, rfl, ⟨mv6, rfl, hn6, hf6⟩, h6⟩
      have hn6' := hn6
      obtain ⟨l6, ⟨⟨A6, c6, rfl, _, _, _⟩, _⟩, _⟩ := hn6'
      have B6 : Below W0.heap.size W0 w6 := bl_call h6 h5
      have d60 := (B6.cell (p := ⟨w.heap.size + 2, 0, none⟩) z2).trans d0
      have d61 := (B6.cell (p := ⟨w.heap.size + 2, 1, none⟩) z2).trans d1
      have f60 := (B6.frozen (p := ⟨w.heap.size + 2, 0, none⟩) z2).trans e0
      have f61 := (B6.frozen (p := ⟨w.heap.size + 2, 1, none⟩) z2).trans e1
      have hPQ2 : sg nb (val l5) = p + q := by rw [hv5]; exact HPQ.out
      have hn7 : NatAt w6 (.slice A6 l6.length c6) (p + q).natAbs (L + M + 1) := by rw [← hPQ2]; exact hn6.mono (by omega)
      have hf7 : Fresh (w.heap.size + 3) (.slice A6 l6.length c6) := hf6.mono (Nat.le_trans hz (h5.size))
      have hdp : decide (sg nb (val l5) < 0) = decide (p + q < 0) := by rw [hPQ2]
      go_wp2_with fail
      refine bodyPost_ret (v := .agg #[.bool (decide (p + q < 0)), .slice A6 l6.length c6]) (by simp [results, Tryd.results97, go_sem, d60, d61, HPQ.out]) rfl ⟨_, rfl, ⟨_, rfl, ?_, hf7.mono (by omega)⟩, ((B0.trans (B6.mono B0.size)).setCell (p := ⟨w.heap.size + 1 + 1, 0, none⟩) (by simp; omega) _).setCell (p := ⟨w.heap.size + 1 + 1, 1, none⟩) (by simp; omega) _⟩
      exact (hn7.set_ hf7 (by simp) _).set_ hf7 (by simp) _
end Go.Proofs.YtoihjclkocffhaaDoor
