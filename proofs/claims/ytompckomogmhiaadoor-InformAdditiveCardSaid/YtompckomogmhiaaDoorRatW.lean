/- Fractions with separate bounds of numerator and denominator: parts, integer.Mul, ratio.Mul, ratio.Cmp. -/
import Derived.Test.YtompckomogmhiaaDoorRatG
import Derived.Test.YtompckomogmhiaaDoorBx
namespace Go.Proofs.YtompckomogmhiaaDoor
open Go.RowKit
set_option linter.unusedVariables false

/-- Any form of a fraction, of at most L limbs above and D below. -/
def RatW (w : World) (v : Value) (p : Int) (q L D : Nat) : Prop := ∃ neg mv ls dv ld, v = .agg #[.bool neg, mv, dv] ∧ Lim w mv ls ∧ Lim w dv ld ∧ ls.length ≤ L ∧ ld.length ≤ D ∧
  (p = if val ld = 0 then 0 else sg neg (val ls)) ∧ (q = if val ld = 0 then 1 else val ld)
theorem RatA.wide {w : World} {v : Value} {p : Int} {q L : Nat} (h : RatA w v p q L) : RatW w v p q L L := h
theorem RatF.wide {b : Nat} {w : World} {v : Value} {p : Int} {q L D : Nat} (h : RatF b w v p q L) (h0 : 0 < q) (hq : q < bp D) : RatW w v p q L D := by
  obtain ⟨mv, dv, rfl, hm, hd, _, _⟩ := h
  obtain ⟨ls, h1, _, h3, h4⟩ := hm
  obtain ⟨ld, k1, _, k3, k4⟩ := hd.tight hq
  refine ⟨_, mv, ls, dv, ld, rfl, h1, k1, h4, k4, ?_, ?_⟩
  · rw [k3, if_neg (by omega), h3]
    unfold sg
    split
    · rename_i h; have := of_decide_eq_true h; omega
    · rename_i h; have : ¬ p < 0 := by simpa using h
      omega
  · rw [k3, if_neg (by omega)]
theorem RatW.pos {w : World} {v : Value} {p : Int} {q L D : Nat} (h : RatW w v p q L D) : 0 < q := by
  obtain ⟨_, _, _, _, _, _, _, _, _, _, _, h⟩ := h
  rw [h]; split <;> omega
theorem RatW.below {w w' : World} {v : Value} {p : Int} {q L D : Nat} (h : RatW w v p q L D) (hb : Below w.heap.size w w') : RatW w' v p q L D := by
  obtain ⟨a, b, c, d, e, h1, h2, h3, h4, h5, h6, h7⟩ := h
  exact ⟨a, b, c, d, e, h1, h2.below hb, h3.below hb, h4, h5, h6, h7⟩
theorem RatW.show_ {w : World} {v : Value} {p : Int} {q L D : Nat} (h : RatW w v p q L D) : ∃ ng A n c B m d, v = .agg #[.bool ng, .slice A n c, .slice B m d] := by
  obtain ⟨ng, mv, ls, dv, ld, rfl, h1, h2, _⟩ := h
  obtain ⟨⟨A, cA, rfl, _, _, _⟩, _⟩ := h1
  obtain ⟨⟨B, cB, rfl, _, _, _⟩, _⟩ := h2
  exact ⟨ng, A, _, cA, B, _, cB, rfl⟩

set_option maxHeartbeats 4000000 in
theorem parts_wide (v : Value) (p : Int) (q L D : Nat) (w : World) (h : RatW w v p q L D) (hD : 2 ≤ D) :
    Calls Tryd.prog 27 #[v] w fun e w' => ∃ x y lq, e = .returned (.tuple #[x, y]) ∧ IntA w' x p L ∧ Lim w' y lq ∧ val lq = q ∧ lq.length ≤ D ∧ Below w.heap.size w w' := by
  obtain ⟨neg, mv, ls, dv, ld, rfl, hls, hld, k1, k2, hp, hq⟩ := h
  have hls' := hls
  have hld' := hld
  obtain ⟨⟨A, cA, rfl, _, _, _⟩, _⟩ := hls'
  obtain ⟨⟨B, cB, rfl, _, _, _⟩, _⟩ := hld'
  obtain ⟨W0, hW0⟩ : ∃ W0 : World, W0 = (w.alloc (.cells #[.bool neg, .slice A ls.length cA, .slice B ld.length cB] 31)).alloc (.cells #[.bool false, .slice none 0 0] 29) := ⟨_, rfl⟩
  have r0 : Row W0 w.heap.size 31 [.bool neg, .slice A ls.length cA, .slice B ld.length cB] := by rw [hW0]; exact (Row.new w 31 [.bool neg, .slice A ls.length cA, .slice B ld.length cB]).alloc _
  have r1 : Row W0 (w.heap.size + 1) 29 [.bool false, .slice none 0 0] := by
    rw [hW0]
    have := Row.new (w.alloc (.cells #[.bool neg, .slice A ls.length cA, .slice B ld.length cB] 31)) 29 [.bool false, .slice none 0 0]
    simpa using this
  have B0 : Below w.heap.size w W0 := by rw [hW0]; exact ((Below.refl _ _).alloc (Nat.le_refl _) _).alloc (by simp) _
  have hz : w.heap.size + 2 ≤ W0.heap.size := r1.lt
  have HC := Lib.hid (cmp_any _ _ ld [] _ (hld.below B0) (Lim.nil _))
  have a0 : W0.cell? ⟨w.heap.size, 0, none⟩ = some (.bool neg) := r0.cell 0
  have a1 : W0.cell? ⟨w.heap.size, 1, none⟩ = some (.slice A ls.length cA) := r0.cell 1
  have a2 : W0.cell? ⟨w.heap.size, 2, none⟩ = some (.slice B ld.length cB) := r0.cell 2
  go_enter Tryd.func27, Tryd.ntmps27
  go_wp2_with fail
  rw [← hW0]
  clear hW0
  go_wp2_with fail
  refine HC.out.mono ?_
  rintro e w' ⟨rfl, d, rfl⟩
  rw [show val ([] : List Nat) = 0 from rfl]
  clear HC
  by_cases h0 : val ld = 0
  · rw [if_pos h0] at hp hq
    have f1 : (cmpN (val ld) 0 == 0) = true := by rw [h0]; rfl
    subst hp hq
    clear h0
    generalize cmpN (val ld) 0 = cm at *
    obtain ⟨W1, hW1⟩ : ∃ W1 : World, W1 = W0.drewN d := ⟨_, rfl⟩
    have B1 : Below w.heap.size w W1 := by rw [hW1]; exact below_drewN B0 d
    have r1' : Row W1 (w.heap.size + 1) 29 [.bool false, .slice none 0 0] := by rw [hW1]; exact r1
    have hz1 : w.heap.size + 2 ≤ W1.heap.size := by rw [hW1]; exact hz
    rw [← hW1]
    clear hW1
    go_wp2_with fail
    refine (of_any 1 _ (by omega)).mono ?_
    rintro e w6 ⟨v6, rfl, l6, hl6, nt6, hv6, hk6, hf6, h6⟩
    have hl6' := hl6
    obtain ⟨⟨A6, c6, rfl, _, _, _⟩, _⟩ := hl6'
    have B6 := B1.trans (h6.mono B1.size)
    have hgb := r1'.keep h6
    have d60 : w6.cell? ⟨w.heap.size + 1, 0, none⟩ = some (.bool false) := hgb.cell 0
    have d61 : w6.cell? ⟨w.heap.size + 1, 1, none⟩ = some (.slice none 0 0) := hgb.cell 1
    have f60 := hgb.frozen 0
    have f61 := hgb.frozen 1
    have hf7 : Fresh (w.heap.size + 2) (.slice A6 l6.length c6) := hf6.mono hz1
    go_wp2_with fail
    refine bodyPost_ret (v := .tuple #[.agg #[.bool false, .slice none 0 0], .slice A6 l6.length c6]) (by simp [results, Tryd.results27, go_sem, d60, d61]) rfl ⟨_, _, l6, rfl, ⟨false, _, [], rfl, Lim.nil _, by simp, rfl⟩, ?_, hv6, by omega, (B6.setCell (by simp) _).setCell (by simp) _⟩
    exact (hl6.set_ hf7 (by simp) _).set_ hf7 (by simp) _
  · rw [if_neg h0] at hp hq
    have f1 : (cmpN (val ld) 0 == 0) = false := by rw [cmpN_gt (by omega)]; rfl
    clear h0
    generalize cmpN (val ld) 0 = cm at *
    obtain ⟨W1, hW1⟩ : ∃ W1 : World, W1 = W0.drewN d := ⟨_, rfl⟩
    have B1 : Below w.heap.size w W1 := by rw [hW1]; exact below_drewN B0 d
    have r1' : Row W1 (w.heap.size + 1) 29 [.bool false, .slice none 0 0] := by rw [hW1]; exact r1
    have a01 : W1.cell? ⟨w.heap.size, 0, none⟩ = some (.bool neg) := by rw [hW1]; exact a0
    have a11 : W1.cell? ⟨w.heap.size, 1, none⟩ = some (.slice A ls.length cA) := by rw [hW1]; exact a1
    have a21 : W1.cell? ⟨w.heap.size, 2, none⟩ = some (.slice B ld.length cB) := by rw [hW1]; exact a2
    rw [← hW1]
    clear hW1 a0 a1 a2 r0 r1
    have d60 : W1.cell? ⟨w.heap.size + 1, 0, none⟩ = some (.bool false) := r1'.cell 0
    have d61 : W1.cell? ⟨w.heap.size + 1, 1, none⟩ = some (.slice none 0 0) := r1'.cell 1
    have f60 := r1'.frozen 0
    have f61 := r1'.frozen 1
    go_wp2_with fail
    go_region
    obtain ⟨W2, hW2⟩ : ∃ W2 : World, W2 = ((W1.setCell ⟨w.heap.size + 1, 0, none⟩ (.bool neg)).setCell ⟨w.heap.size + 1, 1, none⟩ (.slice A ls.length cA)).drew := ⟨_, rfl⟩
    have B2 : Below w.heap.size w W2 := by rw [hW2]; exact ((B1.setCell (p := ⟨w.heap.size + 1, 0, none⟩) (by simp) _).setCell (p := ⟨w.heap.size + 1, 1, none⟩) (by simp) _).drew
    have r2 : Row W2 (w.heap.size + 1) 29 [.bool neg, .slice A ls.length cA] := by rw [hW2]; exact (r1'.set_ 0 (.bool neg)).set_ 1 (.slice A ls.length cA)
    have e0 : W2.cell? ⟨w.heap.size + 1, 0, none⟩ = some (.bool neg) := r2.cell 0
    have e1 : W2.cell? ⟨w.heap.size + 1, 1, none⟩ = some (.slice A ls.length cA) := r2.cell 1
    rw [← hW2]
    clear hW2 d60 d61 f60 f61 a01 a11 a21
    go_wp2_with fail
    exact bodyPost_ret (v := .tuple #[.agg #[.bool neg, .slice A ls.length cA], .slice B ld.length cB]) (by simp [results, Tryd.results27, go_sem, e0, e1]) rfl ⟨_, _, ld, rfl, ⟨neg, _, ls, rfl, hls.below B2, k1, hp⟩, hld.below B2, hq.symm, k2, B2⟩

set_option maxHeartbeats 4000000 in
theorem imul_wide (v u : Value) (p q : Int) (L M : Nat) (w : World) (ha : IntA w v p L) (hb : IntA w u q M) (hLM : L + M ≤ 70368744177650) :
    Calls Tryd.prog 29 #[v, u] w fun e w' => ∃ x, e = .returned x ∧ IntF w.heap.size w' x (p * q) (L + M) ∧ Below w.heap.size w w' := by
  have ha0 := ha
  have hb0 := hb
  obtain ⟨na, av, la, rfl, hla, kla, HA⟩ := ha
  obtain ⟨nb, bv, lb, rfl, hlb, klb, HB⟩ := hb
  have hla' := hla
  have hlb' := hlb
  obtain ⟨⟨A, cA, rfl, _, _, _⟩, _⟩ := hla'
  obtain ⟨⟨B, cB, rfl, _, _, _⟩, _⟩ := hlb'
  obtain ⟨W0, hW0⟩ : ∃ W0 : World, W0 = ((w.alloc (.cells #[.bool na, .slice A la.length cA] 29)).alloc (.cells #[.bool nb, .slice B lb.length cB] 29)).alloc (.cells #[.bool false, .slice none 0 0] 29) := ⟨_, rfl⟩
  have r0 : Row W0 w.heap.size 29 [.bool na, .slice A la.length cA] := by rw [hW0]; exact ((Row.new w 29 [.bool na, .slice A la.length cA]).alloc _).alloc _
  have r1 : Row W0 (w.heap.size + 1) 29 [.bool nb, .slice B lb.length cB] := by
    rw [hW0]
    have := (Row.new (w.alloc (.cells #[.bool na, .slice A la.length cA] 29)) 29 [.bool nb, .slice B lb.length cB]).alloc (.cells #[.bool false, .slice none 0 0] 29)
    simpa using this
  have r2 : Row W0 (w.heap.size + 2) 29 [.bool false, .slice none 0 0] := by
    rw [hW0]
    have := Row.new ((w.alloc (.cells #[.bool na, .slice A la.length cA] 29)).alloc (.cells #[.bool nb, .slice B lb.length cB] 29)) 29 [.bool false, .slice none 0 0]
    simpa using this
  have B0 : Below w.heap.size w W0 := by rw [hW0]; exact (((Below.refl _ _).alloc (Nat.le_refl _) _).alloc (by simp) _).alloc (by simp; omega) _
  have hka : la.length ≤ 70368744177650 := by omega
  have hkb : lb.length ≤ 70368744177650 := by omega
  have hkk : la.length + lb.length ≤ 70368744177650 := by omega
  have HPQ : Hid (sg (!na == nb) (val la * val lb) = p * q) := by
    unfold Hid; rw [HA, HB]
    cases na <;> cases nb <;> simp [sg, Int.neg_mul, Int.mul_neg]
  clear HA HB
  go_enter Tryd.func29, Tryd.ntmps29
  go_wp2_with fail
  rw [← hW0]
  clear hW0
  have a0 : W0.cell? ⟨w.heap.size, 0, none⟩ = some (.bool na) := r0.cell 0
  have a1 : W0.cell? ⟨w.heap.size, 1, none⟩ = some (.slice A la.length cA) := r0.cell 1
  have b0 : W0.cell? ⟨w.heap.size + 1, 0, none⟩ = some (.bool nb) := r1.cell 0
  have b1 : W0.cell? ⟨w.heap.size + 1, 1, none⟩ = some (.slice B lb.length cB) := r1.cell 1
  have d0 : W0.cell? ⟨w.heap.size + 2, 0, none⟩ = some (.bool false) := r2.cell 0
  have d1 : W0.cell? ⟨w.heap.size + 2, 1, none⟩ = some (.slice none 0 0) := r2.cell 1
  have e0 : W0.frozen? ⟨w.heap.size + 2, 0, none⟩ = false := r2.frozen 0
  have e1 : W0.frozen? ⟨w.heap.size + 2, 1, none⟩ = false := r2.frozen 1
  have z0 := r0.lt
  have z1 := r1.lt
  have z2 := r2.lt
  have hz : w.heap.size + 3 ≤ W0.heap.size := z2
  have hla2 := hla.below B0
  have hlb2 := hlb.below B0
  go_region_held3 (fun w' => w'.cell? ⟨w.heap.size, 0, none⟩ = some (.bool na) ∧ w'.cell? ⟨w.heap.size, 1, none⟩ = some (.slice A la.length cA) ∧ w'.cell? ⟨w.heap.size + 1, 0, none⟩ = some (.bool nb) ∧ w'.cell? ⟨w.heap.size + 1, 1, none⟩ = some (.slice B lb.length cB))
      (first
        | (refine keep4c z0 z0 z1 z1 a0 a1 b0 b1 ?_; (repeat (first | with_reducible exact Below.refl _ _ | with_reducible refine bl_call h5 ?_ | with_reducible refine bl_call h6 ?_ | with_reducible refine bl_drew ?_)); done)
        | (refine keep4s (keep4c z0 z0 z1 z1 a0 a1 b0 b1 ?_); (repeat (first | with_reducible exact Below.refl _ _ | with_reducible refine bl_call h5 ?_ | with_reducible refine bl_call h6 ?_ | with_reducible refine bl_drew ?_)); done))
      (first
        | (go_at_call 32; ((with_reducible refine (mul_wide _ _ la lb _ (hla2.below ?_) (hlb2.below ?_) hkk).mono ?_); ((repeat (first | with_reducible exact Below.refl _ _ | with_reducible refine bl_call h5 ?_ | with_reducible refine bl_call h6 ?_ | with_reducible refine bl_drew ?_))); ((repeat (first | with_reducible exact Below.refl _ _ | with_reducible refine bl_call h5 ?_ | with_reducible refine bl_call h6 ?_ | with_reducible refine bl_drew ?_))); rintro e w5 ⟨v5, rfl, l5, hl5, nt5, hv5, hk5, hf5, h5⟩))
        | (go_at_call 49; ((with_reducible refine (imake_any _ _ _ _ hl5 (Nat.le_trans hk5 hkk)).mono ?_); rintro e w6 ⟨v6, rfl, ⟨mv6, rfl, hn6, hf6⟩, h6⟩; have hn6' := hn6; obtain ⟨l6, ⟨⟨A6, c6, rfl, _, _, _⟩, _⟩, _⟩ := hn6'; have B6 : Below W0.heap.size W0 w6 := bl_call h6 (bl_call h5 (bl_drew (Below.refl _ _))); have d60 := (B6.cell (p := ⟨w.heap.size + 2, 0, none⟩) z2).trans d0; have d61 := (B6.cell (p := ⟨w.heap.size + 2, 1, none⟩) z2).trans d1; have f60 := (B6.frozen (p := ⟨w.heap.size + 2, 0, none⟩) z2).trans e0; have f61 := (B6.frozen (p := ⟨w.heap.size + 2, 1, none⟩) z2).trans e1)))
  have hPQ : sg (!na == nb) (val l5) = p * q := by rw [hv5]; exact HPQ.out
  have hPQ2 : sg (na != nb) (val l5) = p * q := by rw [← hPQ]; rfl
  have hn7 : NatAt w6 (.slice A6 l6.length c6) (p * q).natAbs (L + M) := by rw [← hPQ2]; exact hn6.mono (by omega)
  have hf7 : Fresh (w.heap.size + 3) (.slice A6 l6.length c6) := hf6.mono (Nat.le_trans hz ((bl_call h5 (bl_drew (Below.refl _ _))).size))
  have hdp : decide (sg (na != nb) (val l5) < 0) = decide (p * q < 0) := by rw [hPQ2]
  go_wp2_with fail
  refine bodyPost_ret (v := .agg #[.bool (decide (p * q < 0)), .slice A6 l6.length c6]) (by simp [results, Tryd.results29, go_sem, d60, d61, HPQ.out]) rfl ⟨_, rfl, ⟨_, rfl, ?_, hf7.mono (by omega)⟩, ((B0.trans (B6.mono B0.size)).setCell (p := ⟨w.heap.size + 1 + 1, 0, none⟩) (by simp; omega) _).setCell (p := ⟨w.heap.size + 1 + 1, 1, none⟩) (by simp; omega) _⟩
  exact (hn7.set_ hf7 (by simp) _).set_ hf7 (by simp) _

set_option maxHeartbeats 8000000 in
theorem qcmp_wide (v u : Value) (p p' : Int) (q q' L D L' D' : Nat) (w : World) (ha : RatW w v p q L D) (hb : RatW w u p' q' L' D') (hD : 2 ≤ D) (hD' : 2 ≤ D') (hm1 : L + D' ≤ 70368744177600) (hm2 : L' + D ≤ 70368744177600) :
    Calls Tryd.prog 13 #[v, u] w fun e w' => e = .returned (.int .i64 (cmpZ (p * (q' : Int)) (p' * (q : Int)))) ∧ Below w.heap.size w w' := by
  have hp1 := ha.pos
  have hp2 := hb.pos
  obtain ⟨na, A, n, cA, B, k, cB, rfl⟩ := ha.show_
  obtain ⟨nb, A', n', cA', B', k', cB', rfl⟩ := hb.show_
  obtain ⟨W0, hW0⟩ : ∃ W0 : World, W0 = (w.alloc (.cells #[.bool na, .slice A n cA, .slice B k cB] 31)).alloc (.cells #[.bool nb, .slice A' n' cA', .slice B' k' cB'] 31) := ⟨_, rfl⟩
  have r0 : Row W0 w.heap.size 31 [.bool na, .slice A n cA, .slice B k cB] := by rw [hW0]; exact (Row.new w 31 [.bool na, .slice A n cA, .slice B k cB]).alloc _
  have r1 : Row W0 (w.heap.size + 1) 31 [.bool nb, .slice A' n' cA', .slice B' k' cB'] := by
    rw [hW0]
    have := (Row.new (w.alloc (.cells #[.bool na, .slice A n cA, .slice B k cB] 31)) 31 [.bool nb, .slice A' n' cA', .slice B' k' cB'])
    simpa using this
  have B0 : Below w.heap.size w W0 := by rw [hW0]; exact ((Below.refl _ _).alloc (Nat.le_refl _) _).alloc (by simp) _
  have hz : w.heap.size + 2 ≤ W0.heap.size := r1.lt
  have a0 : W0.cell? ⟨w.heap.size, 0, none⟩ = some (.bool na) := r0.cell 0
  have a1 : W0.cell? ⟨w.heap.size, 1, none⟩ = some (.slice A n cA) := r0.cell 1
  have a2 : W0.cell? ⟨w.heap.size, 2, none⟩ = some (.slice B k cB) := r0.cell 2
  go_enter Tryd.func13, Tryd.ntmps13
  go_wp2_with fail
  rw [← hW0]
  clear hW0
  go_wp2_with fail
  refine (parts_wide _ p q L D _ (ha.below B0) hD).mono ?_
  rintro e w1 ⟨x1, y1, lq1, rfl, hx1, hy1, hv1, hk1, hb1⟩
  obtain ⟨nx, X, kx, cx, rfl⟩ := hx1.show_
  obtain ⟨Y, ky, cy, rfl⟩ := hy1.show_
  have B1 := B0.trans (hb1.mono B0.size)
  obtain ⟨W1, hW1⟩ : ∃ W1 : World, W1 = w1.alloc (.cells #[.bool nx, .slice X kx cx] 29) := ⟨_, rfl⟩
  have r5 : Row W1 w1.heap.size 29 [.bool nx, .slice X kx cx] := by rw [hW1]; exact Row.new w1 29 [.bool nx, .slice X kx cx]
  have B1' : Below w1.heap.size w1 W1 := by rw [hW1]; exact (Below.refl _ _).alloc (Nat.le_refl _) _
  have B01 : Below W0.heap.size W0 W1 := hb1.trans (B1'.mono hb1.size)
  have s1 := r1.keep B01
  have b0 : W1.cell? ⟨w.heap.size + 1, 0, none⟩ = some (.bool nb) := s1.cell 0
  have b1 : W1.cell? ⟨w.heap.size + 1, 1, none⟩ = some (.slice A' n' cA') := s1.cell 1
  have b2 : W1.cell? ⟨w.heap.size + 1, 2, none⟩ = some (.slice B' k' cB') := s1.cell 2
  have b0' := b0
  have b1' := b1
  have b2' := b2
  rw [hW1] at b0' b1' b2'
  have BW1 := B0.trans (B01.mono B0.size)
  clear s1 a0 a1 a2
  go_wp2_with fail
  rw [← hW1]
  clear b0' b1' b2' hW1
  go_wp2_with fail
  refine (parts_wide _ p' q' L' D' _ (hb.below BW1) hD').mono ?_
  rintro e w2 ⟨x2, y2, lq2, rfl, hx2, hy2, hv2, hk2, hb2⟩
  obtain ⟨nu, U, ku, cu, rfl⟩ := hx2.show_
  obtain ⟨V, kv, cv, rfl⟩ := hy2.show_
  have B2 := BW1.trans (hb2.mono BW1.size)
  obtain ⟨W2, hW2⟩ : ∃ W2 : World, W2 = w2.alloc (.cells #[.bool nu, .slice U ku cu] 29) := ⟨_, rfl⟩
  have r7 : Row W2 w2.heap.size 29 [.bool nu, .slice U ku cu] := by rw [hW2]; exact Row.new w2 29 [.bool nu, .slice U ku cu]
  have B2' : Below w2.heap.size w2 W2 := by rw [hW2]; exact (Below.refl _ _).alloc (Nat.le_refl _) _
  have B12 : Below W1.heap.size W1 W2 := hb2.trans (B2'.mono hb2.size)
  have BW2 := BW1.trans (B12.mono BW1.size)
  have r5' := r5.keep B12
  have c0 : W2.cell? ⟨w1.heap.size, 0, none⟩ = some (.bool nx) := r5'.cell 0
  have c1 : W2.cell? ⟨w1.heap.size, 1, none⟩ = some (.slice X kx cx) := r5'.cell 1
  have d0 : W2.cell? ⟨w2.heap.size, 0, none⟩ = some (.bool nu) := r7.cell 0
  have d1 : W2.cell? ⟨w2.heap.size, 1, none⟩ = some (.slice U ku cu) := r7.cell 1
  have z5 := r5'.lt
  have z7 := r7.lt
  have hX1 := (hx1.below B1').below B12
  have hY1 := (hy1.below B1').below B12
  have hX2 := hx2.below B2'
  have hY2 := hy2.below B2'
  have i1 : lq1.length ≤ 70368744177650 := by omega
  have i2 : lq2.length ≤ 70368744177650 := by omega
  have i4 : L + D' ≤ 70368744177650 := by omega
  have i5 : L' + D ≤ 70368744177650 := by omega
  have HV1 := Lib.hid hv1
  have HV2 := Lib.hid hv2
  clear b0 b1 b2 r5 hx1 hx2 hy1 hy2 B1 B2 B01 ha hb r0 r1 B1' B2' B12 BW1 B0 hb1 hb2 r5' hv1 hv2
  go_wp2_with fail
  rw [← hW2]
  clear hW2
  go_wp2_with fail
  go_region_held3 (fun w' => w'.cell? ⟨w1.heap.size, 0, none⟩ = some (.bool nx) ∧ w'.cell? ⟨w1.heap.size, 1, none⟩ = some (.slice X kx cx) ∧ w'.cell? ⟨w2.heap.size, 0, none⟩ = some (.bool nu) ∧ w'.cell? ⟨w2.heap.size, 1, none⟩ = some (.slice U ku cu))
      ((refine keep4c z5 z5 z7 z7 c0 c1 d0 d1 ?_; (repeat (first | with_reducible exact Below.refl _ _ | with_reducible refine bl_call h9 ?_ | with_reducible refine bl_call h8 ?_ | with_reducible refine bl_call h7 ?_ | with_reducible refine bl_call h6 ?_ | with_reducible refine bl_call h5 ?_ | with_reducible refine bl_drew ?_)); done))
      (first
        | (go_at_call 30; ((with_reducible refine (whole_any (.slice V kv cv) lq2 _ (hY2.below ?_) i2).mono ?_); ((repeat (first | with_reducible exact Below.refl _ _ | with_reducible refine bl_call h9 ?_ | with_reducible refine bl_call h8 ?_ | with_reducible refine bl_call h7 ?_ | with_reducible refine bl_call h6 ?_ | with_reducible refine bl_call h5 ?_ | with_reducible refine bl_drew ?_))); rintro e w5 ⟨v5, rfl, hI5, h5⟩; rw [HV2.out] at hI5; have hJ5 := hI5.intA.mono hk2; clear hI5))
        | (go_at_call 29; ((with_reducible refine (imul_wide (.agg #[.bool nx, .slice X kx cx]) _ p _ L D' _ (hX1.below ?_) (hJ5.below ?_) i4).mono ?_); ((repeat (first | with_reducible exact Below.refl _ _ | with_reducible refine bl_call h9 ?_ | with_reducible refine bl_call h8 ?_ | with_reducible refine bl_call h7 ?_ | with_reducible refine bl_call h6 ?_ | with_reducible refine bl_call h5 ?_ | with_reducible refine bl_drew ?_))); ((repeat (first | with_reducible exact Below.refl _ _ | with_reducible refine bl_call h9 ?_ | with_reducible refine bl_call h8 ?_ | with_reducible refine bl_call h7 ?_ | with_reducible refine bl_call h6 ?_ | with_reducible refine bl_call h5 ?_ | with_reducible refine bl_drew ?_))); rintro e w6 ⟨v6, rfl, hI6, h6⟩; have hJ6 := hI6.intA; clear hI6))
        | (go_at_call 30; ((with_reducible refine (whole_any (.slice Y ky cy) lq1 _ (hY1.below ?_) i1).mono ?_); ((repeat (first | with_reducible exact Below.refl _ _ | with_reducible refine bl_call h9 ?_ | with_reducible refine bl_call h8 ?_ | with_reducible refine bl_call h7 ?_ | with_reducible refine bl_call h6 ?_ | with_reducible refine bl_call h5 ?_ | with_reducible refine bl_drew ?_))); rintro e w7 ⟨v7, rfl, hI7, h7⟩; rw [HV1.out] at hI7; have hJ7 := hI7.intA.mono hk1; clear hI7))
        | (go_at_call 29; ((with_reducible refine (imul_wide (.agg #[.bool nu, .slice U ku cu]) _ p' _ L' D _ (hX2.below ?_) (hJ7.below ?_) i5).mono ?_); ((repeat (first | with_reducible exact Below.refl _ _ | with_reducible refine bl_call h9 ?_ | with_reducible refine bl_call h8 ?_ | with_reducible refine bl_call h7 ?_ | with_reducible refine bl_call h6 ?_ | with_reducible refine bl_call h5 ?_ | with_reducible refine bl_drew ?_))); ((repeat (first | with_reducible exact Below.refl _ _ | with_reducible refine bl_call h9 ?_ | with_reducible refine bl_call h8 ?_ | with_reducible refine bl_call h7 ?_ | with_reducible refine bl_call h6 ?_ | with_reducible refine bl_call h5 ?_ | with_reducible refine bl_drew ?_))); rintro e w8 ⟨v8, rfl, hI8, h8⟩; have hJ8 := hI8.intA; clear hI8))
        | (go_at_call 35; ((with_reducible refine (icmp_any _ _ _ _ _ _ _ (hJ6.below ?_) (hJ8.below ?_)).mono ?_); ((repeat (first | with_reducible exact Below.refl _ _ | with_reducible refine bl_call h9 ?_ | with_reducible refine bl_call h8 ?_ | with_reducible refine bl_call h7 ?_ | with_reducible refine bl_call h6 ?_ | with_reducible refine bl_call h5 ?_ | with_reducible refine bl_drew ?_))); ((repeat (first | with_reducible exact Below.refl _ _ | with_reducible refine bl_call h9 ?_ | with_reducible refine bl_call h8 ?_ | with_reducible refine bl_call h7 ?_ | with_reducible refine bl_call h6 ?_ | with_reducible refine bl_call h5 ?_ | with_reducible refine bl_drew ?_))); rintro e w9 ⟨rfl, h9⟩)))
  go_wp2_with fail
  go_ret
  refine ⟨rfl, BW2.trans (Below.mono ?_ BW2.size)⟩
  (repeat (first | with_reducible exact Below.refl _ _ | with_reducible refine bl_call h9 ?_ | with_reducible refine bl_call h8 ?_ | with_reducible refine bl_call h7 ?_ | with_reducible refine bl_call h6 ?_ | with_reducible refine bl_call h5 ?_ | with_reducible refine bl_drew ?_))

set_option maxRecDepth 100000 in
set_option maxHeartbeats 8000000 in
theorem qmul_wide (v u : Value) (p p' : Int) (q q' L D L' D' N : Nat) (w : World) (ha : RatW w v p q L D) (hb0 : RatW w u p' q' L' D') (hD : 2 ≤ D) (hD' : 2 ≤ D') (hm1 : L + L' ≤ N) (hm2 : D + D' ≤ N) (hN : N ≤ 70368744177600) :
    Calls Tryd.prog 15 #[v, u] w fun e w' => ∃ x, e = .returned x ∧ RatF w.heap.size w' x (redP (p * p') (q * q')) (redQ (p * p') (q * q')) N ∧ Below w.heap.size w w' := by
  have hp1 := ha.pos
  have hp2 := hb0.pos
  obtain ⟨ng, RA, rk, rc, RB, sk, sc, rfl⟩ := ha.show_
  obtain ⟨nh, SA, uk, uc, SB, tk, tc, rfl⟩ := hb0.show_
  obtain ⟨W0, hW0⟩ : ∃ W0 : World, W0 = ((w.alloc (.cells #[.bool ng, .slice RA rk rc, .slice RB sk sc] 31)).alloc (.cells #[.bool nh, .slice SA uk uc, .slice SB tk tc] 31)).alloc (.cells #[.bool false, .slice none 0 0, .slice none 0 0] 31) := ⟨_, rfl⟩
  have r0 : Row W0 w.heap.size 31 [.bool ng, .slice RA rk rc, .slice RB sk sc] := by
    rw [hW0]
    have := Row.alloc (Row.alloc (Row.new w 31 [.bool ng, .slice RA rk rc, .slice RB sk sc]) (.cells #[.bool nh, .slice SA uk uc, .slice SB tk tc] 31)) (.cells #[.bool false, .slice none 0 0, .slice none 0 0] 31)
    simpa using this
  have r1 : Row W0 (w.heap.size + 1) 31 [.bool nh, .slice SA uk uc, .slice SB tk tc] := by
    rw [hW0]
    have := Row.alloc (Row.new (w.alloc (.cells #[.bool ng, .slice RA rk rc, .slice RB sk sc] 31)) 31 [.bool nh, .slice SA uk uc, .slice SB tk tc]) (.cells #[.bool false, .slice none 0 0, .slice none 0 0] 31)
    simpa using this
  have r2 : Row W0 (w.heap.size + 2) 31 [.bool false, .slice none 0 0, .slice none 0 0] := by
    rw [hW0]
    have := Row.new ((w.alloc (.cells #[.bool ng, .slice RA rk rc, .slice RB sk sc] 31)).alloc (.cells #[.bool nh, .slice SA uk uc, .slice SB tk tc] 31)) 31 [.bool false, .slice none 0 0, .slice none 0 0]
    simpa using this
  have B0 : Below w.heap.size w W0 := by rw [hW0]; exact ((((Below.refl _ _).alloc (Nat.le_refl _) _).alloc (by simp) _).alloc (by simp; omega) _)
  go_enter Tryd.func15, Tryd.ntmps15
  go_wp2_with fail
  rw [← hW0]
  clear hW0
  have BB := B0
  have hr2 := r0
  have hr3 := r1
  have hr4 := r2
  clear B0 r0 r1 r2
  have c20 : W0.cell? ⟨w.heap.size, 0, none⟩ = some (.bool ng) := hr2.cell 0
  have c21 : W0.cell? ⟨w.heap.size, 1, none⟩ = some (.slice RA rk rc) := hr2.cell 1
  have c22 : W0.cell? ⟨w.heap.size, 2, none⟩ = some (.slice RB sk sc) := hr2.cell 2
  have c30 : W0.cell? ⟨w.heap.size + 1, 0, none⟩ = some (.bool nh) := hr3.cell 0
  have c31 : W0.cell? ⟨w.heap.size + 1, 1, none⟩ = some (.slice SA uk uc) := hr3.cell 1
  have c32 : W0.cell? ⟨w.heap.size + 1, 2, none⟩ = some (.slice SB tk tc) := hr3.cell 2
  have c40 : W0.cell? ⟨w.heap.size + 2, 0, none⟩ = some (.bool false) := hr4.cell 0
  have c41 : W0.cell? ⟨w.heap.size + 2, 1, none⟩ = some (.slice none 0 0) := hr4.cell 1
  have c42 : W0.cell? ⟨w.heap.size + 2, 2, none⟩ = some (.slice none 0 0) := hr4.cell 2
  have f40 : W0.frozen? ⟨w.heap.size + 2, 0, none⟩ = false := hr4.frozen 0
  have f41 : W0.frozen? ⟨w.heap.size + 2, 1, none⟩ = false := hr4.frozen 1
  have f42 : W0.frozen? ⟨w.heap.size + 2, 2, none⟩ = false := hr4.frozen 2
  have z2 := hr2.lt
  have z3 := hr3.lt
  have z4 := hr4.lt
  go_wp2_with fail
  clear c20 c21 c22 c30 c31 c32 c40 c41 c42 f40 f41 f42 z2 z3 z4
  refine (parts_wide _ p q L D _ (ha.below BB) hD).mono ?_
  rintro e x1 ⟨x5, y6, l6, rfl, hX5, hY6, hq6, hk6, hb⟩
  replace hr2 := hr2.keep hb
  replace hr3 := hr3.keep hb
  replace hr4 := hr4.keep hb
  replace BB : Below w.heap.size w x1 := BB.trans (hb.mono BB.size)
  clear hb
  obtain ⟨n5, m5, ls5, rfl, hls5, _, hpe5⟩ := id hX5
  clear hpe5
  obtain ⟨⟨A5, c5, rfl, _, _, _⟩, _⟩ := id hls5
  obtain ⟨⟨Y6, cy6, rfl, _, _, _⟩, _⟩ := id hY6
  have HQ6 := Lib.hid hq6
  clear hls5 hq6
  obtain ⟨g5, hg5⟩ : ∃ g, x1.heap.size = g := ⟨_, rfl⟩
  have hr5 : Row (x1.alloc (.cells #[.bool n5, .slice A5 ls5.length c5] 29)) g5 29 [.bool n5, .slice A5 ls5.length c5] := row_at hg5
  have hl := lit_below x1 (.cells #[.bool n5, .slice A5 ls5.length c5] 29)
  have o2_5 : w.heap.size < g5 := by have := hr2.lt; omega
  have o3_5 : w.heap.size + 1 < g5 := by have := hr3.lt; omega
  have o4_5 : w.heap.size + 2 < g5 := by have := hr4.lt; omega
  have ob_5 : w.heap.size ≤ g5 := by have := BB.size; omega
  have c20 : x1.cell? ⟨w.heap.size, 0, none⟩ = some (.bool ng) := hr2.cell 0
  have c21 : x1.cell? ⟨w.heap.size, 1, none⟩ = some (.slice RA rk rc) := hr2.cell 1
  have c22 : x1.cell? ⟨w.heap.size, 2, none⟩ = some (.slice RB sk sc) := hr2.cell 2
  have c30 : x1.cell? ⟨w.heap.size + 1, 0, none⟩ = some (.bool nh) := hr3.cell 0
  have c31 : x1.cell? ⟨w.heap.size + 1, 1, none⟩ = some (.slice SA uk uc) := hr3.cell 1
  have c32 : x1.cell? ⟨w.heap.size + 1, 2, none⟩ = some (.slice SB tk tc) := hr3.cell 2
  have c40 : x1.cell? ⟨w.heap.size + 2, 0, none⟩ = some (.bool false) := hr4.cell 0
  have c41 : x1.cell? ⟨w.heap.size + 2, 1, none⟩ = some (.slice none 0 0) := hr4.cell 1
  have c42 : x1.cell? ⟨w.heap.size + 2, 2, none⟩ = some (.slice none 0 0) := hr4.cell 2
  have f40 : x1.frozen? ⟨w.heap.size + 2, 0, none⟩ = false := hr4.frozen 0
  have f41 : x1.frozen? ⟨w.heap.size + 2, 1, none⟩ = false := hr4.frozen 1
  have f42 : x1.frozen? ⟨w.heap.size + 2, 2, none⟩ = false := hr4.frozen 2
  have d20 : (x1.alloc (.cells #[.bool n5, .slice A5 ls5.length c5] 29)).cell? ⟨w.heap.size, 0, none⟩ = some (.bool ng) := (hr2.alloc _).cell 0
  have d21 : (x1.alloc (.cells #[.bool n5, .slice A5 ls5.length c5] 29)).cell? ⟨w.heap.size, 1, none⟩ = some (.slice RA rk rc) := (hr2.alloc _).cell 1
  have d22 : (x1.alloc (.cells #[.bool n5, .slice A5 ls5.length c5] 29)).cell? ⟨w.heap.size, 2, none⟩ = some (.slice RB sk sc) := (hr2.alloc _).cell 2
  have d30 : (x1.alloc (.cells #[.bool n5, .slice A5 ls5.length c5] 29)).cell? ⟨w.heap.size + 1, 0, none⟩ = some (.bool nh) := (hr3.alloc _).cell 0
  have d31 : (x1.alloc (.cells #[.bool n5, .slice A5 ls5.length c5] 29)).cell? ⟨w.heap.size + 1, 1, none⟩ = some (.slice SA uk uc) := (hr3.alloc _).cell 1
  have d32 : (x1.alloc (.cells #[.bool n5, .slice A5 ls5.length c5] 29)).cell? ⟨w.heap.size + 1, 2, none⟩ = some (.slice SB tk tc) := (hr3.alloc _).cell 2
  have d40 : (x1.alloc (.cells #[.bool n5, .slice A5 ls5.length c5] 29)).cell? ⟨w.heap.size + 2, 0, none⟩ = some (.bool false) := (hr4.alloc _).cell 0
  have d41 : (x1.alloc (.cells #[.bool n5, .slice A5 ls5.length c5] 29)).cell? ⟨w.heap.size + 2, 1, none⟩ = some (.slice none 0 0) := (hr4.alloc _).cell 1
  have d42 : (x1.alloc (.cells #[.bool n5, .slice A5 ls5.length c5] 29)).cell? ⟨w.heap.size + 2, 2, none⟩ = some (.slice none 0 0) := (hr4.alloc _).cell 2
  have h40 : (x1.alloc (.cells #[.bool n5, .slice A5 ls5.length c5] 29)).frozen? ⟨w.heap.size + 2, 0, none⟩ = false := (hr4.alloc _).frozen 0
  have h41 : (x1.alloc (.cells #[.bool n5, .slice A5 ls5.length c5] 29)).frozen? ⟨w.heap.size + 2, 1, none⟩ = false := (hr4.alloc _).frozen 1
  have h42 : (x1.alloc (.cells #[.bool n5, .slice A5 ls5.length c5] 29)).frozen? ⟨w.heap.size + 2, 2, none⟩ = false := (hr4.alloc _).frozen 2
  have e0 : (x1.alloc (.cells #[.bool n5, .slice A5 ls5.length c5] 29)).cell? ⟨g5, 0, none⟩ = some (.bool n5) := hr5.cell 0
  have e1 : (x1.alloc (.cells #[.bool n5, .slice A5 ls5.length c5] 29)).cell? ⟨g5, 1, none⟩ = some (.slice A5 ls5.length c5) := hr5.cell 1
  go_wp2_with fail
  clear c20 c21 c22 c30 c31 c32 c40 c41 c42 f40 f41 f42 d20 d21 d22 d30 d31 d32 d40 d41 d42 h40 h41 h42 e0 e1
  clear hg5
  generalize (x1.alloc (.cells #[.bool n5, .slice A5 ls5.length c5] 29)) = x2 at *
  replace hr2 := hr2.keep hl
  replace hr3 := hr3.keep hl
  replace hr4 := hr4.keep hl
  replace hX5 := hX5.below hl
  replace hY6 := hY6.below hl
  replace BB : Below w.heap.size w x2 := BB.trans (hl.mono BB.size)
  clear hl
  refine (parts_wide _ p' q' L' D' _ (hb0.below BB) hD').mono ?_
  rintro e x3 ⟨x7, y8, l8, rfl, hX7, hY8, hq8, hk8, hb⟩
  replace hr2 := hr2.keep hb
  replace hr3 := hr3.keep hb
  replace hr4 := hr4.keep hb
  replace hX5 := hX5.below hb
  replace hY6 := hY6.below hb
  replace hr5 := hr5.keep hb
  replace BB : Below w.heap.size w x3 := BB.trans (hb.mono BB.size)
  clear hb
  obtain ⟨n7, m7, ls7, rfl, hls7, _, hpe7⟩ := id hX7
  clear hpe7
  obtain ⟨⟨A7, c7, rfl, _, _, _⟩, _⟩ := id hls7
  obtain ⟨⟨Y8, cy8, rfl, _, _, _⟩, _⟩ := id hY8
  have HQ8 := Lib.hid hq8
  clear hls7 hq8
  obtain ⟨g7, hg7⟩ : ∃ g, x3.heap.size = g := ⟨_, rfl⟩
  have hr7 : Row (x3.alloc (.cells #[.bool n7, .slice A7 ls7.length c7] 29)) g7 29 [.bool n7, .slice A7 ls7.length c7] := row_at hg7
  have hl := lit_below x3 (.cells #[.bool n7, .slice A7 ls7.length c7] 29)
  have o2_7 : w.heap.size < g7 := by have := hr2.lt; omega
  have o3_7 : w.heap.size + 1 < g7 := by have := hr3.lt; omega
  have o4_7 : w.heap.size + 2 < g7 := by have := hr4.lt; omega
  have o5_7 : g5 < g7 := by have := hr5.lt; omega
  have ob_7 : w.heap.size ≤ g7 := by have := BB.size; omega
  have c20 : x3.cell? ⟨w.heap.size, 0, none⟩ = some (.bool ng) := hr2.cell 0
  have c21 : x3.cell? ⟨w.heap.size, 1, none⟩ = some (.slice RA rk rc) := hr2.cell 1
  have c22 : x3.cell? ⟨w.heap.size, 2, none⟩ = some (.slice RB sk sc) := hr2.cell 2
  have c30 : x3.cell? ⟨w.heap.size + 1, 0, none⟩ = some (.bool nh) := hr3.cell 0
  have c31 : x3.cell? ⟨w.heap.size + 1, 1, none⟩ = some (.slice SA uk uc) := hr3.cell 1
  have c32 : x3.cell? ⟨w.heap.size + 1, 2, none⟩ = some (.slice SB tk tc) := hr3.cell 2
  have c40 : x3.cell? ⟨w.heap.size + 2, 0, none⟩ = some (.bool false) := hr4.cell 0
  have c41 : x3.cell? ⟨w.heap.size + 2, 1, none⟩ = some (.slice none 0 0) := hr4.cell 1
  have c42 : x3.cell? ⟨w.heap.size + 2, 2, none⟩ = some (.slice none 0 0) := hr4.cell 2
  have c50 : x3.cell? ⟨g5, 0, none⟩ = some (.bool n5) := hr5.cell 0
  have c51 : x3.cell? ⟨g5, 1, none⟩ = some (.slice A5 ls5.length c5) := hr5.cell 1
  have f40 : x3.frozen? ⟨w.heap.size + 2, 0, none⟩ = false := hr4.frozen 0
  have f41 : x3.frozen? ⟨w.heap.size + 2, 1, none⟩ = false := hr4.frozen 1
  have f42 : x3.frozen? ⟨w.heap.size + 2, 2, none⟩ = false := hr4.frozen 2
  have d20 : (x3.alloc (.cells #[.bool n7, .slice A7 ls7.length c7] 29)).cell? ⟨w.heap.size, 0, none⟩ = some (.bool ng) := (hr2.alloc _).cell 0
  have d21 : (x3.alloc (.cells #[.bool n7, .slice A7 ls7.length c7] 29)).cell? ⟨w.heap.size, 1, none⟩ = some (.slice RA rk rc) := (hr2.alloc _).cell 1
  have d22 : (x3.alloc (.cells #[.bool n7, .slice A7 ls7.length c7] 29)).cell? ⟨w.heap.size, 2, none⟩ = some (.slice RB sk sc) := (hr2.alloc _).cell 2
  have d30 : (x3.alloc (.cells #[.bool n7, .slice A7 ls7.length c7] 29)).cell? ⟨w.heap.size + 1, 0, none⟩ = some (.bool nh) := (hr3.alloc _).cell 0
  have d31 : (x3.alloc (.cells #[.bool n7, .slice A7 ls7.length c7] 29)).cell? ⟨w.heap.size + 1, 1, none⟩ = some (.slice SA uk uc) := (hr3.alloc _).cell 1
  have d32 : (x3.alloc (.cells #[.bool n7, .slice A7 ls7.length c7] 29)).cell? ⟨w.heap.size + 1, 2, none⟩ = some (.slice SB tk tc) := (hr3.alloc _).cell 2
  have d40 : (x3.alloc (.cells #[.bool n7, .slice A7 ls7.length c7] 29)).cell? ⟨w.heap.size + 2, 0, none⟩ = some (.bool false) := (hr4.alloc _).cell 0
  have d41 : (x3.alloc (.cells #[.bool n7, .slice A7 ls7.length c7] 29)).cell? ⟨w.heap.size + 2, 1, none⟩ = some (.slice none 0 0) := (hr4.alloc _).cell 1
  have d42 : (x3.alloc (.cells #[.bool n7, .slice A7 ls7.length c7] 29)).cell? ⟨w.heap.size + 2, 2, none⟩ = some (.slice none 0 0) := (hr4.alloc _).cell 2
  have d50 : (x3.alloc (.cells #[.bool n7, .slice A7 ls7.length c7] 29)).cell? ⟨g5, 0, none⟩ = some (.bool n5) := (hr5.alloc _).cell 0
  have d51 : (x3.alloc (.cells #[.bool n7, .slice A7 ls7.length c7] 29)).cell? ⟨g5, 1, none⟩ = some (.slice A5 ls5.length c5) := (hr5.alloc _).cell 1
  have h40 : (x3.alloc (.cells #[.bool n7, .slice A7 ls7.length c7] 29)).frozen? ⟨w.heap.size + 2, 0, none⟩ = false := (hr4.alloc _).frozen 0
  have h41 : (x3.alloc (.cells #[.bool n7, .slice A7 ls7.length c7] 29)).frozen? ⟨w.heap.size + 2, 1, none⟩ = false := (hr4.alloc _).frozen 1
  have h42 : (x3.alloc (.cells #[.bool n7, .slice A7 ls7.length c7] 29)).frozen? ⟨w.heap.size + 2, 2, none⟩ = false := (hr4.alloc _).frozen 2
  have e0 : (x3.alloc (.cells #[.bool n7, .slice A7 ls7.length c7] 29)).cell? ⟨g7, 0, none⟩ = some (.bool n7) := hr7.cell 0
  have e1 : (x3.alloc (.cells #[.bool n7, .slice A7 ls7.length c7] 29)).cell? ⟨g7, 1, none⟩ = some (.slice A7 ls7.length c7) := hr7.cell 1
  go_wp2_with fail
  clear c20 c21 c22 c30 c31 c32 c40 c41 c42 c50 c51 f40 f41 f42 d20 d21 d22 d30 d31 d32 d40 d41 d42 d50 d51 h40 h41 h42 e0 e1
  clear hg7
  generalize (x3.alloc (.cells #[.bool n7, .slice A7 ls7.length c7] 29)) = x4 at *
  replace hr2 := hr2.keep hl
  replace hr3 := hr3.keep hl
  replace hr4 := hr4.keep hl
  replace hX5 := hX5.below hl
  replace hY6 := hY6.below hl
  replace hr5 := hr5.keep hl
  replace hX7 := hX7.below hl
  replace hY8 := hY8.below hl
  replace BB : Below w.heap.size w x4 := BB.trans (hl.mono BB.size)
  clear hl
  refine (imul_wide _ _ p p' L L' _ hX5 hX7 (by omega)).mono ?_
  rintro e x5 ⟨x9, rfl, hI9, hb⟩
  replace hr2 := hr2.keep hb
  replace hr3 := hr3.keep hb
  replace hr4 := hr4.keep hb
  replace hX5 := hX5.below hb
  replace hY6 := hY6.below hb
  replace hr5 := hr5.keep hb
  replace hX7 := hX7.below hb
  replace hY8 := hY8.below hb
  replace hr7 := hr7.keep hb
  replace BB : Below w.heap.size w x5 := BB.trans (hb.mono BB.size)
  clear hb
  have c20 : x5.cell? ⟨w.heap.size, 0, none⟩ = some (.bool ng) := hr2.cell 0
  have c21 : x5.cell? ⟨w.heap.size, 1, none⟩ = some (.slice RA rk rc) := hr2.cell 1
  have c22 : x5.cell? ⟨w.heap.size, 2, none⟩ = some (.slice RB sk sc) := hr2.cell 2
  have c30 : x5.cell? ⟨w.heap.size + 1, 0, none⟩ = some (.bool nh) := hr3.cell 0
  have c31 : x5.cell? ⟨w.heap.size + 1, 1, none⟩ = some (.slice SA uk uc) := hr3.cell 1
  have c32 : x5.cell? ⟨w.heap.size + 1, 2, none⟩ = some (.slice SB tk tc) := hr3.cell 2
  have c40 : x5.cell? ⟨w.heap.size + 2, 0, none⟩ = some (.bool false) := hr4.cell 0
  have c41 : x5.cell? ⟨w.heap.size + 2, 1, none⟩ = some (.slice none 0 0) := hr4.cell 1
  have c42 : x5.cell? ⟨w.heap.size + 2, 2, none⟩ = some (.slice none 0 0) := hr4.cell 2
  have c50 : x5.cell? ⟨g5, 0, none⟩ = some (.bool n5) := hr5.cell 0
  have c51 : x5.cell? ⟨g5, 1, none⟩ = some (.slice A5 ls5.length c5) := hr5.cell 1
  have c70 : x5.cell? ⟨g7, 0, none⟩ = some (.bool n7) := hr7.cell 0
  have c71 : x5.cell? ⟨g7, 1, none⟩ = some (.slice A7 ls7.length c7) := hr7.cell 1
  have f40 : x5.frozen? ⟨w.heap.size + 2, 0, none⟩ = false := hr4.frozen 0
  have f41 : x5.frozen? ⟨w.heap.size + 2, 1, none⟩ = false := hr4.frozen 1
  have f42 : x5.frozen? ⟨w.heap.size + 2, 2, none⟩ = false := hr4.frozen 2
  have z2 := hr2.lt
  have z3 := hr3.lt
  have z4 := hr4.lt
  have z5 := hr5.lt
  have z7 := hr7.lt
  go_wp2_with fail
  clear c20 c21 c22 c30 c31 c32 c40 c41 c42 c50 c51 c70 c71 f40 f41 f42 z2 z3 z4 z5 z7
  refine (mul_wide _ _ l6 l8 _ hY6 hY8 (by omega)).mono ?_
  rintro e x6 ⟨v10, rfl, l10, hl10, _, hv10, hk10, _, hb⟩
  replace hr2 := hr2.keep hb
  replace hr3 := hr3.keep hb
  replace hr4 := hr4.keep hb
  replace hX5 := hX5.below hb
  replace hY6 := hY6.below hb
  replace hr5 := hr5.keep hb
  replace hX7 := hX7.below hb
  replace hY8 := hY8.below hb
  replace hr7 := hr7.keep hb
  replace hI9 := hI9.below hb
  replace BB : Below w.heap.size w x6 := BB.trans (hb.mono BB.size)
  clear hb
  have HV := Lib.hid (show val l10 = q * q' by rw [hv10, HQ6.out, HQ8.out])
  clear hv10
  have c20 : x6.cell? ⟨w.heap.size, 0, none⟩ = some (.bool ng) := hr2.cell 0
  have c21 : x6.cell? ⟨w.heap.size, 1, none⟩ = some (.slice RA rk rc) := hr2.cell 1
  have c22 : x6.cell? ⟨w.heap.size, 2, none⟩ = some (.slice RB sk sc) := hr2.cell 2
  have c30 : x6.cell? ⟨w.heap.size + 1, 0, none⟩ = some (.bool nh) := hr3.cell 0
  have c31 : x6.cell? ⟨w.heap.size + 1, 1, none⟩ = some (.slice SA uk uc) := hr3.cell 1
  have c32 : x6.cell? ⟨w.heap.size + 1, 2, none⟩ = some (.slice SB tk tc) := hr3.cell 2
  have c40 : x6.cell? ⟨w.heap.size + 2, 0, none⟩ = some (.bool false) := hr4.cell 0
  have c41 : x6.cell? ⟨w.heap.size + 2, 1, none⟩ = some (.slice none 0 0) := hr4.cell 1
  have c42 : x6.cell? ⟨w.heap.size + 2, 2, none⟩ = some (.slice none 0 0) := hr4.cell 2
  have c50 : x6.cell? ⟨g5, 0, none⟩ = some (.bool n5) := hr5.cell 0
  have c51 : x6.cell? ⟨g5, 1, none⟩ = some (.slice A5 ls5.length c5) := hr5.cell 1
  have c70 : x6.cell? ⟨g7, 0, none⟩ = some (.bool n7) := hr7.cell 0
  have c71 : x6.cell? ⟨g7, 1, none⟩ = some (.slice A7 ls7.length c7) := hr7.cell 1
  have f40 : x6.frozen? ⟨w.heap.size + 2, 0, none⟩ = false := hr4.frozen 0
  have f41 : x6.frozen? ⟨w.heap.size + 2, 1, none⟩ = false := hr4.frozen 1
  have f42 : x6.frozen? ⟨w.heap.size + 2, 2, none⟩ = false := hr4.frozen 2
  have z2 := hr2.lt
  have z3 := hr3.lt
  have z4 := hr4.lt
  have z5 := hr5.lt
  have z7 := hr7.lt
  go_wp2_with fail
  clear c20 c21 c22 c30 c31 c32 c40 c41 c42 c50 c51 c70 c71 f40 f41 f42 z2 z3 z4 z5 z7
  refine (reduce_any _ _ (p * p') l10 N _ (hI9.intA.mono hm1) hl10 (by omega) (by omega) (by rw [HV.out]; exact Nat.mul_pos hp1 hp2)).mono ?_
  have hz4 := hr4.lt
  rintro e x7 ⟨x11, rfl, hv11, hb⟩
  replace hr2 := hr2.keep hb
  replace hr3 := hr3.keep hb
  replace hr4 := hr4.keep hb
  replace hX5 := hX5.below hb
  replace hY6 := hY6.below hb
  replace hr5 := hr5.keep hb
  replace hX7 := hX7.below hb
  replace hY8 := hY8.below hb
  replace hr7 := hr7.keep hb
  replace hI9 := hI9.below hb
  replace hl10 := hl10.below hb
  replace BB : Below w.heap.size w x7 := BB.trans (hb.mono BB.size)
  clear hb
  rw [HV.out] at hv11
  have h11' := hv11
  obtain ⟨m11, d11, e11, hm11, hd11, _, _⟩ := h11'
  subst e11
  obtain ⟨A11, k11, c11, rfl⟩ := hm11.lim1.choose_spec.1.show_
  obtain ⟨D11, l11, b11, rfl⟩ := hd11.lim1.choose_spec.1.show_
  clear hm11 hd11
  have c20 : x7.cell? ⟨w.heap.size, 0, none⟩ = some (.bool ng) := hr2.cell 0
  have c21 : x7.cell? ⟨w.heap.size, 1, none⟩ = some (.slice RA rk rc) := hr2.cell 1
  have c22 : x7.cell? ⟨w.heap.size, 2, none⟩ = some (.slice RB sk sc) := hr2.cell 2
  have c30 : x7.cell? ⟨w.heap.size + 1, 0, none⟩ = some (.bool nh) := hr3.cell 0
  have c31 : x7.cell? ⟨w.heap.size + 1, 1, none⟩ = some (.slice SA uk uc) := hr3.cell 1
  have c32 : x7.cell? ⟨w.heap.size + 1, 2, none⟩ = some (.slice SB tk tc) := hr3.cell 2
  have c40 : x7.cell? ⟨w.heap.size + 2, 0, none⟩ = some (.bool false) := hr4.cell 0
  have c41 : x7.cell? ⟨w.heap.size + 2, 1, none⟩ = some (.slice none 0 0) := hr4.cell 1
  have c42 : x7.cell? ⟨w.heap.size + 2, 2, none⟩ = some (.slice none 0 0) := hr4.cell 2
  have c50 : x7.cell? ⟨g5, 0, none⟩ = some (.bool n5) := hr5.cell 0
  have c51 : x7.cell? ⟨g5, 1, none⟩ = some (.slice A5 ls5.length c5) := hr5.cell 1
  have c70 : x7.cell? ⟨g7, 0, none⟩ = some (.bool n7) := hr7.cell 0
  have c71 : x7.cell? ⟨g7, 1, none⟩ = some (.slice A7 ls7.length c7) := hr7.cell 1
  have f40 : x7.frozen? ⟨w.heap.size + 2, 0, none⟩ = false := hr4.frozen 0
  have f41 : x7.frozen? ⟨w.heap.size + 2, 1, none⟩ = false := hr4.frozen 1
  have f42 : x7.frozen? ⟨w.heap.size + 2, 2, none⟩ = false := hr4.frozen 2
  have z2 := hr2.lt
  have z3 := hr3.lt
  have z4 := hr4.lt
  have z5 := hr5.lt
  have z7 := hr7.lt
  go_wp2_with fail
  refine bodyPost_ret (v := .agg #[.bool (decide (redP (p * p') (q * q') < 0)), .slice A11 k11 c11, .slice D11 l11 b11]) (by simp [results, Tryd.results15, go_sem, c40, c41, c42]) rfl ⟨_, rfl, ?_, ((BB.setCell (by simp; omega) _).setCell (by simp; omega) _).setCell (by simp; omega) _⟩
  exact (((hv11.set_ (a := ⟨w.heap.size + 2, 0, none⟩) hz4 _).set_ (a := ⟨w.heap.size + 2, 1, none⟩) hz4 _).set_ (a := ⟨w.heap.size + 2, 2, none⟩) hz4 _).base (by omega)
theorem qmul_any (v u : Value) (p p' : Int) (q q' L : Nat) (w : World) (ha : RatA w v p q L) (hb0 : RatA w u p' q' L) (hL : 2 ≤ L) (hM : L ≤ 35184372088800) :
    Calls Tryd.prog 15 #[v, u] w fun e w' => ∃ x, e = .returned x ∧ RatF w.heap.size w' x (redP (p * p') (q * q')) (redQ (p * p') (q * q')) (L + L) ∧ Below w.heap.size w w' :=
  qmul_wide v u p p' q q' L L L L (L + L) w ha.wide hb0.wide hL hL (Nat.le_refl _) (Nat.le_refl _) (by omega)
end Go.Proofs.YtompckomogmhiaaDoor
