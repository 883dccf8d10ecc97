/- The walks of the reference's fractions: Norm, Neg, Mul (package examboardref03). -/
import Derived.Test.YtfoleamcaflfeaaGreatDoorRf6
import Derived.Test.YtfoleamcaflfeaaGreatDoorRatQ
import Derived.Test.YtfoleamcaflfeaaGreatDoorBx
import Derived.Deep.RegionHeld3
namespace Go.Proofs.YtfoleamcaflfeaaGreatDoor
open Go.RowKit
set_option linter.unusedVariables false
set_option maxRecDepth 100000

theorem bwR_call {K : Nat} {a W w1 : World} (ha : K ≤ a.heap.size) (h : Below W.heap.size W w1) (h0 : Below K a W) : Below K a w1 := h0.trans (h.mono (Nat.le_trans ha h0.size))
theorem bwR_set {K : Nat} {a w : World} (h0 : Below K a w) {p : Addr} (hp : K ≤ p.block) (x : Value) : Below K a (w.setCell p x) := h0.setCell hp x
theorem bwR_drew {K : Nat} {a w : World} (h0 : Below K a w) : Below K a w.drew := h0.drew
theorem bl_szR {a w : World} (h : Below a.heap.size a w) : a.heap.size ≤ w.heap.size := h.size
theorem rmulN (v u : Value) (la lb : List Nat) (w : World) (ha : Lim w v la) (hb : Lim w u lb) (hsum : la.length + lb.length ≤ 70368744177664) :
    Calls Tryz.prog 67 #[v, u] w fun e w' => ∃ x, e = .returned x ∧ NatAt w' x (val la * val lb) (la.length + lb.length) ∧ Fresh w.heap.size x ∧ Below w.heap.size w w' :=
  (rmul_wide v u la lb w ha hb hsum).mono fun e w' h => by
    obtain ⟨x, he, hN⟩ := h
    exact ⟨x, he, hN.nat, hN.fresh, hN.bel⟩
theorem keepR3 {K : Nat} {W w' : World} {p1 p2 p3 : Addr} {x1 x2 x3 : Value} (l1 : p1.block < K) (l2 : p2.block < K) (l3 : p3.block < K) (h1 : W.cell? p1 = some x1) (h2 : W.cell? p2 = some x2) (h3 : W.cell? p3 = some x3) (hb : Below K W w') :
    w'.cell? p1 = some x1 ∧ w'.cell? p2 = some x2 ∧ w'.cell? p3 = some x3 := ⟨(hb.cell l1).trans h1, (hb.cell l2).trans h2, (hb.cell l3).trans h3⟩
theorem keepR6 {K : Nat} {W w' : World} {p1 p2 p3 p4 p5 p6 : Addr} {x1 x2 x3 x4 x5 x6 : Value} (l1 : p1.block < K) (l2 : p2.block < K) (l3 : p3.block < K) (l4 : p4.block < K) (l5 : p5.block < K) (l6 : p6.block < K) (h1 : W.cell? p1 = some x1) (h2 : W.cell? p2 = some x2) (h3 : W.cell? p3 = some x3) (h4 : W.cell? p4 = some x4) (h5 : W.cell? p5 = some x5) (h6 : W.cell? p6 = some x6) (hb : Below K W w') :
    w'.cell? p1 = some x1 ∧ w'.cell? p2 = some x2 ∧ w'.cell? p3 = some x3 ∧ w'.cell? p4 = some x4 ∧ w'.cell? p5 = some x5 ∧ w'.cell? p6 = some x6 := ⟨(hb.cell l1).trans h1, (hb.cell l2).trans h2, (hb.cell l3).trans h3, (hb.cell l4).trans h4, (hb.cell l5).trans h5, (hb.cell l6).trans h6⟩

set_option maxHeartbeats 16000000 in
theorem r3norm_any (v : Value) (p : Int) (q L : Nat) (w : World) (ha : RatA w v p q L) (hL : 2 ≤ L) (hM : L ≤ 70368744177600) :
    Calls Tryz.prog 70 #[v] w fun e w' => ∃ x, e = .returned x ∧ RatF w.heap.size w' x (redP p q) (redQ p q) (L) ∧ Below w.heap.size w w' := by
  have hM0 := hM
  replace hM : L ≤ 70368744177664 := by omega
  have ha0 := ha
  obtain ⟨na, A, n, c, B, m, d, rfl⟩ := ha0.show_
  clear ha0
  obtain ⟨W0, hW0⟩ : ∃ W0 : World, W0 = (w.alloc (.cells #[.bool na, .slice A n c, .slice B m d] 28)).alloc (.cells #[.bool false, .slice none 0 0, .slice none 0 0] 28) := ⟨_, rfl⟩
  have r0 : Row W0 w.heap.size 28 [.bool na, .slice A n c, .slice B m d] := by
    rw [hW0]
    have := Row.alloc (Row.new w 28 [.bool na, .slice A n c, .slice B m d]) (.cells #[.bool false, .slice none 0 0, .slice none 0 0] 28)
    simpa using this
  have r1 : Row W0 (w.heap.size + 1) 28 [.bool false, .slice none 0 0, .slice none 0 0] := by
    rw [hW0]
    have := Row.new (w.alloc (.cells #[.bool na, .slice A n c, .slice B m d] 28)) 28 [.bool false, .slice none 0 0, .slice none 0 0]
    simpa using this
  have B0 : Below w.heap.size w W0 := by rw [hW0]; exact (((Below.refl _ _).alloc (Nat.le_refl _) _).alloc (by simp) _)
  go_enter Tryz.func70, Tryz.ntmps70
  go_wp2_with fail
  rw [← hW0]
  clear hW0
  have BB := B0
  have hr1 := r0
  have hr3 := r1
  clear B0 r0 r1
  replace ha := ha.below BB
  have c10 : W0.cell? ⟨w.heap.size, 0, none⟩ = some (.bool na) := hr1.cell 0
  have c11 : W0.cell? ⟨w.heap.size, 1, none⟩ = some (.slice A n c) := hr1.cell 1
  have c12 : W0.cell? ⟨w.heap.size, 2, none⟩ = some (.slice B m d) := hr1.cell 2
  have c30 : W0.cell? ⟨w.heap.size + 1, 0, none⟩ = some (.bool false) := hr3.cell 0
  have c31 : W0.cell? ⟨w.heap.size + 1, 1, none⟩ = some (.slice none 0 0) := hr3.cell 1
  have c32 : W0.cell? ⟨w.heap.size + 1, 2, none⟩ = some (.slice none 0 0) := hr3.cell 2
  have f30 : W0.frozen? ⟨w.heap.size + 1, 0, none⟩ = false := hr3.frozen 0
  have f31 : W0.frozen? ⟨w.heap.size + 1, 1, none⟩ = false := hr3.frozen 1
  have f32 : W0.frozen? ⟨w.heap.size + 1, 2, none⟩ = false := hr3.frozen 2
  have z1 := hr1.lt
  have z3 := hr3.lt
  go_wp2_with fail
  have qs0 : W0.cell? ⟨w.heap.size, 0, none⟩ = some (.bool na) := hr1.cell 0
  have zs0 : (⟨w.heap.size, 0, none⟩ : Addr).block < w.heap.size + 1 := (by show w.heap.size < w.heap.size + 1; omega)
  have qs1 : W0.cell? ⟨w.heap.size, 1, none⟩ = some (.slice A n c) := hr1.cell 1
  have zs1 : (⟨w.heap.size, 1, none⟩ : Addr).block < w.heap.size + 1 := (by show w.heap.size < w.heap.size + 1; omega)
  have qs2 : W0.cell? ⟨w.heap.size, 2, none⟩ = some (.slice B m d) := hr1.cell 2
  have zs2 : (⟨w.heap.size, 2, none⟩ : Addr).block < w.heap.size + 1 := (by show w.heap.size < w.heap.size + 1; omega)
  have zr : w.heap.size + 1 < W0.heap.size := hr3.lt
  have HK : w.heap.size + 1 ≤ W0.heap.size := Nat.le_of_lt zr
  go_region_held3 (fun w' => w'.cell? ⟨w.heap.size, 0, none⟩ = some (.bool na) ∧ w'.cell? ⟨w.heap.size, 1, none⟩ = some (.slice A n c) ∧ w'.cell? ⟨w.heap.size, 2, none⟩ = some (.slice B m d))
    ((refine keepR3 zs0 zs1 zs2 qs0 qs1 qs2 ?_; (repeat (first | with_reducible exact Below.refl _ _ | with_reducible refine bwR_call HK h7 ?_ | with_reducible refine bwR_call HK h6 ?_ | with_reducible refine bwR_call HK h5 ?_ | ((with_reducible refine bwR_set ?_ ?_ _); rotate_left; exact Nat.le_refl _) | with_reducible refine bwR_drew ?_)); done))
    (first
      | (go_at_call 40; ((with_reducible refine (r3top_any _ p q L _ (ha.below ?_) hL hM).mono ?_); (repeat (first | with_reducible exact Below.refl _ _ | with_reducible refine bl_call h7 ?_ | with_reducible refine bl_call h6 ?_ | with_reducible refine bl_call h5 ?_ | with_reducible refine bl_alloc ?_ _ | with_reducible refine bl_drew ?_)); rintro e w5 ⟨v5, rfl, hv5, h5⟩))
      | (go_at_call 43; ((with_reducible refine (r3low_any _ p q L _ (ha.below ?_) hL hM).mono ?_); (repeat (first | with_reducible exact Below.refl _ _ | with_reducible refine bl_call h7 ?_ | with_reducible refine bl_call h6 ?_ | with_reducible refine bl_call h5 ?_ | with_reducible refine bl_alloc ?_ _ | with_reducible refine bl_drew ?_)); rintro e w6 ⟨v6, rfl, hv6, hf6, h6⟩; obtain ⟨l6, hl6, _, hq6, hk6⟩ := id hv6; have hp6 : 0 < val l6 := (by rw [hq6]; exact ha.pos)))
      | (go_at_call 71; ((with_reducible refine (r3reduce_any _ _ p l6 L _ (hv5.intA.below ?_) (hl6.below ?_) (by omega) hk6 hL hp6).mono ?_); (repeat (first | with_reducible exact Below.refl _ _ | with_reducible refine bl_call h7 ?_ | with_reducible refine bl_call h6 ?_ | with_reducible refine bl_call h5 ?_ | with_reducible refine bl_alloc ?_ _ | with_reducible refine bl_drew ?_)); (repeat (first | with_reducible exact Below.refl _ _ | with_reducible refine bl_call h7 ?_ | with_reducible refine bl_call h6 ?_ | with_reducible refine bl_call h5 ?_ | with_reducible refine bl_alloc ?_ _ | with_reducible refine bl_drew ?_)); rintro e w7 ⟨vz, rfl, hz, h7⟩; rw [hq6] at hz; have hz' := hz; obtain ⟨mz, dz, ez, hmz, hdz, _, _⟩ := hz'; subst ez; obtain ⟨Az, kz, cz, rfl⟩ := hmz.lim1.choose_spec.1.show_; obtain ⟨Dz, lz, bz, rfl⟩ := hdz.lim1.choose_spec.1.show_; clear hmz hdz; have BL : Below W0.heap.size W0 w7 := (by (repeat (first | with_reducible exact Below.refl _ _ | with_reducible refine bl_call h7 ?_ | with_reducible refine bl_call h6 ?_ | with_reducible refine bl_call h5 ?_ | with_reducible refine bl_alloc ?_ _ | with_reducible refine bl_drew ?_))); have RR := hr3.keep BL; have e0 := RR.cell 0; have e1 := RR.cell 1; have e2 := RR.cell 2; simp only [List.getElem?_cons_zero, List.getElem?_cons_succ] at e0 e1 e2; have f0 := RR.frozen 0; have f1 := RR.frozen 1; have f2 := RR.frozen 2; have zRR := RR.lt)))
  all_goals go_wp2_with fail
  all_goals
    refine bodyPost_ret (v := .agg #[.bool (decide (redP p q < 0)), .slice Az kz cz, .slice Dz lz bz]) (by simp [results, Tryz.results70, go_sem, e0, e1, e2]) rfl ⟨_, rfl, ?_, (((BB.trans (BL.mono BB.size)).setCell (by simp <;> omega) _).setCell (by simp <;> omega) _).setCell (by simp <;> omega) _⟩
    exact ((((hz.base (bl_szR (by (repeat (first | with_reducible exact Below.refl _ _ | with_reducible refine bl_call h7 ?_ | with_reducible refine bl_call h6 ?_ | with_reducible refine bl_call h5 ?_ | with_reducible refine bl_alloc ?_ _ | with_reducible refine bl_drew ?_))))).set_ (a := ⟨w.heap.size + 1, 0, none⟩) zr _).set_ (a := ⟨w.heap.size + 1, 1, none⟩) zr _).set_ (a := ⟨w.heap.size + 1, 2, none⟩) zr _).base (Nat.le_trans (by omega) (Nat.le_of_lt zr))
set_option maxHeartbeats 16000000 in
theorem r3mul_any (v u : Value) (p p' : Int) (q q' L : Nat) (w : World) (ha : RatA w v p q L) (hb : RatA w u p' q' L) (hL : 2 ≤ L) (hM : L ≤ 35184372088800) :
    Calls Tryz.prog 50 #[v, u] w fun e w' => ∃ x, e = .returned x ∧ RatF w.heap.size w' x (redP (p * p') (q * q')) (redQ (p * p') (q * q')) (L + L) ∧ Below w.heap.size w w' := by
  have hM0 := hM
  replace hM : L ≤ 70368744177664 := by omega
  have ha0 := ha
  obtain ⟨na, A, n, c, B, m, d, rfl⟩ := ha0.show_
  clear ha0
  have hb0 := hb
  obtain ⟨nb, A', n', c', B', m', d', rfl⟩ := hb0.show_
  clear hb0
  obtain ⟨W0, hW0⟩ : ∃ W0 : World, W0 = ((w.alloc (.cells #[.bool na, .slice A n c, .slice B m d] 28)).alloc (.cells #[.bool nb, .slice A' n' c', .slice B' m' d'] 28)).alloc (.cells #[.bool false, .slice none 0 0, .slice none 0 0] 28) := ⟨_, rfl⟩
  have r0 : Row W0 w.heap.size 28 [.bool na, .slice A n c, .slice B m d] := by
    rw [hW0]
    have := Row.alloc (Row.alloc (Row.new w 28 [.bool na, .slice A n c, .slice B m d]) (.cells #[.bool nb, .slice A' n' c', .slice B' m' d'] 28)) (.cells #[.bool false, .slice none 0 0, .slice none 0 0] 28)
    simpa using this
  have r1 : Row W0 (w.heap.size + 1) 28 [.bool nb, .slice A' n' c', .slice B' m' d'] := by
    rw [hW0]
    have := Row.alloc (Row.new (w.alloc (.cells #[.bool na, .slice A n c, .slice B m d] 28)) 28 [.bool nb, .slice A' n' c', .slice B' m' d']) (.cells #[.bool false, .slice none 0 0, .slice none 0 0] 28)
    simpa using this
  have r2 : Row W0 (w.heap.size + 2) 28 [.bool false, .slice none 0 0, .slice none 0 0] := by
    rw [hW0]
    have := Row.new ((w.alloc (.cells #[.bool na, .slice A n c, .slice B m d] 28)).alloc (.cells #[.bool nb, .slice A' n' c', .slice B' m' d'] 28)) 28 [.bool false, .slice none 0 0, .slice none 0 0]
    simpa using this
  have B0 : Below w.heap.size w W0 := by rw [hW0]; exact ((((Below.refl _ _).alloc (Nat.le_refl _) _).alloc (by simp) _).alloc (by simp; omega) _)
  go_enter Tryz.func50, Tryz.ntmps50
  go_wp2_with fail
  rw [← hW0]
  clear hW0
  have BB := B0
  have hr1 := r0
  have hr2 := r1
  have hr3 : Row W0 (w.heap.size + 1 + 1) 28 [.bool false, .slice none 0 0, .slice none 0 0] := r2
  clear B0 r0 r1 r2
  replace ha := ha.below BB
  replace hb := hb.below BB
  have c10 : W0.cell? ⟨w.heap.size, 0, none⟩ = some (.bool na) := hr1.cell 0
  have c11 : W0.cell? ⟨w.heap.size, 1, none⟩ = some (.slice A n c) := hr1.cell 1
  have c12 : W0.cell? ⟨w.heap.size, 2, none⟩ = some (.slice B m d) := hr1.cell 2
  have c20 : W0.cell? ⟨w.heap.size + 1, 0, none⟩ = some (.bool nb) := hr2.cell 0
  have c21 : W0.cell? ⟨w.heap.size + 1, 1, none⟩ = some (.slice A' n' c') := hr2.cell 1
  have c22 : W0.cell? ⟨w.heap.size + 1, 2, none⟩ = some (.slice B' m' d') := hr2.cell 2
  have c30 : W0.cell? ⟨w.heap.size + 1 + 1, 0, none⟩ = some (.bool false) := hr3.cell 0
  have c31 : W0.cell? ⟨w.heap.size + 1 + 1, 1, none⟩ = some (.slice none 0 0) := hr3.cell 1
  have c32 : W0.cell? ⟨w.heap.size + 1 + 1, 2, none⟩ = some (.slice none 0 0) := hr3.cell 2
  have f30 : W0.frozen? ⟨w.heap.size + 1 + 1, 0, none⟩ = false := hr3.frozen 0
  have f31 : W0.frozen? ⟨w.heap.size + 1 + 1, 1, none⟩ = false := hr3.frozen 1
  have f32 : W0.frozen? ⟨w.heap.size + 1 + 1, 2, none⟩ = false := hr3.frozen 2
  have z1 := hr1.lt
  have z2 := hr2.lt
  have z3 := hr3.lt
  go_wp2_with fail
  have qs0 : W0.cell? ⟨w.heap.size, 0, none⟩ = some (.bool na) := hr1.cell 0
  have zs0 : (⟨w.heap.size, 0, none⟩ : Addr).block < w.heap.size + 1 + 1 := (by show w.heap.size < w.heap.size + 1 + 1; omega)
  have qs1 : W0.cell? ⟨w.heap.size, 1, none⟩ = some (.slice A n c) := hr1.cell 1
  have zs1 : (⟨w.heap.size, 1, none⟩ : Addr).block < w.heap.size + 1 + 1 := (by show w.heap.size < w.heap.size + 1 + 1; omega)
  have qs2 : W0.cell? ⟨w.heap.size, 2, none⟩ = some (.slice B m d) := hr1.cell 2
  have zs2 : (⟨w.heap.size, 2, none⟩ : Addr).block < w.heap.size + 1 + 1 := (by show w.heap.size < w.heap.size + 1 + 1; omega)
  have qs3 : W0.cell? ⟨w.heap.size + 1, 0, none⟩ = some (.bool nb) := hr2.cell 0
  have zs3 : (⟨w.heap.size + 1, 0, none⟩ : Addr).block < w.heap.size + 1 + 1 := (by show w.heap.size + 1 < w.heap.size + 1 + 1; omega)
  have qs4 : W0.cell? ⟨w.heap.size + 1, 1, none⟩ = some (.slice A' n' c') := hr2.cell 1
  have zs4 : (⟨w.heap.size + 1, 1, none⟩ : Addr).block < w.heap.size + 1 + 1 := (by show w.heap.size + 1 < w.heap.size + 1 + 1; omega)
  have qs5 : W0.cell? ⟨w.heap.size + 1, 2, none⟩ = some (.slice B' m' d') := hr2.cell 2
  have zs5 : (⟨w.heap.size + 1, 2, none⟩ : Addr).block < w.heap.size + 1 + 1 := (by show w.heap.size + 1 < w.heap.size + 1 + 1; omega)
  have zr : w.heap.size + 1 + 1 < W0.heap.size := hr3.lt
  have HK : w.heap.size + 1 + 1 ≤ W0.heap.size := Nat.le_of_lt zr
  go_region_held3 (fun w' => w'.cell? ⟨w.heap.size, 0, none⟩ = some (.bool na) ∧ w'.cell? ⟨w.heap.size, 1, none⟩ = some (.slice A n c) ∧ w'.cell? ⟨w.heap.size, 2, none⟩ = some (.slice B m d) ∧ w'.cell? ⟨w.heap.size + 1, 0, none⟩ = some (.bool nb) ∧ w'.cell? ⟨w.heap.size + 1, 1, none⟩ = some (.slice A' n' c') ∧ w'.cell? ⟨w.heap.size + 1, 2, none⟩ = some (.slice B' m' d'))
    ((refine keepR6 zs0 zs1 zs2 zs3 zs4 zs5 qs0 qs1 qs2 qs3 qs4 qs5 ?_; (repeat (first | with_reducible exact Below.refl _ _ | with_reducible refine bwR_call HK h11 ?_ | with_reducible refine bwR_call HK h10 ?_ | with_reducible refine bwR_call HK h9 ?_ | with_reducible refine bwR_call HK h8 ?_ | with_reducible refine bwR_call HK h7 ?_ | with_reducible refine bwR_call HK h6 ?_ | with_reducible refine bwR_call HK h5 ?_ | ((with_reducible refine bwR_set ?_ ?_ _); rotate_left; exact Nat.le_refl _) | with_reducible refine bwR_drew ?_)); done))
    (first
      | (go_at_call 40; ((with_reducible refine (r3top_any _ p q L _ (ha.below ?_) hL hM).mono ?_); (repeat (first | with_reducible exact Below.refl _ _ | with_reducible refine bl_call h11 ?_ | with_reducible refine bl_call h10 ?_ | with_reducible refine bl_call h9 ?_ | with_reducible refine bl_call h8 ?_ | with_reducible refine bl_call h7 ?_ | with_reducible refine bl_call h6 ?_ | with_reducible refine bl_call h5 ?_ | with_reducible refine bl_alloc ?_ _ | with_reducible refine bl_drew ?_)); rintro e w5 ⟨v5, rfl, hv5, h5⟩))
      | (go_at_call 40; ((with_reducible refine (r3top_any _ p' q' L _ (hb.below ?_) hL hM).mono ?_); (repeat (first | with_reducible exact Below.refl _ _ | with_reducible refine bl_call h11 ?_ | with_reducible refine bl_call h10 ?_ | with_reducible refine bl_call h9 ?_ | with_reducible refine bl_call h8 ?_ | with_reducible refine bl_call h7 ?_ | with_reducible refine bl_call h6 ?_ | with_reducible refine bl_call h5 ?_ | with_reducible refine bl_alloc ?_ _ | with_reducible refine bl_drew ?_)); rintro e w6 ⟨v6, rfl, hv6, h6⟩))
      | (go_at_call 41; ((with_reducible refine (r2mul_any _ _ p p' L L _ (hv5.intA.below ?_) (hv6.intA.below ?_) (by omega) (by omega)).mono ?_); (repeat (first | with_reducible exact Below.refl _ _ | with_reducible refine bl_call h11 ?_ | with_reducible refine bl_call h10 ?_ | with_reducible refine bl_call h9 ?_ | with_reducible refine bl_call h8 ?_ | with_reducible refine bl_call h7 ?_ | with_reducible refine bl_call h6 ?_ | with_reducible refine bl_call h5 ?_ | with_reducible refine bl_alloc ?_ _ | with_reducible refine bl_drew ?_)); (repeat (first | with_reducible exact Below.refl _ _ | with_reducible refine bl_call h11 ?_ | with_reducible refine bl_call h10 ?_ | with_reducible refine bl_call h9 ?_ | with_reducible refine bl_call h8 ?_ | with_reducible refine bl_call h7 ?_ | with_reducible refine bl_call h6 ?_ | with_reducible refine bl_call h5 ?_ | with_reducible refine bl_alloc ?_ _ | with_reducible refine bl_drew ?_)); rintro e w7 ⟨v7, rfl, hv7, h7⟩))
      | (go_at_call 43; ((with_reducible refine (r3low_any _ p q L _ (ha.below ?_) hL hM).mono ?_); (repeat (first | with_reducible exact Below.refl _ _ | with_reducible refine bl_call h11 ?_ | with_reducible refine bl_call h10 ?_ | with_reducible refine bl_call h9 ?_ | with_reducible refine bl_call h8 ?_ | with_reducible refine bl_call h7 ?_ | with_reducible refine bl_call h6 ?_ | with_reducible refine bl_call h5 ?_ | with_reducible refine bl_alloc ?_ _ | with_reducible refine bl_drew ?_)); rintro e w8 ⟨v8, rfl, hv8, hf8, h8⟩; obtain ⟨l8, hl8, _, hq8, hk8⟩ := id hv8; have hp8 : 0 < val l8 := (by rw [hq8]; exact ha.pos)))
      | (go_at_call 43; ((with_reducible refine (r3low_any _ p' q' L _ (hb.below ?_) hL hM).mono ?_); (repeat (first | with_reducible exact Below.refl _ _ | with_reducible refine bl_call h11 ?_ | with_reducible refine bl_call h10 ?_ | with_reducible refine bl_call h9 ?_ | with_reducible refine bl_call h8 ?_ | with_reducible refine bl_call h7 ?_ | with_reducible refine bl_call h6 ?_ | with_reducible refine bl_call h5 ?_ | with_reducible refine bl_alloc ?_ _ | with_reducible refine bl_drew ?_)); rintro e w9 ⟨v9, rfl, hv9, hf9, h9⟩; obtain ⟨l9, hl9, _, hq9, hk9⟩ := id hv9; have hp9 : 0 < val l9 := (by rw [hq9]; exact hb.pos)))
      | (go_at_call 67; ((with_reducible refine (rmulN _ _ l8 l9 _ (hl8.below ?_) (hl9.below ?_) (by omega)).mono ?_); (repeat (first | with_reducible exact Below.refl _ _ | with_reducible refine bl_call h11 ?_ | with_reducible refine bl_call h10 ?_ | with_reducible refine bl_call h9 ?_ | with_reducible refine bl_call h8 ?_ | with_reducible refine bl_call h7 ?_ | with_reducible refine bl_call h6 ?_ | with_reducible refine bl_call h5 ?_ | with_reducible refine bl_alloc ?_ _ | with_reducible refine bl_drew ?_)); (repeat (first | with_reducible exact Below.refl _ _ | with_reducible refine bl_call h11 ?_ | with_reducible refine bl_call h10 ?_ | with_reducible refine bl_call h9 ?_ | with_reducible refine bl_call h8 ?_ | with_reducible refine bl_call h7 ?_ | with_reducible refine bl_call h6 ?_ | with_reducible refine bl_call h5 ?_ | with_reducible refine bl_alloc ?_ _ | with_reducible refine bl_drew ?_)); rintro e w10 ⟨v10, rfl, hv10, hf10, h10⟩; obtain ⟨l10, hl10, _, hq10, hk10⟩ := id hv10; rw [hq8, hq9] at hq10; have hp10 : 0 < val l10 := (by rw [hq10]; exact Nat.mul_pos ha.pos hb.pos)))
      | (go_at_call 71; ((with_reducible refine (r3reduce_any _ _ (p * p') l10 (L + L) _ (hv7.intA.below ?_) (hl10.below ?_) (by omega) (by omega) (by omega) hp10).mono ?_); (repeat (first | with_reducible exact Below.refl _ _ | with_reducible refine bl_call h11 ?_ | with_reducible refine bl_call h10 ?_ | with_reducible refine bl_call h9 ?_ | with_reducible refine bl_call h8 ?_ | with_reducible refine bl_call h7 ?_ | with_reducible refine bl_call h6 ?_ | with_reducible refine bl_call h5 ?_ | with_reducible refine bl_alloc ?_ _ | with_reducible refine bl_drew ?_)); (repeat (first | with_reducible exact Below.refl _ _ | with_reducible refine bl_call h11 ?_ | with_reducible refine bl_call h10 ?_ | with_reducible refine bl_call h9 ?_ | with_reducible refine bl_call h8 ?_ | with_reducible refine bl_call h7 ?_ | with_reducible refine bl_call h6 ?_ | with_reducible refine bl_call h5 ?_ | with_reducible refine bl_alloc ?_ _ | with_reducible refine bl_drew ?_)); rintro e w11 ⟨vz, rfl, hz, h11⟩; rw [hq10] at hz; have hz' := hz; obtain ⟨mz, dz, ez, hmz, hdz, _, _⟩ := hz'; subst ez; obtain ⟨Az, kz, cz, rfl⟩ := hmz.lim1.choose_spec.1.show_; obtain ⟨Dz, lz, bz, rfl⟩ := hdz.lim1.choose_spec.1.show_; clear hmz hdz; have BL : Below W0.heap.size W0 w11 := (by (repeat (first | with_reducible exact Below.refl _ _ | with_reducible refine bl_call h11 ?_ | with_reducible refine bl_call h10 ?_ | with_reducible refine bl_call h9 ?_ | with_reducible refine bl_call h8 ?_ | with_reducible refine bl_call h7 ?_ | with_reducible refine bl_call h6 ?_ | with_reducible refine bl_call h5 ?_ | with_reducible refine bl_alloc ?_ _ | with_reducible refine bl_drew ?_))); have RR := hr3.keep BL; have e0 := RR.cell 0; have e1 := RR.cell 1; have e2 := RR.cell 2; simp only [List.getElem?_cons_zero, List.getElem?_cons_succ] at e0 e1 e2; have f0 := RR.frozen 0; have f1 := RR.frozen 1; have f2 := RR.frozen 2; have zRR := RR.lt)))
  all_goals go_wp2_with fail
  all_goals
    refine bodyPost_ret (v := .agg #[.bool (decide (redP (p * p') (q * q') < 0)), .slice Az kz cz, .slice Dz lz bz]) (by simp [results, Tryz.results50, go_sem, e0, e1, e2]) rfl ⟨_, rfl, ?_, (((BB.trans (BL.mono BB.size)).setCell (by simp <;> omega) _).setCell (by simp <;> omega) _).setCell (by simp <;> omega) _⟩
    exact ((((hz.base (bl_szR (by (repeat (first | with_reducible exact Below.refl _ _ | with_reducible refine bl_call h11 ?_ | with_reducible refine bl_call h10 ?_ | with_reducible refine bl_call h9 ?_ | with_reducible refine bl_call h8 ?_ | with_reducible refine bl_call h7 ?_ | with_reducible refine bl_call h6 ?_ | with_reducible refine bl_call h5 ?_ | with_reducible refine bl_alloc ?_ _ | with_reducible refine bl_drew ?_))))).set_ (a := ⟨w.heap.size + 1 + 1, 0, none⟩) zr _).set_ (a := ⟨w.heap.size + 1 + 1, 1, none⟩) zr _).set_ (a := ⟨w.heap.size + 1 + 1, 2, none⟩) zr _).base (Nat.le_trans (by omega) (Nat.le_of_lt zr))
end Go.Proofs.YtfoleamcaflfeaaGreatDoor
