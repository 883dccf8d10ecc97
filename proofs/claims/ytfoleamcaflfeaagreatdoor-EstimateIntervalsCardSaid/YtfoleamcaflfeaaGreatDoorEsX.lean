/- The walks of ratio, fraction, reaches (package examboardref27). -/
import Derived.Test.YtfoleamcaflfeaaGreatDoorEsCr
import Derived.Test.YtfoleamcaflfeaaGreatDoorRfW
import Derived.Test.YtfoleamcaflfeaaGreatDoorRf9
namespace Go.Proofs.YtfoleamcaflfeaaGreatDoor
open Go.RowKit
set_option linter.unusedVariables false
set_option maxRecDepth 100000

theorem NatAny.lt {w : World} {v : Value} {n L : Nat} (h : NatAny w v n L) : n < bp L := by
  obtain ⟨ls, h1, h2, h3⟩ := h
  have := val_lt h1.2
  have := bp_mono h3
  omega
theorem keep3X {W w' : World} {g : Nat} {x y z : Value} (l : g < W.heap.size) (h0 : W.cell? ⟨g, 0, none⟩ = some x) (h1 : W.cell? ⟨g, 1, none⟩ = some y) (h2 : W.cell? ⟨g, 2, none⟩ = some z) (hb : Below W.heap.size W w') :
    w'.cell? ⟨g, 0, none⟩ = some x ∧ w'.cell? ⟨g, 1, none⟩ = some y ∧ w'.cell? ⟨g, 2, none⟩ = some z := ⟨(hb.cell l).trans h0, (hb.cell l).trans h1, (hb.cell l).trans h2⟩
theorem reach_prod {x s : Nat} {p : Int} {q : Nat} (hq : 0 < q) : decide (0 ≤ cmpZ ((x : Int) * ((redQ (p * (s : Int)) q : Nat) : Int)) (redP (p * (s : Int)) q)) = reachB x s p q := by
  obtain ⟨m1, m2⟩ := red_mul (p * (s : Int)) q
  have g1 := gcd_pos (p := p * (s : Int)) hq
  generalize Nat.gcd (p * (s : Int)).natAbs q = g at *
  generalize redP (p * (s : Int)) q = P at *
  generalize redQ (p * (s : Int)) q = Q at *
  unfold reachB
  rw [m1, m2]
  have hg : (0 : Int) < (g : Int) := by omega
  have e1 : (x : Int) * ((Q * g : Nat) : Int) = (x : Int) * (Q : Int) * (g : Int) := by rw [Int.natCast_mul, Int.mul_assoc]
  rw [e1]
  have e2 : decide (P * (g : Int) ≤ (x : Int) * (Q : Int) * (g : Int)) = decide (P ≤ (x : Int) * (Q : Int)) := by
    rw [Bool.eq_iff_iff]
    simp only [decide_eq_true_eq]
    exact ⟨fun h => Int.le_of_mul_le_mul_right h hg, fun h => Int.mul_le_mul_of_nonneg_right h (Int.le_of_lt hg)⟩
  rw [e2]
  generalize (x : Int) * (Q : Int) = a
  unfold cmpZ
  by_cases h1 : a < P
  · rw [if_pos h1]; have : ¬ P ≤ a := by omega
    simp [this]
  · rw [if_neg h1]; have : P ≤ a := by omega
    split <;> simp [this]

set_option maxRecDepth 100000 in
set_option maxHeartbeats 8000000 in
theorem rfrac_any (n d : Int) (w : World) (h1 : -9223372036854775808 ≤ n) (h2 : n ≤ 9223372036854775807) (hd0 : 0 < d) (hd1 : d ≤ 9223372036854775807) :
    Calls Tryz.prog 18 #[.int .i64 n, .int .i64 d] w fun e w' => ∃ x, e = .returned x ∧ RatF w.heap.size w' x (redP n d.toNat) (redQ n d.toNat) 2 ∧ Below w.heap.size w w' := by
  obtain ⟨W0, hW0⟩ : ∃ W0 : World, W0 = w.alloc (.cells #[.bool false, .slice none 0 0, .slice none 0 0] 28) := ⟨_, rfl⟩
  have r0 : Row W0 w.heap.size 28 [.bool false, .slice none 0 0, .slice none 0 0] := by
    rw [hW0]
    have := Row.new w 28 [.bool false, .slice none 0 0, .slice none 0 0]
    simpa using this
  have B0 : Below w.heap.size w W0 := by rw [hW0]; exact ((Below.refl _ _).alloc (Nat.le_refl _) _)
  go_enter Tryz.func18, Tryz.ntmps18
  go_wp2_with fail
  rw [← hW0]
  clear hW0
  have BB := B0
  have hr4 := r0
  clear B0 r0
  have c40 : W0.cell? ⟨w.heap.size, 0, none⟩ = some (.bool false) := hr4.cell 0
  have c41 : W0.cell? ⟨w.heap.size, 1, none⟩ = some (.slice none 0 0) := hr4.cell 1
  have c42 : W0.cell? ⟨w.heap.size, 2, none⟩ = some (.slice none 0 0) := hr4.cell 2
  have f40 : W0.frozen? ⟨w.heap.size, 0, none⟩ = false := hr4.frozen 0
  have f41 : W0.frozen? ⟨w.heap.size, 1, none⟩ = false := hr4.frozen 1
  have f42 : W0.frozen? ⟨w.heap.size, 2, none⟩ = false := hr4.frozen 2
  have z4 := hr4.lt
  go_wp2_with fail
  clear c40 c41 c42 f40 f41 f42 z4
  refine (r3of_any n d _ h1 h2 hd0 hd1).mono ?_
  have hz6 := hr4.lt
  rintro e x1 ⟨vq, rfl, hvq, hb⟩
  replace hr4 := hr4.keep hb
  replace BB : Below w.heap.size w x1 := BB.trans (hb.mono BB.size)
  clear hb
  have hq' := hvq
  obtain ⟨mq, dq, eq, hmq, hdq, _, _⟩ := hq'
  subst eq
  obtain ⟨Aq, kq, cq, rfl⟩ := hmq.lim1.choose_spec.1.show_
  obtain ⟨Dq, lq, bq, rfl⟩ := hdq.lim1.choose_spec.1.show_
  clear hmq hdq
  have hl := lit_below x1 (.cells #[.bool (decide (redP n d.toNat < 0)), .slice Aq kq cq, .slice Dq lq bq] 28)
  have q4 := hr4.keep hl
  have c40 : (x1.alloc (.cells #[.bool (decide (redP n d.toNat < 0)), .slice Aq kq cq, .slice Dq lq bq] 28)).cell? ⟨w.heap.size, 0, none⟩ = some (.bool false) := q4.cell 0
  have f40 : (x1.alloc (.cells #[.bool (decide (redP n d.toNat < 0)), .slice Aq kq cq, .slice Dq lq bq] 28)).frozen? ⟨w.heap.size, 0, none⟩ = false := q4.frozen 0
  have c41 : (x1.alloc (.cells #[.bool (decide (redP n d.toNat < 0)), .slice Aq kq cq, .slice Dq lq bq] 28)).cell? ⟨w.heap.size, 1, none⟩ = some (.slice none 0 0) := q4.cell 1
  have f41 : (x1.alloc (.cells #[.bool (decide (redP n d.toNat < 0)), .slice Aq kq cq, .slice Dq lq bq] 28)).frozen? ⟨w.heap.size, 1, none⟩ = false := q4.frozen 1
  have c42 : (x1.alloc (.cells #[.bool (decide (redP n d.toNat < 0)), .slice Aq kq cq, .slice Dq lq bq] 28)).cell? ⟨w.heap.size, 2, none⟩ = some (.slice none 0 0) := q4.cell 2
  have f42 : (x1.alloc (.cells #[.bool (decide (redP n d.toNat < 0)), .slice Aq kq cq, .slice Dq lq bq] 28)).frozen? ⟨w.heap.size, 2, none⟩ = false := q4.frozen 2
  have z4 := q4.lt
  clear q4
  replace BB := BB.trans (hl.mono BB.size)
  replace hvq := hvq.below hl
  clear hl
  go_wp2_with fail
  refine bodyPost_ret (v := .agg #[.bool (decide (redP n d.toNat < 0)), .slice Aq kq cq, .slice Dq lq bq]) (by simp [results, Tryz.results18, go_sem, c40, c41, c42]) rfl ⟨_, rfl, ?_, ((BB.setCell (by simp) _).setCell (by simp) _).setCell (by simp) _⟩
  exact ((((hvq.set_ (a := ⟨w.heap.size, 0, none⟩) hz6 _).set_ (a := ⟨w.heap.size, 1, none⟩) hz6 _).set_ (a := ⟨w.heap.size, 2, none⟩) hz6 _).base (by omega))
set_option maxHeartbeats 8000000 in
theorem rratio_any (nv : Value) (x K : Nat) (w : World) (hx : NatAny w nv x K) (h2 : 2 ≤ K) (hK : K ≤ 70368744177600) :
    Calls Tryz.prog 49 #[nv] w fun e w' => ∃ y, e = .returned y ∧ RatF w.heap.size w' y (x : Int) 1 K ∧ Below w.heap.size w w' := by
  obtain ⟨ls, hls, hvs, hks⟩ := hx
  obtain ⟨⟨AN, cn, rfl, _, _, _⟩, _⟩ := id hls
  have HLS := Lib.hid hls
  have HVS := Lib.hid hvs
  clear hls hvs
  obtain ⟨W0, hW0⟩ : ∃ W0 : World, W0 = w.alloc (.cells #[.bool false, .slice none 0 0, .slice none 0 0] 28) := ⟨_, rfl⟩
  have r0 : Row W0 w.heap.size 28 [.bool false, .slice none 0 0, .slice none 0 0] := by
    rw [hW0]
    have := Row.new w 28 [.bool false, .slice none 0 0, .slice none 0 0]
    simpa using this
  have B0 : Below w.heap.size w W0 := by rw [hW0]; exact ((Below.refl _ _).alloc (Nat.le_refl _) _)
  go_enter Tryz.func49, Tryz.ntmps49
  go_wp2_with fail
  rw [← hW0]
  clear hW0
  have BB := B0
  have hr2 := r0
  clear B0 r0
  refine (rof_any 1 _ (by decide)).mono ?_
  rintro e x1 ⟨v5, rfl, l5, hl5, _, hq5, hk5, _, hb⟩
  replace hr2 := hr2.keep hb
  replace BB : Below w.heap.size w x1 := BB.trans (hb.mono BB.size)
  clear hb
  obtain ⟨⟨A5, c5, rfl, _, _, _⟩, _⟩ := id hl5
  have hls1 := HLS.out.below BB
  have hvs := HVS.out
  have hra : RatA x1 (.agg #[.bool false, .slice AN ls.length cn, .slice A5 l5.length c5]) (x : Int) 1 K := ⟨_, _, ls, _, l5, rfl, hls1, hl5, hks, by omega, by rw [hq5, if_neg (by decide), hvs]; rfl, by rw [hq5, if_neg (by decide)]⟩
  clear hls1 hvs hq5
  clear hl5
  have c20 : x1.cell? ⟨w.heap.size, 0, none⟩ = some (.bool false) := hr2.cell 0
  have c21 : x1.cell? ⟨w.heap.size, 1, none⟩ = some (.slice none 0 0) := hr2.cell 1
  have c22 : x1.cell? ⟨w.heap.size, 2, none⟩ = some (.slice none 0 0) := hr2.cell 2
  have z2 := hr2.lt
  go_wp2_with fail
  clear c20 c21 c22 z2
  refine (r3norm_any _ (x : Int) 1 K _ hra h2 (by omega)).mono ?_
  have yyr := hr2.lt
  rintro e x2 ⟨vz, rfl, hvz, hb⟩
  replace hr2 := hr2.keep hb
  replace BB : Below w.heap.size w x2 := BB.trans (hb.mono BB.size)
  clear hb
  rw [(redQ_one (x : Int)).1, (redQ_one (x : Int)).2] at hvz
  have hz := hvz
  obtain ⟨mz, dz, ez, hmz, hdz, _, _⟩ := id hz
  subst ez
  obtain ⟨Az, kz, cz, rfl⟩ := hmz.lim1.choose_spec.1.show_
  obtain ⟨Dz, lz, bz, rfl⟩ := hdz.lim1.choose_spec.1.show_
  clear hmz hdz
  have c20 : x2.cell? ⟨w.heap.size, 0, none⟩ = some (.bool false) := hr2.cell 0
  have c21 : x2.cell? ⟨w.heap.size, 1, none⟩ = some (.slice none 0 0) := hr2.cell 1
  have c22 : x2.cell? ⟨w.heap.size, 2, none⟩ = some (.slice none 0 0) := hr2.cell 2
  have f20 : x2.frozen? ⟨w.heap.size, 0, none⟩ = false := hr2.frozen 0
  have f21 : x2.frozen? ⟨w.heap.size, 1, none⟩ = false := hr2.frozen 1
  have f22 : x2.frozen? ⟨w.heap.size, 2, none⟩ = false := hr2.frozen 2
  have z2 := hr2.lt
  go_wp2_with fail
  refine bodyPost_ret (v := .agg #[.bool (decide ((x : Int) < 0)), .slice Az kz cz, .slice Dz lz bz]) (by simp [results, Tryz.results49, go_sem, c20, c21, c22]) rfl ⟨_, rfl, ?_, (((BB).setCell (by simp <;> omega) _).setCell (by simp <;> omega) _).setCell (by simp <;> omega) _⟩
  exact (((hz.set_ (a := ⟨w.heap.size, 0, none⟩) yyr _).set_ (a := ⟨w.heap.size, 1, none⟩) yyr _).set_ (a := ⟨w.heap.size, 2, none⟩) yyr _).base (by omega)
set_option maxHeartbeats 16000000 in
theorem rreach_any (pv av lv : Value) (x s K M : Nat) (p : Int) (q : Nat) (w : World) (hx : NatAny w pv x K) (hs : NatAny w av s K) (hlv : RatA w lv p q M) (hK2 : 2 ≤ K) (hM : 2 ≤ M) (hKM : M + K + 2 ≤ 70368744177600) :
    Calls Tryz.prog 21 #[pv, av, lv] w fun e w' => e = .returned (.bool (reachB x s p q)) ∧ Below w.heap.size w w' := by
  have hK : K ≤ 70368744177600 := by omega
  have hq0 := hlv.pos
  have HB1 : Hid (1 < bp 2) := by unfold Hid; decide
  have HX1 : Hid ((x : Int).natAbs < bp K) := by unfold Hid; rw [Int.natAbs_natCast]; exact hx.lt
  have HS1 : Hid ((s : Int).natAbs < bp K) := by unfold Hid; rw [Int.natAbs_natCast]; exact hs.lt
  have hlt := hlv.lt (by omega : 1 ≤ M)
  have HQP : Hid (0 < redQ (p * (s : Int)) q) := redQ_pos (by omega)
  have HPB : Hid ((redP (p * (s : Int)) q).natAbs < bp (M + K)) := by
    unfold Hid
    have h1 : (p * (s : Int)).natAbs < bp (M + K) := by rw [Int.natAbs_mul, bp_add, Int.natAbs_natCast]; exact Nat.mul_lt_mul'' hlt.1 hs.lt
    rw [redP_abs]
    exact Nat.lt_of_le_of_lt (Nat.div_le_self _ _) h1
  have HQB : Hid (redQ (p * (s : Int)) q < bp M) := by
    unfold Hid
    have : redQ (p * (s : Int)) q ≤ q := by unfold redQ; exact Nat.div_le_self _ _
    omega
  have HRB : Hid (decide (0 ≤ cmpZ ((x : Int) * ((redQ (p * (s : Int)) q : Nat) : Int)) (redP (p * (s : Int)) q)) = reachB x s p q) := reach_prod hq0
  obtain ⟨neg, LA, ln, lc, LB, lk, lb, rfl⟩ := hlv.show_
  obtain ⟨lx_, hlx_, _, _⟩ := id hx
  obtain ⟨⟨XA, xc, rfl, _, _, _⟩, _⟩ := hlx_
  obtain ⟨ly_, hly_, _, _⟩ := id hs
  obtain ⟨⟨YA, yc, rfl, _, _, _⟩, _⟩ := hly_
  clear hlt
  obtain ⟨W0, hW0⟩ : ∃ W0 : World, W0 = w.alloc (.cells #[.bool neg, .slice LA ln lc, .slice LB lk lb] 28) := ⟨_, rfl⟩
  have r0 : Row W0 w.heap.size 28 [.bool neg, .slice LA ln lc, .slice LB lk lb] := by
    rw [hW0]
    have := Row.new w 28 [.bool neg, .slice LA ln lc, .slice LB lk lb]
    simpa using this
  have B0 : Below w.heap.size w W0 := by rw [hW0]; exact ((Below.refl _ _).alloc (Nat.le_refl _) _)
  go_enter Tryz.func21, Tryz.ntmps21
  go_wp2_with fail
  rw [← hW0]
  clear hW0
  have BB := B0
  have hr5 := r0
  clear B0 r0
  have hx1 := hx.below BB
  have hs1 := hs.below BB
  have hl1 := hlv.below BB
  have c50 : W0.cell? ⟨w.heap.size, 0, none⟩ = some (.bool neg) := hr5.cell 0
  have c51 : W0.cell? ⟨w.heap.size, 1, none⟩ = some (.slice LA ln lc) := hr5.cell 1
  have c52 : W0.cell? ⟨w.heap.size, 2, none⟩ = some (.slice LB lk lb) := hr5.cell 2
  have z5 := hr5.lt
  go_wp2_with fail
  have qs0 := c50
  have qs1 := c51
  have qs2 := c52
  go_region_held3 (fun w' => w'.cell? ⟨w.heap.size, 0, none⟩ = some (.bool neg) ∧ w'.cell? ⟨w.heap.size, 1, none⟩ = some (.slice LA ln lc) ∧ w'.cell? ⟨w.heap.size, 2, none⟩ = some (.slice LB lk lb))
    ((refine keep3X z5 qs0 qs1 qs2 ?_; (repeat (first | with_reducible exact Below.refl _ _ | with_reducible refine bl_call h13 ?_ | with_reducible refine bl_call h12 ?_ | with_reducible refine bl_call h11 ?_ | with_reducible refine bl_call h8 ?_ | with_reducible refine bl_alloc ?_ _ | with_reducible refine bl_drew ?_)); done))
    (first
      | (go_at_call 49; ((with_reducible refine (rratio_any (.slice XA lx_.length xc) x K _ (hx1.below ?_) hK2 hK).mono ?_); (repeat (first | with_reducible exact Below.refl _ _ | with_reducible refine bl_call h13 ?_ | with_reducible refine bl_call h12 ?_ | with_reducible refine bl_call h11 ?_ | with_reducible refine bl_call h8 ?_ | with_reducible refine bl_alloc ?_ _ | with_reducible refine bl_drew ?_)); rintro e w8 ⟨v8, rfl, hv8, h8⟩))
      | (go_at_call 49; ((with_reducible refine (rratio_any (.slice YA ly_.length yc) s K _ (hs1.below ?_) hK2 hK).mono ?_); (repeat (first | with_reducible exact Below.refl _ _ | with_reducible refine bl_call h13 ?_ | with_reducible refine bl_call h12 ?_ | with_reducible refine bl_call h11 ?_ | with_reducible refine bl_call h8 ?_ | with_reducible refine bl_alloc ?_ _ | with_reducible refine bl_drew ?_)); rintro e w11 ⟨v11, rfl, hv11, h11⟩))
      | (go_at_call 50; ((with_reducible refine (r3mul_wide _ _ p (s : Int) q 1 M M K 2 (M + K) _ (hl1.widX.below ?_) ((hv11.widX Nat.one_pos HS1.out HB1.out).below ?_) hM hM hK2 (Nat.le_refl _) (Nat.le_refl _) (by omega) (by omega)).mono ?_); (repeat (first | with_reducible exact Below.refl _ _ | with_reducible refine bl_call h13 ?_ | with_reducible refine bl_call h12 ?_ | with_reducible refine bl_call h11 ?_ | with_reducible refine bl_call h8 ?_ | with_reducible refine bl_alloc ?_ _ | with_reducible refine bl_drew ?_)); (repeat (first | with_reducible exact Below.refl _ _ | with_reducible refine bl_call h13 ?_ | with_reducible refine bl_call h12 ?_ | with_reducible refine bl_call h11 ?_ | with_reducible refine bl_call h8 ?_ | with_reducible refine bl_alloc ?_ _ | with_reducible refine bl_drew ?_)); rintro e w12 ⟨v12, rfl, hv12, h12⟩; rw [Nat.mul_one] at hv12))
      | (go_at_call 17; ((with_reducible refine (r3cmp_wide _ _ (x : Int) (redP (p * (s : Int)) q) 1 (redQ (p * (s : Int)) q) K 2 (M + K) M _ ((hv8.widX Nat.one_pos HX1.out HB1.out).below ?_) ((hv12.widX HQP.out HPB.out HQB.out).below ?_) hK2 (Nat.le_refl _) (by omega) hM (by omega) (by omega)).mono ?_); (repeat (first | with_reducible exact Below.refl _ _ | with_reducible refine bl_call h13 ?_ | with_reducible refine bl_call h12 ?_ | with_reducible refine bl_call h11 ?_ | with_reducible refine bl_call h8 ?_ | with_reducible refine bl_alloc ?_ _ | with_reducible refine bl_drew ?_)); (repeat (first | with_reducible exact Below.refl _ _ | with_reducible refine bl_call h13 ?_ | with_reducible refine bl_call h12 ?_ | with_reducible refine bl_call h11 ?_ | with_reducible refine bl_call h8 ?_ | with_reducible refine bl_alloc ?_ _ | with_reducible refine bl_drew ?_)); rintro e w13 ⟨rfl, h13⟩)))
  all_goals go_wp2_with fail
  all_goals
    have BL : Below W0.heap.size W0 w13 := (by (repeat (first | with_reducible exact Below.refl _ _ | with_reducible refine bl_call h13 ?_ | with_reducible refine bl_call h12 ?_ | with_reducible refine bl_call h11 ?_ | with_reducible refine bl_call h8 ?_ | with_reducible refine bl_alloc ?_ _ | with_reducible refine bl_drew ?_)))
    go_ret
    rw [← HRB.out]
    exact ⟨rfl, BB.trans (BL.mono BB.size)⟩
end Go.Proofs.YtfoleamcaflfeaaGreatDoor
