/- The walks of the reference's integers: Norm, Make, Neg, Add, Mul (package examboardref02). -/
import Derived.Test.YtoihjclkocffhaaDoorRfQ
import Derived.Test.YtoihjclkocffhaaDoorRefB
import Derived.Test.YtoihjclkocffhaaDoorIntC
namespace Go.Proofs.YtoihjclkocffhaaDoor
open Go.RowKit
set_option linter.unusedVariables false

set_option maxHeartbeats 4000000 in
theorem r2norm_core (neg : Bool) (v : Value) (ls : List Nat) (w : World) (h : Lim w v ls) (hl : ls.length ≤ 70368744177664) :
    Calls Tryd.prog 105 #[.agg #[.bool neg, v]] w fun e w' => ∃ u, e = .returned u ∧ IntF w.heap.size w' u (sg neg (val ls)) ls.length ∧ Below w.heap.size w w' := by
  obtain ⟨⟨A0, c0, rfl, _, _, _⟩, _⟩ := id h
  obtain ⟨m0, hm0⟩ : ∃ m, ls.length = m := ⟨_, rfl⟩
  obtain ⟨W0, hW0⟩ : ∃ W0 : World, W0 = (w.alloc (.cells #[.bool neg, .slice A0 ls.length c0] 52)).alloc (.cells #[.bool false, .slice none 0 0] 52) := ⟨_, rfl⟩
  have r0 : Row W0 w.heap.size 52 [.bool neg, .slice A0 ls.length c0] := by rw [hW0]; exact (Row.new w 52 [.bool neg, .slice A0 ls.length c0]).alloc _
  have r1 : Row W0 (w.heap.size + 1) 52 [.bool false, .slice none 0 0] := by
    rw [hW0]
    have := Row.new (w.alloc (.cells #[.bool neg, .slice A0 ls.length c0] 52)) 52 [.bool false, .slice none 0 0]
    simpa using this
  have B0 : Below w.heap.size w W0 := by rw [hW0]; exact (((Below.refl _ _).alloc (Nat.le_refl _) _).alloc (by simp) _)
  have HSN := Lib.hid (sg_neg neg (val ls))
  have HSA := Lib.hid (sg_abs neg (val ls))
  clear hm0
  go_enter Tryd.func105, Tryd.ntmps105
  go_wp2_with fail
  rw [← hW0]
  clear hW0
  have x0 : W0.cell? ⟨w.heap.size, 0, none⟩ = some (.bool neg) := r0.cell 0
  have x1 : W0.cell? ⟨w.heap.size, 1, none⟩ = some (.slice A0 ls.length c0) := r0.cell 1
  go_wp2_with fail
  refine (rnorm_any _ ls _ (h.below B0) hl).mono ?_
  rintro e w1 ⟨v1, rfl, hN⟩
  have hb1 := hN.bel
  have B1 : Below w.heap.size w w1 := B0.trans (hb1.mono B0.size)
  replace r0 := r0.keep hb1
  have hz0 := r1.lt
  replace r1 := r1.keep hb1
  have hf := hN.fresh
  have hn := hN.nat
  obtain ⟨A, k, c, rfl, hk, hk2⟩ := natAt_pos hn
  have hf1 : Fresh (w.heap.size + 2) (.slice A k c) := hf.mono hz0
  clear x0 x1
  have x0 : w1.cell? ⟨w.heap.size, 0, none⟩ = some (.bool neg) := r0.cell 0
  have c0' : w1.cell? ⟨w.heap.size + 1, 0, none⟩ = some (.bool false) := r1.cell 0
  have c1' : w1.cell? ⟨w.heap.size + 1, 1, none⟩ = some (.slice none 0 0) := r1.cell 1
  have f0 : w1.frozen? ⟨w.heap.size + 1, 0, none⟩ = false := r1.frozen 0
  have f1 : w1.frozen? ⟨w.heap.size + 1, 1, none⟩ = false := r1.frozen 1
  have z0 := r0.lt
  have z1 := r1.lt
  have HK : Hid (decide (0 < k) = decide (0 < val ls)) := by unfold Hid; rw [Bool.eq_iff_iff]; simpa using hk
  clear hk hN hf
  rcases neg with _ | _
  · go_wp2_with fail
    refine bodyPost_ret (v := .agg #[.bool false, .slice A k c]) (by simp [results, Tryd.results105, go_sem, c0', c1']) rfl ⟨_, rfl, ⟨.slice A k c, by rw [HSN.out]; rfl, ?_, hf1.mono (by omega)⟩, (B1.setCell (by simp) _).setCell (by simp) _⟩
    rw [HSA.out]
    exact (hn.set_ hf1 (by simp) _).set_ hf1 (by simp) _
  · rcases hd : decide (0 < k) with _ | _
    · go_wp2_with fail
      refine bodyPost_ret (v := .agg #[.bool false, .slice A k c]) (by simp [results, Tryd.results105, go_sem, c0', c1']) rfl ⟨_, rfl, ⟨.slice A k c, by rw [HSN.out, ← HK.out, hd]; rfl, ?_, hf1.mono (by omega)⟩, (B1.setCell (by simp) _).setCell (by simp) _⟩
      rw [HSA.out]
      exact (hn.set_ hf1 (by simp) _).set_ hf1 (by simp) _
    · go_wp2_with fail
      refine bodyPost_ret (v := .agg #[.bool true, .slice A k c]) (by simp [results, Tryd.results105, go_sem, c0', c1']) rfl ⟨_, rfl, ⟨.slice A k c, by rw [HSN.out, ← HK.out, hd]; rfl, ?_, hf1.mono (by omega)⟩, (B1.setCell (by simp) _).setCell (by simp) _⟩
      rw [HSA.out]
      exact (hn.set_ hf1 (by simp) _).set_ hf1 (by simp) _
theorem r2norm_any (v : Value) (p : Int) (L : Nat) (w : World) (h : IntA w v p L) (hL : L ≤ 70368744177664) :
    Calls Tryd.prog 105 #[v] w fun e w' => ∃ u, e = .returned u ∧ IntF w.heap.size w' u p L ∧ Below w.heap.size w w' := by
  obtain ⟨neg, mv, ls, rfl, h1, h2, h3⟩ := h
  refine (r2norm_core neg mv ls w h1 (by omega)).mono ?_
  rintro e w' ⟨u, he, hu, hb⟩
  exact ⟨u, he, by rw [h3]; exact hu.mono h2, hb⟩
set_option maxHeartbeats 2000000 in
theorem r2make_any (neg : Bool) (v : Value) (ls : List Nat) (w : World) (h : Lim w v ls) (hl : ls.length ≤ 70368744177663) :
    Calls Tryd.prog 112 #[.bool neg, v] w fun e w' => ∃ u, e = .returned u ∧ IntF w.heap.size w' u (sg neg (val ls)) ls.length ∧ Below w.heap.size w w' := by
  have hgb := Row.new w 52 [.bool false, .slice none 0 0]
  have B0 : Below w.heap.size w (w.alloc (.cells #[.bool false, .slice none 0 0] 52)) := (Below.refl _ _).alloc (Nat.le_refl _) _
  have h0 := h.below B0
  have HNC := Lib.hid (r2norm_core neg v ls _ h0 (by omega))
  obtain ⟨⟨A0, c0', rfl, _, _, _⟩, _⟩ := id h
  go_enter Tryd.func112, Tryd.ntmps112
  go_wp2_with fail
  refine HNC.out.mono ?_
  rintro e w1 ⟨u, rfl, hu, hb⟩
  replace hgb := hgb.keep hb
  obtain ⟨mv, rfl, hn, hf⟩ := hu
  obtain ⟨A, k, c, rfl, _, _⟩ := natAt_pos hn
  have c0 := hgb.cell 0
  have c1 := hgb.cell 1
  have f0 := hgb.frozen 0
  have f1 := hgb.frozen 1
  have z := hgb.lt
  simp only [List.getElem?_cons_zero, List.getElem?_cons_succ] at c0 c1
  have hf1 : Fresh (w.heap.size + 1) (.slice A k c) := by rw [show w.heap.size + 1 = (w.alloc (.cells #[.bool false, .slice none 0 0] 52)).heap.size by simp]; exact hf
  clear hf
  go_wp2_with fail
  refine bodyPost_ret (v := .agg #[.bool (decide (sg neg (val ls) < 0)), .slice A k c]) (by simp [results, Tryd.results112, go_sem, c0, c1]) rfl ⟨_, rfl, ⟨_, rfl, ?_, hf1.mono (by omega)⟩, ((B0.trans (hb.mono B0.size)).setCell (Nat.le_refl _) _).setCell (Nat.le_refl _) _⟩
  exact (hn.set_ hf1 (by simp) _).set_ hf1 (by simp) _

theorem rmulW (v u : Value) (la lb : List Nat) (w : World) (ha : Lim w v la) (hb : Lim w u lb) (hsum : la.length + lb.length ≤ 70368744177663) :
    Calls Tryd.prog 39 #[v, u] w fun e w' => ∃ v, e = .returned v ∧ NRes w w' v (val la * val lb) (la.length + lb.length) := rmul_wide v u la lb w ha hb (by omega)
theorem rsubG (v u : Value) (a b : List Nat) (w : World) (ha : Lim w v a) (hb : Lim w u b) (h1 : a.length ≤ 70368744177663) (h2 : b.length ≤ 70368744177663) (hle : val b ≤ val a) :
    Calls Tryd.prog 86 #[v, u] w fun e w' => ∃ x, e = .returned (.tuple #[x, .bool true]) ∧ NRes w w' x (val a - val b) a.length := rsub_ge v u a b w ha hb (by omega) (by omega) hle
theorem rsub_ltB (v u : Value) (la lb : List Nat) (w : World) (ha : Lim w v la) (hb : Lim w u lb) (h1 : la.length ≤ 70368744177664) (h2 : lb.length ≤ 70368744177664) (hlt : val la < val lb) :
    Calls Tryd.prog 86 #[v, u] w fun e w' => e = .returned (.tuple #[.slice none 0 0, .bool false]) ∧ Below w.heap.size w w' :=
  (rsub_lt v u la lb w ha hb h1 h2 hlt).mono fun e w' h => ⟨h.1, by rw [← h.2]; exact Below.refl _ _⟩
theorem sg_notR (b : Bool) (n : Nat) : sg (!b) n = -(sg b n) := by cases b <;> simp [sg]


set_option maxHeartbeats 4000000 in
theorem r2neg_any (v : Value) (p : Int) (L : Nat) (w : World) (h : IntA w v p L) (hL : L ≤ 70368744177663) :
    Calls Tryd.prog 107 #[v] w fun e w' => ∃ x, e = .returned x ∧ IntF w.heap.size w' x (-p) L ∧ Below w.heap.size w w' := by
  obtain ⟨na, av, la, rfl, hla, kla, HA⟩ := h
  have hla' := hla
  obtain ⟨⟨A, cA, rfl, _, _, _⟩, _⟩ := hla'
  obtain ⟨W0, hW0⟩ : ∃ W0 : World, W0 = (w.alloc (.cells #[.bool na, .slice A la.length cA] 52)).alloc (.cells #[.bool false, .slice none 0 0] 52) := ⟨_, rfl⟩
  have r0 : Row W0 w.heap.size 52 [.bool na, .slice A la.length cA] := by
    rw [hW0]
    have := Row.alloc (Row.new w 52 [.bool na, .slice A la.length cA]) (.cells #[.bool false, .slice none 0 0] 52)
    simpa using this
  have r1 : Row W0 (w.heap.size + 1) 52 [.bool false, .slice none 0 0] := by
    rw [hW0]
    have := Row.new (w.alloc (.cells #[.bool na, .slice A la.length cA] 52)) 52 [.bool false, .slice none 0 0]
    simpa using this
  have B0 : Below w.heap.size w W0 := by rw [hW0]; exact (((Below.refl _ _).alloc (Nat.le_refl _) _).alloc (by simp) _)
  have a0 : W0.cell? ⟨w.heap.size, 0, none⟩ = some (.bool na) := r0.cell 0
  have a1 : W0.cell? ⟨w.heap.size, 1, none⟩ = some (.slice A la.length cA) := r0.cell 1
  have hz : w.heap.size + 2 ≤ W0.heap.size := r1.lt
  have HP : Hid (sg (!na) (val la) = -p) := by unfold Hid; rw [HA, sg_notR]
  clear HA
  go_enter Tryd.func107, Tryd.ntmps107
  go_wp2_with fail
  rw [← hW0]
  clear hW0
  go_wp2_with fail
  refine (r2make_any _ _ la _ (hla.below B0) (by omega)).mono ?_
  rintro e w6 ⟨v6, rfl, hI, h6⟩
  rw [HP.out] at hI
  obtain ⟨mv6, rfl, hn6, hf6⟩ := hI
  have hn6' := hn6
  obtain ⟨l6, ⟨⟨A6, c6, rfl, _, _, _⟩, _⟩, _⟩ := hn6'
  have B6 := B0.trans (h6.mono B0.size)
  have r6 := r1.keep h6
  have d60 : w6.cell? ⟨w.heap.size + 1, 0, none⟩ = some (.bool false) := r6.cell 0
  have d61 : w6.cell? ⟨w.heap.size + 1, 1, none⟩ = some (.slice none 0 0) := r6.cell 1
  have f60 := r6.frozen 0
  have f61 := r6.frozen 1
  have hf7 : Fresh (w.heap.size + 2) (.slice A6 l6.length c6) := hf6.mono hz
  clear r6
  go_wp2_with fail
  refine bodyPost_ret (v := .agg #[.bool (decide (-p < 0)), .slice A6 l6.length c6]) (by simp [results, Tryd.results107, go_sem, d60, d61]) rfl ⟨_, rfl, ⟨_, rfl, ?_, hf7.mono (by omega)⟩, (B6.setCell (by simp) _).setCell (by simp) _⟩
  exact ((hn6.set_ hf7 (by simp) _).set_ hf7 (by simp) _).mono kla

end Go.Proofs.YtoihjclkocffhaaDoor
