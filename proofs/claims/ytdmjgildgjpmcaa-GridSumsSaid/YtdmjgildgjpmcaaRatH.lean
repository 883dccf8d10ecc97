/- The walks of integer's Neg and Sub, of ratio's Neg, Abs and Sub. -/
import Derived.Test.YtdmjgildgjpmcaaRatG
namespace Go.Proofs.Ytdmjgildgjpmcaa
open Go.RowKit
set_option linter.unusedVariables false

theorem sg_not (b : Bool) (n : Nat) : sg (!b) n = -(sg b n) := by cases b <;> simp [sg]

set_option maxHeartbeats 4000000 in
theorem ineg_any (v : Value) (p : Int) (L : Nat) (w : World) (h : IntA w v p L) (hL : L ≤ 70368744177650) :
    Calls Try.prog 61 #[v] w fun e w' => ∃ x, e = .returned x ∧ IntF w.heap.size w' x (-p) L ∧ Below w.heap.size w w' := by
  obtain ⟨na, av, la, rfl, hla, kla, HA⟩ := h
  have hla' := hla
  obtain ⟨⟨A, cA, rfl, _, _, _⟩, _⟩ := hla'
  obtain ⟨W0, hW0⟩ : ∃ W0 : World, W0 = (w.alloc (.cells #[.bool na, .slice A la.length cA] 40)).alloc (.cells #[.bool false, .slice none 0 0] 40) := ⟨_, rfl⟩
  have r0 : Row W0 w.heap.size 40 [.bool na, .slice A la.length cA] := by
    rw [hW0]
    have := Row.alloc (Row.new w 40 [.bool na, .slice A la.length cA]) (.cells #[.bool false, .slice none 0 0] 40)
    simpa using this
  have r1 : Row W0 (w.heap.size + 1) 40 [.bool false, .slice none 0 0] := by
    rw [hW0]
    have := Row.new (w.alloc (.cells #[.bool na, .slice A la.length cA] 40)) 40 [.bool false, .slice none 0 0]
    simpa using this
  have B0 : Below w.heap.size w W0 := by rw [hW0]; exact (((Below.refl _ _).alloc (Nat.le_refl _) _).alloc (by simp) _)
  have a0 : W0.cell? ⟨w.heap.size, 0, none⟩ = some (.bool na) := r0.cell 0
  have a1 : W0.cell? ⟨w.heap.size, 1, none⟩ = some (.slice A la.length cA) := r0.cell 1
  have hz : w.heap.size + 2 ≤ W0.heap.size := r1.lt
  have HP : Hid (sg (!na) (val la) = -p) := by unfold Hid; rw [HA, sg_not]
  clear HA
  go_enter Try.func61, Try.ntmps61
  go_wp2_with fail
  rw [← hW0]
  clear hW0
  go_wp2_with fail
  refine (imake_any _ _ la _ (hla.below B0) (by omega)).mono ?_
  rintro e w6 ⟨v6, rfl, hI, h6⟩
  rw [HP.out] at hI
  obtain ⟨mv6, rfl, hn6, hf6⟩ := hI
  have hn6' := hn6
  obtain ⟨l6, ⟨⟨A6, c6, rfl, _, _, _⟩, _⟩, _⟩ := hn6'
  have B6 := B0.trans (h6.mono B0.size)
  have r6 := r1.keep h6
  have d60 : w6.cell? ⟨w.heap.size + 1, 0, none⟩ = some (.bool false) := r6.cell 0
  have d61 : w6.cell? ⟨w.heap.size + 1, 1, none⟩ = some (.slice none 0 0) := r6.cell 1
  have f60 := r6.frozen 0
  have f61 := r6.frozen 1
  have hf7 : Fresh (w.heap.size + 2) (.slice A6 l6.length c6) := hf6.mono hz
  clear r6
  go_wp2_with fail
  refine bodyPost_ret (v := .agg #[.bool (decide (-p < 0)), .slice A6 l6.length c6]) (by simp [results, Try.results61, go_sem, d60, d61]) rfl ⟨_, rfl, ⟨_, rfl, ?_, hf7.mono (by omega)⟩, (B6.setCell (by simp) _).setCell (by simp) _⟩
  exact ((hn6.set_ hf7 (by simp) _).set_ hf7 (by simp) _).mono kla

set_option maxHeartbeats 4000000 in
theorem isub_any (v u : Value) (p q : Int) (L M : Nat) (w : World) (ha : IntA w v p L) (hb : IntA w u q M) (hL : L ≤ 70368744177600) (hM : M ≤ 70368744177600) :
    Calls Try.prog 38 #[v, u] w fun e w' => ∃ x, e = .returned x ∧ IntF w.heap.size w' x (p - q) (L + M + 1) ∧ Below w.heap.size w w' := by
  obtain ⟨na, A, kA, cA, rfl⟩ := ha.show_
  obtain ⟨nb, B, kB, cB, rfl⟩ := hb.show_
  obtain ⟨W0, hW0⟩ : ∃ W0 : World, W0 = ((w.alloc (.cells #[.bool na, .slice A kA cA] 40)).alloc (.cells #[.bool nb, .slice B kB cB] 40)).alloc (.cells #[.bool false, .slice none 0 0] 40) := ⟨_, rfl⟩
  have r0 : Row W0 w.heap.size 40 [.bool na, .slice A kA cA] := by
    rw [hW0]
    have := Row.alloc (Row.alloc (Row.new w 40 [.bool na, .slice A kA cA]) (.cells #[.bool nb, .slice B kB cB] 40)) (.cells #[.bool false, .slice none 0 0] 40)
    simpa using this
  have r1 : Row W0 (w.heap.size + 1) 40 [.bool nb, .slice B kB cB] := by
    rw [hW0]
    have := Row.alloc (Row.new (w.alloc (.cells #[.bool na, .slice A kA cA] 40)) 40 [.bool nb, .slice B kB cB]) (.cells #[.bool false, .slice none 0 0] 40)
    simpa using this
  have r2 : Row W0 (w.heap.size + 2) 40 [.bool false, .slice none 0 0] := by
    rw [hW0]
    have := Row.new ((w.alloc (.cells #[.bool na, .slice A kA cA] 40)).alloc (.cells #[.bool nb, .slice B kB cB] 40)) 40 [.bool false, .slice none 0 0]
    simpa using this
  have B0 : Below w.heap.size w W0 := by rw [hW0]; exact ((((Below.refl _ _).alloc (Nat.le_refl _) _).alloc (by simp) _).alloc (by simp; omega) _)
  have a0 : W0.cell? ⟨w.heap.size, 0, none⟩ = some (.bool na) := r0.cell 0
  have a1 : W0.cell? ⟨w.heap.size, 1, none⟩ = some (.slice A kA cA) := r0.cell 1
  have b0 : W0.cell? ⟨w.heap.size + 1, 0, none⟩ = some (.bool nb) := r1.cell 0
  have b1 : W0.cell? ⟨w.heap.size + 1, 1, none⟩ = some (.slice B kB cB) := r1.cell 1
  have d0 : W0.cell? ⟨w.heap.size + 2, 0, none⟩ = some (.bool false) := r2.cell 0
  have d1 : W0.cell? ⟨w.heap.size + 2, 1, none⟩ = some (.slice none 0 0) := r2.cell 1
  have e0 : W0.frozen? ⟨w.heap.size + 2, 0, none⟩ = false := r2.frozen 0
  have e1 : W0.frozen? ⟨w.heap.size + 2, 1, none⟩ = false := r2.frozen 1
  have z0 := r0.lt
  have z1 := r1.lt
  have z2 := r2.lt
  have hz : w.heap.size + 3 ≤ W0.heap.size := z2
  have ha2 := ha.below B0
  have hb2 := hb.below B0
  have hM2 : M ≤ 70368744177650 := by omega
  have HPQ : Hid (p + -q = p - q) := by unfold Hid; omega
  go_enter Try.func38, Try.ntmps38
  go_wp2_with fail
  rw [← hW0]
  clear hW0
  go_wp2_with fail
  go_region_held3 (fun w' => w'.cell? ⟨w.heap.size, 0, none⟩ = some (.bool na) ∧ w'.cell? ⟨w.heap.size, 1, none⟩ = some (.slice A kA cA) ∧ w'.cell? ⟨w.heap.size + 1, 0, none⟩ = some (.bool nb) ∧ w'.cell? ⟨w.heap.size + 1, 1, none⟩ = some (.slice B kB cB))
      (first
        | (refine keep4c z0 z0 z1 z1 a0 a1 b0 b1 ?_; (repeat (first | with_reducible exact Below.refl _ _ | with_reducible refine bl_call h5 ?_ | with_reducible refine bl_call h6 ?_ | with_reducible refine bl_drew ?_)); done)
        | (refine keep4s (keep4c z0 z0 z1 z1 a0 a1 b0 b1 ?_); (repeat (first | with_reducible exact Below.refl _ _ | with_reducible refine bl_call h5 ?_ | with_reducible refine bl_call h6 ?_ | with_reducible refine bl_drew ?_)); done))
      (first
        | (go_at_call 61; ((with_reducible refine (ineg_any _ q M _ (hb2.below ?_) hM2).mono ?_); (repeat (first | with_reducible exact Below.refl _ _ | with_reducible refine bl_call h5 ?_ | with_reducible refine bl_call h6 ?_ | with_reducible refine bl_drew ?_)); rintro e w5 ⟨v5, rfl, hI5, h5⟩))
        | (go_at_call 50; ((with_reducible refine (iadd_any _ _ p (-q) L M _ (ha2.below ?_) hI5.intA hL hM).mono ?_); (repeat (first | with_reducible exact Below.refl _ _ | with_reducible refine bl_call h5 ?_ | with_reducible refine bl_call h6 ?_ | with_reducible refine bl_drew ?_)); rintro e w6 ⟨v6, rfl, ⟨mv6, rfl, hn6, hf6⟩, h6⟩; have hn6' := hn6; obtain ⟨l6, ⟨⟨A6, c6, rfl, _, _, _⟩, _⟩, _⟩ := hn6'; have B6 : Below W0.heap.size W0 w6 := bl_call h6 (bl_call h5 (bl_drew (Below.refl _ _))); have d60 := (B6.cell (p := ⟨w.heap.size + 2, 0, none⟩) z2).trans d0; have d61 := (B6.cell (p := ⟨w.heap.size + 2, 1, none⟩) z2).trans d1; have f60 := (B6.frozen (p := ⟨w.heap.size + 2, 0, none⟩) z2).trans e0; have f61 := (B6.frozen (p := ⟨w.heap.size + 2, 1, none⟩) z2).trans e1)))
  have hn7 : NatAt w6 (.slice A6 l6.length c6) (p - q).natAbs (L + M + 1) := by rw [← HPQ.out]; exact hn6
  have hf7 : Fresh (w.heap.size + 3) (.slice A6 l6.length c6) := hf6.mono (Nat.le_trans hz ((bl_call h5 (bl_drew (Below.refl _ _))).size))
  rw [HPQ.out]
  go_wp2_with fail
  refine bodyPost_ret (v := .agg #[.bool (decide (p - q < 0)), .slice A6 l6.length c6]) (by simp [results, Try.results38, go_sem, d60, d61]) rfl ⟨_, rfl, ⟨_, rfl, ?_, hf7.mono (by omega)⟩, ((B0.trans (B6.mono B0.size)).setCell (p := ⟨w.heap.size + 1 + 1, 0, none⟩) (by simp; omega) _).setCell (p := ⟨w.heap.size + 1 + 1, 1, none⟩) (by simp; omega) _⟩
  exact (hn7.set_ hf7 (by simp) _).set_ hf7 (by simp) _
set_option maxHeartbeats 4000000 in
theorem qneg_any (v : Value) (p : Int) (q L : Nat) (w : World) (h : RatA w v p q L) (hL : 2 ≤ L) (hM : L ≤ 70368744177600) :
    Calls Try.prog 91 #[v] w fun e w' => ∃ x, e = .returned x ∧ RatF w.heap.size w' x (redP (-p) q) (redQ (-p) q) L ∧ Below w.heap.size w w' := by
  have hq := h.pos
  obtain ⟨neg, A, n, cA, B, k, cB, rfl⟩ := h.show_
  obtain ⟨W0, hW0⟩ : ∃ W0 : World, W0 = (w.alloc (.cells #[.bool neg, .slice A n cA, .slice B k cB] 42)).alloc (.cells #[.bool false, .slice none 0 0, .slice none 0 0] 42) := ⟨_, rfl⟩
  have r0 : Row W0 w.heap.size 42 [.bool neg, .slice A n cA, .slice B k cB] := by
    rw [hW0]
    have := Row.alloc (Row.new w 42 [.bool neg, .slice A n cA, .slice B k cB]) (.cells #[.bool false, .slice none 0 0, .slice none 0 0] 42)
    simpa using this
  have r1 : Row W0 (w.heap.size + 1) 42 [.bool false, .slice none 0 0, .slice none 0 0] := by
    rw [hW0]
    have := Row.new (w.alloc (.cells #[.bool neg, .slice A n cA, .slice B k cB] 42)) 42 [.bool false, .slice none 0 0, .slice none 0 0]
    simpa using this
  have B0 : Below w.heap.size w W0 := by rw [hW0]; exact (((Below.refl _ _).alloc (Nat.le_refl _) _).alloc (by simp) _)
  have hz : w.heap.size + 2 ≤ W0.heap.size := r1.lt
  have a0 : W0.cell? ⟨w.heap.size, 0, none⟩ = some (.bool neg) := r0.cell 0
  have a1 : W0.cell? ⟨w.heap.size, 1, none⟩ = some (.slice A n cA) := r0.cell 1
  have a2 : W0.cell? ⟨w.heap.size, 2, none⟩ = some (.slice B k cB) := r0.cell 2
  go_enter Try.func91, Try.ntmps91
  go_wp2_with fail
  rw [← hW0]
  clear hW0
  go_wp2_with fail
  refine (parts_any _ p q L _ (h.below B0) hL).mono ?_
  rintro e w1 ⟨x, y, lq, rfl, hx, hy, hvq, hlq, hb1⟩
  have HVQ := Lib.hid hvq
  obtain ⟨nx, lX, kX, cX, rfl⟩ := hx.show_
  obtain ⟨Y, kY, cY, rfl⟩ := hy.show_
  obtain ⟨W1, hW1⟩ : ∃ W1 : World, W1 = w1.alloc (.cells #[.bool nx, .slice lX kX cX] 40) := ⟨_, rfl⟩
  have rx : Row W1 w1.heap.size 40 [.bool nx, .slice lX kX cX] := by rw [hW1]; exact Row.new w1 40 [.bool nx, .slice lX kX cX]
  have Bx : Below w1.heap.size w1 W1 := by rw [hW1]; exact (Below.refl _ _).alloc (Nat.le_refl _) _
  have x0 : W1.cell? ⟨w1.heap.size, 0, none⟩ = some (.bool nx) := rx.cell 0
  have x1 : W1.cell? ⟨w1.heap.size, 1, none⟩ = some (.slice lX kX cX) := rx.cell 1
  have hx1 := hx.below Bx
  have hy1 := hy.below Bx
  have B01 : Below W0.heap.size W0 W1 := hb1.trans (Bx.mono hb1.size)
  clear hvq
  go_wp2_with fail
  rw [← hW1]
  clear hW1
  go_wp2_with fail
  refine (ineg_any _ p L _ hx1 (by omega)).mono ?_
  rintro e w2 ⟨v2, rfl, hI2, hb2⟩
  have hI := hI2.intA
  go_wp2_with fail
  refine (reduce_any _ _ (-p) lq L _ hI (hy1.below hb2) hM hlq (by rw [HVQ.out]; exact hq)).mono ?_
  rw [HVQ.out]
  rintro e w6 ⟨x6, rfl, ⟨mv, dv, rfl, hm, hd, fm, fd⟩, h6⟩
  obtain ⟨A6, n6, c6, rfl⟩ := hm.lim1.choose_spec.1.show_
  obtain ⟨A7, n7, c7, rfl⟩ := hd.lim1.choose_spec.1.show_
  have B6' : Below W0.heap.size W0 w6 := (B01.trans (hb2.mono B01.size)).trans (h6.mono (Nat.le_trans B01.size hb2.size))
  have B6 := B0.trans (B6'.mono B0.size)
  have r6 := r1.keep B6'
  have d60 : w6.cell? ⟨w.heap.size + 1, 0, none⟩ = some (.bool false) := r6.cell 0
  have d61 : w6.cell? ⟨w.heap.size + 1, 1, none⟩ = some (.slice none 0 0) := r6.cell 1
  have d62 : w6.cell? ⟨w.heap.size + 1, 2, none⟩ = some (.slice none 0 0) := r6.cell 2
  have f60 := r6.frozen 0
  have f61 := r6.frozen 1
  have f62 := r6.frozen 2
  have hfm : Fresh (w.heap.size + 2) (.slice A6 n6 c6) := fm.mono (Nat.le_trans hz (Nat.le_trans B01.size hb2.size))
  have hfd : Fresh (w.heap.size + 2) (.slice A7 n7 c7) := fd.mono (Nat.le_trans hz (Nat.le_trans B01.size hb2.size))
  clear r6
  go_wp2_with fail
  refine bodyPost_ret (v := .agg #[.bool (decide (redP (-p) q < 0)), .slice A6 n6 c6, .slice A7 n7 c7]) (by simp [results, Try.results91, go_sem, d60, d61, d62]) rfl ⟨_, rfl, ⟨_, _, rfl, ?_, ?_, hfm.mono (by omega), hfd.mono (by omega)⟩, ((B6.setCell (by simp) _).setCell (by simp) _).setCell (by simp) _⟩
  · exact ((hm.set_ hfm (by simp) _).set_ hfm (by simp) _).set_ hfm (by simp) _
  · exact ((hd.set_ hfd (by simp) _).set_ hfd (by simp) _).set_ hfd (by simp) _
set_option maxHeartbeats 4000000 in
theorem qabs_any (v : Value) (p : Int) (q L : Nat) (w : World) (h : RatA w v p q L) (hL : 2 ≤ L) (hM : L ≤ 70368744177600) :
    Calls Try.prog 69 #[v] w fun e w' => ∃ x, e = .returned x ∧ RatF w.heap.size w' x (redP ((p.natAbs : Nat) : Int) q) (redQ ((p.natAbs : Nat) : Int) q) L ∧ Below w.heap.size w w' := by
  have hq := h.pos
  obtain ⟨neg, A, n, cA, B, k, cB, rfl⟩ := h.show_
  obtain ⟨W0, hW0⟩ : ∃ W0 : World, W0 = (w.alloc (.cells #[.bool neg, .slice A n cA, .slice B k cB] 42)).alloc (.cells #[.bool false, .slice none 0 0, .slice none 0 0] 42) := ⟨_, rfl⟩
  have r0 : Row W0 w.heap.size 42 [.bool neg, .slice A n cA, .slice B k cB] := by
    rw [hW0]
    have := Row.alloc (Row.new w 42 [.bool neg, .slice A n cA, .slice B k cB]) (.cells #[.bool false, .slice none 0 0, .slice none 0 0] 42)
    simpa using this
  have r1 : Row W0 (w.heap.size + 1) 42 [.bool false, .slice none 0 0, .slice none 0 0] := by
    rw [hW0]
    have := Row.new (w.alloc (.cells #[.bool neg, .slice A n cA, .slice B k cB] 42)) 42 [.bool false, .slice none 0 0, .slice none 0 0]
    simpa using this
  have B0 : Below w.heap.size w W0 := by rw [hW0]; exact (((Below.refl _ _).alloc (Nat.le_refl _) _).alloc (by simp) _)
  have hz : w.heap.size + 2 ≤ W0.heap.size := r1.lt
  have a0 : W0.cell? ⟨w.heap.size, 0, none⟩ = some (.bool neg) := r0.cell 0
  have a1 : W0.cell? ⟨w.heap.size, 1, none⟩ = some (.slice A n cA) := r0.cell 1
  have a2 : W0.cell? ⟨w.heap.size, 2, none⟩ = some (.slice B k cB) := r0.cell 2
  go_enter Try.func69, Try.ntmps69
  go_wp2_with fail
  rw [← hW0]
  clear hW0
  go_wp2_with fail
  refine (parts_any _ p q L _ (h.below B0) hL).mono ?_
  rintro e w1 ⟨x, y, lq, rfl, hx, hy, hvq, hlq, hb1⟩
  have HVQ := Lib.hid hvq
  obtain ⟨nx, lX, kX, cX, rfl⟩ := hx.show_
  obtain ⟨Y, kY, cY, rfl⟩ := hy.show_
  obtain ⟨W1, hW1⟩ : ∃ W1 : World, W1 = w1.alloc (.cells #[.bool nx, .slice lX kX cX] 40) := ⟨_, rfl⟩
  have rx : Row W1 w1.heap.size 40 [.bool nx, .slice lX kX cX] := by rw [hW1]; exact Row.new w1 40 [.bool nx, .slice lX kX cX]
  have Bx : Below w1.heap.size w1 W1 := by rw [hW1]; exact (Below.refl _ _).alloc (Nat.le_refl _) _
  have x0 : W1.cell? ⟨w1.heap.size, 0, none⟩ = some (.bool nx) := rx.cell 0
  have x1 : W1.cell? ⟨w1.heap.size, 1, none⟩ = some (.slice lX kX cX) := rx.cell 1
  have hx1 := hx.below Bx
  have hy1 := hy.below Bx
  have B01 : Below W0.heap.size W0 W1 := hb1.trans (Bx.mono hb1.size)
  clear hvq
  obtain ⟨lx, hmag, klx, hlx⟩ : ∃ lx, Lim W1 (.slice lX kX cX) lx ∧ lx.length ≤ L ∧ Hid ((val lx : Int) = (p.natAbs : Int)) := by
    obtain ⟨ng, mv, lx, e1, e2, e3, e4⟩ := hx1
    injection e1 with e1
    simp only [Array.mk.injEq, List.cons.injEq, and_true] at e1
    obtain ⟨_, rfl⟩ := e1
    exact ⟨lx, e2, e3, by unfold Hid; rw [e4, sg_abs]⟩
  go_wp2_with fail
  rw [← hW1]
  clear hW1
  go_wp2_with fail
  refine (whole_any _ lx _ hmag (by omega)).mono ?_
  rintro e w2 ⟨v2, rfl, hI2, hb2⟩
  have hI := hI2.intA.mono klx
  rw [hlx.out] at hI
  go_wp2_with fail
  refine (reduce_any _ _ ((p.natAbs : Nat) : Int) lq L _ hI (hy1.below hb2) hM hlq (by rw [HVQ.out]; exact hq)).mono ?_
  rw [HVQ.out]
  rintro e w6 ⟨x6, rfl, ⟨mv, dv, rfl, hm, hd, fm, fd⟩, h6⟩
  obtain ⟨A6, n6, c6, rfl⟩ := hm.lim1.choose_spec.1.show_
  obtain ⟨A7, n7, c7, rfl⟩ := hd.lim1.choose_spec.1.show_
  have B6' : Below W0.heap.size W0 w6 := (B01.trans (hb2.mono B01.size)).trans (h6.mono (Nat.le_trans B01.size hb2.size))
  have B6 := B0.trans (B6'.mono B0.size)
  have r6 := r1.keep B6'
  have d60 : w6.cell? ⟨w.heap.size + 1, 0, none⟩ = some (.bool false) := r6.cell 0
  have d61 : w6.cell? ⟨w.heap.size + 1, 1, none⟩ = some (.slice none 0 0) := r6.cell 1
  have d62 : w6.cell? ⟨w.heap.size + 1, 2, none⟩ = some (.slice none 0 0) := r6.cell 2
  have f60 := r6.frozen 0
  have f61 := r6.frozen 1
  have f62 := r6.frozen 2
  have hfm : Fresh (w.heap.size + 2) (.slice A6 n6 c6) := fm.mono (Nat.le_trans hz (Nat.le_trans B01.size hb2.size))
  have hfd : Fresh (w.heap.size + 2) (.slice A7 n7 c7) := fd.mono (Nat.le_trans hz (Nat.le_trans B01.size hb2.size))
  clear r6
  go_wp2_with fail
  refine bodyPost_ret (v := .agg #[.bool (decide (redP ((p.natAbs : Nat) : Int) q < 0)), .slice A6 n6 c6, .slice A7 n7 c7]) (by simp [results, Try.results69, go_sem, d60, d61, d62]) rfl ⟨_, rfl, ⟨_, _, rfl, ?_, ?_, hfm.mono (by omega), hfd.mono (by omega)⟩, ((B6.setCell (by simp) _).setCell (by simp) _).setCell (by simp) _⟩
  · exact ((hm.set_ hfm (by simp) _).set_ hfm (by simp) _).set_ hfm (by simp) _
  · exact ((hd.set_ hfd (by simp) _).set_ hfd (by simp) _).set_ hfd (by simp) _

theorem keep6c {W w' : World} {p1 p2 p3 p4 p5 p6 : Addr} {x1 x2 x3 x4 x5 x6 : Value} (l1 : p1.block < W.heap.size) (l2 : p2.block < W.heap.size) (l3 : p3.block < W.heap.size) (l4 : p4.block < W.heap.size) (l5 : p5.block < W.heap.size) (l6 : p6.block < W.heap.size) (h1 : W.cell? p1 = some x1) (h2 : W.cell? p2 = some x2) (h3 : W.cell? p3 = some x3) (h4 : W.cell? p4 = some x4) (h5 : W.cell? p5 = some x5) (h6 : W.cell? p6 = some x6) (hb : Below W.heap.size W w') :
    w'.cell? p1 = some x1 ∧ w'.cell? p2 = some x2 ∧ w'.cell? p3 = some x3 ∧ w'.cell? p4 = some x4 ∧ w'.cell? p5 = some x5 ∧ w'.cell? p6 = some x6 := ⟨(hb.cell l1).trans h1, (hb.cell l2).trans h2, (hb.cell l3).trans h3, (hb.cell l4).trans h4, (hb.cell l5).trans h5, (hb.cell l6).trans h6⟩
theorem keep6s {w : World} {g : Nat} {x y z x1 x2 x3 x4 x5 x6 : Value} (h : w.cell? ⟨g, 0, none⟩ = some x1 ∧ w.cell? ⟨g, 1, none⟩ = some x2 ∧ w.cell? ⟨g, 2, none⟩ = some x3 ∧ w.cell? ⟨g + 1, 0, none⟩ = some x4 ∧ w.cell? ⟨g + 1, 1, none⟩ = some x5 ∧ w.cell? ⟨g + 1, 2, none⟩ = some x6) :
    (((w.setCell ⟨g + 2, 0, none⟩ x).setCell ⟨g + 2, 1, none⟩ y).setCell ⟨g + 2, 2, none⟩ z).cell? ⟨g, 0, none⟩ = some x1 ∧ (((w.setCell ⟨g + 2, 0, none⟩ x).setCell ⟨g + 2, 1, none⟩ y).setCell ⟨g + 2, 2, none⟩ z).cell? ⟨g, 1, none⟩ = some x2 ∧ (((w.setCell ⟨g + 2, 0, none⟩ x).setCell ⟨g + 2, 1, none⟩ y).setCell ⟨g + 2, 2, none⟩ z).cell? ⟨g, 2, none⟩ = some x3 ∧ (((w.setCell ⟨g + 2, 0, none⟩ x).setCell ⟨g + 2, 1, none⟩ y).setCell ⟨g + 2, 2, none⟩ z).cell? ⟨g + 1, 0, none⟩ = some x4 ∧ (((w.setCell ⟨g + 2, 0, none⟩ x).setCell ⟨g + 2, 1, none⟩ y).setCell ⟨g + 2, 2, none⟩ z).cell? ⟨g + 1, 1, none⟩ = some x5 ∧ (((w.setCell ⟨g + 2, 0, none⟩ x).setCell ⟨g + 2, 1, none⟩ y).setCell ⟨g + 2, 2, none⟩ z).cell? ⟨g + 1, 2, none⟩ = some x6 := by
  obtain ⟨h1, h2, h3, h4, h5, h6⟩ := h
  have n1 : ∀ (w : World) (a b k : Nat) (z : Value), a < g + 2 → (w.setCell ⟨g + 2, b, none⟩ z).cell? ⟨a, k, none⟩ = w.cell? ⟨a, k, none⟩ := fun w a b k z ha => World.cell?_setCell_other _ _ _ _ (fun e => by injection e with e _ _; omega)
  refine ⟨?_, ?_, ?_, ?_, ?_, ?_⟩
  · rw [n1 _ _ _ _ _ (by omega), n1 _ _ _ _ _ (by omega), n1 _ _ _ _ _ (by omega)]; exact h1
  · rw [n1 _ _ _ _ _ (by omega), n1 _ _ _ _ _ (by omega), n1 _ _ _ _ _ (by omega)]; exact h2
  · rw [n1 _ _ _ _ _ (by omega), n1 _ _ _ _ _ (by omega), n1 _ _ _ _ _ (by omega)]; exact h3
  · rw [n1 _ _ _ _ _ (by omega), n1 _ _ _ _ _ (by omega), n1 _ _ _ _ _ (by omega)]; exact h4
  · rw [n1 _ _ _ _ _ (by omega), n1 _ _ _ _ _ (by omega), n1 _ _ _ _ _ (by omega)]; exact h5
  · rw [n1 _ _ _ _ _ (by omega), n1 _ _ _ _ _ (by omega), n1 _ _ _ _ _ (by omega)]; exact h6

theorem red_sub (p p' : Int) (q q' : Nat) (hq : 0 < q) (hq' : 0 < q') : redP (p * ((redQ (-p') q' : Nat) : Int) + redP (-p') q' * (q : Int)) (q * redQ (-p') q') = redP (p * (q' : Int) - p' * (q : Int)) (q * q') ∧ redQ (p * ((redQ (-p') q' : Nat) : Int) + redP (-p') q' * (q : Int)) (q * redQ (-p') q') = redQ (p * (q' : Int) - p' * (q : Int)) (q * q') := by
  obtain ⟨m1, m2⟩ := red_mul (-p') q'
  have hQ := redQ_pos (p := -p') hq'
  generalize Nat.gcd (-p').natAbs q' = g at *
  refine red_cross (Nat.mul_pos hq hQ) (Nat.mul_pos hq hq') ?_
  generalize redP (-p') q' = P at *
  generalize redQ (-p') q' = Q at *
  have e : (q' : Int) = (Q : Int) * (g : Int) := by rw [m2, Int.natCast_mul]
  have e2 : p' = -(P * (g : Int)) := by omega
  rw [Int.natCast_mul, Int.natCast_mul, e, e2]
  grind

set_option maxHeartbeats 8000000 in
theorem qsub_any (v u : Value) (p p' : Int) (q q' L : Nat) (w : World) (ha : RatA w v p q L) (hb : RatA w u p' q' L) (hL : 2 ≤ L) (hM : L ≤ 17592186044000) :
    Calls Try.prog 70 #[v, u] w fun e w' => ∃ x, e = .returned x ∧ RatF w.heap.size w' x (redP (p * (q' : Int) - p' * (q : Int)) (q * q')) (redQ (p * (q' : Int) - p' * (q : Int)) (q * q')) (L + L + (L + L) + 1) ∧ Below w.heap.size w w' := by
  have hp1 := ha.pos
  have hp2 := hb.pos
  obtain ⟨na, A, kA, cA, A2, kA2, cA2, rfl⟩ := ha.show_
  obtain ⟨nb, B, kB, cB, B2, kB2, cB2, rfl⟩ := hb.show_
  obtain ⟨W0, hW0⟩ : ∃ W0 : World, W0 = ((w.alloc (.cells #[.bool na, .slice A kA cA, .slice A2 kA2 cA2] 42)).alloc (.cells #[.bool nb, .slice B kB cB, .slice B2 kB2 cB2] 42)).alloc (.cells #[.bool false, .slice none 0 0, .slice none 0 0] 42) := ⟨_, rfl⟩
  have r0 : Row W0 w.heap.size 42 [.bool na, .slice A kA cA, .slice A2 kA2 cA2] := by
    rw [hW0]
    have := Row.alloc (Row.alloc (Row.new w 42 [.bool na, .slice A kA cA, .slice A2 kA2 cA2]) (.cells #[.bool nb, .slice B kB cB, .slice B2 kB2 cB2] 42)) (.cells #[.bool false, .slice none 0 0, .slice none 0 0] 42)
    simpa using this
  have r1 : Row W0 (w.heap.size + 1) 42 [.bool nb, .slice B kB cB, .slice B2 kB2 cB2] := by
    rw [hW0]
    have := Row.alloc (Row.new (w.alloc (.cells #[.bool na, .slice A kA cA, .slice A2 kA2 cA2] 42)) 42 [.bool nb, .slice B kB cB, .slice B2 kB2 cB2]) (.cells #[.bool false, .slice none 0 0, .slice none 0 0] 42)
    simpa using this
  have r2 : Row W0 (w.heap.size + 2) 42 [.bool false, .slice none 0 0, .slice none 0 0] := by
    rw [hW0]
    have := Row.new ((w.alloc (.cells #[.bool na, .slice A kA cA, .slice A2 kA2 cA2] 42)).alloc (.cells #[.bool nb, .slice B kB cB, .slice B2 kB2 cB2] 42)) 42 [.bool false, .slice none 0 0, .slice none 0 0]
    simpa using this
  have B0 : Below w.heap.size w W0 := by rw [hW0]; exact ((((Below.refl _ _).alloc (Nat.le_refl _) _).alloc (by simp) _).alloc (by simp; omega) _)
  have a0 : W0.cell? ⟨w.heap.size, 0, none⟩ = some (.bool na) := r0.cell 0
  have a1 : W0.cell? ⟨w.heap.size, 1, none⟩ = some (.slice A kA cA) := r0.cell 1
  have a2 : W0.cell? ⟨w.heap.size, 2, none⟩ = some (.slice A2 kA2 cA2) := r0.cell 2
  have b0 : W0.cell? ⟨w.heap.size + 1, 0, none⟩ = some (.bool nb) := r1.cell 0
  have b1 : W0.cell? ⟨w.heap.size + 1, 1, none⟩ = some (.slice B kB cB) := r1.cell 1
  have b2 : W0.cell? ⟨w.heap.size + 1, 2, none⟩ = some (.slice B2 kB2 cB2) := r1.cell 2
  have d0 : W0.cell? ⟨w.heap.size + 2, 0, none⟩ = some (.bool false) := r2.cell 0
  have d1 : W0.cell? ⟨w.heap.size + 2, 1, none⟩ = some (.slice none 0 0) := r2.cell 1
  have d2 : W0.cell? ⟨w.heap.size + 2, 2, none⟩ = some (.slice none 0 0) := r2.cell 2
  have e0 : W0.frozen? ⟨w.heap.size + 2, 0, none⟩ = false := r2.frozen 0
  have e1 : W0.frozen? ⟨w.heap.size + 2, 1, none⟩ = false := r2.frozen 1
  have e2 : W0.frozen? ⟨w.heap.size + 2, 2, none⟩ = false := r2.frozen 2
  have z0 := r0.lt
  have z1 := r1.lt
  have z2 := r2.lt
  have hz : w.heap.size + 3 ≤ W0.heap.size := z2
  have ha2 := ha.below B0
  have hb2 := hb.below B0
  have hM2 : L ≤ 70368744177600 := by omega
  have hQ0 := redQ_pos (p := -p') hp2
  have HPQ := Lib.hid (red_sub p p' q q' hp1 hp2)
  go_enter Try.func70, Try.ntmps70
  go_wp2_with fail
  rw [← hW0]
  clear hW0
  go_wp2_with fail
  go_region_held3 (fun w' => w'.cell? ⟨w.heap.size, 0, none⟩ = some (.bool na) ∧ w'.cell? ⟨w.heap.size, 1, none⟩ = some (.slice A kA cA) ∧ w'.cell? ⟨w.heap.size, 2, none⟩ = some (.slice A2 kA2 cA2) ∧ w'.cell? ⟨w.heap.size + 1, 0, none⟩ = some (.bool nb) ∧ w'.cell? ⟨w.heap.size + 1, 1, none⟩ = some (.slice B kB cB) ∧ w'.cell? ⟨w.heap.size + 1, 2, none⟩ = some (.slice B2 kB2 cB2))
      (first
        | (refine keep6c z0 z0 z0 z1 z1 z1 a0 a1 a2 b0 b1 b2 ?_; (repeat (first | with_reducible exact Below.refl _ _ | with_reducible refine bl_call h5 ?_ | with_reducible refine bl_call h6 ?_ | with_reducible refine bl_drew ?_)); done)
        | (refine keep6s (keep6c z0 z0 z0 z1 z1 z1 a0 a1 a2 b0 b1 b2 ?_); (repeat (first | with_reducible exact Below.refl _ _ | with_reducible refine bl_call h5 ?_ | with_reducible refine bl_call h6 ?_ | with_reducible refine bl_drew ?_)); done))
      (first
        | (go_at_call 91; ((with_reducible refine (qneg_any _ p' q' L _ (hb2.below ?_) hL hM2).mono ?_); (repeat (first | with_reducible exact Below.refl _ _ | with_reducible refine bl_call h5 ?_ | with_reducible refine bl_call h6 ?_ | with_reducible refine bl_drew ?_)); rintro e w5 ⟨v5, rfl, hI5, h5⟩))
        | (go_at_call 90; ((with_reducible refine (qadd_any _ _ p (redP (-p') q') q (redQ (-p') q') L _ (ha2.below ?_) (hI5.ratA hQ0) hL hM).mono ?_); (repeat (first | with_reducible exact Below.refl _ _ | with_reducible refine bl_call h5 ?_ | with_reducible refine bl_call h6 ?_ | with_reducible refine bl_drew ?_)); rintro e w6 ⟨v6, rfl, ⟨mv6, dv6, rfl, hm6, hd6, fm6, fd6⟩, h6⟩; have hm6' := hm6; have hd6' := hd6; obtain ⟨l6, ⟨⟨A6, c6, rfl, _, _, _⟩, _⟩, _⟩ := hm6'; obtain ⟨l7, ⟨⟨A7, c7, rfl, _, _, _⟩, _⟩, _⟩ := hd6'; have B6 : Below W0.heap.size W0 w6 := bl_call h6 (bl_call h5 (bl_drew (Below.refl _ _))); have d60 := (B6.cell (p := ⟨w.heap.size + 2, 0, none⟩) z2).trans d0; have d61 := (B6.cell (p := ⟨w.heap.size + 2, 1, none⟩) z2).trans d1; have d62 := (B6.cell (p := ⟨w.heap.size + 2, 2, none⟩) z2).trans d2; have f60 := (B6.frozen (p := ⟨w.heap.size + 2, 0, none⟩) z2).trans e0; have f61 := (B6.frozen (p := ⟨w.heap.size + 2, 1, none⟩) z2).trans e1; have f62 := (B6.frozen (p := ⟨w.heap.size + 2, 2, none⟩) z2).trans e2)))
  rw [HPQ.out.1] at hm6
  rw [HPQ.out.2] at hd6
  rw [HPQ.out.1]
  have hfm : Fresh (w.heap.size + 3) (.slice A6 l6.length c6) := fm6.mono (Nat.le_trans hz ((bl_call h5 (bl_drew (Below.refl _ _))).size))
  have hfd : Fresh (w.heap.size + 3) (.slice A7 l7.length c7) := fd6.mono (Nat.le_trans hz ((bl_call h5 (bl_drew (Below.refl _ _))).size))
  go_wp2_with fail
  refine bodyPost_ret (v := .agg #[.bool (decide (redP (p * (q' : Int) - p' * (q : Int)) (q * q') < 0)), .slice A6 l6.length c6, .slice A7 l7.length c7]) (by simp [results, Try.results70, go_sem, d60, d61, d62]) rfl ⟨_, rfl, ⟨_, _, rfl, ?_, ?_, hfm.mono (by omega), hfd.mono (by omega)⟩, (((B0.trans (B6.mono B0.size)).setCell (p := ⟨w.heap.size + 1 + 1, 0, none⟩) (by simp; omega) _).setCell (p := ⟨w.heap.size + 1 + 1, 1, none⟩) (by simp; omega) _).setCell (p := ⟨w.heap.size + 1 + 1, 2, none⟩) (by simp; omega) _⟩
  · exact ((hm6.set_ hfm (by simp) _).set_ hfm (by simp) _).set_ hfm (by simp) _
  · exact ((hd6.set_ hfd (by simp) _).set_ hfd (by simp) _).set_ hfd (by simp) _
end Go.Proofs.Ytdmjgildgjpmcaa
