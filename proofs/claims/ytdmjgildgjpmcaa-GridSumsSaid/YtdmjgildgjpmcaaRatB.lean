/- The walks of ratio's zero, whole, parts, Norm, Make, Of. -/
import Derived.Test.YtdmjgildgjpmcaaRatA
import Derived.RegionTactic
import Derived.BigRegion
namespace Go.Proofs.Ytdmjgildgjpmcaa
open Go.RowKit
set_option linter.unusedVariables false

set_option maxHeartbeats 2000000 in
theorem whole_any (v : Value) (ls : List Nat) (w : World) (h : Lim w v ls) (hl : ls.length ≤ 70368744177650) :
    Calls Try.prog 73 #[v] w fun e w' => ∃ u, e = .returned u ∧ IntF w.heap.size w' u (val ls : Int) ls.length ∧ Below w.heap.size w w' := by
  have hgb := Row.new w 40 [.bool false, .slice none 0 0]
  have B0 : Below w.heap.size w (w.alloc (.cells #[.bool false, .slice none 0 0] 40)) := (Below.refl _ _).alloc (Nat.le_refl _) _
  have z0 := hgb.lt
  have hz : (w.alloc (.cells #[.bool false, .slice none 0 0] 40)).heap.size = w.heap.size + 1 := by simp
  have HZ := Lib.hid hz
  have h' := h
  obtain ⟨⟨B, cB, rfl, _, _, _⟩, _⟩ := h'
  clear hz
  go_enter Try.func73, Try.ntmps73
  go_wp2_with fail
  refine (imake_any false _ ls _ (h.below B0) hl).mono ?_
  rintro e w6 ⟨v6, rfl, ⟨mv6, rfl, hn6, hf6⟩, h6⟩
  have hn6' := hn6
  obtain ⟨l6, ⟨⟨A6, c6, rfl, _, _, _⟩, _⟩, _⟩ := hn6'
  have B6 := B0.trans (h6.mono B0.size)
  replace hgb := hgb.keep h6
  have hPQ : sg false (val ls) = (val ls : Int) := rfl
  have d60 : w6.cell? ⟨w.heap.size, 0, none⟩ = some (.bool false) := hgb.cell 0
  have d61 : w6.cell? ⟨w.heap.size, 1, none⟩ = some (.slice none 0 0) := hgb.cell 1
  have f60 := hgb.frozen 0
  have f61 := hgb.frozen 1
  have hn7 : NatAt w6 (.slice A6 l6.length c6) ((val ls : Nat) : Int).natAbs ls.length := hn6
  have hf7 : Fresh (w.heap.size + 1) (.slice A6 l6.length c6) := by have := hf6; rw [HZ.out] at this; exact this
  rw [hPQ]
  go_wp2_with fail
  refine bodyPost_ret (v := .agg #[.bool (decide ((val ls : Int) < 0)), .slice A6 l6.length c6]) (by simp [results, Try.results73, go_sem, d60, d61]) rfl ⟨_, rfl, ⟨_, rfl, ?_, hf7.mono (by omega)⟩, (B6.setCell (Nat.le_refl _) _).setCell (Nat.le_refl _) _⟩
  exact (hn7.set_ hf7 (by simp) _).set_ hf7 (by simp) _

set_option maxHeartbeats 2000000 in
theorem rzero_any (w : World) :
    Calls Try.prog 52 #[] w fun e w' => ∃ x, e = .returned x ∧ RatF w.heap.size w' x 0 1 2 ∧ Below w.heap.size w w' := by
  have hgb := Row.new w 42 [.bool false, .slice none 0 0, .slice none 0 0]
  have B0 : Below w.heap.size w (w.alloc (.cells #[.bool false, .slice none 0 0, .slice none 0 0] 42)) := (Below.refl _ _).alloc (Nat.le_refl _) _
  have hz : (w.alloc (.cells #[.bool false, .slice none 0 0, .slice none 0 0] 42)).heap.size = w.heap.size + 1 := by simp
  have HZ := Lib.hid hz
  clear hz
  go_enter Try.func52, Try.ntmps52
  go_wp2_with fail
  refine (of_any 1 _ (by omega)).mono ?_
  rintro e w6 ⟨v6, rfl, l6, hl6, nt6, hv6, hk6, hf6, h6⟩
  have hn6 : NatAt w6 v6 1 2 := ⟨l6, hl6, nt6, hv6, hk6⟩
  have hl6' := hl6
  obtain ⟨⟨A6, c6, rfl, _, _, _⟩, _⟩ := hl6'
  have B6 := B0.trans (h6.mono B0.size)
  replace hgb := hgb.keep h6
  have d60 : w6.cell? ⟨w.heap.size, 0, none⟩ = some (.bool false) := hgb.cell 0
  have d61 : w6.cell? ⟨w.heap.size, 1, none⟩ = some (.slice none 0 0) := hgb.cell 1
  have d62 : w6.cell? ⟨w.heap.size, 2, none⟩ = some (.slice none 0 0) := hgb.cell 2
  have f60 := hgb.frozen 0
  have f61 := hgb.frozen 1
  have f62 := hgb.frozen 2
  have hf7 : Fresh (w.heap.size + 1) (.slice A6 l6.length c6) := by have := hf6; rw [HZ.out] at this; exact this
  go_wp2_with fail
  refine bodyPost_ret (v := .agg #[.bool false, .slice none 0 0, .slice A6 l6.length c6]) (by simp [results, Try.results52, go_sem, d60, d61, d62]) rfl ⟨_, rfl, ⟨_, _, rfl, natAt_nilD _ _, ?_, trivial, hf7.mono (by omega)⟩, ((B6.setCell (Nat.le_refl _) _).setCell (Nat.le_refl _) _).setCell (Nat.le_refl _) _⟩
  exact ((hn6.set_ hf7 (by simp) _).set_ hf7 (by simp) _).set_ hf7 (by simp) _

set_option maxHeartbeats 4000000 in
theorem parts_any (v : Value) (p : Int) (q L : Nat) (w : World) (h : RatA w v p q L) (hL : 2 ≤ L) :
    Calls Try.prog 71 #[v] w fun e w' => ∃ x y lq, e = .returned (.tuple #[x, y]) ∧ IntA w' x p L ∧ Lim w' y lq ∧ val lq = q ∧ lq.length ≤ L ∧ Below w.heap.size w w' := by
  obtain ⟨neg, mv, ls, dv, ld, rfl, hls, hld, k1, k2, hp, hq⟩ := h
  have hls' := hls
  have hld' := hld
  obtain ⟨⟨A, cA, rfl, _, _, _⟩, _⟩ := hls'
  obtain ⟨⟨B, cB, rfl, _, _, _⟩, _⟩ := hld'
  obtain ⟨W0, hW0⟩ : ∃ W0 : World, W0 = (w.alloc (.cells #[.bool neg, .slice A ls.length cA, .slice B ld.length cB] 42)).alloc (.cells #[.bool false, .slice none 0 0] 40) := ⟨_, rfl⟩
  have r0 : Row W0 w.heap.size 42 [.bool neg, .slice A ls.length cA, .slice B ld.length cB] := by rw [hW0]; exact (Row.new w 42 [.bool neg, .slice A ls.length cA, .slice B ld.length cB]).alloc _
  have r1 : Row W0 (w.heap.size + 1) 40 [.bool false, .slice none 0 0] := by
    rw [hW0]
    have := Row.new (w.alloc (.cells #[.bool neg, .slice A ls.length cA, .slice B ld.length cB] 42)) 40 [.bool false, .slice none 0 0]
    simpa using this
  have B0 : Below w.heap.size w W0 := by rw [hW0]; exact ((Below.refl _ _).alloc (Nat.le_refl _) _).alloc (by simp) _
  have hz : w.heap.size + 2 ≤ W0.heap.size := r1.lt
  have HC := Lib.hid (cmp_any _ _ ld [] _ (hld.below B0) (Lim.nil _))
  have a0 : W0.cell? ⟨w.heap.size, 0, none⟩ = some (.bool neg) := r0.cell 0
  have a1 : W0.cell? ⟨w.heap.size, 1, none⟩ = some (.slice A ls.length cA) := r0.cell 1
  have a2 : W0.cell? ⟨w.heap.size, 2, none⟩ = some (.slice B ld.length cB) := r0.cell 2
  go_enter Try.func71, Try.ntmps71
  go_wp2_with fail
  rw [← hW0]
  clear hW0
  go_wp2_with fail
  refine HC.out.mono ?_
  rintro e w' ⟨rfl, d, rfl⟩
  rw [show val ([] : List Nat) = 0 from rfl]
  clear HC
  by_cases h0 : val ld = 0
  · rw [if_pos h0] at hp hq
    have f1 : (cmpN (val ld) 0 == 0) = true := by rw [h0]; rfl
    subst hp hq
    clear h0
    generalize cmpN (val ld) 0 = cm at *
    obtain ⟨W1, hW1⟩ : ∃ W1 : World, W1 = W0.drewN d := ⟨_, rfl⟩
    have B1 : Below w.heap.size w W1 := by rw [hW1]; exact below_drewN B0 d
    have r1' : Row W1 (w.heap.size + 1) 40 [.bool false, .slice none 0 0] := by rw [hW1]; exact r1
    have hz1 : w.heap.size + 2 ≤ W1.heap.size := by rw [hW1]; exact hz
    rw [← hW1]
    clear hW1
    go_wp2_with fail
    refine (of_any 1 _ (by omega)).mono ?_
    rintro e w6 ⟨v6, rfl, l6, hl6, nt6, hv6, hk6, hf6, h6⟩
    have hl6' := hl6
    obtain ⟨⟨A6, c6, rfl, _, _, _⟩, _⟩ := hl6'
    have B6 := B1.trans (h6.mono B1.size)
    have hgb := r1'.keep h6
    have d60 : w6.cell? ⟨w.heap.size + 1, 0, none⟩ = some (.bool false) := hgb.cell 0
    have d61 : w6.cell? ⟨w.heap.size + 1, 1, none⟩ = some (.slice none 0 0) := hgb.cell 1
    have f60 := hgb.frozen 0
    have f61 := hgb.frozen 1
    have hf7 : Fresh (w.heap.size + 2) (.slice A6 l6.length c6) := hf6.mono hz1
    go_wp2_with fail
    refine bodyPost_ret (v := .tuple #[.agg #[.bool false, .slice none 0 0], .slice A6 l6.length c6]) (by simp [results, Try.results71, go_sem, d60, d61]) rfl ⟨_, _, l6, rfl, ⟨false, _, [], rfl, Lim.nil _, by simp, rfl⟩, ?_, hv6, by omega, (B6.setCell (by simp) _).setCell (by simp) _⟩
    exact (hl6.set_ hf7 (by simp) _).set_ hf7 (by simp) _
  · rw [if_neg h0] at hp hq
    have f1 : (cmpN (val ld) 0 == 0) = false := by rw [cmpN_gt (by omega)]; rfl
    clear h0
    generalize cmpN (val ld) 0 = cm at *
    obtain ⟨W1, hW1⟩ : ∃ W1 : World, W1 = W0.drewN d := ⟨_, rfl⟩
    have B1 : Below w.heap.size w W1 := by rw [hW1]; exact below_drewN B0 d
    have r1' : Row W1 (w.heap.size + 1) 40 [.bool false, .slice none 0 0] := by rw [hW1]; exact r1
    have a01 : W1.cell? ⟨w.heap.size, 0, none⟩ = some (.bool neg) := by rw [hW1]; exact a0
    have a11 : W1.cell? ⟨w.heap.size, 1, none⟩ = some (.slice A ls.length cA) := by rw [hW1]; exact a1
    have a21 : W1.cell? ⟨w.heap.size, 2, none⟩ = some (.slice B ld.length cB) := by rw [hW1]; exact a2
    rw [← hW1]
    clear hW1 a0 a1 a2 r0 r1
    have d60 : W1.cell? ⟨w.heap.size + 1, 0, none⟩ = some (.bool false) := r1'.cell 0
    have d61 : W1.cell? ⟨w.heap.size + 1, 1, none⟩ = some (.slice none 0 0) := r1'.cell 1
    have f60 := r1'.frozen 0
    have f61 := r1'.frozen 1
    go_wp2_with fail
    go_region
    obtain ⟨W2, hW2⟩ : ∃ W2 : World, W2 = ((W1.setCell ⟨w.heap.size + 1, 0, none⟩ (.bool neg)).setCell ⟨w.heap.size + 1, 1, none⟩ (.slice A ls.length cA)).drew := ⟨_, rfl⟩
    have B2 : Below w.heap.size w W2 := by rw [hW2]; exact ((B1.setCell (p := ⟨w.heap.size + 1, 0, none⟩) (by simp) _).setCell (p := ⟨w.heap.size + 1, 1, none⟩) (by simp) _).drew
    have r2 : Row W2 (w.heap.size + 1) 40 [.bool neg, .slice A ls.length cA] := by rw [hW2]; exact (r1'.set_ 0 (.bool neg)).set_ 1 (.slice A ls.length cA)
    have e0 : W2.cell? ⟨w.heap.size + 1, 0, none⟩ = some (.bool neg) := r2.cell 0
    have e1 : W2.cell? ⟨w.heap.size + 1, 1, none⟩ = some (.slice A ls.length cA) := r2.cell 1
    rw [← hW2]
    clear hW2 d60 d61 f60 f61 a01 a11 a21
    go_wp2_with fail
    exact bodyPost_ret (v := .tuple #[.agg #[.bool neg, .slice A ls.length cA], .slice B ld.length cB]) (by simp [results, Try.results71, go_sem, e0, e1]) rfl ⟨_, _, ld, rfl, ⟨neg, _, ls, rfl, hls.below B2, k1, hp⟩, hld.below B2, hq.symm, k2, B2⟩
end Go.Proofs.Ytdmjgildgjpmcaa
