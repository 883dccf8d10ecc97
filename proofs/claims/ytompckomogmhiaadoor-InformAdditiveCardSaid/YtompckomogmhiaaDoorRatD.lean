/- The walks of ratio's Norm and Sign. -/
import Derived.Test.YtompckomogmhiaaDoorRatC
namespace Go.Proofs.YtompckomogmhiaaDoor
open Go.RowKit
set_option linter.unusedVariables false

/-- The struct of a fraction, its slices shown. -/
theorem RatA.show_ {w : World} {v : Value} {p : Int} {q L : Nat} (h : RatA w v p q L) : ∃ neg A n cA B k cB, v = .agg #[.bool neg, .slice A n cA, .slice B k cB] := by
  obtain ⟨neg, mv, ls, dv, ld, rfl, ⟨⟨A, cA, rfl, _⟩, _⟩, ⟨⟨B, cB, rfl, _⟩, _⟩, _⟩ := h
  exact ⟨_, _, _, _, _, _, _, rfl⟩
theorem IntA.show_ {w : World} {v : Value} {p : Int} {L : Nat} (h : IntA w v p L) : ∃ neg A n cA, v = .agg #[.bool neg, .slice A n cA] := by
  obtain ⟨neg, mv, ls, rfl, ⟨⟨A, cA, rfl, _⟩, _⟩, _⟩ := h
  exact ⟨_, _, _, _, rfl⟩
theorem Lim.show_ {w : World} {v : Value} {ls : List Nat} (h : Lim w v ls) : ∃ A n c, v = .slice A n c := by
  obtain ⟨⟨A, cA, rfl, _⟩, _⟩ := h
  exact ⟨_, _, _, rfl⟩

set_option maxHeartbeats 4000000 in
theorem qnorm_any (v : Value) (p : Int) (q L : Nat) (w : World) (h : RatA w v p q L) (hL : 2 ≤ L) (hM : L ≤ 70368744177600) :
    Calls Tryd.prog 44 #[v] w fun e w' => ∃ x, e = .returned x ∧ RatF w.heap.size w' x (redP p q) (redQ p q) L ∧ Below w.heap.size w w' := by
  have hq := h.pos
  obtain ⟨neg, A, n, cA, B, k, cB, rfl⟩ := h.show_
  obtain ⟨W0, hW0⟩ : ∃ W0 : World, W0 = (w.alloc (.cells #[.bool neg, .slice A n cA, .slice B k cB] 31)).alloc (.cells #[.bool false, .slice none 0 0, .slice none 0 0] 31) := ⟨_, rfl⟩
  have r0 : Row W0 w.heap.size 31 [.bool neg, .slice A n cA, .slice B k cB] := by rw [hW0]; exact (Row.new w 31 [.bool neg, .slice A n cA, .slice B k cB]).alloc _
  have r1 : Row W0 (w.heap.size + 1) 31 [.bool false, .slice none 0 0, .slice none 0 0] := by
    rw [hW0]
    have := Row.new (w.alloc (.cells #[.bool neg, .slice A n cA, .slice B k cB] 31)) 31 [.bool false, .slice none 0 0, .slice none 0 0]
    simpa using this
  have B0 : Below w.heap.size w W0 := by rw [hW0]; exact ((Below.refl _ _).alloc (Nat.le_refl _) _).alloc (by simp) _
  have hz : w.heap.size + 2 ≤ W0.heap.size := r1.lt
  have a0 : W0.cell? ⟨w.heap.size, 0, none⟩ = some (.bool neg) := r0.cell 0
  have a1 : W0.cell? ⟨w.heap.size, 1, none⟩ = some (.slice A n cA) := r0.cell 1
  have a2 : W0.cell? ⟨w.heap.size, 2, none⟩ = some (.slice B k cB) := r0.cell 2
  go_enter Tryd.func44, Tryd.ntmps44
  go_wp2_with fail
  rw [← hW0]
  clear hW0
  go_wp2_with fail
  refine (parts_any _ p q L _ (h.below B0) hL).mono ?_
  rintro e w1 ⟨x, y, lq, rfl, hx, hy, hvq, hlq, hb1⟩
  go_wp2_with fail
  refine (reduce_any _ _ p lq L _ hx hy hM hlq (by rw [hvq]; exact hq)).mono ?_
  rw [hvq]
  rintro e w6 ⟨x6, rfl, ⟨mv, dv, rfl, hm, hd, fm, fd⟩, h6⟩
  obtain ⟨A6, n6, c6, rfl⟩ := hm.lim1.choose_spec.1.show_
  obtain ⟨A7, n7, c7, rfl⟩ := hd.lim1.choose_spec.1.show_
  have B6' : Below W0.heap.size W0 w6 := hb1.trans (h6.mono hb1.size)
  have B6 := B0.trans (B6'.mono B0.size)
  have r6 := r1.keep B6'
  have d60 : w6.cell? ⟨w.heap.size + 1, 0, none⟩ = some (.bool false) := r6.cell 0
  have d61 : w6.cell? ⟨w.heap.size + 1, 1, none⟩ = some (.slice none 0 0) := r6.cell 1
  have d62 : w6.cell? ⟨w.heap.size + 1, 2, none⟩ = some (.slice none 0 0) := r6.cell 2
  have f60 := r6.frozen 0
  have f61 := r6.frozen 1
  have f62 := r6.frozen 2
  have hfm : Fresh (w.heap.size + 2) (.slice A6 n6 c6) := fm.mono (Nat.le_trans hz hb1.size)
  have hfd : Fresh (w.heap.size + 2) (.slice A7 n7 c7) := fd.mono (Nat.le_trans hz hb1.size)
  clear r6
  go_wp2_with fail
  refine bodyPost_ret (v := .agg #[.bool (decide (redP p q < 0)), .slice A6 n6 c6, .slice A7 n7 c7]) (by simp [results, Tryd.results44, go_sem, d60, d61, d62]) rfl ⟨_, rfl, ⟨_, _, rfl, ?_, ?_, hfm.mono (by omega), hfd.mono (by omega)⟩, ((B6.setCell (by simp) _).setCell (by simp) _).setCell (by simp) _⟩
  · exact ((hm.set_ hfm (by simp) _).set_ hfm (by simp) _).set_ hfm (by simp) _
  · exact ((hd.set_ hfd (by simp) _).set_ hfd (by simp) _).set_ hfd (by simp) _

set_option maxHeartbeats 4000000 in
theorem qsign_any (v : Value) (p : Int) (q L : Nat) (w : World) (h : RatA w v p q L) (hL : 2 ≤ L) :
    Calls Tryd.prog 17 #[v] w fun e w' => e = .returned (.int .i64 (sgnZ p)) ∧ Below w.heap.size w w' := by
  obtain ⟨neg, A, n, cA, B, k, cB, rfl⟩ := h.show_
  obtain ⟨W0, hW0⟩ : ∃ W0 : World, W0 = w.alloc (.cells #[.bool neg, .slice A n cA, .slice B k cB] 31) := ⟨_, rfl⟩
  have r0 : Row W0 w.heap.size 31 [.bool neg, .slice A n cA, .slice B k cB] := by rw [hW0]; exact Row.new w 31 [.bool neg, .slice A n cA, .slice B k cB]
  have B0 : Below w.heap.size w W0 := by rw [hW0]; exact (Below.refl _ _).alloc (Nat.le_refl _) _
  have a0 : W0.cell? ⟨w.heap.size, 0, none⟩ = some (.bool neg) := r0.cell 0
  have a1 : W0.cell? ⟨w.heap.size, 1, none⟩ = some (.slice A n cA) := r0.cell 1
  have a2 : W0.cell? ⟨w.heap.size, 2, none⟩ = some (.slice B k cB) := r0.cell 2
  go_enter Tryd.func17, Tryd.ntmps17
  go_wp2_with fail
  rw [← hW0]
  clear hW0
  go_wp2_with fail
  refine (parts_any _ p q L _ (h.below B0) hL).mono ?_
  rintro e w1 ⟨x, y, lq, rfl, hx, hy, hvq, hlq, hb1⟩
  obtain ⟨nx, X, kx, cx, rfl⟩ := hx.show_
  have B1 := B0.trans (hb1.mono B0.size)
  obtain ⟨W1, hW1⟩ : ∃ W1 : World, W1 = w1.alloc (.cells #[.bool nx, .slice X kx cx] 29) := ⟨_, rfl⟩
  have r1 : Row W1 w1.heap.size 29 [.bool nx, .slice X kx cx] := by rw [hW1]; exact Row.new w1 29 [.bool nx, .slice X kx cx]
  have B1' : Below w1.heap.size w1 W1 := by rw [hW1]; exact (Below.refl _ _).alloc (Nat.le_refl _) _
  have b0 : W1.cell? ⟨w1.heap.size, 0, none⟩ = some (.bool nx) := r1.cell 0
  have b1 : W1.cell? ⟨w1.heap.size, 1, none⟩ = some (.slice X kx cx) := r1.cell 1
  go_wp2_with fail
  rw [← hW1]
  clear hW1
  go_wp2_with fail
  refine (isign_any _ p L _ (hx.below B1')).mono ?_
  rintro e w2 ⟨rfl, hb2⟩
  go_wp2_with fail
  go_ret
  exact ⟨rfl, B1.trans ((B1'.trans (hb2.mono B1'.size)).mono B1.size)⟩
end Go.Proofs.YtompckomogmhiaaDoor
