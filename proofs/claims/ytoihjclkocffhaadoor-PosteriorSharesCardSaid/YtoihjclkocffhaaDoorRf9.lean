/- The walks of the reference's fractions: Sign, Abs, Make (a denominator above 0), Of (package examboardref03). -/
import Derived.Test.YtoihjclkocffhaaDoorRf8
namespace Go.Proofs.YtoihjclkocffhaaDoor
open Go.RowKit
set_option linter.unusedVariables false
set_option maxRecDepth 100000

set_option maxHeartbeats 16000000 in
theorem r3make_pos (v u : Value) (p q : Int) (L M : Nat) (w : World) (ha : IntA w v p L) (hb : IntA w u q M) (hq : 0 < q) (h2 : 2 ≤ max L M) (hLM : max L M ≤ 70368744177600) :
    Calls Tryd.prog 92 #[v, u] w fun e w' => ∃ x, e = .returned (.tuple #[x, .bool true]) ∧ RatF w.heap.size w' x (redP p q.natAbs) (redQ p q.natAbs) (max L M) ∧ Below w.heap.size w w' := by
  have hL' : L ≤ 70368744177664 := by omega
  have hM : M ≤ 70368744177664 := by omega
  obtain ⟨na, mv, la, rfl, hla, _, hpe⟩ := id ha
  obtain ⟨nb, mu, lb, rfl, hlb, _, hqe⟩ := id hb
  clear hpe hqe
  obtain ⟨⟨A, c, rfl, _, _, _⟩, _⟩ := hla
  obtain ⟨⟨B, d, rfl, _, _, _⟩, _⟩ := hlb
  generalize la.length = n at *
  generalize lb.length = m at *
  obtain ⟨W0, hW0⟩ : ∃ W0 : World, W0 = ((w.alloc (.cells #[.bool na, .slice A n c] 52)).alloc (.cells #[.bool nb, .slice B m d] 52)).alloc (.cells #[.bool false, .slice none 0 0, .slice none 0 0] 54) := ⟨_, rfl⟩
  have r0 : Row W0 w.heap.size 52 [.bool na, .slice A n c] := by
    rw [hW0]
    have := Row.alloc (Row.alloc (Row.new w 52 [.bool na, .slice A n c]) (.cells #[.bool nb, .slice B m d] 52)) (.cells #[.bool false, .slice none 0 0, .slice none 0 0] 54)
    simpa using this
  have r1 : Row W0 (w.heap.size + 1) 52 [.bool nb, .slice B m d] := by
    rw [hW0]
    have := Row.alloc (Row.new (w.alloc (.cells #[.bool na, .slice A n c] 52)) 52 [.bool nb, .slice B m d]) (.cells #[.bool false, .slice none 0 0, .slice none 0 0] 54)
    simpa using this
  have r2 : Row W0 (w.heap.size + 2) 54 [.bool false, .slice none 0 0, .slice none 0 0] := by
    rw [hW0]
    have := Row.new ((w.alloc (.cells #[.bool na, .slice A n c] 52)).alloc (.cells #[.bool nb, .slice B m d] 52)) 54 [.bool false, .slice none 0 0, .slice none 0 0]
    simpa using this
  have B0 : Below w.heap.size w W0 := by rw [hW0]; exact ((((Below.refl _ _).alloc (Nat.le_refl _) _).alloc (by simp) _).alloc (by simp; omega) _)
  go_enter Tryd.func92, Tryd.ntmps92
  go_wp2_with fail
  rw [← hW0]
  clear hW0
  have BB := B0
  have hr2 := r0
  have hr3 := r1
  have hr4 : Row W0 (w.heap.size + 1 + 1) 54 [.bool false, .slice none 0 0, .slice none 0 0] := r2
  clear B0 r0 r1 r2
  replace ha := ha.below BB
  replace hb := hb.below BB
  skip
  have HMB := Lib.hid (r2norm_any _ q M _ hb hM)
  clear hb
  have c20 : W0.cell? ⟨w.heap.size, 0, none⟩ = some (.bool na) := hr2.cell 0
  have c21 : W0.cell? ⟨w.heap.size, 1, none⟩ = some (.slice A n c) := hr2.cell 1
  have c30 : W0.cell? ⟨w.heap.size + 1, 0, none⟩ = some (.bool nb) := hr3.cell 0
  have c31 : W0.cell? ⟨w.heap.size + 1, 1, none⟩ = some (.slice B m d) := hr3.cell 1
  have c40 : W0.cell? ⟨w.heap.size + 1 + 1, 0, none⟩ = some (.bool false) := hr4.cell 0
  have c41 : W0.cell? ⟨w.heap.size + 1 + 1, 1, none⟩ = some (.slice none 0 0) := hr4.cell 1
  have c42 : W0.cell? ⟨w.heap.size + 1 + 1, 2, none⟩ = some (.slice none 0 0) := hr4.cell 2
  have z2 := hr2.lt
  have z3 := hr3.lt
  have z4 := hr4.lt
  go_wp2_with fail
  clear c20 c21 c30 c31 c40 c41 c42 z2 z3 z4
  refine (HMB.out).mono ?_
  rintro e x1 ⟨v6, rfl, hv6, hb⟩
  replace hr2 := hr2.keep hb
  replace hr3 := hr3.keep hb
  replace hr4 := hr4.keep hb
  replace ha := ha.below hb
  replace BB : Below w.heap.size w x1 := BB.trans (hb.mono BB.size)
  clear hb
  obtain ⟨m6, rfl, hn6, _⟩ := hv6
  obtain ⟨A6, k6, c6, rfl, _, _⟩ := natAt_pos hn6
  rw [show decide (q < 0) = false from decide_eq_false (by omega)]
  obtain ⟨g6, hg6⟩ : ∃ g, x1.heap.size = g := ⟨_, rfl⟩
  have hr6 : Row (x1.alloc (.cells #[.bool false, .slice A6 k6 c6] 52)) g6 52 [.bool false, .slice A6 k6 c6] := row_at hg6
  have hl := lit_below x1 (.cells #[.bool false, .slice A6 k6 c6] 52)
  have o2_6 : w.heap.size < g6 := by have := hr2.lt; omega
  have o3_6 : w.heap.size + 1 < g6 := by have := hr3.lt; omega
  have o4_6 : w.heap.size + 1 + 1 < g6 := by have := hr4.lt; omega
  have ob_6 : w.heap.size ≤ g6 := by have := BB.size; omega
  have c20 : x1.cell? ⟨w.heap.size, 0, none⟩ = some (.bool na) := hr2.cell 0
  have c21 : x1.cell? ⟨w.heap.size, 1, none⟩ = some (.slice A n c) := hr2.cell 1
  have c30 : x1.cell? ⟨w.heap.size + 1, 0, none⟩ = some (.bool nb) := hr3.cell 0
  have c31 : x1.cell? ⟨w.heap.size + 1, 1, none⟩ = some (.slice B m d) := hr3.cell 1
  have c40 : x1.cell? ⟨w.heap.size + 1 + 1, 0, none⟩ = some (.bool false) := hr4.cell 0
  have c41 : x1.cell? ⟨w.heap.size + 1 + 1, 1, none⟩ = some (.slice none 0 0) := hr4.cell 1
  have c42 : x1.cell? ⟨w.heap.size + 1 + 1, 2, none⟩ = some (.slice none 0 0) := hr4.cell 2
  have d20 : (x1.alloc (.cells #[.bool false, .slice A6 k6 c6] 52)).cell? ⟨w.heap.size, 0, none⟩ = some (.bool na) := (hr2.alloc _).cell 0
  have d21 : (x1.alloc (.cells #[.bool false, .slice A6 k6 c6] 52)).cell? ⟨w.heap.size, 1, none⟩ = some (.slice A n c) := (hr2.alloc _).cell 1
  have d30 : (x1.alloc (.cells #[.bool false, .slice A6 k6 c6] 52)).cell? ⟨w.heap.size + 1, 0, none⟩ = some (.bool nb) := (hr3.alloc _).cell 0
  have d31 : (x1.alloc (.cells #[.bool false, .slice A6 k6 c6] 52)).cell? ⟨w.heap.size + 1, 1, none⟩ = some (.slice B m d) := (hr3.alloc _).cell 1
  have d40 : (x1.alloc (.cells #[.bool false, .slice A6 k6 c6] 52)).cell? ⟨w.heap.size + 1 + 1, 0, none⟩ = some (.bool false) := (hr4.alloc _).cell 0
  have d41 : (x1.alloc (.cells #[.bool false, .slice A6 k6 c6] 52)).cell? ⟨w.heap.size + 1 + 1, 1, none⟩ = some (.slice none 0 0) := (hr4.alloc _).cell 1
  have d42 : (x1.alloc (.cells #[.bool false, .slice A6 k6 c6] 52)).cell? ⟨w.heap.size + 1 + 1, 2, none⟩ = some (.slice none 0 0) := (hr4.alloc _).cell 2
  have e0 : (x1.alloc (.cells #[.bool false, .slice A6 k6 c6] 52)).cell? ⟨g6, 0, none⟩ = some (.bool false) := hr6.cell 0
  have e1 : (x1.alloc (.cells #[.bool false, .slice A6 k6 c6] 52)).cell? ⟨g6, 1, none⟩ = some (.slice A6 k6 c6) := hr6.cell 1
  go_wp2_with fail
  clear c20 c21 c30 c31 c40 c41 c42 d20 d21 d30 d31 d40 d41 d42 e0 e1
  clear hg6
  generalize (x1.alloc (.cells #[.bool false, .slice A6 k6 c6] 52)) = x2 at *
  replace hr2 := hr2.keep hl
  replace hr3 := hr3.keep hl
  replace hr4 := hr4.keep hl
  replace ha := ha.below hl
  replace hn6 := hn6.below hl
  replace BB : Below w.heap.size w x2 := BB.trans (hl.mono BB.size)
  clear hl
  obtain ⟨l6, hl6, _, hq6, hk6⟩ := id hn6
  refine (rbits_any _ l6 _ hl6 (by omega)).mono ?_
  rintro e x3 ⟨rfl, hb⟩
  replace hr2 := hr2.keep hb
  replace hr3 := hr3.keep hb
  replace hr4 := hr4.keep hb
  replace ha := ha.below hb
  replace hn6 := hn6.below hb
  replace hr6 := hr6.keep hb
  replace hl6 := hl6.below hb
  replace BB : Below w.heap.size w x3 := BB.trans (hb.mono BB.size)
  clear hb
  obtain ⟨bl, hbl⟩ : ∃ b, bitL (val l6) = b := ⟨_, rfl⟩
  rw [hbl]
  have hbz : bl ≠ 0 := fun h => by have h1 := (bitL_iff _).1 (hbl.trans h); rw [hq6] at h1; omega
  have t0 : ((bl : Int) == 0) = false := by rw [beq_eq_false_iff_ne]; omega
  have t00 : (bl == 0) = false := by rw [beq_eq_false_iff_ne]; omega
  clear hbl
  have c20 : x3.cell? ⟨w.heap.size, 0, none⟩ = some (.bool na) := hr2.cell 0
  have c21 : x3.cell? ⟨w.heap.size, 1, none⟩ = some (.slice A n c) := hr2.cell 1
  have c30 : x3.cell? ⟨w.heap.size + 1, 0, none⟩ = some (.bool nb) := hr3.cell 0
  have c31 : x3.cell? ⟨w.heap.size + 1, 1, none⟩ = some (.slice B m d) := hr3.cell 1
  have c40 : x3.cell? ⟨w.heap.size + 1 + 1, 0, none⟩ = some (.bool false) := hr4.cell 0
  have c41 : x3.cell? ⟨w.heap.size + 1 + 1, 1, none⟩ = some (.slice none 0 0) := hr4.cell 1
  have c42 : x3.cell? ⟨w.heap.size + 1 + 1, 2, none⟩ = some (.slice none 0 0) := hr4.cell 2
  have c60 : x3.cell? ⟨g6, 0, none⟩ = some (.bool false) := hr6.cell 0
  have c61 : x3.cell? ⟨g6, 1, none⟩ = some (.slice A6 k6 c6) := hr6.cell 1
  have z2 := hr2.lt
  have z3 := hr3.lt
  have z4 := hr4.lt
  have z6 := hr6.lt
  go_wp2_with fail
  clear c20 c21 c30 c31 c40 c41 c42 c60 c61 z2 z3 z4 z6
  refine (r2norm_any _ p L _ ha hL').mono ?_
  rintro e x4 ⟨v7, rfl, hv7, hb⟩
  replace hr2 := hr2.keep hb
  replace hr3 := hr3.keep hb
  replace hr4 := hr4.keep hb
  replace ha := ha.below hb
  replace hn6 := hn6.below hb
  replace hr6 := hr6.keep hb
  replace hl6 := hl6.below hb
  replace BB : Below w.heap.size w x4 := BB.trans (hb.mono BB.size)
  clear hb
  obtain ⟨m7, rfl, hn7, hf7⟩ := id hv7
  obtain ⟨A7, k7, c7, rfl, _, _⟩ := natAt_pos hn7
  clear hn7 hf7
  clear ha
  obtain ⟨g7, hg7⟩ : ∃ g, x4.heap.size = g := ⟨_, rfl⟩
  have hr7 : Row (x4.alloc (.cells #[.bool (decide (p < 0)), .slice A7 k7 c7] 52)) g7 52 [.bool (decide (p < 0)), .slice A7 k7 c7] := row_at hg7
  have hl := lit_below x4 (.cells #[.bool (decide (p < 0)), .slice A7 k7 c7] 52)
  have o2_7 : w.heap.size < g7 := by have := hr2.lt; omega
  have o3_7 : w.heap.size + 1 < g7 := by have := hr3.lt; omega
  have o4_7 : w.heap.size + 1 + 1 < g7 := by have := hr4.lt; omega
  have o6_7 : g6 < g7 := by have := hr6.lt; omega
  have ob_7 : w.heap.size ≤ g7 := by have := BB.size; omega
  have c20 : x4.cell? ⟨w.heap.size, 0, none⟩ = some (.bool na) := hr2.cell 0
  have c21 : x4.cell? ⟨w.heap.size, 1, none⟩ = some (.slice A n c) := hr2.cell 1
  have c30 : x4.cell? ⟨w.heap.size + 1, 0, none⟩ = some (.bool nb) := hr3.cell 0
  have c31 : x4.cell? ⟨w.heap.size + 1, 1, none⟩ = some (.slice B m d) := hr3.cell 1
  have c40 : x4.cell? ⟨w.heap.size + 1 + 1, 0, none⟩ = some (.bool false) := hr4.cell 0
  have c41 : x4.cell? ⟨w.heap.size + 1 + 1, 1, none⟩ = some (.slice none 0 0) := hr4.cell 1
  have c42 : x4.cell? ⟨w.heap.size + 1 + 1, 2, none⟩ = some (.slice none 0 0) := hr4.cell 2
  have c60 : x4.cell? ⟨g6, 0, none⟩ = some (.bool false) := hr6.cell 0
  have c61 : x4.cell? ⟨g6, 1, none⟩ = some (.slice A6 k6 c6) := hr6.cell 1
  have d20 : (x4.alloc (.cells #[.bool (decide (p < 0)), .slice A7 k7 c7] 52)).cell? ⟨w.heap.size, 0, none⟩ = some (.bool na) := (hr2.alloc _).cell 0
  have d21 : (x4.alloc (.cells #[.bool (decide (p < 0)), .slice A7 k7 c7] 52)).cell? ⟨w.heap.size, 1, none⟩ = some (.slice A n c) := (hr2.alloc _).cell 1
  have d30 : (x4.alloc (.cells #[.bool (decide (p < 0)), .slice A7 k7 c7] 52)).cell? ⟨w.heap.size + 1, 0, none⟩ = some (.bool nb) := (hr3.alloc _).cell 0
  have d31 : (x4.alloc (.cells #[.bool (decide (p < 0)), .slice A7 k7 c7] 52)).cell? ⟨w.heap.size + 1, 1, none⟩ = some (.slice B m d) := (hr3.alloc _).cell 1
  have d40 : (x4.alloc (.cells #[.bool (decide (p < 0)), .slice A7 k7 c7] 52)).cell? ⟨w.heap.size + 1 + 1, 0, none⟩ = some (.bool false) := (hr4.alloc _).cell 0
  have d41 : (x4.alloc (.cells #[.bool (decide (p < 0)), .slice A7 k7 c7] 52)).cell? ⟨w.heap.size + 1 + 1, 1, none⟩ = some (.slice none 0 0) := (hr4.alloc _).cell 1
  have d42 : (x4.alloc (.cells #[.bool (decide (p < 0)), .slice A7 k7 c7] 52)).cell? ⟨w.heap.size + 1 + 1, 2, none⟩ = some (.slice none 0 0) := (hr4.alloc _).cell 2
  have d60 : (x4.alloc (.cells #[.bool (decide (p < 0)), .slice A7 k7 c7] 52)).cell? ⟨g6, 0, none⟩ = some (.bool false) := (hr6.alloc _).cell 0
  have d61 : (x4.alloc (.cells #[.bool (decide (p < 0)), .slice A7 k7 c7] 52)).cell? ⟨g6, 1, none⟩ = some (.slice A6 k6 c6) := (hr6.alloc _).cell 1
  have e0 : (x4.alloc (.cells #[.bool (decide (p < 0)), .slice A7 k7 c7] 52)).cell? ⟨g7, 0, none⟩ = some (.bool (decide (p < 0))) := hr7.cell 0
  have e1 : (x4.alloc (.cells #[.bool (decide (p < 0)), .slice A7 k7 c7] 52)).cell? ⟨g7, 1, none⟩ = some (.slice A7 k7 c7) := hr7.cell 1
  go_wp2_with fail
  clear c20 c21 c30 c31 c40 c41 c42 c60 c61 d20 d21 d30 d31 d40 d41 d42 d60 d61 e0 e1
  clear hg7
  generalize (x4.alloc (.cells #[.bool (decide (p < 0)), .slice A7 k7 c7] 52)) = x5 at *
  replace hr2 := hr2.keep hl
  replace hr3 := hr3.keep hl
  replace hr4 := hr4.keep hl
  replace hn6 := hn6.below hl
  replace hr6 := hr6.keep hl
  replace hl6 := hl6.below hl
  replace hv7 := hv7.below hl
  replace BB : Below w.heap.size w x5 := BB.trans (hl.mono BB.size)
  clear hl
  refine (r3reduce_any _ _ p l6 (max L M) _ (hv7.intA.mono (Nat.le_max_left _ _)) hl6 hLM (Nat.le_trans hk6 (Nat.le_max_right _ _)) h2 (by rw [hq6]; omega)).mono ?_
  have yyr := hr4.lt
  rintro e x6 ⟨vz, rfl, hvz, hb⟩
  replace hr2 := hr2.keep hb
  replace hr3 := hr3.keep hb
  replace hr4 := hr4.keep hb
  replace hn6 := hn6.below hb
  replace hr6 := hr6.keep hb
  replace hl6 := hl6.below hb
  replace hv7 := hv7.below hb
  replace hr7 := hr7.keep hb
  replace BB : Below w.heap.size w x6 := BB.trans (hb.mono BB.size)
  clear hb
  rw [hq6] at hvz
  clear hv7 hl6 hn6
  have hz := hvz
  obtain ⟨mz, dz, ez, hmz, hdz, _, _⟩ := id hz
  subst ez
  obtain ⟨Az, kz, cz, rfl⟩ := hmz.lim1.choose_spec.1.show_
  obtain ⟨Dz, lz, bz, rfl⟩ := hdz.lim1.choose_spec.1.show_
  clear hmz hdz
  have c20 : x6.cell? ⟨w.heap.size, 0, none⟩ = some (.bool na) := hr2.cell 0
  have c21 : x6.cell? ⟨w.heap.size, 1, none⟩ = some (.slice A n c) := hr2.cell 1
  have c30 : x6.cell? ⟨w.heap.size + 1, 0, none⟩ = some (.bool nb) := hr3.cell 0
  have c31 : x6.cell? ⟨w.heap.size + 1, 1, none⟩ = some (.slice B m d) := hr3.cell 1
  have c40 : x6.cell? ⟨w.heap.size + 1 + 1, 0, none⟩ = some (.bool false) := hr4.cell 0
  have c41 : x6.cell? ⟨w.heap.size + 1 + 1, 1, none⟩ = some (.slice none 0 0) := hr4.cell 1
  have c42 : x6.cell? ⟨w.heap.size + 1 + 1, 2, none⟩ = some (.slice none 0 0) := hr4.cell 2
  have c60 : x6.cell? ⟨g6, 0, none⟩ = some (.bool false) := hr6.cell 0
  have c61 : x6.cell? ⟨g6, 1, none⟩ = some (.slice A6 k6 c6) := hr6.cell 1
  have c70 : x6.cell? ⟨g7, 0, none⟩ = some (.bool (decide (p < 0))) := hr7.cell 0
  have c71 : x6.cell? ⟨g7, 1, none⟩ = some (.slice A7 k7 c7) := hr7.cell 1
  have f40 : x6.frozen? ⟨w.heap.size + 1 + 1, 0, none⟩ = false := hr4.frozen 0
  have f41 : x6.frozen? ⟨w.heap.size + 1 + 1, 1, none⟩ = false := hr4.frozen 1
  have f42 : x6.frozen? ⟨w.heap.size + 1 + 1, 2, none⟩ = false := hr4.frozen 2
  have z2 := hr2.lt
  have z3 := hr3.lt
  have z4 := hr4.lt
  have z6 := hr6.lt
  have z7 := hr7.lt
  go_wp2_with fail
  refine bodyPost_ret (v := .tuple #[.agg #[.bool (decide (redP p q.natAbs < 0)), .slice Az kz cz, .slice Dz lz bz], .bool true]) (by simp [results, Tryd.results92, go_sem, c40, c41, c42]) rfl ⟨_, rfl, ?_, (((BB).setCell (by simp <;> omega) _).setCell (by simp <;> omega) _).setCell (by simp <;> omega) _⟩
  exact (((hz.set_ (a := ⟨w.heap.size + 1 + 1, 0, none⟩) yyr _).set_ (a := ⟨w.heap.size + 1 + 1, 1, none⟩) yyr _).set_ (a := ⟨w.heap.size + 1 + 1, 2, none⟩) yyr _).base (by omega)
end Go.Proofs.YtoihjclkocffhaaDoor
