/- The walks of the reference's fractions: zero, top, low, reduce (package examboardref03). -/
import Derived.Test.YtoihjclkocffhaaDoorRf5
import Derived.Test.YtoihjclkocffhaaDoorRatQ
namespace Go.Proofs.YtoihjclkocffhaaDoor
open Go.RowKit
set_option linter.unusedVariables false

set_option maxHeartbeats 2000000 in
theorem r3zero_any (w : World) :
    Calls Tryd.prog 106 #[] w fun e w' => ∃ x, e = .returned x ∧ RatF w.heap.size w' x 0 1 2 ∧ Below w.heap.size w w' := by
  have hgb := Row.new w 54 [.bool false, .slice none 0 0, .slice none 0 0]
  have B0 : Below w.heap.size w (w.alloc (.cells #[.bool false, .slice none 0 0, .slice none 0 0] 54)) := (Below.refl _ _).alloc (Nat.le_refl _) _
  have hz : (w.alloc (.cells #[.bool false, .slice none 0 0, .slice none 0 0] 54)).heap.size = w.heap.size + 1 := by simp
  have HZ := Lib.hid hz
  clear hz
  go_enter Tryd.func106, Tryd.ntmps106
  go_wp2_with fail
  refine (rof_any 1 _ (by omega)).mono ?_
  rintro e w6 ⟨v6, rfl, l6, hl6, nt6, hv6, hk6, hf6, h6⟩
  have hn6 : NatAt w6 v6 1 2 := ⟨l6, hl6, nt6, hv6, hk6⟩
  have hl6' := hl6
  obtain ⟨⟨A6, c6, rfl, _, _, _⟩, _⟩ := hl6'
  have B6 := B0.trans (h6.mono B0.size)
  replace hgb := hgb.keep h6
  have d60 : w6.cell? ⟨w.heap.size, 0, none⟩ = some (.bool false) := hgb.cell 0
  have d61 : w6.cell? ⟨w.heap.size, 1, none⟩ = some (.slice none 0 0) := hgb.cell 1
  have d62 : w6.cell? ⟨w.heap.size, 2, none⟩ = some (.slice none 0 0) := hgb.cell 2
  have f60 := hgb.frozen 0
  have f61 := hgb.frozen 1
  have f62 := hgb.frozen 2
  have hf7 : Fresh (w.heap.size + 1) (.slice A6 l6.length c6) := by have := hf6; rw [HZ.out] at this; exact this
  go_wp2_with fail
  refine bodyPost_ret (v := .agg #[.bool false, .slice none 0 0, .slice A6 l6.length c6]) (by simp [results, Tryd.results106, go_sem, d60, d61, d62]) rfl ⟨_, rfl, ⟨_, _, rfl, natAt_nilD _ _, ?_, trivial, hf7.mono (by omega)⟩, ((B6.setCell (Nat.le_refl _) _).setCell (Nat.le_refl _) _).setCell (Nat.le_refl _) _⟩
  exact ((hn6.set_ hf7 (by simp) _).set_ hf7 (by simp) _).set_ hf7 (by simp) _


theorem sg_red3 (p : Int) (q : Nat) : sg (decide (p < 0)) (p.natAbs / Nat.gcd p.natAbs q) = redP p q := by
  have h := sg_redP (decide (p < 0)) p.natAbs q p (by unfold sg; by_cases h : p < 0 <;> simp [h] <;> omega)
  exact h
set_option maxHeartbeats 8000000 in
theorem r3reduce_any (v u : Value) (p : Int) (lq : List Nat) (L : Nat) (w : World) (ha : IntA w v p L) (hu : Lim w u lq) (hL : L ≤ 70368744177600) (hM : lq.length ≤ L) (h2L : 2 ≤ L) (hq : 0 < val lq) :
    Calls Tryd.prog 108 #[v, u] w fun e w' => ∃ x, e = .returned x ∧ RatF w.heap.size w' x (redP p (val lq)) (redQ p (val lq)) L ∧ Below w.heap.size w w' := by
  obtain ⟨neg, mv, ls, rfl, hls, hk, hp⟩ := ha
  have HNM := Lib.hid (fun (W : World) (hw : Below w.heap.size w W) => r2norm_core neg mv ls W (hls.below hw) (by omega))
  obtain ⟨⟨A, c, rfl, _, _, _⟩, _⟩ := hls
  obtain ⟨⟨U, uc, rfl, _, _, _⟩, _⟩ := id hu
  obtain ⟨n, hn⟩ : ∃ n, ls.length = n := ⟨_, rfl⟩
  rw [hn] at HNM hk ⊢
  have HP := Lib.hid hp.symm
  have HSG := Lib.hid (sg_red3 p (val lq))
  clear hn hp
  by_cases hp0 : p = 0
  · have HR1 : Hid (redP p (val lq) = 0) := by unfold Hid; rw [hp0]; unfold redP; simp
    have HR2 : Hid (redQ p (val lq) = 1) := by unfold Hid; rw [hp0]; unfold redQ; simp [Nat.div_self hq]
    have HP0 := Lib.hid hp0
    clear hp0 HSG
    obtain ⟨W0, hW0⟩ : ∃ W0 : World, W0 = (w.alloc (.cells #[.bool neg, .slice A n c] 52)).alloc (.cells #[.bool false, .slice none 0 0, .slice none 0 0] 54) := ⟨_, rfl⟩
    have r0 : Row W0 w.heap.size 52 [.bool neg, .slice A n c] := by
      rw [hW0]
      have := Row.alloc (Row.new w 52 [.bool neg, .slice A n c]) (.cells #[.bool false, .slice none 0 0, .slice none 0 0] 54)
      simpa using this
    have r1 : Row W0 (w.heap.size + 1) 54 [.bool false, .slice none 0 0, .slice none 0 0] := by
      rw [hW0]
      have := Row.new (w.alloc (.cells #[.bool neg, .slice A n c] 52)) 54 [.bool false, .slice none 0 0, .slice none 0 0]
      simpa using this
    have B0 : Below w.heap.size w W0 := by rw [hW0]; exact (((Below.refl _ _).alloc (Nat.le_refl _) _).alloc (by simp) _)
    go_enter Tryd.func108, Tryd.ntmps108
    go_wp2_with fail
    rw [← hW0]
    clear hW0
    have BB := B0
    have hr2 := r0
    have hr4 := r1
    clear B0 r0 r1
    replace hu := hu.below BB
    have c20 : W0.cell? ⟨w.heap.size, 0, none⟩ = some (.bool neg) := hr2.cell 0
    have c21 : W0.cell? ⟨w.heap.size, 1, none⟩ = some (.slice A n c) := hr2.cell 1
    have c40 : W0.cell? ⟨w.heap.size + 1, 0, none⟩ = some (.bool false) := hr4.cell 0
    have c41 : W0.cell? ⟨w.heap.size + 1, 1, none⟩ = some (.slice none 0 0) := hr4.cell 1
    have c42 : W0.cell? ⟨w.heap.size + 1, 2, none⟩ = some (.slice none 0 0) := hr4.cell 2
    have f40 : W0.frozen? ⟨w.heap.size + 1, 0, none⟩ = false := hr4.frozen 0
    have f41 : W0.frozen? ⟨w.heap.size + 1, 1, none⟩ = false := hr4.frozen 1
    have f42 : W0.frozen? ⟨w.heap.size + 1, 2, none⟩ = false := hr4.frozen 2
    have z2 := hr2.lt
    have z4 := hr4.lt
    go_wp2_with fail
    clear c20 c21 c40 c41 c42 f40 f41 f42 z2 z4
    refine (HNM.out _ BB).mono ?_
    rintro e x1 ⟨v5, rfl, hv5, hb⟩
    replace hr2 := hr2.keep hb
    replace hr4 := hr4.keep hb
    replace hu := hu.below hb
    replace BB : Below w.heap.size w x1 := BB.trans (hb.mono BB.size)
    clear hb
    rw [HP.out] at hv5
    obtain ⟨m5, rfl, hn5, hf5⟩ := hv5
    obtain ⟨A5, k5, c5, rfl, _, _⟩ := natAt_pos hn5
    clear hf5
    obtain ⟨g5, hg5⟩ : ∃ g, x1.heap.size = g := ⟨_, rfl⟩
    have hr5 : Row (x1.alloc (.cells #[.bool (decide (p < 0)), .slice A5 k5 c5] 52)) g5 52 [.bool (decide (p < 0)), .slice A5 k5 c5] := row_at hg5
    have hl := lit_below x1 (.cells #[.bool (decide (p < 0)), .slice A5 k5 c5] 52)
    have o2_5 : w.heap.size < g5 := by have := hr2.lt; omega
    have o4_5 : w.heap.size + 1 < g5 := by have := hr4.lt; omega
    have ob_5 : w.heap.size ≤ g5 := by have := BB.size; omega
    have c20 : x1.cell? ⟨w.heap.size, 0, none⟩ = some (.bool neg) := hr2.cell 0
    have c21 : x1.cell? ⟨w.heap.size, 1, none⟩ = some (.slice A n c) := hr2.cell 1
    have c40 : x1.cell? ⟨w.heap.size + 1, 0, none⟩ = some (.bool false) := hr4.cell 0
    have c41 : x1.cell? ⟨w.heap.size + 1, 1, none⟩ = some (.slice none 0 0) := hr4.cell 1
    have c42 : x1.cell? ⟨w.heap.size + 1, 2, none⟩ = some (.slice none 0 0) := hr4.cell 2
    have f40 : x1.frozen? ⟨w.heap.size + 1, 0, none⟩ = false := hr4.frozen 0
    have f41 : x1.frozen? ⟨w.heap.size + 1, 1, none⟩ = false := hr4.frozen 1
    have f42 : x1.frozen? ⟨w.heap.size + 1, 2, none⟩ = false := hr4.frozen 2
    have d20 : (x1.alloc (.cells #[.bool (decide (p < 0)), .slice A5 k5 c5] 52)).cell? ⟨w.heap.size, 0, none⟩ = some (.bool neg) := (hr2.alloc _).cell 0
    have d21 : (x1.alloc (.cells #[.bool (decide (p < 0)), .slice A5 k5 c5] 52)).cell? ⟨w.heap.size, 1, none⟩ = some (.slice A n c) := (hr2.alloc _).cell 1
    have d40 : (x1.alloc (.cells #[.bool (decide (p < 0)), .slice A5 k5 c5] 52)).cell? ⟨w.heap.size + 1, 0, none⟩ = some (.bool false) := (hr4.alloc _).cell 0
    have d41 : (x1.alloc (.cells #[.bool (decide (p < 0)), .slice A5 k5 c5] 52)).cell? ⟨w.heap.size + 1, 1, none⟩ = some (.slice none 0 0) := (hr4.alloc _).cell 1
    have d42 : (x1.alloc (.cells #[.bool (decide (p < 0)), .slice A5 k5 c5] 52)).cell? ⟨w.heap.size + 1, 2, none⟩ = some (.slice none 0 0) := (hr4.alloc _).cell 2
    have h40 : (x1.alloc (.cells #[.bool (decide (p < 0)), .slice A5 k5 c5] 52)).frozen? ⟨w.heap.size + 1, 0, none⟩ = false := (hr4.alloc _).frozen 0
    have h41 : (x1.alloc (.cells #[.bool (decide (p < 0)), .slice A5 k5 c5] 52)).frozen? ⟨w.heap.size + 1, 1, none⟩ = false := (hr4.alloc _).frozen 1
    have h42 : (x1.alloc (.cells #[.bool (decide (p < 0)), .slice A5 k5 c5] 52)).frozen? ⟨w.heap.size + 1, 2, none⟩ = false := (hr4.alloc _).frozen 2
    have e0 : (x1.alloc (.cells #[.bool (decide (p < 0)), .slice A5 k5 c5] 52)).cell? ⟨g5, 0, none⟩ = some (.bool (decide (p < 0))) := hr5.cell 0
    have e1 : (x1.alloc (.cells #[.bool (decide (p < 0)), .slice A5 k5 c5] 52)).cell? ⟨g5, 1, none⟩ = some (.slice A5 k5 c5) := hr5.cell 1
    go_wp2_with fail
    clear c20 c21 c40 c41 c42 f40 f41 f42 d20 d21 d40 d41 d42 h40 h41 h42 e0 e1
    clear hg5
    generalize (x1.alloc (.cells #[.bool (decide (p < 0)), .slice A5 k5 c5] 52)) = x2 at *
    replace hr2 := hr2.keep hl
    replace hr4 := hr4.keep hl
    replace hu := hu.below hl
    replace hn5 := hn5.below hl
    replace BB : Below w.heap.size w x2 := BB.trans (hl.mono BB.size)
    clear hl
    obtain ⟨l5, hl5, _, hv5, hk5⟩ := id hn5
    have c20 : x2.cell? ⟨w.heap.size, 0, none⟩ = some (.bool neg) := hr2.cell 0
    have c21 : x2.cell? ⟨w.heap.size, 1, none⟩ = some (.slice A n c) := hr2.cell 1
    have c40 : x2.cell? ⟨w.heap.size + 1, 0, none⟩ = some (.bool false) := hr4.cell 0
    have c41 : x2.cell? ⟨w.heap.size + 1, 1, none⟩ = some (.slice none 0 0) := hr4.cell 1
    have c42 : x2.cell? ⟨w.heap.size + 1, 2, none⟩ = some (.slice none 0 0) := hr4.cell 2
    have c50 : x2.cell? ⟨g5, 0, none⟩ = some (.bool (decide (p < 0))) := hr5.cell 0
    have c51 : x2.cell? ⟨g5, 1, none⟩ = some (.slice A5 k5 c5) := hr5.cell 1
    have f40 : x2.frozen? ⟨w.heap.size + 1, 0, none⟩ = false := hr4.frozen 0
    have f41 : x2.frozen? ⟨w.heap.size + 1, 1, none⟩ = false := hr4.frozen 1
    have f42 : x2.frozen? ⟨w.heap.size + 1, 2, none⟩ = false := hr4.frozen 2
    have z2 := hr2.lt
    have z4 := hr4.lt
    have z5 := hr5.lt
    go_wp2_with fail
    clear c20 c21 c40 c41 c42 c50 c51 f40 f41 f42 z2 z4 z5
    refine (rbits_any _ l5 _ hl5 (by omega)).mono ?_
    rintro e x3 ⟨rfl, hb⟩
    replace hr2 := hr2.keep hb
    replace hr4 := hr4.keep hb
    replace hu := hu.below hb
    replace hn5 := hn5.below hb
    replace hr5 := hr5.keep hb
    replace hl5 := hl5.below hb
    replace BB : Below w.heap.size w x3 := BB.trans (hb.mono BB.size)
    clear hb
    rw [show bitL (val l5) = 0 from (bitL_iff _).2 (by rw [hv5, HP0.out]; rfl)]
    have c20 : x3.cell? ⟨w.heap.size, 0, none⟩ = some (.bool neg) := hr2.cell 0
    have c21 : x3.cell? ⟨w.heap.size, 1, none⟩ = some (.slice A n c) := hr2.cell 1
    have c40 : x3.cell? ⟨w.heap.size + 1, 0, none⟩ = some (.bool false) := hr4.cell 0
    have c41 : x3.cell? ⟨w.heap.size + 1, 1, none⟩ = some (.slice none 0 0) := hr4.cell 1
    have c42 : x3.cell? ⟨w.heap.size + 1, 2, none⟩ = some (.slice none 0 0) := hr4.cell 2
    have c50 : x3.cell? ⟨g5, 0, none⟩ = some (.bool (decide (p < 0))) := hr5.cell 0
    have c51 : x3.cell? ⟨g5, 1, none⟩ = some (.slice A5 k5 c5) := hr5.cell 1
    have f40 : x3.frozen? ⟨w.heap.size + 1, 0, none⟩ = false := hr4.frozen 0
    have f41 : x3.frozen? ⟨w.heap.size + 1, 1, none⟩ = false := hr4.frozen 1
    have f42 : x3.frozen? ⟨w.heap.size + 1, 2, none⟩ = false := hr4.frozen 2
    have z2 := hr2.lt
    have z4 := hr4.lt
    have z5 := hr5.lt
    go_wp2_with fail
    clear c20 c21 c40 c41 c42 c50 c51 f40 f41 f42 z2 z4 z5
    refine (r3zero_any _).mono ?_
    have yy4 := hr4.lt
    rintro e x4 ⟨v6, rfl, hv6, hb⟩
    replace hr2 := hr2.keep hb
    replace hr4 := hr4.keep hb
    replace hu := hu.below hb
    replace hn5 := hn5.below hb
    replace hr5 := hr5.keep hb
    replace hl5 := hl5.below hb
    replace BB : Below w.heap.size w x4 := BB.trans (hb.mono BB.size)
    clear hb
    obtain ⟨m6, d6, rfl, hm6, hd6, fm6, fd6⟩ := hv6
    obtain ⟨A6, k6, c6, rfl, _, _⟩ := natAt_pos hm6
    obtain ⟨D6, j6, e6, rfl, _, _⟩ := natAt_pos hd6
    simp only [show decide ((0 : Int) < 0) = false from rfl]
    have c20 : x4.cell? ⟨w.heap.size, 0, none⟩ = some (.bool neg) := hr2.cell 0
    have c21 : x4.cell? ⟨w.heap.size, 1, none⟩ = some (.slice A n c) := hr2.cell 1
    have c40 : x4.cell? ⟨w.heap.size + 1, 0, none⟩ = some (.bool false) := hr4.cell 0
    have c41 : x4.cell? ⟨w.heap.size + 1, 1, none⟩ = some (.slice none 0 0) := hr4.cell 1
    have c42 : x4.cell? ⟨w.heap.size + 1, 2, none⟩ = some (.slice none 0 0) := hr4.cell 2
    have c50 : x4.cell? ⟨g5, 0, none⟩ = some (.bool (decide (p < 0))) := hr5.cell 0
    have c51 : x4.cell? ⟨g5, 1, none⟩ = some (.slice A5 k5 c5) := hr5.cell 1
    have f40 : x4.frozen? ⟨w.heap.size + 1, 0, none⟩ = false := hr4.frozen 0
    have f41 : x4.frozen? ⟨w.heap.size + 1, 1, none⟩ = false := hr4.frozen 1
    have f42 : x4.frozen? ⟨w.heap.size + 1, 2, none⟩ = false := hr4.frozen 2
    have z2 := hr2.lt
    have z4 := hr4.lt
    have z5 := hr5.lt
    have f6 : Fresh (w.heap.size + 2) (.slice A6 k6 c6) := fm6.mono (by omega)
    have f7 : Fresh (w.heap.size + 2) (.slice D6 j6 e6) := fd6.mono (by omega)
    clear fm6 fd6
    go_wp2_with fail
    refine bodyPost_ret (v := .agg #[.bool false, .slice A6 k6 c6, .slice D6 j6 e6]) (by simp [results, Tryd.results108, go_sem, c40, c41, c42]) rfl ⟨_, rfl, ⟨_, _, by rw [HR1.out]; rfl, ?_, ?_, f6.mono (by omega), f7.mono (by omega)⟩, ((BB.setCell (by simp) _).setCell (by simp) _).setCell (by simp) _⟩
    · rw [HR1.out]; exact ((((hm6.mono h2L).set_ f6 (by simp) _).set_ f6 (by simp) _).set_ f6 (by simp) _)
    · rw [HR2.out]; exact ((((hd6.mono h2L).set_ f7 (by simp) _).set_ f7 (by simp) _).set_ f7 (by simp) _)
  · have HP0 := Lib.hid hp0
    clear hp0
    obtain ⟨W0, hW0⟩ : ∃ W0 : World, W0 = (w.alloc (.cells #[.bool neg, .slice A n c] 52)).alloc (.cells #[.bool false, .slice none 0 0, .slice none 0 0] 54) := ⟨_, rfl⟩
    have r0 : Row W0 w.heap.size 52 [.bool neg, .slice A n c] := by
      rw [hW0]
      have := Row.alloc (Row.new w 52 [.bool neg, .slice A n c]) (.cells #[.bool false, .slice none 0 0, .slice none 0 0] 54)
      simpa using this
    have r1 : Row W0 (w.heap.size + 1) 54 [.bool false, .slice none 0 0, .slice none 0 0] := by
      rw [hW0]
      have := Row.new (w.alloc (.cells #[.bool neg, .slice A n c] 52)) 54 [.bool false, .slice none 0 0, .slice none 0 0]
      simpa using this
    have B0 : Below w.heap.size w W0 := by rw [hW0]; exact (((Below.refl _ _).alloc (Nat.le_refl _) _).alloc (by simp) _)
    go_enter Tryd.func108, Tryd.ntmps108
    go_wp2_with fail
    rw [← hW0]
    clear hW0
    have BB := B0
    have hr2 := r0
    have hr4 := r1
    clear B0 r0 r1
    replace hu := hu.below BB
    have c20 : W0.cell? ⟨w.heap.size, 0, none⟩ = some (.bool neg) := hr2.cell 0
    have c21 : W0.cell? ⟨w.heap.size, 1, none⟩ = some (.slice A n c) := hr2.cell 1
    have c40 : W0.cell? ⟨w.heap.size + 1, 0, none⟩ = some (.bool false) := hr4.cell 0
    have c41 : W0.cell? ⟨w.heap.size + 1, 1, none⟩ = some (.slice none 0 0) := hr4.cell 1
    have c42 : W0.cell? ⟨w.heap.size + 1, 2, none⟩ = some (.slice none 0 0) := hr4.cell 2
    have f40 : W0.frozen? ⟨w.heap.size + 1, 0, none⟩ = false := hr4.frozen 0
    have f41 : W0.frozen? ⟨w.heap.size + 1, 1, none⟩ = false := hr4.frozen 1
    have f42 : W0.frozen? ⟨w.heap.size + 1, 2, none⟩ = false := hr4.frozen 2
    have z2 := hr2.lt
    have z4 := hr4.lt
    go_wp2_with fail
    clear c20 c21 c40 c41 c42 f40 f41 f42 z2 z4
    refine (HNM.out _ BB).mono ?_
    rintro e x1 ⟨v5, rfl, hv5, hb⟩
    replace hr2 := hr2.keep hb
    replace hr4 := hr4.keep hb
    replace hu := hu.below hb
    replace BB : Below w.heap.size w x1 := BB.trans (hb.mono BB.size)
    clear hb
    rw [HP.out] at hv5
    obtain ⟨m5, rfl, hn5, hf5⟩ := hv5
    obtain ⟨A5, k5, c5, rfl, _, _⟩ := natAt_pos hn5
    clear hf5
    obtain ⟨g5, hg5⟩ : ∃ g, x1.heap.size = g := ⟨_, rfl⟩
    have hr5 : Row (x1.alloc (.cells #[.bool (decide (p < 0)), .slice A5 k5 c5] 52)) g5 52 [.bool (decide (p < 0)), .slice A5 k5 c5] := row_at hg5
    have hl := lit_below x1 (.cells #[.bool (decide (p < 0)), .slice A5 k5 c5] 52)
    have o2_5 : w.heap.size < g5 := by have := hr2.lt; omega
    have o4_5 : w.heap.size + 1 < g5 := by have := hr4.lt; omega
    have ob_5 : w.heap.size ≤ g5 := by have := BB.size; omega
    have c20 : x1.cell? ⟨w.heap.size, 0, none⟩ = some (.bool neg) := hr2.cell 0
    have c21 : x1.cell? ⟨w.heap.size, 1, none⟩ = some (.slice A n c) := hr2.cell 1
    have c40 : x1.cell? ⟨w.heap.size + 1, 0, none⟩ = some (.bool false) := hr4.cell 0
    have c41 : x1.cell? ⟨w.heap.size + 1, 1, none⟩ = some (.slice none 0 0) := hr4.cell 1
    have c42 : x1.cell? ⟨w.heap.size + 1, 2, none⟩ = some (.slice none 0 0) := hr4.cell 2
    have f40 : x1.frozen? ⟨w.heap.size + 1, 0, none⟩ = false := hr4.frozen 0
    have f41 : x1.frozen? ⟨w.heap.size + 1, 1, none⟩ = false := hr4.frozen 1
    have f42 : x1.frozen? ⟨w.heap.size + 1, 2, none⟩ = false := hr4.frozen 2
    have d20 : (x1.alloc (.cells #[.bool (decide (p < 0)), .slice A5 k5 c5] 52)).cell? ⟨w.heap.size, 0, none⟩ = some (.bool neg) := (hr2.alloc _).cell 0
    have d21 : (x1.alloc (.cells #[.bool (decide (p < 0)), .slice A5 k5 c5] 52)).cell? ⟨w.heap.size, 1, none⟩ = some (.slice A n c) := (hr2.alloc _).cell 1
    have d40 : (x1.alloc (.cells #[.bool (decide (p < 0)), .slice A5 k5 c5] 52)).cell? ⟨w.heap.size + 1, 0, none⟩ = some (.bool false) := (hr4.alloc _).cell 0
    have d41 : (x1.alloc (.cells #[.bool (decide (p < 0)), .slice A5 k5 c5] 52)).cell? ⟨w.heap.size + 1, 1, none⟩ = some (.slice none 0 0) := (hr4.alloc _).cell 1
    have d42 : (x1.alloc (.cells #[.bool (decide (p < 0)), .slice A5 k5 c5] 52)).cell? ⟨w.heap.size + 1, 2, none⟩ = some (.slice none 0 0) := (hr4.alloc _).cell 2
    have h40 : (x1.alloc (.cells #[.bool (decide (p < 0)), .slice A5 k5 c5] 52)).frozen? ⟨w.heap.size + 1, 0, none⟩ = false := (hr4.alloc _).frozen 0
    have h41 : (x1.alloc (.cells #[.bool (decide (p < 0)), .slice A5 k5 c5] 52)).frozen? ⟨w.heap.size + 1, 1, none⟩ = false := (hr4.alloc _).frozen 1
    have h42 : (x1.alloc (.cells #[.bool (decide (p < 0)), .slice A5 k5 c5] 52)).frozen? ⟨w.heap.size + 1, 2, none⟩ = false := (hr4.alloc _).frozen 2
    have e0 : (x1.alloc (.cells #[.bool (decide (p < 0)), .slice A5 k5 c5] 52)).cell? ⟨g5, 0, none⟩ = some (.bool (decide (p < 0))) := hr5.cell 0
    have e1 : (x1.alloc (.cells #[.bool (decide (p < 0)), .slice A5 k5 c5] 52)).cell? ⟨g5, 1, none⟩ = some (.slice A5 k5 c5) := hr5.cell 1
    go_wp2_with fail
    clear c20 c21 c40 c41 c42 f40 f41 f42 d20 d21 d40 d41 d42 h40 h41 h42 e0 e1
    clear hg5
    generalize (x1.alloc (.cells #[.bool (decide (p < 0)), .slice A5 k5 c5] 52)) = x2 at *
    replace hr2 := hr2.keep hl
    replace hr4 := hr4.keep hl
    replace hu := hu.below hl
    replace hn5 := hn5.below hl
    replace BB : Below w.heap.size w x2 := BB.trans (hl.mono BB.size)
    clear hl
    obtain ⟨l5, hl5, _, hv5, hk5⟩ := id hn5
    have c20 : x2.cell? ⟨w.heap.size, 0, none⟩ = some (.bool neg) := hr2.cell 0
    have c21 : x2.cell? ⟨w.heap.size, 1, none⟩ = some (.slice A n c) := hr2.cell 1
    have c40 : x2.cell? ⟨w.heap.size + 1, 0, none⟩ = some (.bool false) := hr4.cell 0
    have c41 : x2.cell? ⟨w.heap.size + 1, 1, none⟩ = some (.slice none 0 0) := hr4.cell 1
    have c42 : x2.cell? ⟨w.heap.size + 1, 2, none⟩ = some (.slice none 0 0) := hr4.cell 2
    have c50 : x2.cell? ⟨g5, 0, none⟩ = some (.bool (decide (p < 0))) := hr5.cell 0
    have c51 : x2.cell? ⟨g5, 1, none⟩ = some (.slice A5 k5 c5) := hr5.cell 1
    have f40 : x2.frozen? ⟨w.heap.size + 1, 0, none⟩ = false := hr4.frozen 0
    have f41 : x2.frozen? ⟨w.heap.size + 1, 1, none⟩ = false := hr4.frozen 1
    have f42 : x2.frozen? ⟨w.heap.size + 1, 2, none⟩ = false := hr4.frozen 2
    have z2 := hr2.lt
    have z4 := hr4.lt
    have z5 := hr5.lt
    go_wp2_with fail
    clear c20 c21 c40 c41 c42 c50 c51 f40 f41 f42 z2 z4 z5
    refine (rbits_any _ l5 _ hl5 (by omega)).mono ?_
    rintro e x3 ⟨rfl, hb⟩
    replace hr2 := hr2.keep hb
    replace hr4 := hr4.keep hb
    replace hu := hu.below hb
    replace hn5 := hn5.below hb
    replace hr5 := hr5.keep hb
    replace hl5 := hl5.below hb
    replace BB : Below w.heap.size w x3 := BB.trans (hb.mono BB.size)
    clear hb
    obtain ⟨bl, hbl⟩ : ∃ b, bitL (val l5) = b := ⟨_, rfl⟩
    rw [hbl]
    have hbz : bl ≠ 0 := fun h => HP0.out (by have h1 := (bitL_iff _).1 (hbl.trans h); rw [hv5] at h1; omega)
    have t0 : ((bl : Int) == 0) = false := by rw [beq_eq_false_iff_ne]; omega
    have t00 : (bl == 0) = false := by rw [beq_eq_false_iff_ne]; omega
    clear hbl
    have c20 : x3.cell? ⟨w.heap.size, 0, none⟩ = some (.bool neg) := hr2.cell 0
    have c21 : x3.cell? ⟨w.heap.size, 1, none⟩ = some (.slice A n c) := hr2.cell 1
    have c40 : x3.cell? ⟨w.heap.size + 1, 0, none⟩ = some (.bool false) := hr4.cell 0
    have c41 : x3.cell? ⟨w.heap.size + 1, 1, none⟩ = some (.slice none 0 0) := hr4.cell 1
    have c42 : x3.cell? ⟨w.heap.size + 1, 2, none⟩ = some (.slice none 0 0) := hr4.cell 2
    have c50 : x3.cell? ⟨g5, 0, none⟩ = some (.bool (decide (p < 0))) := hr5.cell 0
    have c51 : x3.cell? ⟨g5, 1, none⟩ = some (.slice A5 k5 c5) := hr5.cell 1
    have f40 : x3.frozen? ⟨w.heap.size + 1, 0, none⟩ = false := hr4.frozen 0
    have f41 : x3.frozen? ⟨w.heap.size + 1, 1, none⟩ = false := hr4.frozen 1
    have f42 : x3.frozen? ⟨w.heap.size + 1, 2, none⟩ = false := hr4.frozen 2
    have z2 := hr2.lt
    have z4 := hr4.lt
    have z5 := hr5.lt
    go_wp2_with fail
    clear c20 c21 c40 c41 c42 c50 c51 f40 f41 f42 z2 z4 z5
    refine (rgcd_any _ _ l5 lq _ hl5 hu (by omega) (by omega)).mono ?_
    rintro e x4 ⟨g, rfl, hg, fg, hb⟩
    replace hr2 := hr2.keep hb
    replace hr4 := hr4.keep hb
    replace hu := hu.below hb
    replace hn5 := hn5.below hb
    replace hr5 := hr5.keep hb
    replace hl5 := hl5.below hb
    replace BB : Below w.heap.size w x4 := BB.trans (hb.mono BB.size)
    clear hb
    rw [hv5] at hg
    obtain ⟨lg, hlg, _, hvg, hkg⟩ := id hg
    obtain ⟨⟨GA, gc, rfl, _, _, _⟩, _⟩ := id hlg
    have hg0 : 0 < val lg := by rw [hvg]; exact Nat.gcd_pos_of_pos_right _ hq
    have c20 : x4.cell? ⟨w.heap.size, 0, none⟩ = some (.bool neg) := hr2.cell 0
    have c21 : x4.cell? ⟨w.heap.size, 1, none⟩ = some (.slice A n c) := hr2.cell 1
    have c40 : x4.cell? ⟨w.heap.size + 1, 0, none⟩ = some (.bool false) := hr4.cell 0
    have c41 : x4.cell? ⟨w.heap.size + 1, 1, none⟩ = some (.slice none 0 0) := hr4.cell 1
    have c42 : x4.cell? ⟨w.heap.size + 1, 2, none⟩ = some (.slice none 0 0) := hr4.cell 2
    have c50 : x4.cell? ⟨g5, 0, none⟩ = some (.bool (decide (p < 0))) := hr5.cell 0
    have c51 : x4.cell? ⟨g5, 1, none⟩ = some (.slice A5 k5 c5) := hr5.cell 1
    have f40 : x4.frozen? ⟨w.heap.size + 1, 0, none⟩ = false := hr4.frozen 0
    have f41 : x4.frozen? ⟨w.heap.size + 1, 1, none⟩ = false := hr4.frozen 1
    have f42 : x4.frozen? ⟨w.heap.size + 1, 2, none⟩ = false := hr4.frozen 2
    have z2 := hr2.lt
    have z4 := hr4.lt
    have z5 := hr5.lt
    go_wp2_with fail
    clear c20 c21 c40 c41 c42 c50 c51 f40 f41 f42 z2 z4 z5
    refine (rdivmod_any _ _ l5 lg _ hl5 hlg (by omega) (by omega) hg0).mono ?_
    rintro e x5 ⟨q1, r1, rfl, ⟨hq1, fq1⟩, ⟨hr1, fr1⟩, hb⟩
    replace hr2 := hr2.keep hb
    replace hr4 := hr4.keep hb
    replace hu := hu.below hb
    replace hn5 := hn5.below hb
    replace hr5 := hr5.keep hb
    replace hl5 := hl5.below hb
    replace hlg := hlg.below hb
    replace BB : Below w.heap.size w x5 := BB.trans (hb.mono BB.size)
    clear hb
    rw [hv5, hvg] at hq1 hr1
    obtain ⟨l7, hl7, _, hv7, hk7⟩ := id hq1
    obtain ⟨⟨A7, c7, rfl, _, _, _⟩, _⟩ := id hl7
    obtain ⟨_, ⟨⟨A7r, c7r, rfl, _, _, _⟩, _⟩, _⟩ := hr1
    have c20 : x5.cell? ⟨w.heap.size, 0, none⟩ = some (.bool neg) := hr2.cell 0
    have c21 : x5.cell? ⟨w.heap.size, 1, none⟩ = some (.slice A n c) := hr2.cell 1
    have c40 : x5.cell? ⟨w.heap.size + 1, 0, none⟩ = some (.bool false) := hr4.cell 0
    have c41 : x5.cell? ⟨w.heap.size + 1, 1, none⟩ = some (.slice none 0 0) := hr4.cell 1
    have c42 : x5.cell? ⟨w.heap.size + 1, 2, none⟩ = some (.slice none 0 0) := hr4.cell 2
    have c50 : x5.cell? ⟨g5, 0, none⟩ = some (.bool (decide (p < 0))) := hr5.cell 0
    have c51 : x5.cell? ⟨g5, 1, none⟩ = some (.slice A5 k5 c5) := hr5.cell 1
    have f40 : x5.frozen? ⟨w.heap.size + 1, 0, none⟩ = false := hr4.frozen 0
    have f41 : x5.frozen? ⟨w.heap.size + 1, 1, none⟩ = false := hr4.frozen 1
    have f42 : x5.frozen? ⟨w.heap.size + 1, 2, none⟩ = false := hr4.frozen 2
    have z2 := hr2.lt
    have z4 := hr4.lt
    have z5 := hr5.lt
    go_wp2_with fail
    clear c20 c21 c40 c41 c42 c50 c51 f40 f41 f42 z2 z4 z5
    refine (rdivmod_any _ _ lq lg _ hu hlg (by omega) (by omega) hg0).mono ?_
    have yy4 := hr4.lt
    rintro e x6 ⟨q2, r2, rfl, ⟨hq2, fq2⟩, ⟨hr2', fr2⟩, hb⟩
    replace hr2 := hr2.keep hb
    replace hr4 := hr4.keep hb
    replace hu := hu.below hb
    replace hn5 := hn5.below hb
    replace hr5 := hr5.keep hb
    replace hl5 := hl5.below hb
    replace hlg := hlg.below hb
    replace hl7 := hl7.below hb
    replace BB : Below w.heap.size w x6 := BB.trans (hb.mono BB.size)
    clear hb
    rw [hvg] at hq2 hr2'
    obtain ⟨l8, ⟨⟨A8, c8, rfl, _, _, _⟩, _⟩, _⟩ := id hq2
    obtain ⟨_, ⟨⟨A8r, c8r, rfl, _, _, _⟩, _⟩, _⟩ := hr2'
    have c20 : x6.cell? ⟨w.heap.size, 0, none⟩ = some (.bool neg) := hr2.cell 0
    have c21 : x6.cell? ⟨w.heap.size, 1, none⟩ = some (.slice A n c) := hr2.cell 1
    have c40 : x6.cell? ⟨w.heap.size + 1, 0, none⟩ = some (.bool false) := hr4.cell 0
    have c41 : x6.cell? ⟨w.heap.size + 1, 1, none⟩ = some (.slice none 0 0) := hr4.cell 1
    have c42 : x6.cell? ⟨w.heap.size + 1, 2, none⟩ = some (.slice none 0 0) := hr4.cell 2
    have c50 : x6.cell? ⟨g5, 0, none⟩ = some (.bool (decide (p < 0))) := hr5.cell 0
    have c51 : x6.cell? ⟨g5, 1, none⟩ = some (.slice A5 k5 c5) := hr5.cell 1
    have f40 : x6.frozen? ⟨w.heap.size + 1, 0, none⟩ = false := hr4.frozen 0
    have f41 : x6.frozen? ⟨w.heap.size + 1, 1, none⟩ = false := hr4.frozen 1
    have f42 : x6.frozen? ⟨w.heap.size + 1, 2, none⟩ = false := hr4.frozen 2
    have z2 := hr2.lt
    have z4 := hr4.lt
    have z5 := hr5.lt
    go_wp2_with fail
    clear c20 c21 c40 c41 c42 c50 c51 f40 f41 f42 z2 z4 z5
    refine (r2make_any (decide (p < 0)) _ l7 _ hl7 (by omega)).mono ?_
    have yy5 := hr4.lt
    rintro e x7 ⟨v9, rfl, hv9, hb⟩
    replace hr2 := hr2.keep hb
    replace hr4 := hr4.keep hb
    replace hu := hu.below hb
    replace hn5 := hn5.below hb
    replace hr5 := hr5.keep hb
    replace hl5 := hl5.below hb
    replace hlg := hlg.below hb
    replace hl7 := hl7.below hb
    replace hq2 := hq2.below hb
    replace BB : Below w.heap.size w x7 := BB.trans (hb.mono BB.size)
    clear hb
    rw [hv7, HSG.out] at hv9
    obtain ⟨m9, rfl, hn9, hf9⟩ := hv9
    obtain ⟨A9, k9, c9, rfl, _, _⟩ := natAt_pos hn9
    have c20 : x7.cell? ⟨w.heap.size, 0, none⟩ = some (.bool neg) := hr2.cell 0
    have c21 : x7.cell? ⟨w.heap.size, 1, none⟩ = some (.slice A n c) := hr2.cell 1
    have c40 : x7.cell? ⟨w.heap.size + 1, 0, none⟩ = some (.bool false) := hr4.cell 0
    have c41 : x7.cell? ⟨w.heap.size + 1, 1, none⟩ = some (.slice none 0 0) := hr4.cell 1
    have c42 : x7.cell? ⟨w.heap.size + 1, 2, none⟩ = some (.slice none 0 0) := hr4.cell 2
    have c50 : x7.cell? ⟨g5, 0, none⟩ = some (.bool (decide (p < 0))) := hr5.cell 0
    have c51 : x7.cell? ⟨g5, 1, none⟩ = some (.slice A5 k5 c5) := hr5.cell 1
    have f40 : x7.frozen? ⟨w.heap.size + 1, 0, none⟩ = false := hr4.frozen 0
    have f41 : x7.frozen? ⟨w.heap.size + 1, 1, none⟩ = false := hr4.frozen 1
    have f42 : x7.frozen? ⟨w.heap.size + 1, 2, none⟩ = false := hr4.frozen 2
    have z2 := hr2.lt
    have z4 := hr4.lt
    have z5 := hr5.lt
    have f6 : Fresh (w.heap.size + 2) (.slice A9 k9 c9) := hf9.mono (by omega)
    have f7 : Fresh (w.heap.size + 2) (.slice A8 l8.length c8) := fq2.mono (by omega)
    clear hf9 fq2
    go_wp2_with fail
    refine bodyPost_ret (v := .agg #[.bool (decide (redP p (val lq) < 0)), .slice A9 k9 c9, .slice A8 l8.length c8]) (by simp [results, Tryd.results108, go_sem, c40, c41, c42]) rfl ⟨_, rfl, ⟨_, _, rfl, ?_, ?_, f6.mono (by omega), f7.mono (by omega)⟩, ((BB.setCell (by simp) _).setCell (by simp) _).setCell (by simp) _⟩
    · exact ((((hn9.mono (by omega)).set_ f6 (by simp) _).set_ f6 (by simp) _).set_ f6 (by simp) _)
    · exact ((((hq2.mono hM).set_ f7 (by simp) _).set_ f7 (by simp) _).set_ f7 (by simp) _)
end Go.Proofs.YtoihjclkocffhaaDoor
