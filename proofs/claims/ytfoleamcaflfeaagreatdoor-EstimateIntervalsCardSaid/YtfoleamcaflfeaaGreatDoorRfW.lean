/- The reference's fractions with separate bounds of numerator and denominator: top, low, Mul, Cmp (package examboardref03). -/
import Derived.Test.YtfoleamcaflfeaaGreatDoorRf8
namespace Go.Proofs.YtfoleamcaflfeaaGreatDoor
open Go.RowKit
set_option linter.unusedVariables false
set_option maxRecDepth 100000

/-- Any form of a fraction, of at most L limbs above and D below. -/
def RatX (w : World) (v : Value) (p : Int) (q L D : Nat) : Prop := ∃ neg mv ls dv ld, v = .agg #[.bool neg, mv, dv] ∧ Lim w mv ls ∧ Lim w dv ld ∧ ls.length ≤ L ∧ ld.length ≤ D ∧
  (p = if val ld = 0 then 0 else sg neg (val ls)) ∧ (q = if val ld = 0 then 1 else val ld)
theorem RatA.widX {w : World} {v : Value} {p : Int} {q L : Nat} (h : RatA w v p q L) : RatX w v p q L L := h
theorem RatX.pos {w : World} {v : Value} {p : Int} {q L D : Nat} (h : RatX w v p q L D) : 0 < q := by
  obtain ⟨_, _, _, _, _, _, _, _, _, _, _, h⟩ := h
  rw [h]; split <;> omega
theorem RatX.below {w w' : World} {v : Value} {p : Int} {q L D : Nat} (h : RatX w v p q L D) (hb : Below w.heap.size w w') : RatX w' v p q L D := by
  obtain ⟨a, b, c, d, e, h1, h2, h3, h4, h5, h6, h7⟩ := h
  exact ⟨a, b, c, d, e, h1, h2.below hb, h3.below hb, h4, h5, h6, h7⟩
theorem RatX.show_ {w : World} {v : Value} {p : Int} {q L D : Nat} (h : RatX w v p q L D) : ∃ ng A n c B m d, v = .agg #[.bool ng, .slice A n c, .slice B m d] := by
  obtain ⟨ng, mv, ls, dv, ld, rfl, h1, h2, _⟩ := h
  obtain ⟨⟨A, cA, rfl, _, _, _⟩, _⟩ := h1
  obtain ⟨⟨B, cB, rfl, _, _, _⟩, _⟩ := h2
  exact ⟨ng, A, _, cA, B, _, cB, rfl⟩
theorem RatF.widX {b : Nat} {w : World} {v : Value} {p : Int} {q L L' D : Nat} (h : RatF b w v p q L) (h0 : 0 < q) (hp : p.natAbs < bp L') (hq : q < bp D) : RatX w v p q L' D := by
  obtain ⟨mv, dv, rfl, hm, hd, _, _⟩ := h
  obtain ⟨ls, h1, _, h3, h4⟩ := hm.short hp
  obtain ⟨ld, k1, _, k3, k4⟩ := hd.short hq
  refine ⟨_, mv, ls, dv, ld, rfl, h1, k1, h4, k4, ?_, ?_⟩
  · rw [k3, if_neg (by omega), h3]
    unfold sg
    split
    · rename_i h; have := of_decide_eq_true h; omega
    · rename_i h; have : ¬ p < 0 := by simpa using h
      omega
  · rw [k3, if_neg (by omega)]

set_option maxHeartbeats 4000000 in
theorem r3top_wide (v : Value) (p : Int) (q L D : Nat) (w : World) (h : RatX w v p q L D) (hL : 2 ≤ L) (hM : L ≤ 70368744177664) (hD : D ≤ 70368744177664) :
    Calls Tryz.prog 40 #[v] w fun e w' => ∃ x, e = .returned x ∧ IntF w.heap.size w' x p L ∧ Below w.heap.size w w' := by
  obtain ⟨neg, mv, ls, dv, ld, rfl, hls, hld, k1, k2, hp, hq⟩ := h
  have HBT := Lib.hid (fun (W : World) (hw : Below w.heap.size w W) => rbits_any dv ld W (hld.below hw) (by omega))
  have HNM := Lib.hid (fun (W : World) (hw : Below w.heap.size w W) => r2norm_core neg mv ls W (hls.below hw) (by omega))
  obtain ⟨⟨A, c, rfl, _, _, _⟩, _⟩ := hls
  obtain ⟨⟨B, d, rfl, _, _, _⟩, _⟩ := hld
  obtain ⟨n, hn⟩ : ∃ n, ls.length = n := ⟨_, rfl⟩
  obtain ⟨m, hm⟩ : ∃ n, ld.length = n := ⟨_, rfl⟩
  rw [hn] at HNM k1 ⊢
  rw [hm] at HBT k2 ⊢
  clear hn hm hq
  by_cases hz : val ld = 0
  · have HP : Hid (p = 0) := by unfold Hid; rw [hp, if_pos hz]
    rw [(bitL_iff _).2 hz] at HBT
    clear hp hz HNM
    obtain ⟨W0, hW0⟩ : ∃ W0 : World, W0 = (w.alloc (.cells #[.bool neg, .slice A n c, .slice B m d] 28)).alloc (.cells #[.bool false, .slice none 0 0] 26) := ⟨_, rfl⟩
    have r0 : Row W0 w.heap.size 28 [.bool neg, .slice A n c, .slice B m d] := by
      rw [hW0]
      have := Row.alloc (Row.new w 28 [.bool neg, .slice A n c, .slice B m d]) (.cells #[.bool false, .slice none 0 0] 26)
      simpa using this
    have r1 : Row W0 (w.heap.size + 1) 26 [.bool false, .slice none 0 0] := by
      rw [hW0]
      have := Row.new (w.alloc (.cells #[.bool neg, .slice A n c, .slice B m d] 28)) 26 [.bool false, .slice none 0 0]
      simpa using this
    have B0 : Below w.heap.size w W0 := by rw [hW0]; exact (((Below.refl _ _).alloc (Nat.le_refl _) _).alloc (by simp) _)
    go_enter Tryz.func40, Tryz.ntmps40
    go_wp2_with fail
    rw [← hW0]
    clear hW0
    have BB := B0
    have hr1 := r0
    have hr2 := r1
    clear B0 r0 r1
    have c10 : W0.cell? ⟨w.heap.size, 0, none⟩ = some (.bool neg) := hr1.cell 0
    have c11 : W0.cell? ⟨w.heap.size, 1, none⟩ = some (.slice A n c) := hr1.cell 1
    have c12 : W0.cell? ⟨w.heap.size, 2, none⟩ = some (.slice B m d) := hr1.cell 2
    have c20 : W0.cell? ⟨w.heap.size + 1, 0, none⟩ = some (.bool false) := hr2.cell 0
    have c21 : W0.cell? ⟨w.heap.size + 1, 1, none⟩ = some (.slice none 0 0) := hr2.cell 1
    have f20 : W0.frozen? ⟨w.heap.size + 1, 0, none⟩ = false := hr2.frozen 0
    have f21 : W0.frozen? ⟨w.heap.size + 1, 1, none⟩ = false := hr2.frozen 1
    have z1 := hr1.lt
    have z2 := hr2.lt
    go_wp2_with fail
    clear c10 c11 c12 c20 c21 f20 f21 z1 z2
    refine (HBT.out _ BB).mono ?_
    rintro e x1 ⟨rfl, hb⟩
    replace hr1 := hr1.keep hb
    replace hr2 := hr2.keep hb
    replace BB : Below w.heap.size w x1 := BB.trans (hb.mono BB.size)
    clear hb
    have c10 : x1.cell? ⟨w.heap.size, 0, none⟩ = some (.bool neg) := hr1.cell 0
    have c11 : x1.cell? ⟨w.heap.size, 1, none⟩ = some (.slice A n c) := hr1.cell 1
    have c12 : x1.cell? ⟨w.heap.size, 2, none⟩ = some (.slice B m d) := hr1.cell 2
    have c20 : x1.cell? ⟨w.heap.size + 1, 0, none⟩ = some (.bool false) := hr2.cell 0
    have c21 : x1.cell? ⟨w.heap.size + 1, 1, none⟩ = some (.slice none 0 0) := hr2.cell 1
    have f20 : x1.frozen? ⟨w.heap.size + 1, 0, none⟩ = false := hr2.frozen 0
    have f21 : x1.frozen? ⟨w.heap.size + 1, 1, none⟩ = false := hr2.frozen 1
    have z1 := hr1.lt
    have z2 := hr2.lt
    go_wp2_with fail
    clear c10 c11 c12 c20 c21 f20 f21 z1 z2
    refine (r2of_any 0 _ (by decide) (by decide)).mono ?_
    have yy2 := hr2.lt
    rintro e x2 ⟨v3, rfl, hv3, hb⟩
    replace hr1 := hr1.keep hb
    replace hr2 := hr2.keep hb
    replace BB : Below w.heap.size w x2 := BB.trans (hb.mono BB.size)
    clear hb
    obtain ⟨m3, rfl, hn3, hf3⟩ := hv3
    obtain ⟨A3, k3, c3, rfl, _, _⟩ := natAt_pos hn3
    have c10 : x2.cell? ⟨w.heap.size, 0, none⟩ = some (.bool neg) := hr1.cell 0
    have c11 : x2.cell? ⟨w.heap.size, 1, none⟩ = some (.slice A n c) := hr1.cell 1
    have c12 : x2.cell? ⟨w.heap.size, 2, none⟩ = some (.slice B m d) := hr1.cell 2
    have c20 : x2.cell? ⟨w.heap.size + 1, 0, none⟩ = some (.bool false) := hr2.cell 0
    have c21 : x2.cell? ⟨w.heap.size + 1, 1, none⟩ = some (.slice none 0 0) := hr2.cell 1
    have f20 : x2.frozen? ⟨w.heap.size + 1, 0, none⟩ = false := hr2.frozen 0
    have f21 : x2.frozen? ⟨w.heap.size + 1, 1, none⟩ = false := hr2.frozen 1
    have z1 := hr1.lt
    have z2 := hr2.lt
    have hf4 : Fresh (w.heap.size + 2) (.slice A3 k3 c3) := hf3.mono (by omega)
    clear hf3
    go_wp2_with fail
    refine bodyPost_ret (v := .agg #[.bool (decide ((0 : Int) < 0)), .slice A3 k3 c3]) (by simp [results, Tryz.results40, go_sem, c20, c21]) rfl ⟨_, rfl, ⟨_, by rw [HP.out], ?_, hf4.mono (by omega)⟩, (BB.setCell (by simp) _).setCell (by simp) _⟩
    rw [HP.out]
    exact (((hn3.mono (by omega)).set_ hf4 (by simp) _).set_ hf4 (by simp) _)
  · have HP : Hid (p = sg neg (val ls)) := by unfold Hid; rw [hp, if_neg hz]
    have hbz : bitL (val ld) ≠ 0 := fun h => hz ((bitL_iff _).1 h)
    obtain ⟨bl, hbl⟩ : ∃ b, bitL (val ld) = b := ⟨_, rfl⟩
    rw [hbl] at HBT hbz
    have t0 : ((bl : Int) == 0) = false := by rw [beq_eq_false_iff_ne]; omega
    have t00 : (bl == 0) = false := by rw [beq_eq_false_iff_ne]; omega
    clear hp hz hbl
    obtain ⟨W0, hW0⟩ : ∃ W0 : World, W0 = (w.alloc (.cells #[.bool neg, .slice A n c, .slice B m d] 28)).alloc (.cells #[.bool false, .slice none 0 0] 26) := ⟨_, rfl⟩
    have r0 : Row W0 w.heap.size 28 [.bool neg, .slice A n c, .slice B m d] := by
      rw [hW0]
      have := Row.alloc (Row.new w 28 [.bool neg, .slice A n c, .slice B m d]) (.cells #[.bool false, .slice none 0 0] 26)
      simpa using this
    have r1 : Row W0 (w.heap.size + 1) 26 [.bool false, .slice none 0 0] := by
      rw [hW0]
      have := Row.new (w.alloc (.cells #[.bool neg, .slice A n c, .slice B m d] 28)) 26 [.bool false, .slice none 0 0]
      simpa using this
    have B0 : Below w.heap.size w W0 := by rw [hW0]; exact (((Below.refl _ _).alloc (Nat.le_refl _) _).alloc (by simp) _)
    go_enter Tryz.func40, Tryz.ntmps40
    go_wp2_with fail
    rw [← hW0]
    clear hW0
    have BB := B0
    have hr1 := r0
    have hr2 := r1
    clear B0 r0 r1
    have c10 : W0.cell? ⟨w.heap.size, 0, none⟩ = some (.bool neg) := hr1.cell 0
    have c11 : W0.cell? ⟨w.heap.size, 1, none⟩ = some (.slice A n c) := hr1.cell 1
    have c12 : W0.cell? ⟨w.heap.size, 2, none⟩ = some (.slice B m d) := hr1.cell 2
    have c20 : W0.cell? ⟨w.heap.size + 1, 0, none⟩ = some (.bool false) := hr2.cell 0
    have c21 : W0.cell? ⟨w.heap.size + 1, 1, none⟩ = some (.slice none 0 0) := hr2.cell 1
    have f20 : W0.frozen? ⟨w.heap.size + 1, 0, none⟩ = false := hr2.frozen 0
    have f21 : W0.frozen? ⟨w.heap.size + 1, 1, none⟩ = false := hr2.frozen 1
    have z1 := hr1.lt
    have z2 := hr2.lt
    go_wp2_with fail
    clear c10 c11 c12 c20 c21 f20 f21 z1 z2
    refine (HBT.out _ BB).mono ?_
    rintro e x1 ⟨rfl, hb⟩
    replace hr1 := hr1.keep hb
    replace hr2 := hr2.keep hb
    replace BB : Below w.heap.size w x1 := BB.trans (hb.mono BB.size)
    clear hb
    have c10 : x1.cell? ⟨w.heap.size, 0, none⟩ = some (.bool neg) := hr1.cell 0
    have c11 : x1.cell? ⟨w.heap.size, 1, none⟩ = some (.slice A n c) := hr1.cell 1
    have c12 : x1.cell? ⟨w.heap.size, 2, none⟩ = some (.slice B m d) := hr1.cell 2
    have c20 : x1.cell? ⟨w.heap.size + 1, 0, none⟩ = some (.bool false) := hr2.cell 0
    have c21 : x1.cell? ⟨w.heap.size + 1, 1, none⟩ = some (.slice none 0 0) := hr2.cell 1
    have f20 : x1.frozen? ⟨w.heap.size + 1, 0, none⟩ = false := hr2.frozen 0
    have f21 : x1.frozen? ⟨w.heap.size + 1, 1, none⟩ = false := hr2.frozen 1
    have z1 := hr1.lt
    have z2 := hr2.lt
    go_wp2_with fail
    clear c10 c11 c12 c20 c21 f20 f21 z1 z2
    refine (HNM.out _ BB).mono ?_
    have yy2 := hr2.lt
    rintro e x2 ⟨v3, rfl, hv3, hb⟩
    replace hr1 := hr1.keep hb
    replace hr2 := hr2.keep hb
    replace BB : Below w.heap.size w x2 := BB.trans (hb.mono BB.size)
    clear hb
    obtain ⟨m3, rfl, hn3, hf3⟩ := hv3
    obtain ⟨A3, k3, c3, rfl, _, _⟩ := natAt_pos hn3
    have c10 : x2.cell? ⟨w.heap.size, 0, none⟩ = some (.bool neg) := hr1.cell 0
    have c11 : x2.cell? ⟨w.heap.size, 1, none⟩ = some (.slice A n c) := hr1.cell 1
    have c12 : x2.cell? ⟨w.heap.size, 2, none⟩ = some (.slice B m d) := hr1.cell 2
    have c20 : x2.cell? ⟨w.heap.size + 1, 0, none⟩ = some (.bool false) := hr2.cell 0
    have c21 : x2.cell? ⟨w.heap.size + 1, 1, none⟩ = some (.slice none 0 0) := hr2.cell 1
    have f20 : x2.frozen? ⟨w.heap.size + 1, 0, none⟩ = false := hr2.frozen 0
    have f21 : x2.frozen? ⟨w.heap.size + 1, 1, none⟩ = false := hr2.frozen 1
    have z1 := hr1.lt
    have z2 := hr2.lt
    have hf4 : Fresh (w.heap.size + 2) (.slice A3 k3 c3) := hf3.mono (by omega)
    clear hf3
    go_wp2_with fail
    refine bodyPost_ret (v := .agg #[.bool (decide (sg neg (val ls) < 0)), .slice A3 k3 c3]) (by simp [results, Tryz.results40, go_sem, c20, c21]) rfl ⟨_, rfl, ⟨_, by rw [HP.out], ?_, hf4.mono (by omega)⟩, (BB.setCell (by simp) _).setCell (by simp) _⟩
    rw [HP.out]
    exact (((hn3.mono (by omega)).set_ hf4 (by simp) _).set_ hf4 (by simp) _)

set_option maxHeartbeats 4000000 in
theorem r3low_wide (v : Value) (p : Int) (q L D : Nat) (w : World) (h : RatX w v p q L D) (hL : 2 ≤ D) (hM : L ≤ 70368744177664) (hD : D ≤ 70368744177664) :
    Calls Tryz.prog 43 #[v] w fun e w' => ∃ x, e = .returned x ∧ NatAt w' x q D ∧ Fresh w.heap.size x ∧ Below w.heap.size w w' := by
  obtain ⟨neg, mv, ls, dv, ld, rfl, hls, hld, k1, k2, hp, hq⟩ := h
  have HBT := Lib.hid (fun (W : World) (hw : Below w.heap.size w W) => rbits_any dv ld W (hld.below hw) (by omega))
  have HNM := Lib.hid (fun (W : World) (hw : Below w.heap.size w W) => rnorm_any dv ld W (hld.below hw) (by omega))
  obtain ⟨⟨A, c, rfl, _, _, _⟩, _⟩ := hls
  obtain ⟨⟨B, d, rfl, _, _, _⟩, _⟩ := hld
  obtain ⟨n, hn⟩ : ∃ n, ls.length = n := ⟨_, rfl⟩
  obtain ⟨m, hm⟩ : ∃ n, ld.length = n := ⟨_, rfl⟩
  rw [hn]
  rw [hm] at HBT HNM k2 ⊢
  clear hn hm hp
  by_cases hz : val ld = 0
  · have HQ : Hid (q = 1) := by unfold Hid; rw [hq, if_pos hz]
    rw [(bitL_iff _).2 hz] at HBT
    clear hq hz HNM
    obtain ⟨W0, hW0⟩ : ∃ W0 : World, W0 = w.alloc (.cells #[.bool neg, .slice A n c, .slice B m d] 28) := ⟨_, rfl⟩
    have r0 : Row W0 w.heap.size 28 [.bool neg, .slice A n c, .slice B m d] := by
      rw [hW0]
      have := Row.new w 28 [.bool neg, .slice A n c, .slice B m d]
      simpa using this
    have B0 : Below w.heap.size w W0 := by rw [hW0]; exact ((Below.refl _ _).alloc (Nat.le_refl _) _)
    go_enter Tryz.func43, Tryz.ntmps43
    go_wp2_with fail
    rw [← hW0]
    clear hW0
    have BB := B0
    have hr1 := r0
    clear B0 r0
    have c10 : W0.cell? ⟨w.heap.size, 0, none⟩ = some (.bool neg) := hr1.cell 0
    have c11 : W0.cell? ⟨w.heap.size, 1, none⟩ = some (.slice A n c) := hr1.cell 1
    have c12 : W0.cell? ⟨w.heap.size, 2, none⟩ = some (.slice B m d) := hr1.cell 2
    have z1 := hr1.lt
    go_wp2_with fail
    clear c10 c11 c12 z1
    refine (HBT.out _ BB).mono ?_
    rintro e x1 ⟨rfl, hb⟩
    replace hr1 := hr1.keep hb
    replace BB : Below w.heap.size w x1 := BB.trans (hb.mono BB.size)
    clear hb
    have c10 : x1.cell? ⟨w.heap.size, 0, none⟩ = some (.bool neg) := hr1.cell 0
    have c11 : x1.cell? ⟨w.heap.size, 1, none⟩ = some (.slice A n c) := hr1.cell 1
    have c12 : x1.cell? ⟨w.heap.size, 2, none⟩ = some (.slice B m d) := hr1.cell 2
    have z1 := hr1.lt
    go_wp2_with fail
    clear c10 c11 c12 z1
    refine (rof_any 1 _ (by decide)).mono ?_
    rintro e wz ⟨v3, rfl, hN⟩
    go_wp2_with fail
    go_ret
    exact ⟨v3, rfl, by rw [HQ.out]; exact hN.nat.mono (by omega), hN.fresh.mono BB.size, BB.trans (hN.bel.mono BB.size)⟩
  · have HQ : Hid (q = val ld) := by unfold Hid; rw [hq, if_neg hz]
    have hbz : bitL (val ld) ≠ 0 := fun h => hz ((bitL_iff _).1 h)
    obtain ⟨bl, hbl⟩ : ∃ b, bitL (val ld) = b := ⟨_, rfl⟩
    rw [hbl] at HBT hbz
    have t0 : ((bl : Int) == 0) = false := by rw [beq_eq_false_iff_ne]; omega
    have t00 : (bl == 0) = false := by rw [beq_eq_false_iff_ne]; omega
    clear hq hz hbl
    obtain ⟨W0, hW0⟩ : ∃ W0 : World, W0 = w.alloc (.cells #[.bool neg, .slice A n c, .slice B m d] 28) := ⟨_, rfl⟩
    have r0 : Row W0 w.heap.size 28 [.bool neg, .slice A n c, .slice B m d] := by
      rw [hW0]
      have := Row.new w 28 [.bool neg, .slice A n c, .slice B m d]
      simpa using this
    have B0 : Below w.heap.size w W0 := by rw [hW0]; exact ((Below.refl _ _).alloc (Nat.le_refl _) _)
    go_enter Tryz.func43, Tryz.ntmps43
    go_wp2_with fail
    rw [← hW0]
    clear hW0
    have BB := B0
    have hr1 := r0
    clear B0 r0
    have c10 : W0.cell? ⟨w.heap.size, 0, none⟩ = some (.bool neg) := hr1.cell 0
    have c11 : W0.cell? ⟨w.heap.size, 1, none⟩ = some (.slice A n c) := hr1.cell 1
    have c12 : W0.cell? ⟨w.heap.size, 2, none⟩ = some (.slice B m d) := hr1.cell 2
    have z1 := hr1.lt
    go_wp2_with fail
    clear c10 c11 c12 z1
    refine (HBT.out _ BB).mono ?_
    rintro e x1 ⟨rfl, hb⟩
    replace hr1 := hr1.keep hb
    replace BB : Below w.heap.size w x1 := BB.trans (hb.mono BB.size)
    clear hb
    have c10 : x1.cell? ⟨w.heap.size, 0, none⟩ = some (.bool neg) := hr1.cell 0
    have c11 : x1.cell? ⟨w.heap.size, 1, none⟩ = some (.slice A n c) := hr1.cell 1
    have c12 : x1.cell? ⟨w.heap.size, 2, none⟩ = some (.slice B m d) := hr1.cell 2
    have z1 := hr1.lt
    go_wp2_with fail
    clear c10 c11 c12 z1
    refine (HNM.out _ BB).mono ?_
    rintro e wz ⟨v3, rfl, hN⟩
    go_wp2_with fail
    go_ret
    exact ⟨v3, rfl, by rw [HQ.out]; exact hN.nat.mono (by omega), hN.fresh.mono BB.size, BB.trans (hN.bel.mono BB.size)⟩

set_option maxHeartbeats 16000000 in
theorem r3mul_wide (v u : Value) (p p' : Int) (q q' L D L' D' N : Nat) (w : World) (ha : RatX w v p q L D) (hb : RatX w u p' q' L' D') (hL2 : 2 ≤ L) (hD2 : 2 ≤ D) (hL2' : 2 ≤ L') (hD2' : 2 ≤ D') (hm1 : L + L' ≤ N) (hm2 : D + D' ≤ N) (hN : N ≤ 70368744177600) :
    Calls Tryz.prog 50 #[v, u] w fun e w' => ∃ x, e = .returned x ∧ RatF w.heap.size w' x (redP (p * p') (q * q')) (redQ (p * p') (q * q')) N ∧ Below w.heap.size w w' := by
  have bL : L ≤ 70368744177664 := by omega
  have bD : D ≤ 70368744177664 := by omega
  have bL' : L' ≤ 70368744177664 := by omega
  have bD' : D' ≤ 70368744177664 := by omega
  have ha0 := ha
  obtain ⟨na, A, n, c, B, m, d, rfl⟩ := ha0.show_
  clear ha0
  have hb0 := hb
  obtain ⟨nb, A', n', c', B', m', d', rfl⟩ := hb0.show_
  clear hb0
  obtain ⟨W0, hW0⟩ : ∃ W0 : World, W0 = ((w.alloc (.cells #[.bool na, .slice A n c, .slice B m d] 28)).alloc (.cells #[.bool nb, .slice A' n' c', .slice B' m' d'] 28)).alloc (.cells #[.bool false, .slice none 0 0, .slice none 0 0] 28) := ⟨_, rfl⟩
  have r0 : Row W0 w.heap.size 28 [.bool na, .slice A n c, .slice B m d] := by
    rw [hW0]
    have := Row.alloc (Row.alloc (Row.new w 28 [.bool na, .slice A n c, .slice B m d]) (.cells #[.bool nb, .slice A' n' c', .slice B' m' d'] 28)) (.cells #[.bool false, .slice none 0 0, .slice none 0 0] 28)
    simpa using this
  have r1 : Row W0 (w.heap.size + 1) 28 [.bool nb, .slice A' n' c', .slice B' m' d'] := by
    rw [hW0]
    have := Row.alloc (Row.new (w.alloc (.cells #[.bool na, .slice A n c, .slice B m d] 28)) 28 [.bool nb, .slice A' n' c', .slice B' m' d']) (.cells #[.bool false, .slice none 0 0, .slice none 0 0] 28)
    simpa using this
  have r2 : Row W0 (w.heap.size + 2) 28 [.bool false, .slice none 0 0, .slice none 0 0] := by
    rw [hW0]
    have := Row.new ((w.alloc (.cells #[.bool na, .slice A n c, .slice B m d] 28)).alloc (.cells #[.bool nb, .slice A' n' c', .slice B' m' d'] 28)) 28 [.bool false, .slice none 0 0, .slice none 0 0]
    simpa using this
  have B0 : Below w.heap.size w W0 := by rw [hW0]; exact ((((Below.refl _ _).alloc (Nat.le_refl _) _).alloc (by simp) _).alloc (by simp; omega) _)
  go_enter Tryz.func50, Tryz.ntmps50
  go_wp2_with fail
  rw [← hW0]
  clear hW0
  have BB := B0
  have hr1 := r0
  have hr2 := r1
  have hr3 : Row W0 (w.heap.size + 1 + 1) 28 [.bool false, .slice none 0 0, .slice none 0 0] := r2
  clear B0 r0 r1 r2
  replace ha := ha.below BB
  replace hb := hb.below BB
  have c10 : W0.cell? ⟨w.heap.size, 0, none⟩ = some (.bool na) := hr1.cell 0
  have c11 : W0.cell? ⟨w.heap.size, 1, none⟩ = some (.slice A n c) := hr1.cell 1
  have c12 : W0.cell? ⟨w.heap.size, 2, none⟩ = some (.slice B m d) := hr1.cell 2
  have c20 : W0.cell? ⟨w.heap.size + 1, 0, none⟩ = some (.bool nb) := hr2.cell 0
  have c21 : W0.cell? ⟨w.heap.size + 1, 1, none⟩ = some (.slice A' n' c') := hr2.cell 1
  have c22 : W0.cell? ⟨w.heap.size + 1, 2, none⟩ = some (.slice B' m' d') := hr2.cell 2
  have c30 : W0.cell? ⟨w.heap.size + 1 + 1, 0, none⟩ = some (.bool false) := hr3.cell 0
  have c31 : W0.cell? ⟨w.heap.size + 1 + 1, 1, none⟩ = some (.slice none 0 0) := hr3.cell 1
  have c32 : W0.cell? ⟨w.heap.size + 1 + 1, 2, none⟩ = some (.slice none 0 0) := hr3.cell 2
  have f30 : W0.frozen? ⟨w.heap.size + 1 + 1, 0, none⟩ = false := hr3.frozen 0
  have f31 : W0.frozen? ⟨w.heap.size + 1 + 1, 1, none⟩ = false := hr3.frozen 1
  have f32 : W0.frozen? ⟨w.heap.size + 1 + 1, 2, none⟩ = false := hr3.frozen 2
  have z1 := hr1.lt
  have z2 := hr2.lt
  have z3 := hr3.lt
  go_wp2_with fail
  have qs0 : W0.cell? ⟨w.heap.size, 0, none⟩ = some (.bool na) := hr1.cell 0
  have zs0 : (⟨w.heap.size, 0, none⟩ : Addr).block < w.heap.size + 1 + 1 := (by show w.heap.size < w.heap.size + 1 + 1; omega)
  have qs1 : W0.cell? ⟨w.heap.size, 1, none⟩ = some (.slice A n c) := hr1.cell 1
  have zs1 : (⟨w.heap.size, 1, none⟩ : Addr).block < w.heap.size + 1 + 1 := (by show w.heap.size < w.heap.size + 1 + 1; omega)
  have qs2 : W0.cell? ⟨w.heap.size, 2, none⟩ = some (.slice B m d) := hr1.cell 2
  have zs2 : (⟨w.heap.size, 2, none⟩ : Addr).block < w.heap.size + 1 + 1 := (by show w.heap.size < w.heap.size + 1 + 1; omega)
  have qs3 : W0.cell? ⟨w.heap.size + 1, 0, none⟩ = some (.bool nb) := hr2.cell 0
  have zs3 : (⟨w.heap.size + 1, 0, none⟩ : Addr).block < w.heap.size + 1 + 1 := (by show w.heap.size + 1 < w.heap.size + 1 + 1; omega)
  have qs4 : W0.cell? ⟨w.heap.size + 1, 1, none⟩ = some (.slice A' n' c') := hr2.cell 1
  have zs4 : (⟨w.heap.size + 1, 1, none⟩ : Addr).block < w.heap.size + 1 + 1 := (by show w.heap.size + 1 < w.heap.size + 1 + 1; omega)
  have qs5 : W0.cell? ⟨w.heap.size + 1, 2, none⟩ = some (.slice B' m' d') := hr2.cell 2
  have zs5 : (⟨w.heap.size + 1, 2, none⟩ : Addr).block < w.heap.size + 1 + 1 := (by show w.heap.size + 1 < w.heap.size + 1 + 1; omega)
  have zr : w.heap.size + 1 + 1 < W0.heap.size := hr3.lt
  have HK : w.heap.size + 1 + 1 ≤ W0.heap.size := Nat.le_of_lt zr
  go_region_held3 (fun w' => w'.cell? ⟨w.heap.size, 0, none⟩ = some (.bool na) ∧ w'.cell? ⟨w.heap.size, 1, none⟩ = some (.slice A n c) ∧ w'.cell? ⟨w.heap.size, 2, none⟩ = some (.slice B m d) ∧ w'.cell? ⟨w.heap.size + 1, 0, none⟩ = some (.bool nb) ∧ w'.cell? ⟨w.heap.size + 1, 1, none⟩ = some (.slice A' n' c') ∧ w'.cell? ⟨w.heap.size + 1, 2, none⟩ = some (.slice B' m' d'))
    ((refine keepR6 zs0 zs1 zs2 zs3 zs4 zs5 qs0 qs1 qs2 qs3 qs4 qs5 ?_; (repeat (first | with_reducible exact Below.refl _ _ | with_reducible refine bwR_call HK h11 ?_ | with_reducible refine bwR_call HK h10 ?_ | with_reducible refine bwR_call HK h9 ?_ | with_reducible refine bwR_call HK h8 ?_ | with_reducible refine bwR_call HK h7 ?_ | with_reducible refine bwR_call HK h6 ?_ | with_reducible refine bwR_call HK h5 ?_ | ((with_reducible refine bwR_set ?_ ?_ _); rotate_left; exact Nat.le_refl _) | with_reducible refine bwR_drew ?_)); done))
    (first
      | (go_at_call 40; ((with_reducible refine (r3top_wide _ p q L D _ (ha.below ?_) hL2 bL bD).mono ?_); (repeat (first | with_reducible exact Below.refl _ _ | with_reducible refine bl_call h11 ?_ | with_reducible refine bl_call h10 ?_ | with_reducible refine bl_call h9 ?_ | with_reducible refine bl_call h8 ?_ | with_reducible refine bl_call h7 ?_ | with_reducible refine bl_call h6 ?_ | with_reducible refine bl_call h5 ?_ | with_reducible refine bl_alloc ?_ _ | with_reducible refine bl_drew ?_)); rintro e w5 ⟨v5, rfl, hv5, h5⟩))
      | (go_at_call 40; ((with_reducible refine (r3top_wide _ p' q' L' D' _ (hb.below ?_) hL2' bL' bD').mono ?_); (repeat (first | with_reducible exact Below.refl _ _ | with_reducible refine bl_call h11 ?_ | with_reducible refine bl_call h10 ?_ | with_reducible refine bl_call h9 ?_ | with_reducible refine bl_call h8 ?_ | with_reducible refine bl_call h7 ?_ | with_reducible refine bl_call h6 ?_ | with_reducible refine bl_call h5 ?_ | with_reducible refine bl_alloc ?_ _ | with_reducible refine bl_drew ?_)); rintro e w6 ⟨v6, rfl, hv6, h6⟩))
      | (go_at_call 41; ((with_reducible refine (r2mul_wide _ _ p p' L L' _ (hv5.intA.below ?_) (hv6.intA.below ?_) (by omega)).mono ?_); (repeat (first | with_reducible exact Below.refl _ _ | with_reducible refine bl_call h11 ?_ | with_reducible refine bl_call h10 ?_ | with_reducible refine bl_call h9 ?_ | with_reducible refine bl_call h8 ?_ | with_reducible refine bl_call h7 ?_ | with_reducible refine bl_call h6 ?_ | with_reducible refine bl_call h5 ?_ | with_reducible refine bl_alloc ?_ _ | with_reducible refine bl_drew ?_)); (repeat (first | with_reducible exact Below.refl _ _ | with_reducible refine bl_call h11 ?_ | with_reducible refine bl_call h10 ?_ | with_reducible refine bl_call h9 ?_ | with_reducible refine bl_call h8 ?_ | with_reducible refine bl_call h7 ?_ | with_reducible refine bl_call h6 ?_ | with_reducible refine bl_call h5 ?_ | with_reducible refine bl_alloc ?_ _ | with_reducible refine bl_drew ?_)); rintro e w7 ⟨v7, rfl, hv7, h7⟩))
      | (go_at_call 43; ((with_reducible refine (r3low_wide _ p q L D _ (ha.below ?_) hD2 bL bD).mono ?_); (repeat (first | with_reducible exact Below.refl _ _ | with_reducible refine bl_call h11 ?_ | with_reducible refine bl_call h10 ?_ | with_reducible refine bl_call h9 ?_ | with_reducible refine bl_call h8 ?_ | with_reducible refine bl_call h7 ?_ | with_reducible refine bl_call h6 ?_ | with_reducible refine bl_call h5 ?_ | with_reducible refine bl_alloc ?_ _ | with_reducible refine bl_drew ?_)); rintro e w8 ⟨v8, rfl, hv8, hf8, h8⟩; obtain ⟨l8, hl8, _, hq8, hk8⟩ := id hv8; have hp8 : 0 < val l8 := (by rw [hq8]; exact ha.pos)))
      | (go_at_call 43; ((with_reducible refine (r3low_wide _ p' q' L' D' _ (hb.below ?_) hD2' bL' bD').mono ?_); (repeat (first | with_reducible exact Below.refl _ _ | with_reducible refine bl_call h11 ?_ | with_reducible refine bl_call h10 ?_ | with_reducible refine bl_call h9 ?_ | with_reducible refine bl_call h8 ?_ | with_reducible refine bl_call h7 ?_ | with_reducible refine bl_call h6 ?_ | with_reducible refine bl_call h5 ?_ | with_reducible refine bl_alloc ?_ _ | with_reducible refine bl_drew ?_)); rintro e w9 ⟨v9, rfl, hv9, hf9, h9⟩; obtain ⟨l9, hl9, _, hq9, hk9⟩ := id hv9; have hp9 : 0 < val l9 := (by rw [hq9]; exact hb.pos)))
      | (go_at_call 67; ((with_reducible refine (rmulN _ _ l8 l9 _ (hl8.below ?_) (hl9.below ?_) (by omega)).mono ?_); (repeat (first | with_reducible exact Below.refl _ _ | with_reducible refine bl_call h11 ?_ | with_reducible refine bl_call h10 ?_ | with_reducible refine bl_call h9 ?_ | with_reducible refine bl_call h8 ?_ | with_reducible refine bl_call h7 ?_ | with_reducible refine bl_call h6 ?_ | with_reducible refine bl_call h5 ?_ | with_reducible refine bl_alloc ?_ _ | with_reducible refine bl_drew ?_)); (repeat (first | with_reducible exact Below.refl _ _ | with_reducible refine bl_call h11 ?_ | with_reducible refine bl_call h10 ?_ | with_reducible refine bl_call h9 ?_ | with_reducible refine bl_call h8 ?_ | with_reducible refine bl_call h7 ?_ | with_reducible refine bl_call h6 ?_ | with_reducible refine bl_call h5 ?_ | with_reducible refine bl_alloc ?_ _ | with_reducible refine bl_drew ?_)); rintro e w10 ⟨v10, rfl, hv10, hf10, h10⟩; obtain ⟨l10, hl10, _, hq10, hk10⟩ := id hv10; rw [hq8, hq9] at hq10; have hp10 : 0 < val l10 := (by rw [hq10]; exact Nat.mul_pos ha.pos hb.pos)))
      | (go_at_call 71; ((with_reducible refine (r3reduce_any _ _ (p * p') l10 N _ ((hv7.intA.mono hm1).below ?_) (hl10.below ?_) (by omega) (by omega) (by omega) hp10).mono ?_); (repeat (first | with_reducible exact Below.refl _ _ | with_reducible refine bl_call h11 ?_ | with_reducible refine bl_call h10 ?_ | with_reducible refine bl_call h9 ?_ | with_reducible refine bl_call h8 ?_ | with_reducible refine bl_call h7 ?_ | with_reducible refine bl_call h6 ?_ | with_reducible refine bl_call h5 ?_ | with_reducible refine bl_alloc ?_ _ | with_reducible refine bl_drew ?_)); (repeat (first | with_reducible exact Below.refl _ _ | with_reducible refine bl_call h11 ?_ | with_reducible refine bl_call h10 ?_ | with_reducible refine bl_call h9 ?_ | with_reducible refine bl_call h8 ?_ | with_reducible refine bl_call h7 ?_ | with_reducible refine bl_call h6 ?_ | with_reducible refine bl_call h5 ?_ | with_reducible refine bl_alloc ?_ _ | with_reducible refine bl_drew ?_)); rintro e w11 ⟨vz, rfl, hz, h11⟩; rw [hq10] at hz; have hz' := hz; obtain ⟨mz, dz, ez, hmz, hdz, _, _⟩ := hz'; subst ez; obtain ⟨Az, kz, cz, rfl⟩ := hmz.lim1.choose_spec.1.show_; obtain ⟨Dz, lz, bz, rfl⟩ := hdz.lim1.choose_spec.1.show_; clear hmz hdz; have BL : Below W0.heap.size W0 w11 := (by (repeat (first | with_reducible exact Below.refl _ _ | with_reducible refine bl_call h11 ?_ | with_reducible refine bl_call h10 ?_ | with_reducible refine bl_call h9 ?_ | with_reducible refine bl_call h8 ?_ | with_reducible refine bl_call h7 ?_ | with_reducible refine bl_call h6 ?_ | with_reducible refine bl_call h5 ?_ | with_reducible refine bl_alloc ?_ _ | with_reducible refine bl_drew ?_))); have RR := hr3.keep BL; have e0 := RR.cell 0; have e1 := RR.cell 1; have e2 := RR.cell 2; simp only [List.getElem?_cons_zero, List.getElem?_cons_succ] at e0 e1 e2; have f0 := RR.frozen 0; have f1 := RR.frozen 1; have f2 := RR.frozen 2; have zRR := RR.lt)))
  all_goals go_wp2_with fail
  all_goals
    refine bodyPost_ret (v := .agg #[.bool (decide (redP (p * p') (q * q') < 0)), .slice Az kz cz, .slice Dz lz bz]) (by simp [results, Tryz.results50, go_sem, e0, e1, e2]) rfl ⟨_, rfl, ?_, (((BB.trans (BL.mono BB.size)).setCell (by simp <;> omega) _).setCell (by simp <;> omega) _).setCell (by simp <;> omega) _⟩
    exact ((((hz.base (bl_szR (by (repeat (first | with_reducible exact Below.refl _ _ | with_reducible refine bl_call h11 ?_ | with_reducible refine bl_call h10 ?_ | with_reducible refine bl_call h9 ?_ | with_reducible refine bl_call h8 ?_ | with_reducible refine bl_call h7 ?_ | with_reducible refine bl_call h6 ?_ | with_reducible refine bl_call h5 ?_ | with_reducible refine bl_alloc ?_ _ | with_reducible refine bl_drew ?_))))).set_ (a := ⟨w.heap.size + 1 + 1, 0, none⟩) zr _).set_ (a := ⟨w.heap.size + 1 + 1, 1, none⟩) zr _).set_ (a := ⟨w.heap.size + 1 + 1, 2, none⟩) zr _).base (Nat.le_trans (by omega) (Nat.le_of_lt zr))
set_option maxHeartbeats 32000000 in
theorem r3cmp_wide (v u : Value) (p p' : Int) (q q' L D L' D' : Nat) (w : World) (ha : RatX w v p q L D) (hb : RatX w u p' q' L' D') (hL2 : 2 ≤ L) (hD2 : 2 ≤ D) (hL2' : 2 ≤ L') (hD2' : 2 ≤ D') (hm1 : L + D' ≤ 70368744177600) (hm2 : L' + D ≤ 70368744177600) :
    Calls Tryz.prog 17 #[v, u] w fun e w' => e = .returned (.int .i64 (cmpZ (p * (q' : Int)) (p' * (q : Int)))) ∧ Below w.heap.size w w' := by
  have bL : L ≤ 70368744177664 := by omega
  have bD : D ≤ 70368744177664 := by omega
  have bL' : L' ≤ 70368744177664 := by omega
  have bD' : D' ≤ 70368744177664 := by omega
  have hqa := ha.pos
  have hqb := hb.pos
  have ha0 := ha
  obtain ⟨na, A, n, c, B, m, d, rfl⟩ := ha0.show_
  clear ha0
  have hb0 := hb
  obtain ⟨nb, A', n', c', B', m', d', rfl⟩ := hb0.show_
  clear hb0
  obtain ⟨W0, hW0⟩ : ∃ W0 : World, W0 = (w.alloc (.cells #[.bool na, .slice A n c, .slice B m d] 28)).alloc (.cells #[.bool nb, .slice A' n' c', .slice B' m' d'] 28) := ⟨_, rfl⟩
  have r0 : Row W0 w.heap.size 28 [.bool na, .slice A n c, .slice B m d] := by
    rw [hW0]
    have := Row.alloc (Row.new w 28 [.bool na, .slice A n c, .slice B m d]) (.cells #[.bool nb, .slice A' n' c', .slice B' m' d'] 28)
    simpa using this
  have r1 : Row W0 (w.heap.size + 1) 28 [.bool nb, .slice A' n' c', .slice B' m' d'] := by
    rw [hW0]
    have := Row.new (w.alloc (.cells #[.bool na, .slice A n c, .slice B m d] 28)) 28 [.bool nb, .slice A' n' c', .slice B' m' d']
    simpa using this
  have B0 : Below w.heap.size w W0 := by rw [hW0]; exact (((Below.refl _ _).alloc (Nat.le_refl _) _).alloc (by simp) _)
  go_enter Tryz.func17, Tryz.ntmps17
  go_wp2_with fail
  rw [← hW0]
  clear hW0
  have BB := B0
  have hr1 := r0
  have hr2 := r1
  clear B0 r0 r1
  replace ha := ha.below BB
  replace hb := hb.below BB
  have c10 : W0.cell? ⟨w.heap.size, 0, none⟩ = some (.bool na) := hr1.cell 0
  have c11 : W0.cell? ⟨w.heap.size, 1, none⟩ = some (.slice A n c) := hr1.cell 1
  have c12 : W0.cell? ⟨w.heap.size, 2, none⟩ = some (.slice B m d) := hr1.cell 2
  have c20 : W0.cell? ⟨w.heap.size + 1, 0, none⟩ = some (.bool nb) := hr2.cell 0
  have c21 : W0.cell? ⟨w.heap.size + 1, 1, none⟩ = some (.slice A' n' c') := hr2.cell 1
  have c22 : W0.cell? ⟨w.heap.size + 1, 2, none⟩ = some (.slice B' m' d') := hr2.cell 2
  have z1 := hr1.lt
  have z2 := hr2.lt
  go_wp2_with fail
  have qs0 : W0.cell? ⟨w.heap.size, 0, none⟩ = some (.bool na) := hr1.cell 0
  have qs1 : W0.cell? ⟨w.heap.size, 1, none⟩ = some (.slice A n c) := hr1.cell 1
  have qs2 : W0.cell? ⟨w.heap.size, 2, none⟩ = some (.slice B m d) := hr1.cell 2
  have qs3 : W0.cell? ⟨w.heap.size + 1, 0, none⟩ = some (.bool nb) := hr2.cell 0
  have qs4 : W0.cell? ⟨w.heap.size + 1, 1, none⟩ = some (.slice A' n' c') := hr2.cell 1
  have qs5 : W0.cell? ⟨w.heap.size + 1, 2, none⟩ = some (.slice B' m' d') := hr2.cell 2
  have zs0 := hr1.lt
  have zs1 := hr2.lt
  go_cut [5] (fun s0 wx => ∃ (g : Nat) (A5 : Option Addr) (k5 c5 : Nat), s0 = .pointer (some ⟨g, 0, none⟩) ∧ W0.heap.size ≤ g ∧ Row wx g 26 [.bool (decide (p * (q' : Int) < 0)), .slice A5 k5 c5] ∧ IntF W0.heap.size wx (.agg #[.bool (decide (p * (q' : Int) < 0)), .slice A5 k5 c5]) (p * (q' : Int)) (L + D') ∧ Below W0.heap.size W0 wx)
  case first =>
    go_region_held3 (fun w' => w'.cell? ⟨w.heap.size, 0, none⟩ = some (.bool na) ∧ w'.cell? ⟨w.heap.size, 1, none⟩ = some (.slice A n c) ∧ w'.cell? ⟨w.heap.size, 2, none⟩ = some (.slice B m d) ∧ w'.cell? ⟨w.heap.size + 1, 0, none⟩ = some (.bool nb) ∧ w'.cell? ⟨w.heap.size + 1, 1, none⟩ = some (.slice A' n' c') ∧ w'.cell? ⟨w.heap.size + 1, 2, none⟩ = some (.slice B' m' d'))
      ((refine keep6R zs0 zs0 zs0 zs1 zs1 zs1 qs0 qs1 qs2 qs3 qs4 qs5 ?_; (repeat (first | with_reducible exact Below.refl _ _ | ((with_reducible refine bl_set ?_ ?_ _); rotate_left; (first | exact Nat.le_refl _ | exact gz14 | exact gz15 | exact gz16 | exact gz17)) | with_reducible refine bl_call h17 ?_ | with_reducible refine bl_call h16 ?_ | with_reducible refine bl_call h15 ?_ | with_reducible refine bl_call h14 ?_ | with_reducible refine bl_alloc ?_ _ | with_reducible refine bl_drew ?_)); done))
      (first
        | (go_at_call 40; ((with_reducible refine (r3top_wide _ p q L D _ (ha.below ?_) hL2 bL bD).mono ?_); (repeat (first | with_reducible exact Below.refl _ _ | ((with_reducible refine bl_set ?_ ?_ _); rotate_left; (first | exact Nat.le_refl _ | exact gz14 | exact gz15 | exact gz16 | exact gz17)) | with_reducible refine bl_call h17 ?_ | with_reducible refine bl_call h16 ?_ | with_reducible refine bl_call h15 ?_ | with_reducible refine bl_call h14 ?_ | with_reducible refine bl_alloc ?_ _ | with_reducible refine bl_drew ?_)); rintro e w14 ⟨v14, rfl, hv14, h14⟩; have gz14 : W0.heap.size ≤ w14.heap.size := (bl_call h14 (by (repeat (first | with_reducible exact Below.refl _ _ | ((with_reducible refine bl_set ?_ ?_ _); rotate_left; (first | exact Nat.le_refl _ | exact gz14 | exact gz15 | exact gz16 | exact gz17)) | with_reducible refine bl_call h17 ?_ | with_reducible refine bl_call h16 ?_ | with_reducible refine bl_call h15 ?_ | with_reducible refine bl_call h14 ?_ | with_reducible refine bl_alloc ?_ _ | with_reducible refine bl_drew ?_))) : Below W0.heap.size W0 w14).size; (first | (replace RR := RR.keep h14) | (have R0 := Row.drew (Row.new W0 26 [.bool false, .slice none 0 0]); have RR := R0.keep h14; clear R0) | (have R0 := Row.new W0.drew 26 [.bool false, .slice none 0 0]; have RR := R0.keep h14; clear R0) | (have R0 := Row.new W0 26 [.bool false, .slice none 0 0]; have RR := R0.keep h14; clear R0) | (have R0 := Row.new w15 26 [.bool false, .slice none 0 0]; have RR := R0.keep h14; clear R0) | (have R0 := Row.new w16 26 [.bool false, .slice none 0 0]; have RR := R0.keep h14; clear R0) | (have R0 := Row.new w17 26 [.bool false, .slice none 0 0]; have RR := R0.keep h14; clear R0) | skip)))
        | (go_at_call 43; ((with_reducible refine (r3low_wide _ p' q' L' D' _ (hb.below ?_) hD2' bL' bD').mono ?_); (repeat (first | with_reducible exact Below.refl _ _ | ((with_reducible refine bl_set ?_ ?_ _); rotate_left; (first | exact Nat.le_refl _ | exact gz14 | exact gz15 | exact gz16 | exact gz17)) | with_reducible refine bl_call h17 ?_ | with_reducible refine bl_call h16 ?_ | with_reducible refine bl_call h15 ?_ | with_reducible refine bl_call h14 ?_ | with_reducible refine bl_alloc ?_ _ | with_reducible refine bl_drew ?_)); rintro e w15 ⟨v15, rfl, hv15, hf15, h15⟩; have gz15 : W0.heap.size ≤ w15.heap.size := (bl_call h15 (by (repeat (first | with_reducible exact Below.refl _ _ | ((with_reducible refine bl_set ?_ ?_ _); rotate_left; (first | exact Nat.le_refl _ | exact gz14 | exact gz15 | exact gz16 | exact gz17)) | with_reducible refine bl_call h17 ?_ | with_reducible refine bl_call h16 ?_ | with_reducible refine bl_call h15 ?_ | with_reducible refine bl_call h14 ?_ | with_reducible refine bl_alloc ?_ _ | with_reducible refine bl_drew ?_))) : Below W0.heap.size W0 w15).size; (first | (replace RR := RR.keep h15) | (have R0 := Row.drew (Row.new W0 26 [.bool false, .slice none 0 0]); have RR := R0.keep h15; clear R0) | (have R0 := Row.new W0.drew 26 [.bool false, .slice none 0 0]; have RR := R0.keep h15; clear R0) | (have R0 := Row.new W0 26 [.bool false, .slice none 0 0]; have RR := R0.keep h15; clear R0) | (have R0 := Row.new w14 26 [.bool false, .slice none 0 0]; have RR := R0.keep h15; clear R0) | (have R0 := Row.new w16 26 [.bool false, .slice none 0 0]; have RR := R0.keep h15; clear R0) | (have R0 := Row.new w17 26 [.bool false, .slice none 0 0]; have RR := R0.keep h15; clear R0) | skip); obtain ⟨l15, hl15, _, hq15, hk15⟩ := id hv15))
        | (go_at_call 42; ((with_reducible refine (r2make_any false _ l15 _ (hl15.below ?_) (by omega)).mono ?_); (repeat (first | with_reducible exact Below.refl _ _ | ((with_reducible refine bl_set ?_ ?_ _); rotate_left; (first | exact Nat.le_refl _ | exact gz14 | exact gz15 | exact gz16 | exact gz17)) | with_reducible refine bl_call h17 ?_ | with_reducible refine bl_call h16 ?_ | with_reducible refine bl_call h15 ?_ | with_reducible refine bl_call h14 ?_ | with_reducible refine bl_alloc ?_ _ | with_reducible refine bl_drew ?_)); rintro e w16 ⟨v16, rfl, hv16, h16⟩; have gz16 : W0.heap.size ≤ w16.heap.size := (bl_call h16 (by (repeat (first | with_reducible exact Below.refl _ _ | ((with_reducible refine bl_set ?_ ?_ _); rotate_left; (first | exact Nat.le_refl _ | exact gz14 | exact gz15 | exact gz16 | exact gz17)) | with_reducible refine bl_call h17 ?_ | with_reducible refine bl_call h16 ?_ | with_reducible refine bl_call h15 ?_ | with_reducible refine bl_call h14 ?_ | with_reducible refine bl_alloc ?_ _ | with_reducible refine bl_drew ?_))) : Below W0.heap.size W0 w16).size; (first | (replace RR := RR.keep h16) | (have R0 := Row.drew (Row.new W0 26 [.bool false, .slice none 0 0]); have RR := R0.keep h16; clear R0) | (have R0 := Row.new W0.drew 26 [.bool false, .slice none 0 0]; have RR := R0.keep h16; clear R0) | (have R0 := Row.new W0 26 [.bool false, .slice none 0 0]; have RR := R0.keep h16; clear R0) | (have R0 := Row.new w14 26 [.bool false, .slice none 0 0]; have RR := R0.keep h16; clear R0) | (have R0 := Row.new w15 26 [.bool false, .slice none 0 0]; have RR := R0.keep h16; clear R0) | (have R0 := Row.new w17 26 [.bool false, .slice none 0 0]; have RR := R0.keep h16; clear R0) | skip); rw [show sg false (val l15) = (q' : Int) from (by rw [hq15]; rfl)] at hv16))
        | (go_at_call 41; ((with_reducible refine (r2mul_wide _ _ p q' L D' _ (hv14.intA.below ?_) ((hv16.intA.mono hk15).below ?_) (by omega)).mono ?_); (repeat (first | with_reducible exact Below.refl _ _ | ((with_reducible refine bl_set ?_ ?_ _); rotate_left; (first | exact Nat.le_refl _ | exact gz14 | exact gz15 | exact gz16 | exact gz17)) | with_reducible refine bl_call h17 ?_ | with_reducible refine bl_call h16 ?_ | with_reducible refine bl_call h15 ?_ | with_reducible refine bl_call h14 ?_ | with_reducible refine bl_alloc ?_ _ | with_reducible refine bl_drew ?_)); (repeat (first | with_reducible exact Below.refl _ _ | ((with_reducible refine bl_set ?_ ?_ _); rotate_left; (first | exact Nat.le_refl _ | exact gz14 | exact gz15 | exact gz16 | exact gz17)) | with_reducible refine bl_call h17 ?_ | with_reducible refine bl_call h16 ?_ | with_reducible refine bl_call h15 ?_ | with_reducible refine bl_call h14 ?_ | with_reducible refine bl_alloc ?_ _ | with_reducible refine bl_drew ?_)); rintro e w17 ⟨v17, rfl, hR17, h17⟩; have gz17 : W0.heap.size ≤ w17.heap.size := (bl_call h17 (by (repeat (first | with_reducible exact Below.refl _ _ | ((with_reducible refine bl_set ?_ ?_ _); rotate_left; (first | exact Nat.le_refl _ | exact gz14 | exact gz15 | exact gz16 | exact gz17)) | with_reducible refine bl_call h17 ?_ | with_reducible refine bl_call h16 ?_ | with_reducible refine bl_call h15 ?_ | with_reducible refine bl_call h14 ?_ | with_reducible refine bl_alloc ?_ _ | with_reducible refine bl_drew ?_))) : Below W0.heap.size W0 w17).size; (first | (have zg := RR.lt; replace RR := RR.keep h17) | (have R0 := Row.drew (Row.new W0 26 [.bool false, .slice none 0 0]); have zg := R0.lt; have RR := R0.keep h17) | (have R0 := Row.new W0.drew 26 [.bool false, .slice none 0 0]; have zg := R0.lt; have RR := R0.keep h17) | (have R0 := Row.new W0 26 [.bool false, .slice none 0 0]; have zg := R0.lt; have RR := R0.keep h17) | (have R0 := Row.new w14 26 [.bool false, .slice none 0 0]; have zg := R0.lt; have RR := R0.keep h17) | (have R0 := Row.new w15 26 [.bool false, .slice none 0 0]; have zg := R0.lt; have RR := R0.keep h17) | (have R0 := Row.new w16 26 [.bool false, .slice none 0 0]; have zg := R0.lt; have RR := R0.keep h17) | skip); have hR17' := hR17; obtain ⟨m17, e17, hm17, _⟩ := hR17'; subst e17; obtain ⟨A5, k5, c5, rfl⟩ := hm17.lim1.choose_spec.1.show_; clear hm17; (try (have e0 := RR.cell 0; have e1 := RR.cell 1; simp only [List.getElem?_cons_zero, List.getElem?_cons_succ] at e0 e1; have f0 := RR.frozen 0; have f1 := RR.frozen 1)))))
    all_goals go_wp2_with fail
    all_goals go_meet
    all_goals go_light
    all_goals
      refine ⟨_, A5, k5, c5, rfl, ?_, ?_, ?_, ?_⟩
      · (first | exact Nat.le_refl _ | exact gz14 | exact gz15 | exact gz16 | exact gz17)
      · (first | exact Row.new _ _ _ | exact ((RR.set_ 0 _).set_ 1 _))
      · (first | exact (hR17.below (lit_below _ _)).base (bl_szR (by (repeat (first | with_reducible exact Below.refl _ _ | ((with_reducible refine bl_set ?_ ?_ _); rotate_left; (first | exact Nat.le_refl _ | exact gz14 | exact gz15 | exact gz16 | exact gz17)) | with_reducible refine bl_call h17 ?_ | with_reducible refine bl_call h16 ?_ | with_reducible refine bl_call h15 ?_ | with_reducible refine bl_call h14 ?_ | with_reducible refine bl_alloc ?_ _ | with_reducible refine bl_drew ?_)))) | exact (((hR17.set_ zg _).set_ zg _)).base (bl_szR (by (repeat (first | with_reducible exact Below.refl _ _ | ((with_reducible refine bl_set ?_ ?_ _); rotate_left; (first | exact Nat.le_refl _ | exact gz14 | exact gz15 | exact gz16 | exact gz17)) | with_reducible refine bl_call h17 ?_ | with_reducible refine bl_call h16 ?_ | with_reducible refine bl_call h15 ?_ | with_reducible refine bl_call h14 ?_ | with_reducible refine bl_alloc ?_ _ | with_reducible refine bl_drew ?_)))))
      · (repeat (first | with_reducible exact Below.refl _ _ | ((with_reducible refine bl_set ?_ ?_ _); rotate_left; (first | exact Nat.le_refl _ | exact gz14 | exact gz15 | exact gz16 | exact gz17)) | with_reducible refine bl_call h17 ?_ | with_reducible refine bl_call h16 ?_ | with_reducible refine bl_call h15 ?_ | with_reducible refine bl_call h14 ?_ | with_reducible refine bl_alloc ?_ _ | with_reducible refine bl_drew ?_))
  case rest =>
  obtain ⟨g5, A5, k5, c5, rfl, hg5, hr5, hv5, hbc⟩ := hcut
  clear qs0 qs1 qs2 qs3 qs4 qs5 zs0 zs1 c10 c11 c12 c20 c21 c22 z1 z2
  obtain ⟨x1, hx1⟩ : ∃ x, x = wc := ⟨_, rfl⟩
  rw [← hx1] at hr5 hv5 hbc ⊢
  clear hx1
  have o1_5 : w.heap.size < g5 := by have := hr1.lt; omega
  have o2_5 : w.heap.size + 1 < g5 := by have := hr2.lt; omega
  have ob_5 : w.heap.size ≤ g5 := by have := BB.size; omega
  replace hr1 := hr1.keep hbc
  replace hr2 := hr2.keep hbc
  replace ha := ha.below hbc
  replace hb := hb.below hbc
  replace BB : Below w.heap.size w x1 := BB.trans (hbc.mono BB.size)
  clear hbc
  have c10 : x1.cell? ⟨w.heap.size, 0, none⟩ = some (.bool na) := hr1.cell 0
  have c11 : x1.cell? ⟨w.heap.size, 1, none⟩ = some (.slice A n c) := hr1.cell 1
  have c12 : x1.cell? ⟨w.heap.size, 2, none⟩ = some (.slice B m d) := hr1.cell 2
  have c20 : x1.cell? ⟨w.heap.size + 1, 0, none⟩ = some (.bool nb) := hr2.cell 0
  have c21 : x1.cell? ⟨w.heap.size + 1, 1, none⟩ = some (.slice A' n' c') := hr2.cell 1
  have c22 : x1.cell? ⟨w.heap.size + 1, 2, none⟩ = some (.slice B' m' d') := hr2.cell 2
  have c50 : x1.cell? ⟨g5, 0, none⟩ = some (.bool (decide (p * (q' : Int) < 0))) := hr5.cell 0
  have c51 : x1.cell? ⟨g5, 1, none⟩ = some (.slice A5 k5 c5) := hr5.cell 1
  have z1 := hr1.lt
  have z2 := hr2.lt
  have z5 := hr5.lt
  go_wp2_with fail
  have qs0 : x1.cell? ⟨w.heap.size, 0, none⟩ = some (.bool na) := hr1.cell 0
  have qs1 : x1.cell? ⟨w.heap.size, 1, none⟩ = some (.slice A n c) := hr1.cell 1
  have qs2 : x1.cell? ⟨w.heap.size, 2, none⟩ = some (.slice B m d) := hr1.cell 2
  have qs3 : x1.cell? ⟨w.heap.size + 1, 0, none⟩ = some (.bool nb) := hr2.cell 0
  have qs4 : x1.cell? ⟨w.heap.size + 1, 1, none⟩ = some (.slice A' n' c') := hr2.cell 1
  have qs5 : x1.cell? ⟨w.heap.size + 1, 2, none⟩ = some (.slice B' m' d') := hr2.cell 2
  have zs0 := hr1.lt
  have zs1 := hr2.lt
  go_cut [6] (fun s0 wx => ∃ (g : Nat) (A6 : Option Addr) (k6 c6 : Nat), s0 = .pointer (some ⟨g, 0, none⟩) ∧ x1.heap.size ≤ g ∧ Row wx g 26 [.bool (decide (p' * (q : Int) < 0)), .slice A6 k6 c6] ∧ IntF x1.heap.size wx (.agg #[.bool (decide (p' * (q : Int) < 0)), .slice A6 k6 c6]) (p' * (q : Int)) (L' + D) ∧ Below x1.heap.size x1 wx)
  case first =>
    go_region_held3 (fun w' => w'.cell? ⟨w.heap.size, 0, none⟩ = some (.bool na) ∧ w'.cell? ⟨w.heap.size, 1, none⟩ = some (.slice A n c) ∧ w'.cell? ⟨w.heap.size, 2, none⟩ = some (.slice B m d) ∧ w'.cell? ⟨w.heap.size + 1, 0, none⟩ = some (.bool nb) ∧ w'.cell? ⟨w.heap.size + 1, 1, none⟩ = some (.slice A' n' c') ∧ w'.cell? ⟨w.heap.size + 1, 2, none⟩ = some (.slice B' m' d'))
      ((refine keep6R zs0 zs0 zs0 zs1 zs1 zs1 qs0 qs1 qs2 qs3 qs4 qs5 ?_; (repeat (first | with_reducible exact Below.refl _ _ | ((with_reducible refine bl_set ?_ ?_ _); rotate_left; (first | exact Nat.le_refl _ | exact gz14 | exact gz15 | exact gz16 | exact gz17)) | with_reducible refine bl_call h17 ?_ | with_reducible refine bl_call h16 ?_ | with_reducible refine bl_call h15 ?_ | with_reducible refine bl_call h14 ?_ | with_reducible refine bl_alloc ?_ _ | with_reducible refine bl_drew ?_)); done))
      (first
        | (go_at_call 40; ((with_reducible refine (r3top_wide _ p' q' L' D' _ (hb.below ?_) hL2' bL' bD').mono ?_); (repeat (first | with_reducible exact Below.refl _ _ | ((with_reducible refine bl_set ?_ ?_ _); rotate_left; (first | exact Nat.le_refl _ | exact gz14 | exact gz15 | exact gz16 | exact gz17)) | with_reducible refine bl_call h17 ?_ | with_reducible refine bl_call h16 ?_ | with_reducible refine bl_call h15 ?_ | with_reducible refine bl_call h14 ?_ | with_reducible refine bl_alloc ?_ _ | with_reducible refine bl_drew ?_)); rintro e w14 ⟨v14, rfl, hv14, h14⟩; have gz14 : x1.heap.size ≤ w14.heap.size := (bl_call h14 (by (repeat (first | with_reducible exact Below.refl _ _ | ((with_reducible refine bl_set ?_ ?_ _); rotate_left; (first | exact Nat.le_refl _ | exact gz14 | exact gz15 | exact gz16 | exact gz17)) | with_reducible refine bl_call h17 ?_ | with_reducible refine bl_call h16 ?_ | with_reducible refine bl_call h15 ?_ | with_reducible refine bl_call h14 ?_ | with_reducible refine bl_alloc ?_ _ | with_reducible refine bl_drew ?_))) : Below x1.heap.size x1 w14).size; (first | (replace RR := RR.keep h14) | (have R0 := Row.drew (Row.new x1 26 [.bool false, .slice none 0 0]); have RR := R0.keep h14; clear R0) | (have R0 := Row.new x1.drew 26 [.bool false, .slice none 0 0]; have RR := R0.keep h14; clear R0) | (have R0 := Row.new x1 26 [.bool false, .slice none 0 0]; have RR := R0.keep h14; clear R0) | (have R0 := Row.new w15 26 [.bool false, .slice none 0 0]; have RR := R0.keep h14; clear R0) | (have R0 := Row.new w16 26 [.bool false, .slice none 0 0]; have RR := R0.keep h14; clear R0) | (have R0 := Row.new w17 26 [.bool false, .slice none 0 0]; have RR := R0.keep h14; clear R0) | skip)))
        | (go_at_call 43; ((with_reducible refine (r3low_wide _ p q L D _ (ha.below ?_) hD2 bL bD).mono ?_); (repeat (first | with_reducible exact Below.refl _ _ | ((with_reducible refine bl_set ?_ ?_ _); rotate_left; (first | exact Nat.le_refl _ | exact gz14 | exact gz15 | exact gz16 | exact gz17)) | with_reducible refine bl_call h17 ?_ | with_reducible refine bl_call h16 ?_ | with_reducible refine bl_call h15 ?_ | with_reducible refine bl_call h14 ?_ | with_reducible refine bl_alloc ?_ _ | with_reducible refine bl_drew ?_)); rintro e w15 ⟨v15, rfl, hv15, hf15, h15⟩; have gz15 : x1.heap.size ≤ w15.heap.size := (bl_call h15 (by (repeat (first | with_reducible exact Below.refl _ _ | ((with_reducible refine bl_set ?_ ?_ _); rotate_left; (first | exact Nat.le_refl _ | exact gz14 | exact gz15 | exact gz16 | exact gz17)) | with_reducible refine bl_call h17 ?_ | with_reducible refine bl_call h16 ?_ | with_reducible refine bl_call h15 ?_ | with_reducible refine bl_call h14 ?_ | with_reducible refine bl_alloc ?_ _ | with_reducible refine bl_drew ?_))) : Below x1.heap.size x1 w15).size; (first | (replace RR := RR.keep h15) | (have R0 := Row.drew (Row.new x1 26 [.bool false, .slice none 0 0]); have RR := R0.keep h15; clear R0) | (have R0 := Row.new x1.drew 26 [.bool false, .slice none 0 0]; have RR := R0.keep h15; clear R0) | (have R0 := Row.new x1 26 [.bool false, .slice none 0 0]; have RR := R0.keep h15; clear R0) | (have R0 := Row.new w14 26 [.bool false, .slice none 0 0]; have RR := R0.keep h15; clear R0) | (have R0 := Row.new w16 26 [.bool false, .slice none 0 0]; have RR := R0.keep h15; clear R0) | (have R0 := Row.new w17 26 [.bool false, .slice none 0 0]; have RR := R0.keep h15; clear R0) | skip); obtain ⟨l15, hl15, _, hq15, hk15⟩ := id hv15))
        | (go_at_call 42; ((with_reducible refine (r2make_any false _ l15 _ (hl15.below ?_) (by omega)).mono ?_); (repeat (first | with_reducible exact Below.refl _ _ | ((with_reducible refine bl_set ?_ ?_ _); rotate_left; (first | exact Nat.le_refl _ | exact gz14 | exact gz15 | exact gz16 | exact gz17)) | with_reducible refine bl_call h17 ?_ | with_reducible refine bl_call h16 ?_ | with_reducible refine bl_call h15 ?_ | with_reducible refine bl_call h14 ?_ | with_reducible refine bl_alloc ?_ _ | with_reducible refine bl_drew ?_)); rintro e w16 ⟨v16, rfl, hv16, h16⟩; have gz16 : x1.heap.size ≤ w16.heap.size := (bl_call h16 (by (repeat (first | with_reducible exact Below.refl _ _ | ((with_reducible refine bl_set ?_ ?_ _); rotate_left; (first | exact Nat.le_refl _ | exact gz14 | exact gz15 | exact gz16 | exact gz17)) | with_reducible refine bl_call h17 ?_ | with_reducible refine bl_call h16 ?_ | with_reducible refine bl_call h15 ?_ | with_reducible refine bl_call h14 ?_ | with_reducible refine bl_alloc ?_ _ | with_reducible refine bl_drew ?_))) : Below x1.heap.size x1 w16).size; (first | (replace RR := RR.keep h16) | (have R0 := Row.drew (Row.new x1 26 [.bool false, .slice none 0 0]); have RR := R0.keep h16; clear R0) | (have R0 := Row.new x1.drew 26 [.bool false, .slice none 0 0]; have RR := R0.keep h16; clear R0) | (have R0 := Row.new x1 26 [.bool false, .slice none 0 0]; have RR := R0.keep h16; clear R0) | (have R0 := Row.new w14 26 [.bool false, .slice none 0 0]; have RR := R0.keep h16; clear R0) | (have R0 := Row.new w15 26 [.bool false, .slice none 0 0]; have RR := R0.keep h16; clear R0) | (have R0 := Row.new w17 26 [.bool false, .slice none 0 0]; have RR := R0.keep h16; clear R0) | skip); rw [show sg false (val l15) = (q : Int) from (by rw [hq15]; rfl)] at hv16))
        | (go_at_call 41; ((with_reducible refine (r2mul_wide _ _ p' q L' D _ (hv14.intA.below ?_) ((hv16.intA.mono hk15).below ?_) (by omega)).mono ?_); (repeat (first | with_reducible exact Below.refl _ _ | ((with_reducible refine bl_set ?_ ?_ _); rotate_left; (first | exact Nat.le_refl _ | exact gz14 | exact gz15 | exact gz16 | exact gz17)) | with_reducible refine bl_call h17 ?_ | with_reducible refine bl_call h16 ?_ | with_reducible refine bl_call h15 ?_ | with_reducible refine bl_call h14 ?_ | with_reducible refine bl_alloc ?_ _ | with_reducible refine bl_drew ?_)); (repeat (first | with_reducible exact Below.refl _ _ | ((with_reducible refine bl_set ?_ ?_ _); rotate_left; (first | exact Nat.le_refl _ | exact gz14 | exact gz15 | exact gz16 | exact gz17)) | with_reducible refine bl_call h17 ?_ | with_reducible refine bl_call h16 ?_ | with_reducible refine bl_call h15 ?_ | with_reducible refine bl_call h14 ?_ | with_reducible refine bl_alloc ?_ _ | with_reducible refine bl_drew ?_)); rintro e w17 ⟨v17, rfl, hR17, h17⟩; have gz17 : x1.heap.size ≤ w17.heap.size := (bl_call h17 (by (repeat (first | with_reducible exact Below.refl _ _ | ((with_reducible refine bl_set ?_ ?_ _); rotate_left; (first | exact Nat.le_refl _ | exact gz14 | exact gz15 | exact gz16 | exact gz17)) | with_reducible refine bl_call h17 ?_ | with_reducible refine bl_call h16 ?_ | with_reducible refine bl_call h15 ?_ | with_reducible refine bl_call h14 ?_ | with_reducible refine bl_alloc ?_ _ | with_reducible refine bl_drew ?_))) : Below x1.heap.size x1 w17).size; (first | (have zg := RR.lt; replace RR := RR.keep h17) | (have R0 := Row.drew (Row.new x1 26 [.bool false, .slice none 0 0]); have zg := R0.lt; have RR := R0.keep h17) | (have R0 := Row.new x1.drew 26 [.bool false, .slice none 0 0]; have zg := R0.lt; have RR := R0.keep h17) | (have R0 := Row.new x1 26 [.bool false, .slice none 0 0]; have zg := R0.lt; have RR := R0.keep h17) | (have R0 := Row.new w14 26 [.bool false, .slice none 0 0]; have zg := R0.lt; have RR := R0.keep h17) | (have R0 := Row.new w15 26 [.bool false, .slice none 0 0]; have zg := R0.lt; have RR := R0.keep h17) | (have R0 := Row.new w16 26 [.bool false, .slice none 0 0]; have zg := R0.lt; have RR := R0.keep h17) | skip); have hR17' := hR17; obtain ⟨m17, e17, hm17, _⟩ := hR17'; subst e17; obtain ⟨A6, k6, c6, rfl⟩ := hm17.lim1.choose_spec.1.show_; clear hm17; (try (have e0 := RR.cell 0; have e1 := RR.cell 1; simp only [List.getElem?_cons_zero, List.getElem?_cons_succ] at e0 e1; have f0 := RR.frozen 0; have f1 := RR.frozen 1)))))
    all_goals go_wp2_with fail
    all_goals go_meet
    all_goals go_light
    all_goals
      refine ⟨_, A6, k6, c6, rfl, ?_, ?_, ?_, ?_⟩
      · (first | exact Nat.le_refl _ | exact gz14 | exact gz15 | exact gz16 | exact gz17)
      · (first | exact Row.new _ _ _ | exact ((RR.set_ 0 _).set_ 1 _))
      · (first | exact (hR17.below (lit_below _ _)).base (bl_szR (by (repeat (first | with_reducible exact Below.refl _ _ | ((with_reducible refine bl_set ?_ ?_ _); rotate_left; (first | exact Nat.le_refl _ | exact gz14 | exact gz15 | exact gz16 | exact gz17)) | with_reducible refine bl_call h17 ?_ | with_reducible refine bl_call h16 ?_ | with_reducible refine bl_call h15 ?_ | with_reducible refine bl_call h14 ?_ | with_reducible refine bl_alloc ?_ _ | with_reducible refine bl_drew ?_)))) | exact (((hR17.set_ zg _).set_ zg _)).base (bl_szR (by (repeat (first | with_reducible exact Below.refl _ _ | ((with_reducible refine bl_set ?_ ?_ _); rotate_left; (first | exact Nat.le_refl _ | exact gz14 | exact gz15 | exact gz16 | exact gz17)) | with_reducible refine bl_call h17 ?_ | with_reducible refine bl_call h16 ?_ | with_reducible refine bl_call h15 ?_ | with_reducible refine bl_call h14 ?_ | with_reducible refine bl_alloc ?_ _ | with_reducible refine bl_drew ?_)))))
      · (repeat (first | with_reducible exact Below.refl _ _ | ((with_reducible refine bl_set ?_ ?_ _); rotate_left; (first | exact Nat.le_refl _ | exact gz14 | exact gz15 | exact gz16 | exact gz17)) | with_reducible refine bl_call h17 ?_ | with_reducible refine bl_call h16 ?_ | with_reducible refine bl_call h15 ?_ | with_reducible refine bl_call h14 ?_ | with_reducible refine bl_alloc ?_ _ | with_reducible refine bl_drew ?_))
  case rest =>
  obtain ⟨g6, A6, k6, c6, rfl, hg6, hr6, hv6, hbc⟩ := hcut
  clear qs0 qs1 qs2 qs3 qs4 qs5 zs0 zs1 c10 c11 c12 c20 c21 c22 c50 c51 z1 z2 z5
  obtain ⟨x2, hx2⟩ : ∃ x, x = wc := ⟨_, rfl⟩
  rw [← hx2] at hr6 hv6 hbc ⊢
  clear hx2
  have o1_6 : w.heap.size < g6 := by have := hr1.lt; omega
  have o2_6 : w.heap.size + 1 < g6 := by have := hr2.lt; omega
  have o5_6 : g5 < g6 := by have := hr5.lt; omega
  have ob_6 : w.heap.size ≤ g6 := by have := BB.size; omega
  replace hr1 := hr1.keep hbc
  replace hr2 := hr2.keep hbc
  replace ha := ha.below hbc
  replace hb := hb.below hbc
  replace hr5 := hr5.keep hbc
  replace hv5 := hv5.below hbc
  replace BB : Below w.heap.size w x2 := BB.trans (hbc.mono BB.size)
  clear hbc
  clear ha hb
  have c10 : x2.cell? ⟨w.heap.size, 0, none⟩ = some (.bool na) := hr1.cell 0
  have c11 : x2.cell? ⟨w.heap.size, 1, none⟩ = some (.slice A n c) := hr1.cell 1
  have c12 : x2.cell? ⟨w.heap.size, 2, none⟩ = some (.slice B m d) := hr1.cell 2
  have c20 : x2.cell? ⟨w.heap.size + 1, 0, none⟩ = some (.bool nb) := hr2.cell 0
  have c21 : x2.cell? ⟨w.heap.size + 1, 1, none⟩ = some (.slice A' n' c') := hr2.cell 1
  have c22 : x2.cell? ⟨w.heap.size + 1, 2, none⟩ = some (.slice B' m' d') := hr2.cell 2
  have c50 : x2.cell? ⟨g5, 0, none⟩ = some (.bool (decide (p * (q' : Int) < 0))) := hr5.cell 0
  have c51 : x2.cell? ⟨g5, 1, none⟩ = some (.slice A5 k5 c5) := hr5.cell 1
  have c60 : x2.cell? ⟨g6, 0, none⟩ = some (.bool (decide (p' * (q : Int) < 0))) := hr6.cell 0
  have c61 : x2.cell? ⟨g6, 1, none⟩ = some (.slice A6 k6 c6) := hr6.cell 1
  have z1 := hr1.lt
  have z2 := hr2.lt
  have z5 := hr5.lt
  have z6 := hr6.lt
  go_wp2_with fail
  clear c10 c11 c12 c20 c21 c22 c50 c51 c60 c61 z1 z2 z5 z6
  refine (r2cmp_any _ _ _ _ (L + D') (L' + D) _ hv5.intA hv6.intA (by omega) (by omega)).mono ?_
  rintro e x3 ⟨rfl, hb⟩
  replace hr1 := hr1.keep hb
  replace hr2 := hr2.keep hb
  replace hr5 := hr5.keep hb
  replace hv5 := hv5.below hb
  replace hr6 := hr6.keep hb
  replace hv6 := hv6.below hb
  replace BB : Below w.heap.size w x3 := BB.trans (hb.mono BB.size)
  clear hb
  have c10 : x3.cell? ⟨w.heap.size, 0, none⟩ = some (.bool na) := hr1.cell 0
  have c11 : x3.cell? ⟨w.heap.size, 1, none⟩ = some (.slice A n c) := hr1.cell 1
  have c12 : x3.cell? ⟨w.heap.size, 2, none⟩ = some (.slice B m d) := hr1.cell 2
  have c20 : x3.cell? ⟨w.heap.size + 1, 0, none⟩ = some (.bool nb) := hr2.cell 0
  have c21 : x3.cell? ⟨w.heap.size + 1, 1, none⟩ = some (.slice A' n' c') := hr2.cell 1
  have c22 : x3.cell? ⟨w.heap.size + 1, 2, none⟩ = some (.slice B' m' d') := hr2.cell 2
  have c50 : x3.cell? ⟨g5, 0, none⟩ = some (.bool (decide (p * (q' : Int) < 0))) := hr5.cell 0
  have c51 : x3.cell? ⟨g5, 1, none⟩ = some (.slice A5 k5 c5) := hr5.cell 1
  have c60 : x3.cell? ⟨g6, 0, none⟩ = some (.bool (decide (p' * (q : Int) < 0))) := hr6.cell 0
  have c61 : x3.cell? ⟨g6, 1, none⟩ = some (.slice A6 k6 c6) := hr6.cell 1
  have z1 := hr1.lt
  have z2 := hr2.lt
  have z5 := hr5.lt
  have z6 := hr6.lt
  go_wp2_with fail
  clear c10 c11 c12 c20 c21 c22 c50 c51 c60 c61 z1 z2 z5 z6
  go_ret
  exact ⟨rfl, BB⟩
end Go.Proofs.YtfoleamcaflfeaaGreatDoor
