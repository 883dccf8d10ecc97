/- The walks of grid.distance and grid.Near. -/
import Derived.Test.YtdmjgildgjpmcaaGrM
namespace Go.Proofs.Ytdmjgildgjpmcaa
open Go.RowKit
set_option linter.unusedVariables false

theorem dist_red (x P : Int) (Q : Nat) (hq : 0 < Q) :
    redP (((redP (x * (Q : Int) - P * ((1 : Nat) : Int)) (1 * Q)).natAbs : Nat) : Int) (redQ (x * (Q : Int) - P * ((1 : Nat) : Int)) (1 * Q)) = redP (((x * (Q : Int) - P).natAbs : Nat) : Int) Q ∧ redQ (((redP (x * (Q : Int) - P * ((1 : Nat) : Int)) (1 * Q)).natAbs : Nat) : Int) (redQ (x * (Q : Int) - P * ((1 : Nat) : Int)) (1 * Q)) = redQ (((x * (Q : Int) - P).natAbs : Nat) : Int) Q := by
  have e1 : P * ((1 : Nat) : Int) = P := by simp
  rw [Nat.one_mul, e1]
  generalize x * (Q : Int) - P = y at *
  refine red_cross (redQ_pos hq) hq ?_
  obtain ⟨m1, m2⟩ := red_mul y Q
  generalize Nat.gcd y.natAbs Q = g at *
  generalize redP y Q = p at *
  generalize redQ y Q = q at *
  have e2 : y.natAbs = p.natAbs * g := by rw [m1, Int.natAbs_mul]; simp
  rw [e2, m2, Int.natCast_mul, Int.natCast_mul]
  grind
theorem cmp_red (a b : Nat) {Q : Nat} (hq : 0 < Q) : cmpZ (redP (a : Int) Q * ((redQ (b : Int) Q : Nat) : Int)) (redP (b : Int) Q * ((redQ (a : Int) Q : Nat) : Int)) = cmpZ (a : Int) (b : Int) := by
  obtain ⟨m1, m2⟩ := red_mul (a : Int) Q
  obtain ⟨m3, m4⟩ := red_mul (b : Int) Q
  have g1 := gcd_pos (p := (a : Int)) hq
  have g2 := gcd_pos (p := (b : Int)) hq
  generalize Nat.gcd (a : Int).natAbs Q = g at *
  generalize Nat.gcd (b : Int).natAbs Q = h at *
  generalize redP (a : Int) Q = p at *
  generalize redP (b : Int) Q = p' at *
  generalize hq1 : redQ (a : Int) Q = q at *
  generalize hq2 : redQ (b : Int) Q = q' at *
  -- a = p g, b = p' h, Q = q g = q' h
  have k1 : (a : Int) * ((q' * h : Nat) : Int) = p * (q' : Int) * ((g : Int) * (h : Int)) := by rw [m1, Int.natCast_mul]; grind
  have k2 : (b : Int) * ((q * g : Nat) : Int) = p' * (q : Int) * ((g : Int) * (h : Int)) := by rw [m3, Int.natCast_mul]; grind
  rw [← m4] at k1
  rw [← m2] at k2
  have hG : 0 < (g : Int) * (h : Int) := Int.mul_pos (by omega) (by omega)
  have hQ : 0 < (Q : Int) := by omega
  have c1 : (p * (q' : Int) < p' * (q : Int)) ↔ ((a : Int) < (b : Int)) := by
    rw [← Int.mul_lt_mul_right hG, ← k1, ← k2, Int.mul_lt_mul_right hQ]
  have c2 : (p' * (q : Int) < p * (q' : Int)) ↔ ((b : Int) < (a : Int)) := by
    rw [← Int.mul_lt_mul_right hG, ← k1, ← k2, Int.mul_lt_mul_right hQ]
  unfold cmpZ
  simp only [c1, c2]
/-- The distance, times the denominator. -/
def near (ps : List Int) (P : Int) (Q : Nat) (i : Nat) : Nat := (ps.getD i 0 * (Q : Int) - P).natAbs
/-- The first index with the least distance. -/
def nearI (f : Nat → Nat) : Nat → Nat
  | 0 => 0
  | k + 1 => if f (k + 1) < f (nearI f k) then k + 1 else nearI f k
theorem nearI_le (f : Nat → Nat) : ∀ k, nearI f k ≤ k
  | 0 => Nat.le_refl _
  | k + 1 => by
    unfold nearI
    split
    · exact Nat.le_refl _
    · have := nearI_le f k; omega
theorem nearI_least (f : Nat → Nat) : ∀ k i, i ≤ k → f (nearI f k) ≤ f i ∧ (i < nearI f k → f (nearI f k) < f i)
  | 0, i, h => by obtain rfl : i = 0 := by omega
                  exact ⟨Nat.le_refl _, fun h => absurd h (by unfold nearI; omega)⟩
  | k + 1, i, h => by
    have ih := nearI_least f k
    unfold nearI
    split
    · rename_i hlt
      rcases Nat.lt_or_ge i (k + 1) with h1 | h1
      · have := (ih i (by omega)).1
        exact ⟨by omega, fun _ => by omega⟩
      · obtain rfl : i = k + 1 := by omega
        exact ⟨Nat.le_refl _, fun h => by omega⟩
    · rename_i hge
      rcases Nat.lt_or_ge i (k + 1) with h1 | h1
      · exact ih i (by omega)
      · obtain rfl : i = k + 1 := by omega
        have := nearI_le f k
        exact ⟨by omega, fun h => by omega⟩

set_option maxHeartbeats 8000000 in
theorem dist_any (x : Int) (v : Value) (P : Int) (Q L : Nat) (w : World) (hx1 : -100000 ≤ x) (hx2 : x ≤ 100000) (h : RatA w v P Q L) (hL : 2 ≤ L) (hM : L ≤ 1000000) :
    Calls Try.prog 42 #[.int .i64 x, v] w fun e w' => ∃ y, e = .returned y ∧ RatF w.heap.size w' y (redP (((x * (Q : Int) - P).natAbs : Nat) : Int) Q) (redQ (((x * (Q : Int) - P).natAbs : Nat) : Int) Q) (L + L + (L + L) + 1) ∧ Below w.heap.size w w' := by
  have hq := h.pos
  obtain ⟨ng, RA, rk, rc, RB, sk, sc, rfl⟩ := h.show_
  have hM : L ≤ 20000000 := by omega
  obtain ⟨W0, hW0⟩ : ∃ W0 : World, W0 = (w.alloc (.cells #[.bool ng, .slice RA rk rc, .slice RB sk sc] 42)).alloc (.cells #[.bool false, .slice none 0 0, .slice none 0 0] 42) := ⟨_, rfl⟩
  have r0 : Row W0 w.heap.size 42 [.bool ng, .slice RA rk rc, .slice RB sk sc] := by
    rw [hW0]
    have := Row.alloc (Row.new w 42 [.bool ng, .slice RA rk rc, .slice RB sk sc]) (.cells #[.bool false, .slice none 0 0, .slice none 0 0] 42)
    simpa using this
  have r1 : Row W0 (w.heap.size + 1) 42 [.bool false, .slice none 0 0, .slice none 0 0] := by
    rw [hW0]
    have := Row.new (w.alloc (.cells #[.bool ng, .slice RA rk rc, .slice RB sk sc] 42)) 42 [.bool false, .slice none 0 0, .slice none 0 0]
    simpa using this
  have B0 : Below w.heap.size w W0 := by rw [hW0]; exact (((Below.refl _ _).alloc (Nat.le_refl _) _).alloc (by simp) _)
  go_enter Try.func42, Try.ntmps42
  go_wp2_with fail
  rw [← hW0]
  clear hW0
  have BB := B0
  have hr3 := r0
  have hr4 := r1
  clear B0 r0 r1
  have c30 : W0.cell? ⟨w.heap.size, 0, none⟩ = some (.bool ng) := hr3.cell 0
  have c31 : W0.cell? ⟨w.heap.size, 1, none⟩ = some (.slice RA rk rc) := hr3.cell 1
  have c32 : W0.cell? ⟨w.heap.size, 2, none⟩ = some (.slice RB sk sc) := hr3.cell 2
  have c40 : W0.cell? ⟨w.heap.size + 1, 0, none⟩ = some (.bool false) := hr4.cell 0
  have c41 : W0.cell? ⟨w.heap.size + 1, 1, none⟩ = some (.slice none 0 0) := hr4.cell 1
  have c42 : W0.cell? ⟨w.heap.size + 1, 2, none⟩ = some (.slice none 0 0) := hr4.cell 2
  have f40 : W0.frozen? ⟨w.heap.size + 1, 0, none⟩ = false := hr4.frozen 0
  have f41 : W0.frozen? ⟨w.heap.size + 1, 1, none⟩ = false := hr4.frozen 1
  have f42 : W0.frozen? ⟨w.heap.size + 1, 2, none⟩ = false := hr4.frozen 2
  have z3 := hr3.lt
  have z4 := hr4.lt
  go_wp2_with fail
  clear c30 c31 c32 c40 c41 c42 f40 f41 f42 z3 z4
  refine (qof_any x 1 _ (by omega) (by omega) (by decide) (by decide)).mono ?_
  rintro e x1 ⟨v5, rfl, hv5, hb⟩
  replace hr3 := hr3.keep hb
  replace hr4 := hr4.keep hb
  replace BB : Below w.heap.size w x1 := BB.trans (hb.mono BB.size)
  clear hb
  rw [show (1 : Int).toNat = 1 from rfl, (redQ_one x).1, (redQ_one x).2] at hv5
  have h5' := hv5
  obtain ⟨m5, d5, e5, hm5, hd5, _, _⟩ := h5'
  subst e5
  obtain ⟨A5, k5, c5, rfl⟩ := hm5.lim1.choose_spec.1.show_
  obtain ⟨D5, l5, b5, rfl⟩ := hd5.lim1.choose_spec.1.show_
  clear hm5 hd5
  obtain ⟨g5, hg5⟩ : ∃ g, x1.heap.size = g := ⟨_, rfl⟩
  have hr5 : Row (x1.alloc (.cells #[.bool (decide (x < 0)), .slice A5 k5 c5, .slice D5 l5 b5] 42)) g5 42 [.bool (decide (x < 0)), .slice A5 k5 c5, .slice D5 l5 b5] := row_at hg5
  have hl := lit_below x1 (.cells #[.bool (decide (x < 0)), .slice A5 k5 c5, .slice D5 l5 b5] 42)
  have o3_5 : w.heap.size < g5 := by have := hr3.lt; omega
  have o4_5 : w.heap.size + 1 < g5 := by have := hr4.lt; omega
  have ob_5 : w.heap.size ≤ g5 := by have := BB.size; omega
  have c30 : x1.cell? ⟨w.heap.size, 0, none⟩ = some (.bool ng) := hr3.cell 0
  have c31 : x1.cell? ⟨w.heap.size, 1, none⟩ = some (.slice RA rk rc) := hr3.cell 1
  have c32 : x1.cell? ⟨w.heap.size, 2, none⟩ = some (.slice RB sk sc) := hr3.cell 2
  have c40 : x1.cell? ⟨w.heap.size + 1, 0, none⟩ = some (.bool false) := hr4.cell 0
  have c41 : x1.cell? ⟨w.heap.size + 1, 1, none⟩ = some (.slice none 0 0) := hr4.cell 1
  have c42 : x1.cell? ⟨w.heap.size + 1, 2, none⟩ = some (.slice none 0 0) := hr4.cell 2
  have f40 : x1.frozen? ⟨w.heap.size + 1, 0, none⟩ = false := hr4.frozen 0
  have f41 : x1.frozen? ⟨w.heap.size + 1, 1, none⟩ = false := hr4.frozen 1
  have f42 : x1.frozen? ⟨w.heap.size + 1, 2, none⟩ = false := hr4.frozen 2
  have d30 : (x1.alloc (.cells #[.bool (decide (x < 0)), .slice A5 k5 c5, .slice D5 l5 b5] 42)).cell? ⟨w.heap.size, 0, none⟩ = some (.bool ng) := (hr3.alloc _).cell 0
  have d31 : (x1.alloc (.cells #[.bool (decide (x < 0)), .slice A5 k5 c5, .slice D5 l5 b5] 42)).cell? ⟨w.heap.size, 1, none⟩ = some (.slice RA rk rc) := (hr3.alloc _).cell 1
  have d32 : (x1.alloc (.cells #[.bool (decide (x < 0)), .slice A5 k5 c5, .slice D5 l5 b5] 42)).cell? ⟨w.heap.size, 2, none⟩ = some (.slice RB sk sc) := (hr3.alloc _).cell 2
  have d40 : (x1.alloc (.cells #[.bool (decide (x < 0)), .slice A5 k5 c5, .slice D5 l5 b5] 42)).cell? ⟨w.heap.size + 1, 0, none⟩ = some (.bool false) := (hr4.alloc _).cell 0
  have d41 : (x1.alloc (.cells #[.bool (decide (x < 0)), .slice A5 k5 c5, .slice D5 l5 b5] 42)).cell? ⟨w.heap.size + 1, 1, none⟩ = some (.slice none 0 0) := (hr4.alloc _).cell 1
  have d42 : (x1.alloc (.cells #[.bool (decide (x < 0)), .slice A5 k5 c5, .slice D5 l5 b5] 42)).cell? ⟨w.heap.size + 1, 2, none⟩ = some (.slice none 0 0) := (hr4.alloc _).cell 2
  have h40 : (x1.alloc (.cells #[.bool (decide (x < 0)), .slice A5 k5 c5, .slice D5 l5 b5] 42)).frozen? ⟨w.heap.size + 1, 0, none⟩ = false := (hr4.alloc _).frozen 0
  have h41 : (x1.alloc (.cells #[.bool (decide (x < 0)), .slice A5 k5 c5, .slice D5 l5 b5] 42)).frozen? ⟨w.heap.size + 1, 1, none⟩ = false := (hr4.alloc _).frozen 1
  have h42 : (x1.alloc (.cells #[.bool (decide (x < 0)), .slice A5 k5 c5, .slice D5 l5 b5] 42)).frozen? ⟨w.heap.size + 1, 2, none⟩ = false := (hr4.alloc _).frozen 2
  have e0 : (x1.alloc (.cells #[.bool (decide (x < 0)), .slice A5 k5 c5, .slice D5 l5 b5] 42)).cell? ⟨g5, 0, none⟩ = some (.bool (decide (x < 0))) := hr5.cell 0
  have e1 : (x1.alloc (.cells #[.bool (decide (x < 0)), .slice A5 k5 c5, .slice D5 l5 b5] 42)).cell? ⟨g5, 1, none⟩ = some (.slice A5 k5 c5) := hr5.cell 1
  have e2 : (x1.alloc (.cells #[.bool (decide (x < 0)), .slice A5 k5 c5, .slice D5 l5 b5] 42)).cell? ⟨g5, 2, none⟩ = some (.slice D5 l5 b5) := hr5.cell 2
  go_wp2_with fail
  clear c30 c31 c32 c40 c41 c42 f40 f41 f42 d30 d31 d32 d40 d41 d42 h40 h41 h42 e0 e1 e2
  clear hg5
  generalize (x1.alloc (.cells #[.bool (decide (x < 0)), .slice A5 k5 c5, .slice D5 l5 b5] 42)) = x2 at *
  replace hr3 := hr3.keep hl
  replace hr4 := hr4.keep hl
  replace hv5 := hv5.below hl
  replace BB : Below w.heap.size w x2 := BB.trans (hl.mono BB.size)
  clear hl
  refine (qsub_any _ _ x P 1 Q L _ ((hv5.ratA (by decide)).mono hL) (h.below BB) hL (by omega)).mono ?_
  rintro e x3 ⟨v6, rfl, hv6, hb⟩
  replace hr3 := hr3.keep hb
  replace hr4 := hr4.keep hb
  replace hv5 := hv5.below hb
  replace hr5 := hr5.keep hb
  replace BB : Below w.heap.size w x3 := BB.trans (hb.mono BB.size)
  clear hb
  have c30 : x3.cell? ⟨w.heap.size, 0, none⟩ = some (.bool ng) := hr3.cell 0
  have c31 : x3.cell? ⟨w.heap.size, 1, none⟩ = some (.slice RA rk rc) := hr3.cell 1
  have c32 : x3.cell? ⟨w.heap.size, 2, none⟩ = some (.slice RB sk sc) := hr3.cell 2
  have c40 : x3.cell? ⟨w.heap.size + 1, 0, none⟩ = some (.bool false) := hr4.cell 0
  have c41 : x3.cell? ⟨w.heap.size + 1, 1, none⟩ = some (.slice none 0 0) := hr4.cell 1
  have c42 : x3.cell? ⟨w.heap.size + 1, 2, none⟩ = some (.slice none 0 0) := hr4.cell 2
  have c50 : x3.cell? ⟨g5, 0, none⟩ = some (.bool (decide (x < 0))) := hr5.cell 0
  have c51 : x3.cell? ⟨g5, 1, none⟩ = some (.slice A5 k5 c5) := hr5.cell 1
  have c52 : x3.cell? ⟨g5, 2, none⟩ = some (.slice D5 l5 b5) := hr5.cell 2
  have f40 : x3.frozen? ⟨w.heap.size + 1, 0, none⟩ = false := hr4.frozen 0
  have f41 : x3.frozen? ⟨w.heap.size + 1, 1, none⟩ = false := hr4.frozen 1
  have f42 : x3.frozen? ⟨w.heap.size + 1, 2, none⟩ = false := hr4.frozen 2
  have z3 := hr3.lt
  have z4 := hr4.lt
  have z5 := hr5.lt
  go_wp2_with fail
  clear c30 c31 c32 c40 c41 c42 c50 c51 c52 f40 f41 f42 z3 z4 z5
  refine (qabs_any _ _ _ (L + L + (L + L) + 1) _ (hv6.ratA (redQ_pos (by omega))) (by omega) (by omega)).mono ?_
  have hz4 := hr4.lt
  rintro e x4 ⟨v7, rfl, hv7, hb⟩
  replace hr3 := hr3.keep hb
  replace hr4 := hr4.keep hb
  replace hv5 := hv5.below hb
  replace hr5 := hr5.keep hb
  replace hv6 := hv6.below hb
  replace BB : Below w.heap.size w x4 := BB.trans (hb.mono BB.size)
  clear hb
  rw [(dist_red x P Q hq).1, (dist_red x P Q hq).2] at hv7
  have h7' := hv7
  obtain ⟨m7, d7, e7, hm7, hd7, _, _⟩ := h7'
  subst e7
  obtain ⟨A7, k7, c7, rfl⟩ := hm7.lim1.choose_spec.1.show_
  obtain ⟨D7, l7, b7, rfl⟩ := hd7.lim1.choose_spec.1.show_
  clear hm7 hd7
  have c30 : x4.cell? ⟨w.heap.size, 0, none⟩ = some (.bool ng) := hr3.cell 0
  have c31 : x4.cell? ⟨w.heap.size, 1, none⟩ = some (.slice RA rk rc) := hr3.cell 1
  have c32 : x4.cell? ⟨w.heap.size, 2, none⟩ = some (.slice RB sk sc) := hr3.cell 2
  have c40 : x4.cell? ⟨w.heap.size + 1, 0, none⟩ = some (.bool false) := hr4.cell 0
  have c41 : x4.cell? ⟨w.heap.size + 1, 1, none⟩ = some (.slice none 0 0) := hr4.cell 1
  have c42 : x4.cell? ⟨w.heap.size + 1, 2, none⟩ = some (.slice none 0 0) := hr4.cell 2
  have c50 : x4.cell? ⟨g5, 0, none⟩ = some (.bool (decide (x < 0))) := hr5.cell 0
  have c51 : x4.cell? ⟨g5, 1, none⟩ = some (.slice A5 k5 c5) := hr5.cell 1
  have c52 : x4.cell? ⟨g5, 2, none⟩ = some (.slice D5 l5 b5) := hr5.cell 2
  have f40 : x4.frozen? ⟨w.heap.size + 1, 0, none⟩ = false := hr4.frozen 0
  have f41 : x4.frozen? ⟨w.heap.size + 1, 1, none⟩ = false := hr4.frozen 1
  have f42 : x4.frozen? ⟨w.heap.size + 1, 2, none⟩ = false := hr4.frozen 2
  have z3 := hr3.lt
  have z4 := hr4.lt
  have z5 := hr5.lt
  go_wp2_with fail
  refine bodyPost_ret (v := .agg #[.bool (decide (redP (((x * (Q : Int) - P).natAbs : Nat) : Int) Q < 0)), .slice A7 k7 c7, .slice D7 l7 b7]) (by simp [results, Try.results42, go_sem, c40, c41, c42]) rfl ⟨_, rfl, ?_, ((BB.setCell (by simp) _).setCell (by simp) _).setCell (by simp) _⟩
  exact (((hv7.set_ (a := ⟨w.heap.size + 1, 0, none⟩) hz4 _).set_ (a := ⟨w.heap.size + 1, 1, none⟩) hz4 _).set_ (a := ⟨w.heap.size + 1, 2, none⟩) hz4 _).base (by omega)

theorem ratF_drew {b : Nat} {w : World} {v : Value} {p : Int} {q L : Nat} (h : RatF b w v p q L) : RatF b w.drew v p q L := h
theorem ratF_nil {b b' : Nat} {w : World} {v : Value} {p : Int} {q L : Nat} (h : RatF b w v p q L) (hb : b' ≤ b) : RatF b' w v p q L := h.base hb

set_option maxHeartbeats 16000000 in
theorem near_ok (pv rv v : Value) (ps rs : List Int) (P : Int) (Q L : Nat) (w : World) (hp : Nums .i64 w pv ps) (hr : Nums .i64 w rv rs) (hq : RatA w v P Q L) (hL : 2 ≤ L) (hM : L ≤ 1000000) (hE : gridE ps rs = 0) :
    Calls Try.prog 24 #[.agg #[pv, rv], v] w fun e w' => e = .returned (.tuple #[.int .i64 ((nearI (near ps P Q) (ps.length - 1) : Nat) : Int), .int .i64 0]) ∧ Below w.heap.size w w' := by
  obtain ⟨z1, z2, z3, z4, _⟩ := gridE_zero hE
  have hQ := hq.pos
  have HZ : Hid (∀ j, j < ps.length → -100000 ≤ ps.getD j 0 ∧ ps.getD j 0 ≤ 100000) := fun j hj => by have := z4 j hj; omega
  have HV := Lib.hid (fun (W : World) (h : Below w.heap.size w W) => gvalid_any pv rv ps rs W (hp.below h) (hr.below h))
  have HE := Lib.hid hE
  obtain ⟨PA, pc, rfl, hpc, hpm, hps⟩ := hp
  obtain ⟨RV, vc, rfl, hvc, hvm, hvs⟩ := hr
  obtain ⟨ng, RA, rk, rc, RB, sk, sc, rfl⟩ := hq.show_
  obtain ⟨pb, po, rfl, hpb, hcell⟩ := hps.num z2
  unfold maxLen at hpm
  obtain ⟨n, hnn⟩ : ∃ n, ps.length = n := ⟨_, rfl⟩
  have n0 : 0 < n := by omega
  have HN := Lib.hid hnn
  rw [hnn] at hps hpc z1 z2 HZ HV hcell ⊢
  clear hE z3 z4 hnn hvs hvc hps
  obtain ⟨W0, hW0⟩ : ∃ W0 : World, W0 = (w.alloc (.cells #[.slice (some ⟨pb, po, none⟩) n pc, .slice RV rs.length vc] 24)).alloc (.cells #[.bool ng, .slice RA rk rc, .slice RB sk sc] 42) := ⟨_, rfl⟩
  have r0 : Row W0 w.heap.size 24 [.slice (some ⟨pb, po, none⟩) n pc, .slice RV rs.length vc] := by
    rw [hW0]
    have := Row.alloc (Row.new w 24 [.slice (some ⟨pb, po, none⟩) n pc, .slice RV rs.length vc]) (.cells #[.bool ng, .slice RA rk rc, .slice RB sk sc] 42)
    simpa using this
  have r1 : Row W0 (w.heap.size + 1) 42 [.bool ng, .slice RA rk rc, .slice RB sk sc] := by
    rw [hW0]
    have := Row.new (w.alloc (.cells #[.slice (some ⟨pb, po, none⟩) n pc, .slice RV rs.length vc] 24)) 42 [.bool ng, .slice RA rk rc, .slice RB sk sc]
    simpa using this
  have B0 : Below w.heap.size w W0 := by rw [hW0]; exact (((Below.refl _ _).alloc (Nat.le_refl _) _).alloc (by simp) _)
  go_enter Try.func24, Try.ntmps24
  go_wp2_with fail
  rw [← hW0]
  clear hW0
  have BB := B0
  have hr2 := r0
  have hr3 := r1
  clear B0 r0 r1
  have c20 : W0.cell? ⟨w.heap.size, 0, none⟩ = some (.slice (some ⟨pb, po, none⟩) n pc) := hr2.cell 0
  have c21 : W0.cell? ⟨w.heap.size, 1, none⟩ = some (.slice RV rs.length vc) := hr2.cell 1
  have c30 : W0.cell? ⟨w.heap.size + 1, 0, none⟩ = some (.bool ng) := hr3.cell 0
  have c31 : W0.cell? ⟨w.heap.size + 1, 1, none⟩ = some (.slice RA rk rc) := hr3.cell 1
  have c32 : W0.cell? ⟨w.heap.size + 1, 2, none⟩ = some (.slice RB sk sc) := hr3.cell 2
  have z2 := hr2.lt
  have z3 := hr3.lt
  go_wp2_with fail
  clear c20 c21 c30 c31 c32 z2 z3
  refine (HV.out _ BB).mono ?_
  rintro e x1 ⟨rfl, hb⟩
  replace hr2 := hr2.keep hb
  replace hr3 := hr3.keep hb
  replace BB : Below w.heap.size w x1 := BB.trans (hb.mono BB.size)
  clear hb
  rw [HE.out]
  have h0n : (0 : Int) < (n : Int) := by omega
  have h0m : 0 < n := n0
  have hx := HZ.out 0 n0
  have hq0 := hq.below BB
  have hzz := BB.size
  obtain ⟨x, hxe⟩ : ∃ x, ps.getD (0) 0 = x := ⟨_, rfl⟩
  have HNX : Hid ((x * (Q : Int) - P).natAbs = near ps P Q (0)) := by unfold Hid near; rw [hxe]
  have hxc := hcell (0) (by omega)
  rw [hxe] at hx hxc
  clear hxe
  have c20 : x1.cell? ⟨w.heap.size, 0, none⟩ = some (.slice (some ⟨pb, po, none⟩) n pc) := hr2.cell 0
  have c21 : x1.cell? ⟨w.heap.size, 1, none⟩ = some (.slice RV rs.length vc) := hr2.cell 1
  have c30 : x1.cell? ⟨w.heap.size + 1, 0, none⟩ = some (.bool ng) := hr3.cell 0
  have c31 : x1.cell? ⟨w.heap.size + 1, 1, none⟩ = some (.slice RA rk rc) := hr3.cell 1
  have c32 : x1.cell? ⟨w.heap.size + 1, 2, none⟩ = some (.slice RB sk sc) := hr3.cell 2
  have z2 := hr2.lt
  have z3 := hr3.lt
  go_wp2_with fail
  have qs0 : x1.cell? ⟨w.heap.size, 0, none⟩ = some (.slice (some ⟨pb, po, none⟩) n pc) := hr2.cell 0
  have qs1 : x1.cell? ⟨w.heap.size, 1, none⟩ = some (.slice RV rs.length vc) := hr2.cell 1
  have qs2 : x1.cell? ⟨w.heap.size + 1, 0, none⟩ = some (.bool ng) := hr3.cell 0
  have qs3 : x1.cell? ⟨w.heap.size + 1, 1, none⟩ = some (.slice RA rk rc) := hr3.cell 1
  have qs4 : x1.cell? ⟨w.heap.size + 1, 2, none⟩ = some (.slice RB sk sc) := hr3.cell 2
  have zs0 := hr2.lt
  have zs1 := hr3.lt
  have qs5 : x1.cell? ⟨pb, po, none⟩ = some (.int .i64 x) := (BB.cell (p := ⟨pb, _, none⟩) hpb).trans hxc
  have zs2 := Nat.lt_of_lt_of_le hpb BB.size
  go_cut [8] (fun s0 wx => ∃ (g : Nat) (A8 : Option Addr) (k8 c8 : Nat) (D8 : Option Addr) (l8 b8 : Nat), s0 = .pointer (some ⟨g, 0, none⟩) ∧ x1.heap.size ≤ g ∧ Row wx g 42 [.bool (decide (redP ((near ps P Q (0) : Nat) : Int) Q < 0)), .slice A8 k8 c8, .slice D8 l8 b8] ∧ RatF x1.heap.size wx (.agg #[.bool (decide (redP ((near ps P Q (0) : Nat) : Int) Q < 0)), .slice A8 k8 c8, .slice D8 l8 b8]) (redP ((near ps P Q (0) : Nat) : Int) Q) (redQ ((near ps P Q (0) : Nat) : Int) Q) (L + L + (L + L) + 1) ∧ Below x1.heap.size x1 wx)
  case first =>
    go_region_held3 (fun w' => w'.cell? ⟨w.heap.size, 0, none⟩ = some (.slice (some ⟨pb, po, none⟩) n pc) ∧ w'.cell? ⟨w.heap.size, 1, none⟩ = some (.slice RV rs.length vc) ∧ w'.cell? ⟨w.heap.size + 1, 0, none⟩ = some (.bool ng) ∧ w'.cell? ⟨w.heap.size + 1, 1, none⟩ = some (.slice RA rk rc) ∧ w'.cell? ⟨w.heap.size + 1, 2, none⟩ = some (.slice RB sk sc) ∧ w'.cell? ⟨pb, po, none⟩ = some (.int .i64 x))
      ((refine keep6c zs0 zs0 zs1 zs1 zs1 zs2 qs0 qs1 qs2 qs3 qs4 qs5 ?_; (repeat (first | with_reducible exact Below.refl _ _ | ((with_reducible refine bl_set ?_ ?_ _); rotate_left; (first | exact Nat.le_refl _ | exact gz5)) | with_reducible refine bl_call h5 ?_ | with_reducible refine bl_alloc ?_ _ | with_reducible refine bl_drew ?_)); done))
      (first
        | (go_at_call 42; ((with_reducible refine (dist_any x (.agg #[.bool ng, .slice RA rk rc, .slice RB sk sc]) P Q L _ hx.1 hx.2 (hq0.below ?_) hL hM).mono ?_); (repeat (first | with_reducible exact Below.refl _ _ | ((with_reducible refine bl_set ?_ ?_ _); rotate_left; (first | exact Nat.le_refl _ | exact gz5)) | with_reducible refine bl_call h5 ?_ | with_reducible refine bl_alloc ?_ _ | with_reducible refine bl_drew ?_)); rintro e w5 ⟨v5, rfl, hR5, h5⟩; have gz5 : x1.heap.size ≤ w5.heap.size := (bl_call h5 (by (repeat (first | with_reducible exact Below.refl _ _ | ((with_reducible refine bl_set ?_ ?_ _); rotate_left; (first | exact Nat.le_refl _ | exact gz5)) | with_reducible refine bl_call h5 ?_ | with_reducible refine bl_alloc ?_ _ | with_reducible refine bl_drew ?_))) : Below x1.heap.size x1 w5).size; (first | (have zg := RR.lt; replace RR := RR.keep h5) | (have R0 := Row.drew (Row.new x1 42 [.bool false, .slice none 0 0, .slice none 0 0]); have zg := R0.lt; have RR := R0.keep h5) | (have R0 := Row.new x1.drew 42 [.bool false, .slice none 0 0, .slice none 0 0]; have zg := R0.lt; have RR := R0.keep h5) | (have R0 := Row.new x1 42 [.bool false, .slice none 0 0, .slice none 0 0]; have zg := R0.lt; have RR := R0.keep h5) | skip); rw [HNX.out] at hR5; have hR5' := hR5; obtain ⟨m5, d5, e5, hm5, hd5, _, _⟩ := hR5'; subst e5; obtain ⟨A8, k8, c8, rfl⟩ := hm5.lim1.choose_spec.1.show_; obtain ⟨D8, l8, b8, rfl⟩ := hd5.lim1.choose_spec.1.show_; clear hm5 hd5; (try (have e0 := RR.cell 0; have e1 := RR.cell 1; have e2 := RR.cell 2; simp only [List.getElem?_cons_zero, List.getElem?_cons_succ] at e0 e1 e2; have f0 := RR.frozen 0; have f1 := RR.frozen 1; have f2 := RR.frozen 2)))))
    all_goals go_wp2_with fail
    all_goals go_meet
    all_goals go_light
    all_goals
      refine ⟨_, A8, k8, c8, D8, l8, b8, rfl, ?_, ?_, ?_, ?_⟩
      · (first | exact Nat.le_refl _ | exact gz5)
      · (first | exact Row.new _ _ _ | exact (((RR.set_ 0 _).set_ 1 _).set_ 2 _))
      · (first | exact (hR5.below (lit_below _ _)).base (bl_sz (by (repeat (first | with_reducible exact Below.refl _ _ | ((with_reducible refine bl_set ?_ ?_ _); rotate_left; (first | exact Nat.le_refl _ | exact gz5)) | with_reducible refine bl_call h5 ?_ | with_reducible refine bl_alloc ?_ _ | with_reducible refine bl_drew ?_)))) | exact ((((hR5.set_ zg _).set_ zg _).set_ zg _)).base (bl_sz (by (repeat (first | with_reducible exact Below.refl _ _ | ((with_reducible refine bl_set ?_ ?_ _); rotate_left; (first | exact Nat.le_refl _ | exact gz5)) | with_reducible refine bl_call h5 ?_ | with_reducible refine bl_alloc ?_ _ | with_reducible refine bl_drew ?_)))))
      · (repeat (first | with_reducible exact Below.refl _ _ | ((with_reducible refine bl_set ?_ ?_ _); rotate_left; (first | exact Nat.le_refl _ | exact gz5)) | with_reducible refine bl_call h5 ?_ | with_reducible refine bl_alloc ?_ _ | with_reducible refine bl_drew ?_))
  case rest =>
  obtain ⟨g8, A8, k8, c8, D8, l8, b8, rfl, hg8, hr8, hv8, hbc⟩ := hcut
  clear qs0 qs1 qs2 qs3 qs4 qs5 zs0 zs1 zs2 c20 c21 c30 c31 c32 z2 z3
  obtain ⟨x2, hx2⟩ : ∃ x, x = wc := ⟨_, rfl⟩
  rw [← hx2] at hr8 hv8 hbc ⊢
  clear hx2
  have o2_8 : w.heap.size < g8 := by have := hr2.lt; omega
  have o3_8 : w.heap.size + 1 < g8 := by have := hr3.lt; omega
  have ob_8 : w.heap.size ≤ g8 := by have := BB.size; omega
  replace hr2 := hr2.keep hbc
  replace hr3 := hr3.keep hbc
  replace BB : Below w.heap.size w x2 := BB.trans (hbc.mono BB.size)
  clear hbc
  clear hq0 hx hxc
  go_wp2_with fail
  go_loopw [7, 9] (fun bi i wr => ∃ (k : Nat) (A8 : Option Addr) (k8 c8 : Nat) (D8 : Option Addr) (l8 b8 : Nat), 1 ≤ k ∧ k ≤ n ∧ i = .int .i64 (k : Int) ∧ bi = .int .i64 ((nearI (near ps P Q) (k - 1) : Nat) : Int) ∧ Row wr w.heap.size 24 [.slice (some ⟨pb, po, none⟩) n pc, .slice RV rs.length vc] ∧ Row wr (w.heap.size + 1) 42 [.bool ng, .slice RA rk rc, .slice RB sk sc] ∧ Row wr g8 42 [.bool (decide (redP ((near ps P Q (nearI (near ps P Q) (k - 1)) : Nat) : Int) Q < 0)), .slice A8 k8 c8, .slice D8 l8 b8] ∧ RatF w.heap.size wr (.agg #[.bool (decide (redP ((near ps P Q (nearI (near ps P Q) (k - 1)) : Nat) : Int) Q < 0)), .slice A8 k8 c8, .slice D8 l8 b8]) (redP ((near ps P Q (nearI (near ps P Q) (k - 1)) : Nat) : Int) Q) (redQ ((near ps P Q (nearI (near ps P Q) (k - 1)) : Nat) : Int) Q) (L + L + (L + L) + 1) ∧ Below w.heap.size w wr) (fun _ i _ => n - (intOf i).toNat)
  case atStart => exact ⟨1, A8, k8, c8, D8, l8, b8, by omega, by omega, rfl, rfl, hr2, hr3, hr8, hv8.base hzz, BB⟩
  case round =>
    clear hr2 hr3 hr8 hv8 BB
    obtain ⟨k, A8, k8, c8, D8, l8, b8, hk1, hk, rfl, rfl, hr2, hr3, hr8, hv8, BB⟩ := hrel
    by_cases hlt : k < n
    · obtain ⟨d8, hd8⟩ : ∃ d, ((near ps P Q (nearI (near ps P Q) (k - 1)) : Nat) : Int) = d := ⟨_, rfl⟩
      have HD8 := Lib.hid hd8
      rw [hd8] at hr8 hv8
      clear hd8
      have BB0 := BB
      have hz8 := hr8.lt
      have hkI : (k : Int) < (n : Int) := by omega
      have hx := HZ.out k hlt
      have hq0 := hq.below BB
      obtain ⟨x, hxe⟩ : ∃ x, ps.getD (k) 0 = x := ⟨_, rfl⟩
      have HNX : Hid ((x * (Q : Int) - P).natAbs = near ps P Q (k)) := by unfold Hid near; rw [hxe]
      have hxc := hcell (k) (by omega)
      rw [hxe] at hx hxc
      clear hxe
      have c20 : wr.cell? ⟨w.heap.size, 0, none⟩ = some (.slice (some ⟨pb, po, none⟩) n pc) := hr2.cell 0
      have c21 : wr.cell? ⟨w.heap.size, 1, none⟩ = some (.slice RV rs.length vc) := hr2.cell 1
      have c30 : wr.cell? ⟨w.heap.size + 1, 0, none⟩ = some (.bool ng) := hr3.cell 0
      have c31 : wr.cell? ⟨w.heap.size + 1, 1, none⟩ = some (.slice RA rk rc) := hr3.cell 1
      have c32 : wr.cell? ⟨w.heap.size + 1, 2, none⟩ = some (.slice RB sk sc) := hr3.cell 2
      have c80 : wr.cell? ⟨g8, 0, none⟩ = some (.bool (decide (redP d8 Q < 0))) := hr8.cell 0
      have c81 : wr.cell? ⟨g8, 1, none⟩ = some (.slice A8 k8 c8) := hr8.cell 1
      have c82 : wr.cell? ⟨g8, 2, none⟩ = some (.slice D8 l8 b8) := hr8.cell 2
      have f80 : wr.frozen? ⟨g8, 0, none⟩ = false := hr8.frozen 0
      have f81 : wr.frozen? ⟨g8, 1, none⟩ = false := hr8.frozen 1
      have f82 : wr.frozen? ⟨g8, 2, none⟩ = false := hr8.frozen 2
      have z2 := hr2.lt
      have z3 := hr3.lt
      have z8 := hr8.lt
      go_wp2_with fail
      have qs0 : wr.cell? ⟨w.heap.size, 0, none⟩ = some (.slice (some ⟨pb, po, none⟩) n pc) := hr2.cell 0
      have qs1 : wr.cell? ⟨w.heap.size, 1, none⟩ = some (.slice RV rs.length vc) := hr2.cell 1
      have qs2 : wr.cell? ⟨w.heap.size + 1, 0, none⟩ = some (.bool ng) := hr3.cell 0
      have qs3 : wr.cell? ⟨w.heap.size + 1, 1, none⟩ = some (.slice RA rk rc) := hr3.cell 1
      have qs4 : wr.cell? ⟨w.heap.size + 1, 2, none⟩ = some (.slice RB sk sc) := hr3.cell 2
      have zs0 := hr2.lt
      have zs1 := hr3.lt
      have qs5 : wr.cell? ⟨pb, po + k, none⟩ = some (.int .i64 x) := (BB.cell (p := ⟨pb, _, none⟩) hpb).trans hxc
      have zs2 := Nat.lt_of_lt_of_le hpb BB.size
      go_cut [10] (fun s0 wx => ∃ (g : Nat) (A10 : Option Addr) (k10 c10 : Nat) (D10 : Option Addr) (l10 b10 : Nat), s0 = .pointer (some ⟨g, 0, none⟩) ∧ wr.heap.size ≤ g ∧ Row wx g 42 [.bool (decide (redP ((near ps P Q (k) : Nat) : Int) Q < 0)), .slice A10 k10 c10, .slice D10 l10 b10] ∧ RatF wr.heap.size wx (.agg #[.bool (decide (redP ((near ps P Q (k) : Nat) : Int) Q < 0)), .slice A10 k10 c10, .slice D10 l10 b10]) (redP ((near ps P Q (k) : Nat) : Int) Q) (redQ ((near ps P Q (k) : Nat) : Int) Q) (L + L + (L + L) + 1) ∧ Below wr.heap.size wr wx)
      case first =>
        go_region_held3 (fun w' => w'.cell? ⟨w.heap.size, 0, none⟩ = some (.slice (some ⟨pb, po, none⟩) n pc) ∧ w'.cell? ⟨w.heap.size, 1, none⟩ = some (.slice RV rs.length vc) ∧ w'.cell? ⟨w.heap.size + 1, 0, none⟩ = some (.bool ng) ∧ w'.cell? ⟨w.heap.size + 1, 1, none⟩ = some (.slice RA rk rc) ∧ w'.cell? ⟨w.heap.size + 1, 2, none⟩ = some (.slice RB sk sc) ∧ w'.cell? ⟨pb, po + k, none⟩ = some (.int .i64 x))
          ((refine keep6c zs0 zs0 zs1 zs1 zs1 zs2 qs0 qs1 qs2 qs3 qs4 qs5 ?_; (repeat (first | with_reducible exact Below.refl _ _ | ((with_reducible refine bl_set ?_ ?_ _); rotate_left; (first | exact Nat.le_refl _ | exact gz5)) | with_reducible refine bl_call h5 ?_ | with_reducible refine bl_alloc ?_ _ | with_reducible refine bl_drew ?_)); done))
          (first
            | (go_at_call 42; ((with_reducible refine (dist_any x (.agg #[.bool ng, .slice RA rk rc, .slice RB sk sc]) P Q L _ hx.1 hx.2 (hq0.below ?_) hL hM).mono ?_); (repeat (first | with_reducible exact Below.refl _ _ | ((with_reducible refine bl_set ?_ ?_ _); rotate_left; (first | exact Nat.le_refl _ | exact gz5)) | with_reducible refine bl_call h5 ?_ | with_reducible refine bl_alloc ?_ _ | with_reducible refine bl_drew ?_)); rintro e w5 ⟨v5, rfl, hR5, h5⟩; have gz5 : wr.heap.size ≤ w5.heap.size := (bl_call h5 (by (repeat (first | with_reducible exact Below.refl _ _ | ((with_reducible refine bl_set ?_ ?_ _); rotate_left; (first | exact Nat.le_refl _ | exact gz5)) | with_reducible refine bl_call h5 ?_ | with_reducible refine bl_alloc ?_ _ | with_reducible refine bl_drew ?_))) : Below wr.heap.size wr w5).size; (first | (have zg := RR.lt; replace RR := RR.keep h5) | (have R0 := Row.drew (Row.new wr 42 [.bool false, .slice none 0 0, .slice none 0 0]); have zg := R0.lt; have RR := R0.keep h5) | (have R0 := Row.new wr.drew 42 [.bool false, .slice none 0 0, .slice none 0 0]; have zg := R0.lt; have RR := R0.keep h5) | (have R0 := Row.new wr 42 [.bool false, .slice none 0 0, .slice none 0 0]; have zg := R0.lt; have RR := R0.keep h5) | skip); rw [HNX.out] at hR5; have hR5' := hR5; obtain ⟨m5, d5, e5, hm5, hd5, _, _⟩ := hR5'; subst e5; obtain ⟨A10, k10, c10, rfl⟩ := hm5.lim1.choose_spec.1.show_; obtain ⟨D10, l10, b10, rfl⟩ := hd5.lim1.choose_spec.1.show_; clear hm5 hd5; (try (have e0 := RR.cell 0; have e1 := RR.cell 1; have e2 := RR.cell 2; simp only [List.getElem?_cons_zero, List.getElem?_cons_succ] at e0 e1 e2; have f0 := RR.frozen 0; have f1 := RR.frozen 1; have f2 := RR.frozen 2)))))
        all_goals go_wp2_with fail
        all_goals go_meet
        all_goals go_light
        all_goals
          refine ⟨_, A10, k10, c10, D10, l10, b10, rfl, ?_, ?_, ?_, ?_⟩
          · (first | exact Nat.le_refl _ | exact gz5)
          · (first | exact Row.new _ _ _ | exact (((RR.set_ 0 _).set_ 1 _).set_ 2 _))
          · (first | exact (hR5.below (lit_below _ _)).base (bl_sz (by (repeat (first | with_reducible exact Below.refl _ _ | ((with_reducible refine bl_set ?_ ?_ _); rotate_left; (first | exact Nat.le_refl _ | exact gz5)) | with_reducible refine bl_call h5 ?_ | with_reducible refine bl_alloc ?_ _ | with_reducible refine bl_drew ?_)))) | exact ((((hR5.set_ zg _).set_ zg _).set_ zg _)).base (bl_sz (by (repeat (first | with_reducible exact Below.refl _ _ | ((with_reducible refine bl_set ?_ ?_ _); rotate_left; (first | exact Nat.le_refl _ | exact gz5)) | with_reducible refine bl_call h5 ?_ | with_reducible refine bl_alloc ?_ _ | with_reducible refine bl_drew ?_)))))
          · (repeat (first | with_reducible exact Below.refl _ _ | ((with_reducible refine bl_set ?_ ?_ _); rotate_left; (first | exact Nat.le_refl _ | exact gz5)) | with_reducible refine bl_call h5 ?_ | with_reducible refine bl_alloc ?_ _ | with_reducible refine bl_drew ?_))
      case rest =>
      obtain ⟨g10, A10, k10, c10, D10, l10, b10, rfl, hg10, hr10, hv10, hbc⟩ := hcut
      clear qs0 qs1 qs2 qs3 qs4 qs5 zs0 zs1 zs2 c20 c21 c30 c31 c32 c80 c81 c82 f80 f81 f82 z2 z3 z8
      obtain ⟨x51, hx51⟩ : ∃ x, x = wc := ⟨_, rfl⟩
      rw [← hx51] at hr10 hv10 hbc ⊢
      clear hx51
      have o2_10 : w.heap.size < g10 := by have := hr2.lt; omega
      have o3_10 : w.heap.size + 1 < g10 := by have := hr3.lt; omega
      have o8_10 : g8 < g10 := by have := hr8.lt; omega
      have ob_10 : w.heap.size ≤ g10 := by have := BB.size; omega
      replace hr2 := hr2.keep hbc
      replace hr3 := hr3.keep hbc
      replace hr8 := hr8.keep hbc
      replace hv8 := hv8.below hbc
      replace BB : Below w.heap.size w x51 := BB.trans (hbc.mono BB.size)
      clear hbc
      clear hq0 hxc
      have c20 : x51.cell? ⟨w.heap.size, 0, none⟩ = some (.slice (some ⟨pb, po, none⟩) n pc) := hr2.cell 0
      have c21 : x51.cell? ⟨w.heap.size, 1, none⟩ = some (.slice RV rs.length vc) := hr2.cell 1
      have c30 : x51.cell? ⟨w.heap.size + 1, 0, none⟩ = some (.bool ng) := hr3.cell 0
      have c31 : x51.cell? ⟨w.heap.size + 1, 1, none⟩ = some (.slice RA rk rc) := hr3.cell 1
      have c32 : x51.cell? ⟨w.heap.size + 1, 2, none⟩ = some (.slice RB sk sc) := hr3.cell 2
      have c80 : x51.cell? ⟨g8, 0, none⟩ = some (.bool (decide (redP d8 Q < 0))) := hr8.cell 0
      have c81 : x51.cell? ⟨g8, 1, none⟩ = some (.slice A8 k8 c8) := hr8.cell 1
      have c82 : x51.cell? ⟨g8, 2, none⟩ = some (.slice D8 l8 b8) := hr8.cell 2
      have c100 : x51.cell? ⟨g10, 0, none⟩ = some (.bool (decide (redP ((near ps P Q (k) : Nat) : Int) Q < 0))) := hr10.cell 0
      have c101 : x51.cell? ⟨g10, 1, none⟩ = some (.slice A10 k10 c10) := hr10.cell 1
      have c102 : x51.cell? ⟨g10, 2, none⟩ = some (.slice D10 l10 b10) := hr10.cell 2
      have f80 : x51.frozen? ⟨g8, 0, none⟩ = false := hr8.frozen 0
      have f81 : x51.frozen? ⟨g8, 1, none⟩ = false := hr8.frozen 1
      have f82 : x51.frozen? ⟨g8, 2, none⟩ = false := hr8.frozen 2
      have z2 := hr2.lt
      have z3 := hr3.lt
      have z8 := hr8.lt
      have z10 := hr10.lt
      go_wp2_with fail
      clear c20 c21 c30 c31 c32 c80 c81 c82 c100 c101 c102 f80 f81 f82 z2 z3 z8 z10
      refine (qcmp_any _ _ _ _ _ _ (L + L + (L + L) + 1) _ (hv10.ratA (redQ_pos hQ)) (hv8.ratA (redQ_pos hQ)) (by omega) (by omega)).mono ?_
      rintro e x52 ⟨rfl, hb⟩
      replace hr2 := hr2.keep hb
      replace hr3 := hr3.keep hb
      replace hr8 := hr8.keep hb
      replace hv8 := hv8.below hb
      replace hr10 := hr10.keep hb
      replace hv10 := hv10.below hb
      replace BB : Below w.heap.size w x52 := BB.trans (hb.mono BB.size)
      clear hb
      rw [← HD8.out, cmp_red _ _ hQ]
      have hzr := BB0.size
      have hz8' : g8 ≤ x52.heap.size := Nat.le_of_lt hr8.lt
      by_cases hab : near ps P Q k < near ps P Q (nearI (near ps P Q) (k - 1))
      · have tt : decide (cmpZ ((near ps P Q (k) : Nat) : Int) ((near ps P Q (nearI (near ps P Q) (k - 1)) : Nat) : Int) < 0) = true := decide_eq_true (by unfold cmpZ; rw [if_pos (by omega)]; omega)
        have HNI : Hid (nearI (near ps P Q) k = k) := by
          unfold Hid
          obtain ⟨j, rfl⟩ : ∃ j, k = j + 1 := ⟨k - 1, by omega⟩
          rw [Nat.add_sub_cancel] at hab
          exact if_pos hab
        generalize cmpZ ((near ps P Q (k) : Nat) : Int) ((near ps P Q (nearI (near ps P Q) (k - 1)) : Nat) : Int) = cz at *
        clear hab
        have c20 : x52.cell? ⟨w.heap.size, 0, none⟩ = some (.slice (some ⟨pb, po, none⟩) n pc) := hr2.cell 0
        have c21 : x52.cell? ⟨w.heap.size, 1, none⟩ = some (.slice RV rs.length vc) := hr2.cell 1
        have c30 : x52.cell? ⟨w.heap.size + 1, 0, none⟩ = some (.bool ng) := hr3.cell 0
        have c31 : x52.cell? ⟨w.heap.size + 1, 1, none⟩ = some (.slice RA rk rc) := hr3.cell 1
        have c32 : x52.cell? ⟨w.heap.size + 1, 2, none⟩ = some (.slice RB sk sc) := hr3.cell 2
        have c80 : x52.cell? ⟨g8, 0, none⟩ = some (.bool (decide (redP d8 Q < 0))) := hr8.cell 0
        have c81 : x52.cell? ⟨g8, 1, none⟩ = some (.slice A8 k8 c8) := hr8.cell 1
        have c82 : x52.cell? ⟨g8, 2, none⟩ = some (.slice D8 l8 b8) := hr8.cell 2
        have c100 : x52.cell? ⟨g10, 0, none⟩ = some (.bool (decide (redP ((near ps P Q (k) : Nat) : Int) Q < 0))) := hr10.cell 0
        have c101 : x52.cell? ⟨g10, 1, none⟩ = some (.slice A10 k10 c10) := hr10.cell 1
        have c102 : x52.cell? ⟨g10, 2, none⟩ = some (.slice D10 l10 b10) := hr10.cell 2
        have f80 : x52.frozen? ⟨g8, 0, none⟩ = false := hr8.frozen 0
        have f81 : x52.frozen? ⟨g8, 1, none⟩ = false := hr8.frozen 1
        have f82 : x52.frozen? ⟨g8, 2, none⟩ = false := hr8.frozen 2
        have z2 := hr2.lt
        have z3 := hr3.lt
        have z8 := hr8.lt
        have z10 := hr10.lt
        go_wp2_with fail
        go_region
        all_goals
          go_wp2_with fail
          go_roundw
          case rel =>
            refine ⟨k + 1, A10, k10, c10, D10, l10, b10, by omega, by omega, by go_num, ?_, (((hr2.far (by show w.heap.size ≠ g8; omega) _).far (by show w.heap.size ≠ g8; omega) _).far (by show w.heap.size ≠ g8; omega) _).drew, (((hr3.far (by show w.heap.size + 1 ≠ g8; omega) _).far (by show w.heap.size + 1 ≠ g8; omega) _).far (by show w.heap.size + 1 ≠ g8; omega) _).drew, ?_, ?_, (((BB.setCell (by show w.heap.size ≤ g8; omega) _).setCell (by show w.heap.size ≤ g8; omega) _).setCell (by show w.heap.size ≤ g8; omega) _).drew⟩
            · rw [Nat.add_sub_cancel, HNI.out]
            · rw [Nat.add_sub_cancel, HNI.out]
              exact (((hr8.set_ 0 (.bool (decide (redP ((near ps P Q (k) : Nat) : Int) Q < 0)))).set_ 1 (.slice A10 k10 c10)).set_ 2 (.slice D10 l10 b10)).drew
            · rw [Nat.add_sub_cancel, HNI.out]
              exact ratF_drew ((((hv10.set_ (a := ⟨g8, 0, none⟩) hz8 _).set_ (a := ⟨g8, 1, none⟩) hz8 _).set_ (a := ⟨g8, 2, none⟩) hz8 _).base hzr)
          case measure => simp [intOf]; omega
      · have tt : decide (cmpZ ((near ps P Q (k) : Nat) : Int) ((near ps P Q (nearI (near ps P Q) (k - 1)) : Nat) : Int) < 0) = false := by
          refine decide_eq_false ?_
          unfold cmpZ; rw [if_neg (by omega)]; split <;> omega
        have HNI : Hid (nearI (near ps P Q) k = nearI (near ps P Q) (k - 1)) := by
          unfold Hid
          obtain ⟨j, rfl⟩ : ∃ j, k = j + 1 := ⟨k - 1, by omega⟩
          rw [Nat.add_sub_cancel] at hab ⊢
          exact if_neg hab
        generalize cmpZ ((near ps P Q (k) : Nat) : Int) ((near ps P Q (nearI (near ps P Q) (k - 1)) : Nat) : Int) = cz at *
        clear hab
        have c20 : x52.cell? ⟨w.heap.size, 0, none⟩ = some (.slice (some ⟨pb, po, none⟩) n pc) := hr2.cell 0
        have c21 : x52.cell? ⟨w.heap.size, 1, none⟩ = some (.slice RV rs.length vc) := hr2.cell 1
        have c30 : x52.cell? ⟨w.heap.size + 1, 0, none⟩ = some (.bool ng) := hr3.cell 0
        have c31 : x52.cell? ⟨w.heap.size + 1, 1, none⟩ = some (.slice RA rk rc) := hr3.cell 1
        have c32 : x52.cell? ⟨w.heap.size + 1, 2, none⟩ = some (.slice RB sk sc) := hr3.cell 2
        have c80 : x52.cell? ⟨g8, 0, none⟩ = some (.bool (decide (redP d8 Q < 0))) := hr8.cell 0
        have c81 : x52.cell? ⟨g8, 1, none⟩ = some (.slice A8 k8 c8) := hr8.cell 1
        have c82 : x52.cell? ⟨g8, 2, none⟩ = some (.slice D8 l8 b8) := hr8.cell 2
        have c100 : x52.cell? ⟨g10, 0, none⟩ = some (.bool (decide (redP ((near ps P Q (k) : Nat) : Int) Q < 0))) := hr10.cell 0
        have c101 : x52.cell? ⟨g10, 1, none⟩ = some (.slice A10 k10 c10) := hr10.cell 1
        have c102 : x52.cell? ⟨g10, 2, none⟩ = some (.slice D10 l10 b10) := hr10.cell 2
        have f80 : x52.frozen? ⟨g8, 0, none⟩ = false := hr8.frozen 0
        have f81 : x52.frozen? ⟨g8, 1, none⟩ = false := hr8.frozen 1
        have f82 : x52.frozen? ⟨g8, 2, none⟩ = false := hr8.frozen 2
        have z2 := hr2.lt
        have z3 := hr3.lt
        have z8 := hr8.lt
        have z10 := hr10.lt
        go_wp2_with fail
        go_roundw
        case rel =>
          exact ⟨k + 1, A8, k8, c8, D8, l8, b8, by omega, by omega, by go_num, by rw [Nat.add_sub_cancel, HNI.out], hr2, hr3, by rw [Nat.add_sub_cancel, HNI.out, HD8.out]; exact hr8, by rw [Nat.add_sub_cancel, HNI.out, HD8.out]; exact hv8, BB⟩
        case measure => simp [intOf]; omega
    · obtain rfl : k = n := by omega
      have c20 : wr.cell? ⟨w.heap.size, 0, none⟩ = some (.slice (some ⟨pb, po, none⟩) k pc) := hr2.cell 0
      have c21 : wr.cell? ⟨w.heap.size, 1, none⟩ = some (.slice RV rs.length vc) := hr2.cell 1
      have c30 : wr.cell? ⟨w.heap.size + 1, 0, none⟩ = some (.bool ng) := hr3.cell 0
      have c31 : wr.cell? ⟨w.heap.size + 1, 1, none⟩ = some (.slice RA rk rc) := hr3.cell 1
      have c32 : wr.cell? ⟨w.heap.size + 1, 2, none⟩ = some (.slice RB sk sc) := hr3.cell 2
      have z2 := hr2.lt
      have z3 := hr3.lt
      go_wp2_with fail
      go_ret2
      exact ⟨rfl, BB⟩

set_option maxHeartbeats 8000000 in
theorem near_no (pv rv v : Value) (ps rs : List Int) (P : Int) (Q L : Nat) (w : World) (hp : Nums .i64 w pv ps) (hr : Nums .i64 w rv rs) (hq : RatA w v P Q L) (hE : gridE ps rs ≠ 0) :
    Calls Try.prog 24 #[.agg #[pv, rv], v] w fun e w' => e = .returned (.tuple #[.int .i64 0, .int .i64 (gridE ps rs)]) ∧ Below w.heap.size w w' := by
  have HV := Lib.hid (fun (W : World) (h : Below w.heap.size w W) => gvalid_any pv rv ps rs W (hp.below h) (hr.below h))
  have hne : (gridE ps rs != 0) = true := by rw [bne_iff_ne]; exact hE
  obtain ⟨PA, pc, rfl, hpc, hpm, hps⟩ := hp
  obtain ⟨RV, vc, rfl, hvc, hvm, hvs⟩ := hr
  obtain ⟨ng, RA, rk, rc, RB, sk, sc, rfl⟩ := hq.show_
  generalize gridE ps rs = E at *
  clear hE hps hvs
  obtain ⟨W0, hW0⟩ : ∃ W0 : World, W0 = (w.alloc (.cells #[.slice PA ps.length pc, .slice RV rs.length vc] 24)).alloc (.cells #[.bool ng, .slice RA rk rc, .slice RB sk sc] 42) := ⟨_, rfl⟩
  have r0 : Row W0 w.heap.size 24 [.slice PA ps.length pc, .slice RV rs.length vc] := by
    rw [hW0]
    have := Row.alloc (Row.new w 24 [.slice PA ps.length pc, .slice RV rs.length vc]) (.cells #[.bool ng, .slice RA rk rc, .slice RB sk sc] 42)
    simpa using this
  have r1 : Row W0 (w.heap.size + 1) 42 [.bool ng, .slice RA rk rc, .slice RB sk sc] := by
    rw [hW0]
    have := Row.new (w.alloc (.cells #[.slice PA ps.length pc, .slice RV rs.length vc] 24)) 42 [.bool ng, .slice RA rk rc, .slice RB sk sc]
    simpa using this
  have B0 : Below w.heap.size w W0 := by rw [hW0]; exact (((Below.refl _ _).alloc (Nat.le_refl _) _).alloc (by simp) _)
  have a0 : W0.cell? ⟨w.heap.size, 0, none⟩ = some (.slice PA ps.length pc) := r0.cell 0
  have a1 : W0.cell? ⟨w.heap.size, 1, none⟩ = some (.slice RV rs.length vc) := r0.cell 1
  go_enter Try.func24, Try.ntmps24
  go_wp2_with fail
  rw [← hW0]
  clear hW0
  go_wp2_with fail
  refine (HV.out _ B0).mono ?_
  rintro e w1 ⟨rfl, hb⟩
  go_wp2_with fail
  go_ret2
  exact ⟨rfl, B0.trans (hb.mono B0.size)⟩

end Go.Proofs.Ytdmjgildgjpmcaa
