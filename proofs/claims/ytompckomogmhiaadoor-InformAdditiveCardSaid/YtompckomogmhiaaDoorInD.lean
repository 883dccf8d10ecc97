/- inform.Best, Curve. -/
import Derived.Test.YtompckomogmhiaaDoorInC
namespace Go.Proofs.YtompckomogmhiaaDoor
open Go.RowKit
set_option linter.unusedVariables false
set_option maxRecDepth 100000

/-- The index of the greatest of the first numbers, the lowest one of several. -/
def topI (f : Nat → Int) : Nat → Nat
  | 0 => 0
  | k + 1 => if f (topI f k) < f k then k else topI f k
theorem topI_le (f : Nat → Int) : ∀ k, topI f k ≤ k - 1
  | 0 => Nat.le_refl _
  | k + 1 => by
    have := topI_le f k
    unfold topI
    split <;> omega
theorem topI_max (f : Nat → Int) : ∀ k i, i < k → f i ≤ f (topI f k) ∧ (i < topI f k → f i < f (topI f k))
  | 0, i, h => by omega
  | k + 1, i, h => by
    have hl := topI_le f k
    unfold topI
    split
    · rename_i hlt
      rcases Nat.lt_or_ge i k with hi | hi
      · have := (topI_max f k i hi).1
        exact ⟨by omega, fun _ => by omega⟩
      · obtain rfl : i = k := by omega
        exact ⟨Int.le_refl _, fun h => by omega⟩
    · rename_i hlt
      rcases Nat.lt_or_ge i k with hi | hi
      · exact topI_max f k i hi
      · obtain rfl : i = k := by omega
        exact ⟨by omega, fun h => by omega⟩
theorem cmp_redI (a b : Int) {D : Nat} (hD : 0 < D) : cmpZ (redP a D * (redQ b D : Int)) (redP b D * (redQ a D : Int)) = cmpZ a b := by
  have q1 := redQ_pos (p := a) hD
  have q2 := redQ_pos (p := b) hD
  obtain ⟨a1, b1⟩ := red_mul a D
  obtain ⟨a2, b2⟩ := red_mul b D
  have g1 := gcd_posR (p := a) hD
  have g2 := gcd_posR (p := b) hD
  have b1' : (D : Int) = (redQ a D : Int) * ((Nat.gcd a.natAbs D : Nat) : Int) := by rw [← Int.natCast_mul, ← b1]
  have b2' : (D : Int) = (redQ b D : Int) * ((Nat.gcd b.natAbs D : Nat) : Int) := by rw [← Int.natCast_mul, ← b2]
  generalize redP a D = P1 at *
  generalize redP b D = P2 at *
  generalize (redQ a D) = Q1 at *
  generalize (redQ b D) = Q2 at *
  generalize ((Nat.gcd a.natAbs D : Nat) : Int) = h1 at *
  generalize ((Nat.gcd b.natAbs D : Nat) : Int) = h2 at *
  have hDI : 0 < (D : Int) := by omega
  have e1 : P1 * (Q2 : Int) * (h1 * h2) = a * (D : Int) := by
    have : P1 * (Q2 : Int) * (h1 * h2) = (P1 * h1) * ((Q2 : Int) * h2) := by grind
    rw [this, ← a1, ← b2']
  have e2 : P2 * (Q1 : Int) * (h1 * h2) = b * (D : Int) := by
    have : P2 * (Q1 : Int) * (h1 * h2) = (P2 * h2) * ((Q1 : Int) * h1) := by grind
    rw [this, ← a2, ← b1']
  have hh : 0 < h1 * h2 := Int.mul_pos g1 g2
  have k1 : (P1 * (Q2 : Int) < P2 * (Q1 : Int)) = (a < b) := by
    rw [← Int.mul_lt_mul_right hh, e1, e2, Int.mul_lt_mul_right hDI]
  have k2 : (P2 * (Q1 : Int) < P1 * (Q2 : Int)) = (b < a) := by
    rw [← Int.mul_lt_mul_right hh, e1, e2, Int.mul_lt_mul_right hDI]
  unfold cmpZ
  simp only [k1, k2]
theorem cmpZ_posI (a b : Int) : decide (0 < cmpZ a b) = decide (b < a) := by
  unfold cmpZ
  by_cases h1 : a < b
  · rw [if_pos h1]
    have : ¬ b < a := by omega
    simp [this]
  · rw [if_neg h1]
    by_cases h2 : b < a
    · rw [if_pos h2]; simp [h2]
    · rw [if_neg h2]; simp [h2]
theorem bl_sz {a w : World} (h : Below a.heap.size a w) : a.heap.size ≤ w.heap.size := h.size
theorem keep3c {W w' : World} {p1 p2 p3 : Addr} {x1 x2 x3 : Value} (l1 : p1.block < W.heap.size) (l2 : p2.block < W.heap.size) (l3 : p3.block < W.heap.size) (h1 : W.cell? p1 = some x1) (h2 : W.cell? p2 = some x2) (h3 : W.cell? p3 = some x3) (hb : Below W.heap.size W w') :
    w'.cell? p1 = some x1 ∧ w'.cell? p2 = some x2 ∧ w'.cell? p3 = some x3 := ⟨(hb.cell l1).trans h1, (hb.cell l2).trans h2, (hb.cell l3).trans h3⟩
/-- The first reason why there is no best item. -/
def bstE (ps rs : List Int) (ms : List Mdl) (q : Int) : Int := if gridE ps rs ≠ 0 then gridE ps rs else if ms.length = 0 then 20 else if testE ps.length ms ≠ 0 then testE ps.length ms else if q < 0 ∨ (ps.length : Int) ≤ q then 3 else 0
theorem bstE_zero {ps rs : List Int} {ms : List Mdl} {q : Int} (h : bstE ps rs ms q = 0) : gridE ps rs = 0 ∧ 0 < ms.length ∧ testE ps.length ms = 0 ∧ 0 ≤ q ∧ q < ps.length := by
  unfold bstE at h
  split at h
  · contradiction
  · rename_i h1
    split at h
    · contradiction
    · rename_i h4
      split at h
      · contradiction
      · rename_i h2
        split at h
        · omega
        · rename_i h3
          exact ⟨by simpa using h1, by omega, by simpa using h2, by omega, by omega⟩

set_option maxHeartbeats 16000000 in
theorem best_no (pv rv lv : Value) (ps rs : List Int) (ms : List Mdl) (q : Int) (w : World) (hp : Nums .i64 w pv ps) (hr : Nums .i64 w rv rs) (hm : ModL w lv ms) (hE : bstE ps rs ms q ≠ 0) :
    Calls Tryd.prog 16 #[.agg #[pv, rv], lv, .int .i64 q] w fun e w' => e = .returned (.tuple #[.int .i64 0, .int .i64 (bstE ps rs ms q)]) ∧ Below w.heap.size w w' := by
  have HGV := Lib.hid (fun (W : World) (h : Below w.heap.size w W) => gvalid_any pv rv ps rs W (hp.below h) (hr.below h))
  have HMO := Lib.hid (fun (W : World) (h : Below w.heap.size w W) => models_any pv rv lv ps rs ms W (hp.below h) (hr.below h) (hm.below h))
  by_cases h1 : gridE ps rs = 0
  · by_cases h0 : ms.length = 0
    · have hR : bstE ps rs ms q = 20 := by unfold bstE; rw [if_neg (by simpa using h1), if_pos h0]
      rw [hR]
      rw [h1] at HGV
      clear hR hE h1 HMO
      obtain ⟨PA, pc, rfl, _, _, hps⟩ := hp
      obtain ⟨RV, vc, rfl, _, _, _⟩ := hr
      obtain ⟨LA, lc, us, rfl, _, _, _, _⟩ := hm
      obtain ⟨pn, hpn⟩ : ∃ n, ps.length = n := ⟨_, rfl⟩
      obtain ⟨n, hnn⟩ : ∃ n, ms.length = n := ⟨_, rfl⟩
      rw [hpn] at HGV ⊢
      rw [hnn] at h0 ⊢
      subst h0
      clear hpn hnn hps
      obtain ⟨W0, hW0⟩ : ∃ W0 : World, W0 = w.alloc (.cells #[.slice PA pn pc, .slice RV rs.length vc] 24) := ⟨_, rfl⟩
      have r0 : Row W0 w.heap.size 24 [.slice PA pn pc, .slice RV rs.length vc] := by
        rw [hW0]
        have := Row.new w 24 [.slice PA pn pc, .slice RV rs.length vc]
        simpa using this
      have B0 : Below w.heap.size w W0 := by rw [hW0]; exact ((Below.refl _ _).alloc (Nat.le_refl _) _)
      go_enter Tryd.func16, Tryd.ntmps16
      go_wp2_with fail
      rw [← hW0]
      clear hW0
      have BB := B0
      have hr3 : Row W0 (w.heap.size) 24 [.slice PA pn pc, .slice RV rs.length vc] := r0
      clear B0 r0
      have c30 : W0.cell? ⟨w.heap.size, 0, none⟩ = some (.slice PA pn pc) := hr3.cell 0
      have c31 : W0.cell? ⟨w.heap.size, 1, none⟩ = some (.slice RV rs.length vc) := hr3.cell 1
      have z3 := hr3.lt
      go_wp2_with fail
      clear c30 c31 z3
      refine (HGV.out _ BB).mono ?_
      rintro e x1 ⟨rfl, hb⟩
      replace hr3 := hr3.keep hb
      replace BB : Below w.heap.size w x1 := BB.trans (hb.mono BB.size)
      clear hb
      have c30 : x1.cell? ⟨w.heap.size, 0, none⟩ = some (.slice PA pn pc) := hr3.cell 0
      have c31 : x1.cell? ⟨w.heap.size, 1, none⟩ = some (.slice RV rs.length vc) := hr3.cell 1
      have z3 := hr3.lt
      go_wp2_with fail
      clear c30 c31 z3
      go_ret2
      exact ⟨rfl, BB⟩
    · by_cases h2 : testE ps.length ms = 0
      · have h3 : q < 0 ∨ (ps.length : Int) ≤ q := by
          by_cases h : q < 0 ∨ (ps.length : Int) ≤ q
          · exact h
          · exfalso; apply hE; unfold bstE; rw [if_neg (by simpa using h1), if_neg h0, if_neg (by simpa using h2), if_neg h]
        have hR : bstE ps rs ms q = 3 := by unfold bstE; rw [if_neg (by simpa using h1), if_neg h0, if_neg (by simpa using h2), if_pos h3]
        rw [hR]
        rw [h1] at HGV
        rw [h2] at HMO
        clear hR hE h1 h2
        obtain ⟨PA, pc, rfl, _, _, hps⟩ := hp
        obtain ⟨RV, vc, rfl, _, _, _⟩ := hr
        obtain ⟨LA, lc, us, rfl, _, _, _, _⟩ := hm
        obtain ⟨pn, hpn⟩ : ∃ n, ps.length = n := ⟨_, rfl⟩
        obtain ⟨n, hnn⟩ : ∃ n, ms.length = n := ⟨_, rfl⟩
        rw [hpn] at HGV HMO h3 ⊢
        rw [hnn] at HMO h0 ⊢
        clear hpn hnn hps
        have t0 : ((n : Int) == 0) = false := by rw [beq_eq_false_iff_ne]; omega
        have t00 : (n == 0) = false := by rw [beq_eq_false_iff_ne]; omega
        by_cases hq : q < 0
        · have t1 : decide (q < 0) = true := decide_eq_true hq
          obtain ⟨W0, hW0⟩ : ∃ W0 : World, W0 = w.alloc (.cells #[.slice PA pn pc, .slice RV rs.length vc] 24) := ⟨_, rfl⟩
          have r0 : Row W0 w.heap.size 24 [.slice PA pn pc, .slice RV rs.length vc] := by
            rw [hW0]
            have := Row.new w 24 [.slice PA pn pc, .slice RV rs.length vc]
            simpa using this
          have B0 : Below w.heap.size w W0 := by rw [hW0]; exact ((Below.refl _ _).alloc (Nat.le_refl _) _)
          go_enter Tryd.func16, Tryd.ntmps16
          go_wp2_with fail
          rw [← hW0]
          clear hW0
          have BB := B0
          have hr3 : Row W0 (w.heap.size) 24 [.slice PA pn pc, .slice RV rs.length vc] := r0
          clear B0 r0
          have c30 : W0.cell? ⟨w.heap.size, 0, none⟩ = some (.slice PA pn pc) := hr3.cell 0
          have c31 : W0.cell? ⟨w.heap.size, 1, none⟩ = some (.slice RV rs.length vc) := hr3.cell 1
          have z3 := hr3.lt
          go_wp2_with fail
          clear c30 c31 z3
          refine (HGV.out _ BB).mono ?_
          rintro e x1 ⟨rfl, hb⟩
          replace hr3 := hr3.keep hb
          replace BB : Below w.heap.size w x1 := BB.trans (hb.mono BB.size)
          clear hb
          have c30 : x1.cell? ⟨w.heap.size, 0, none⟩ = some (.slice PA pn pc) := hr3.cell 0
          have c31 : x1.cell? ⟨w.heap.size, 1, none⟩ = some (.slice RV rs.length vc) := hr3.cell 1
          have z3 := hr3.lt
          go_wp2_with fail
          clear c30 c31 z3
          refine (HMO.out _ BB).mono ?_
          rintro e x2 ⟨rfl, hb⟩
          replace hr3 := hr3.keep hb
          replace BB : Below w.heap.size w x2 := BB.trans (hb.mono BB.size)
          clear hb
          have c30 : x2.cell? ⟨w.heap.size, 0, none⟩ = some (.slice PA pn pc) := hr3.cell 0
          have c31 : x2.cell? ⟨w.heap.size, 1, none⟩ = some (.slice RV rs.length vc) := hr3.cell 1
          have z3 := hr3.lt
          go_wp2_with fail
          clear c30 c31 z3
          go_ret2
          exact ⟨rfl, BB⟩
        · have t1 : decide (q < 0) = false := decide_eq_false hq
          have t2 : decide ((pn : Int) ≤ q) = true := decide_eq_true (by omega)
          obtain ⟨W0, hW0⟩ : ∃ W0 : World, W0 = w.alloc (.cells #[.slice PA pn pc, .slice RV rs.length vc] 24) := ⟨_, rfl⟩
          have r0 : Row W0 w.heap.size 24 [.slice PA pn pc, .slice RV rs.length vc] := by
            rw [hW0]
            have := Row.new w 24 [.slice PA pn pc, .slice RV rs.length vc]
            simpa using this
          have B0 : Below w.heap.size w W0 := by rw [hW0]; exact ((Below.refl _ _).alloc (Nat.le_refl _) _)
          go_enter Tryd.func16, Tryd.ntmps16
          go_wp2_with fail
          rw [← hW0]
          clear hW0
          have BB := B0
          have hr3 : Row W0 (w.heap.size) 24 [.slice PA pn pc, .slice RV rs.length vc] := r0
          clear B0 r0
          have c30 : W0.cell? ⟨w.heap.size, 0, none⟩ = some (.slice PA pn pc) := hr3.cell 0
          have c31 : W0.cell? ⟨w.heap.size, 1, none⟩ = some (.slice RV rs.length vc) := hr3.cell 1
          have z3 := hr3.lt
          go_wp2_with fail
          clear c30 c31 z3
          refine (HGV.out _ BB).mono ?_
          rintro e x1 ⟨rfl, hb⟩
          replace hr3 := hr3.keep hb
          replace BB : Below w.heap.size w x1 := BB.trans (hb.mono BB.size)
          clear hb
          have c30 : x1.cell? ⟨w.heap.size, 0, none⟩ = some (.slice PA pn pc) := hr3.cell 0
          have c31 : x1.cell? ⟨w.heap.size, 1, none⟩ = some (.slice RV rs.length vc) := hr3.cell 1
          have z3 := hr3.lt
          go_wp2_with fail
          clear c30 c31 z3
          refine (HMO.out _ BB).mono ?_
          rintro e x2 ⟨rfl, hb⟩
          replace hr3 := hr3.keep hb
          replace BB : Below w.heap.size w x2 := BB.trans (hb.mono BB.size)
          clear hb
          have c30 : x2.cell? ⟨w.heap.size, 0, none⟩ = some (.slice PA pn pc) := hr3.cell 0
          have c31 : x2.cell? ⟨w.heap.size, 1, none⟩ = some (.slice RV rs.length vc) := hr3.cell 1
          have z3 := hr3.lt
          go_wp2_with fail
          clear c30 c31 z3
          go_ret2
          exact ⟨rfl, BB⟩
      · have hR : bstE ps rs ms q = testE ps.length ms := by unfold bstE; rw [if_neg (by simpa using h1), if_neg h0, if_pos h2]
        rw [hR]
        rw [h1] at HGV
        have t1 : (testE ps.length ms != 0) = true := by rw [bne_iff_ne]; exact h2
        generalize testE ps.length ms = E at *
        clear hR hE h1 h2
        obtain ⟨PA, pc, rfl, _, _, hps⟩ := hp
        obtain ⟨RV, vc, rfl, _, _, _⟩ := hr
        obtain ⟨LA, lc, us, rfl, _, _, _, _⟩ := hm
        obtain ⟨pn, hpn⟩ : ∃ n, ps.length = n := ⟨_, rfl⟩
        obtain ⟨n, hnn⟩ : ∃ n, ms.length = n := ⟨_, rfl⟩
        rw [hpn] at HGV HMO ⊢
        rw [hnn] at HMO h0 ⊢
        clear hpn hnn hps
        have t0 : ((n : Int) == 0) = false := by rw [beq_eq_false_iff_ne]; omega
        have t00 : (n == 0) = false := by rw [beq_eq_false_iff_ne]; omega
        obtain ⟨W0, hW0⟩ : ∃ W0 : World, W0 = w.alloc (.cells #[.slice PA pn pc, .slice RV rs.length vc] 24) := ⟨_, rfl⟩
        have r0 : Row W0 w.heap.size 24 [.slice PA pn pc, .slice RV rs.length vc] := by
          rw [hW0]
          have := Row.new w 24 [.slice PA pn pc, .slice RV rs.length vc]
          simpa using this
        have B0 : Below w.heap.size w W0 := by rw [hW0]; exact ((Below.refl _ _).alloc (Nat.le_refl _) _)
        go_enter Tryd.func16, Tryd.ntmps16
        go_wp2_with fail
        rw [← hW0]
        clear hW0
        have BB := B0
        have hr3 : Row W0 (w.heap.size) 24 [.slice PA pn pc, .slice RV rs.length vc] := r0
        clear B0 r0
        have c30 : W0.cell? ⟨w.heap.size, 0, none⟩ = some (.slice PA pn pc) := hr3.cell 0
        have c31 : W0.cell? ⟨w.heap.size, 1, none⟩ = some (.slice RV rs.length vc) := hr3.cell 1
        have z3 := hr3.lt
        go_wp2_with fail
        clear c30 c31 z3
        refine (HGV.out _ BB).mono ?_
        rintro e x1 ⟨rfl, hb⟩
        replace hr3 := hr3.keep hb
        replace BB : Below w.heap.size w x1 := BB.trans (hb.mono BB.size)
        clear hb
        have c30 : x1.cell? ⟨w.heap.size, 0, none⟩ = some (.slice PA pn pc) := hr3.cell 0
        have c31 : x1.cell? ⟨w.heap.size, 1, none⟩ = some (.slice RV rs.length vc) := hr3.cell 1
        have z3 := hr3.lt
        go_wp2_with fail
        clear c30 c31 z3
        refine (HMO.out _ BB).mono ?_
        rintro e x2 ⟨rfl, hb⟩
        replace hr3 := hr3.keep hb
        replace BB : Below w.heap.size w x2 := BB.trans (hb.mono BB.size)
        clear hb
        have c30 : x2.cell? ⟨w.heap.size, 0, none⟩ = some (.slice PA pn pc) := hr3.cell 0
        have c31 : x2.cell? ⟨w.heap.size, 1, none⟩ = some (.slice RV rs.length vc) := hr3.cell 1
        have z3 := hr3.lt
        go_wp2_with fail
        clear c30 c31 z3
        go_ret2
        exact ⟨rfl, BB⟩
  · have hR : bstE ps rs ms q = gridE ps rs := by unfold bstE; rw [if_pos h1]
    rw [hR]
    have t1 : (gridE ps rs != 0) = true := by rw [bne_iff_ne]; exact h1
    generalize gridE ps rs = E at *
    clear hR hE h1 HMO
    obtain ⟨PA, pc, rfl, _, _, hps⟩ := hp
    obtain ⟨RV, vc, rfl, _, _, _⟩ := hr
    obtain ⟨LA, lc, us, rfl, _, _, _, _⟩ := hm
    obtain ⟨pn, hpn⟩ : ∃ n, ps.length = n := ⟨_, rfl⟩
    obtain ⟨n, hnn⟩ : ∃ n, ms.length = n := ⟨_, rfl⟩
    rw [hpn] at HGV ⊢
    rw [hnn]
    clear hpn hnn hps
    obtain ⟨W0, hW0⟩ : ∃ W0 : World, W0 = w.alloc (.cells #[.slice PA pn pc, .slice RV rs.length vc] 24) := ⟨_, rfl⟩
    have r0 : Row W0 w.heap.size 24 [.slice PA pn pc, .slice RV rs.length vc] := by
      rw [hW0]
      have := Row.new w 24 [.slice PA pn pc, .slice RV rs.length vc]
      simpa using this
    have B0 : Below w.heap.size w W0 := by rw [hW0]; exact ((Below.refl _ _).alloc (Nat.le_refl _) _)
    go_enter Tryd.func16, Tryd.ntmps16
    go_wp2_with fail
    rw [← hW0]
    clear hW0
    have BB := B0
    have hr3 : Row W0 (w.heap.size) 24 [.slice PA pn pc, .slice RV rs.length vc] := r0
    clear B0 r0
    have c30 : W0.cell? ⟨w.heap.size, 0, none⟩ = some (.slice PA pn pc) := hr3.cell 0
    have c31 : W0.cell? ⟨w.heap.size, 1, none⟩ = some (.slice RV rs.length vc) := hr3.cell 1
    have z3 := hr3.lt
    go_wp2_with fail
    clear c30 c31 z3
    refine (HGV.out _ BB).mono ?_
    rintro e x1 ⟨rfl, hb⟩
    replace hr3 := hr3.keep hb
    replace BB : Below w.heap.size w x1 := BB.trans (hb.mono BB.size)
    clear hb
    have c30 : x1.cell? ⟨w.heap.size, 0, none⟩ = some (.slice PA pn pc) := hr3.cell 0
    have c31 : x1.cell? ⟨w.heap.size, 1, none⟩ = some (.slice RV rs.length vc) := hr3.cell 1
    have z3 := hr3.lt
    go_wp2_with fail
    clear c30 c31 z3
    go_ret2
    exact ⟨rfl, BB⟩

set_option maxHeartbeats 32000000 in
theorem best_ok (pv rv lv : Value) (ps rs : List Int) (ms : List Mdl) (q Z : Nat) (w : World) (hp : Nums .i64 w pv ps) (hr : Nums .i64 w rv rs) (hm : ModL w lv ms) (hZ : IsLam Z) (hE : bstE ps rs ms (q : Int) = 0) :
    Calls Tryd.prog 16 #[.agg #[pv, rv], lv, .int .i64 (q : Int)] w fun e w' => e = .returned (.tuple #[.int .i64 (topI (tsF Z ms ps.length q) ms.length : Int), .int .i64 0]) ∧ Below w.heap.size w w' := by
  obtain ⟨e1, h0, e2, e3, e4⟩ := bstE_zero hE
  have HGV := Lib.hid (fun (W : World) (h : Below w.heap.size w W) => gvalid_any pv rv ps rs W (hp.below h) (hr.below h))
  have HMO := Lib.hid (fun (W : World) (h : Below w.heap.size w W) => models_any pv rv lv ps rs ms W (hp.below h) (hr.below h) (hm.below h))
  obtain ⟨h60, hmods⟩ := testE_zero e2
  have hqn : q < ps.length := by omega
  obtain ⟨D0, _⟩ := inD_bd hZ e1 hqn
  have HDP := Lib.hid D0
  have HIN : Hid (∀ j, j < ms.length → ∀ W u, Nums .i64 W pv ps → Nums .i64 W rv rs → IntsL W u (ms.getD j []) → Calls Tryd.prog 26 #[.agg #[pv, rv], .agg #[u], .int .i64 (q : Int)] W fun e w' => ∃ x, e = .returned x ∧ RatF W.heap.size w' x (redP (inF Z (ms.getD j []) ps.length q) (ifD Z ps q)) (redQ (inF Z (ms.getD j []) ps.length q) (ifD Z ps q)) 330 ∧ Below W.heap.size W w') := fun j hj W u h1 h2 h3 => info_any pv rv u ps rs (ms.getD j []) q Z W h1 h2 h3 e1 (hmods j hj) hqn hZ
  have HFE : Hid (∀ j, inF Z (ms.getD j []) ps.length q = tsF Z ms ps.length q j) := fun j => rfl
  rw [e1] at HGV
  rw [e2] at HMO
  replace HIN : Hid (∀ j, j < ms.length → ∀ W u, Nums .i64 W pv ps → Nums .i64 W rv rs → IntsL W u (ms.getD j []) → Calls Tryd.prog 26 #[.agg #[pv, rv], .agg #[u], .int .i64 (q : Int)] W fun e w' => ∃ x, e = .returned x ∧ RatF W.heap.size w' x (redP (tsF Z ms ps.length q j) (ifD Z ps q)) (redQ (tsF Z ms ps.length q j) (ifD Z ps q)) 330 ∧ Below W.heap.size W w') := HIN
  generalize tsF Z ms ps.length q = f at *
  generalize ifD Z ps q = D at *
  clear e1 e2 e3 e4 hE hmods D0 HFE
  have HFE : Hid (∀ j : Nat, f j = f j) := fun _ => rfl
  have HP := Lib.hid hp
  have HR := Lib.hid hr
  obtain ⟨PA, pc, rfl, _, _, hps⟩ := hp
  obtain ⟨RV, vc, rfl, _, _, _⟩ := hr
  obtain ⟨LA, lc, us, rfl, hlc, hlm, hls, hlu⟩ := hm
  have HLU := Lib.hid hlu
  clear hlu
  obtain ⟨lb, lo, u0, hLA, hlb, _, _⟩ := lst_at (R := IntsL) (d := []) (xs := ms) hls HLU.out h0
  subst hLA
  obtain ⟨pn, hpn⟩ : ∃ n, ps.length = n := ⟨_, rfl⟩
  obtain ⟨n, hnn⟩ : ∃ n, ms.length = n := ⟨_, rfl⟩
  rw [hpn] at HGV HMO HIN HP hqn ⊢
  rw [hnn] at HMO HIN hls h0 h60 ⊢
  clear hpn hnn hps
  have t0 : ((n : Int) == 0) = false := by rw [beq_eq_false_iff_ne]; omega
  have t00 : (n == 0) = false := by rw [beq_eq_false_iff_ne]; omega
  have t1 : decide ((q : Int) < 0) = false := decide_eq_false (by omega)
  have t2 : decide ((pn : Int) ≤ (q : Int)) = false := decide_eq_false (by omega)
  have t3 : decide (pn ≤ q) = false := decide_eq_false (by omega)
  have h0I : (0 : Int) < (n : Int) := by omega
  obtain ⟨W0, hW0⟩ : ∃ W0 : World, W0 = w.alloc (.cells #[.slice PA pn pc, .slice RV rs.length vc] 24) := ⟨_, rfl⟩
  have r0 : Row W0 w.heap.size 24 [.slice PA pn pc, .slice RV rs.length vc] := by
    rw [hW0]
    have := Row.new w 24 [.slice PA pn pc, .slice RV rs.length vc]
    simpa using this
  have B0 : Below w.heap.size w W0 := by rw [hW0]; exact ((Below.refl _ _).alloc (Nat.le_refl _) _)
  go_enter Tryd.func16, Tryd.ntmps16
  go_wp2_with fail
  rw [← hW0]
  clear hW0
  have BB := B0
  have hr3 : Row W0 (w.heap.size) 24 [.slice PA pn pc, .slice RV rs.length vc] := r0
  clear B0 r0
  have c30 : W0.cell? ⟨w.heap.size, 0, none⟩ = some (.slice PA pn pc) := hr3.cell 0
  have c31 : W0.cell? ⟨w.heap.size, 1, none⟩ = some (.slice RV rs.length vc) := hr3.cell 1
  have z3 := hr3.lt
  go_wp2_with fail
  clear c30 c31 z3
  refine (HGV.out _ BB).mono ?_
  rintro e x1 ⟨rfl, hb⟩
  replace hr3 := hr3.keep hb
  replace BB : Below w.heap.size w x1 := BB.trans (hb.mono BB.size)
  clear hb
  have c30 : x1.cell? ⟨w.heap.size, 0, none⟩ = some (.slice PA pn pc) := hr3.cell 0
  have c31 : x1.cell? ⟨w.heap.size, 1, none⟩ = some (.slice RV rs.length vc) := hr3.cell 1
  have z3 := hr3.lt
  go_wp2_with fail
  clear c30 c31 z3
  refine (HMO.out _ BB).mono ?_
  rintro e x2 ⟨rfl, hb⟩
  replace hr3 := hr3.keep hb
  replace BB : Below w.heap.size w x2 := BB.trans (hb.mono BB.size)
  clear hb
  obtain ⟨bi, oi, ui, hLA0, hbi, hci, hui⟩ := lst_at (R := IntsL) (d := []) (xs := ms) hls HLU.out h0
  obtain ⟨rfl, rfl⟩ : lb = bi ∧ lo = oi := by injection hLA0 with h; injection h with h1 h2 h3; exact ⟨h1, h2⟩
  clear hLA0
  replace hui := hui.below BB
  have gi := (BB.cell (p := ⟨lb, lo, none⟩) hbi).trans hci
  have HII := Lib.hid (HIN.out 0 h0)
  obtain ⟨mi, hmi⟩ : ∃ x, ms.getD 0 [] = x := ⟨_, rfl⟩
  rw [hmi] at HII hui
  clear hmi hci
  obtain ⟨MA, mc, mus, rfl, _, _, _, _⟩ := id hui
  obtain ⟨ml, hml⟩ : ∃ n, mi.length = n := ⟨_, rfl⟩
  rw [hml] at gi hui
  clear hml
  have hp0 := HP.out.below BB
  have hr0 := HR.out.below BB
  have c30 : x2.cell? ⟨w.heap.size, 0, none⟩ = some (.slice PA pn pc) := hr3.cell 0
  have c31 : x2.cell? ⟨w.heap.size, 1, none⟩ = some (.slice RV rs.length vc) := hr3.cell 1
  have z3 := hr3.lt
  have BBz := BB.size
  go_wp2_with fail
  have qs0 : x2.cell? ⟨w.heap.size, 0, none⟩ = some (.slice PA pn pc) := hr3.cell 0
  have qs1 : x2.cell? ⟨w.heap.size, 1, none⟩ = some (.slice RV rs.length vc) := hr3.cell 1
  have zs0 := hr3.lt
  have qs2 : x2.cell? ⟨lb, lo, none⟩ = some (.slice MA ml mc) := gi
  have zs1 := Nat.lt_of_lt_of_le hbi BB.size
  go_cut [11, 10] (fun s0 s1 wx => ∃ (g : Nat) (A11 : Option Addr) (k11 c11 : Nat) (D11 : Option Addr) (l11 b11 : Nat), s0 = .pointer (some ⟨g, 0, none⟩) ∧ x2.heap.size ≤ g ∧ Row wx g 31 [.bool (decide ((redP (f 0) D) < 0)), .slice A11 k11 c11, .slice D11 l11 b11] ∧ RatF x2.heap.size wx (.agg #[.bool (decide ((redP (f 0) D) < 0)), .slice A11 k11 c11, .slice D11 l11 b11]) (redP (f 0) D) (redQ (f 0) D) 330 ∧ s1 = .int .i64 0 ∧ Below x2.heap.size x2 wx)
  case first =>
    go_region_held3 (fun w' => w'.cell? ⟨w.heap.size, 0, none⟩ = some (.slice PA pn pc) ∧ w'.cell? ⟨w.heap.size, 1, none⟩ = some (.slice RV rs.length vc) ∧ w'.cell? ⟨lb, lo, none⟩ = some (.slice MA ml mc))
      ((refine keep3c zs0 zs0 zs1 qs0 qs1 qs2 ?_; (repeat (first | with_reducible exact Below.refl _ _ | ((with_reducible refine bl_set ?_ ?_ _); rotate_left; (first | exact Nat.le_refl _ | exact gz4)) | with_reducible refine bl_call h4 ?_ | with_reducible refine bl_alloc ?_ _ | with_reducible refine bl_drew ?_)); done))
      (first
        | (go_at_call 26; ((with_reducible refine (HII.out _ _ (hp0.below ?_) (hr0.below ?_) (hui.below ?_)).mono ?_); (repeat (first | with_reducible exact Below.refl _ _ | ((with_reducible refine bl_set ?_ ?_ _); rotate_left; (first | exact Nat.le_refl _ | exact gz4)) | with_reducible refine bl_call h4 ?_ | with_reducible refine bl_alloc ?_ _ | with_reducible refine bl_drew ?_)); (repeat (first | with_reducible exact Below.refl _ _ | ((with_reducible refine bl_set ?_ ?_ _); rotate_left; (first | exact Nat.le_refl _ | exact gz4)) | with_reducible refine bl_call h4 ?_ | with_reducible refine bl_alloc ?_ _ | with_reducible refine bl_drew ?_)); (repeat (first | with_reducible exact Below.refl _ _ | ((with_reducible refine bl_set ?_ ?_ _); rotate_left; (first | exact Nat.le_refl _ | exact gz4)) | with_reducible refine bl_call h4 ?_ | with_reducible refine bl_alloc ?_ _ | with_reducible refine bl_drew ?_)); rintro e w4 ⟨v4, rfl, hR4, h4⟩; have gz4 : x2.heap.size ≤ w4.heap.size := (bl_call h4 (by (repeat (first | with_reducible exact Below.refl _ _ | ((with_reducible refine bl_set ?_ ?_ _); rotate_left; (first | exact Nat.le_refl _ | exact gz4)) | with_reducible refine bl_call h4 ?_ | with_reducible refine bl_alloc ?_ _ | with_reducible refine bl_drew ?_))) : Below x2.heap.size x2 w4).size; (first | (have zg := RR.lt; replace RR := RR.keep h4) | (have R0 := Row.drew (Row.new x2 31 [.bool false, .slice none 0 0, .slice none 0 0]); have zg := R0.lt; have RR := R0.keep h4) | (have R0 := Row.new x2.drew 31 [.bool false, .slice none 0 0, .slice none 0 0]; have zg := R0.lt; have RR := R0.keep h4) | (have R0 := Row.new x2 31 [.bool false, .slice none 0 0, .slice none 0 0]; have zg := R0.lt; have RR := R0.keep h4) | skip); have hR4' := hR4; obtain ⟨m6, d6, e6, hm6, hd6, _, _⟩ := hR4'; subst e6; obtain ⟨A11, k11, c11, rfl⟩ := hm6.lim1.choose_spec.1.show_; obtain ⟨D11, l11, b11, rfl⟩ := hd6.lim1.choose_spec.1.show_; clear hm6 hd6; (try (have e0 := RR.cell 0; have e1 := RR.cell 1; have e2 := RR.cell 2; simp only [List.getElem?_cons_zero, List.getElem?_cons_succ] at e0 e1 e2; have f0 := RR.frozen 0; have f1 := RR.frozen 1; have f2 := RR.frozen 2)))))
    all_goals go_wp2_with fail
    all_goals go_meet
    all_goals go_light
    all_goals
      refine ⟨_, A11, k11, c11, D11, l11, b11, rfl, ?_, ?_, ?_, rfl, ?_⟩
      · (first | exact Nat.le_refl _ | exact gz4)
      · (first | exact Row.new _ _ _ | exact (((RR.set_ 0 _).set_ 1 _).set_ 2 _))
      · (first | exact (hR4.below (lit_below _ _)).base (bl_sz (by (repeat (first | with_reducible exact Below.refl _ _ | ((with_reducible refine bl_set ?_ ?_ _); rotate_left; (first | exact Nat.le_refl _ | exact gz4)) | with_reducible refine bl_call h4 ?_ | with_reducible refine bl_alloc ?_ _ | with_reducible refine bl_drew ?_)))) | exact ((((hR4.set_ zg _).set_ zg _).set_ zg _)).base (bl_sz (by (repeat (first | with_reducible exact Below.refl _ _ | ((with_reducible refine bl_set ?_ ?_ _); rotate_left; (first | exact Nat.le_refl _ | exact gz4)) | with_reducible refine bl_call h4 ?_ | with_reducible refine bl_alloc ?_ _ | with_reducible refine bl_drew ?_)))))
      · (repeat (first | with_reducible exact Below.refl _ _ | ((with_reducible refine bl_set ?_ ?_ _); rotate_left; (first | exact Nat.le_refl _ | exact gz4)) | with_reducible refine bl_call h4 ?_ | with_reducible refine bl_alloc ?_ _ | with_reducible refine bl_drew ?_))
  case rest =>
  obtain ⟨g11, A11, k11, c11, D11, l11, b11, rfl, hg11, hr11, hv11, rfl, hbc⟩ := hcut
  clear qs0 qs1 qs2 zs0 zs1 c30 c31 z3
  obtain ⟨x3, hx3⟩ : ∃ x, x = wc := ⟨_, rfl⟩
  rw [← hx3] at hr11 hv11 hbc ⊢
  clear hx3
  have o3_11 : w.heap.size < g11 := by have := hr3.lt; omega
  have ob_11 : w.heap.size ≤ g11 := by have := BB.size; omega
  replace hr3 := hr3.keep hbc
  replace BB : Below w.heap.size w x3 := BB.trans (hbc.mono BB.size)
  clear hbc
  clear hp0 hr0 hui gi HII
  have c30 : x3.cell? ⟨w.heap.size, 0, none⟩ = some (.slice PA pn pc) := hr3.cell 0
  have c31 : x3.cell? ⟨w.heap.size, 1, none⟩ = some (.slice RV rs.length vc) := hr3.cell 1
  have c110 : x3.cell? ⟨g11, 0, none⟩ = some (.bool (decide ((redP (f 0) D) < 0))) := hr11.cell 0
  have c111 : x3.cell? ⟨g11, 1, none⟩ = some (.slice A11 k11 c11) := hr11.cell 1
  have c112 : x3.cell? ⟨g11, 2, none⟩ = some (.slice D11 l11 b11) := hr11.cell 2
  have z3 := hr3.lt
  have z11 := hr11.lt
  go_wp2_with fail
  clear c30 c31 c110 c111 c112 z3 z11
  have htop1 : topI f 1 = 0 := by have h1 := topI_le f 1; omega
  have hv11x := hv11.base BBz
  go_loopw [10, 12] (fun bv iv wr => ∃ (k : Nat) (A11 : Option Addr) (k11 c11 : Nat) (D11 : Option Addr) (l11 b11 : Nat), 1 ≤ k ∧ k ≤ n ∧ bv = .int .i64 (topI f k : Int) ∧ iv = .int .i64 (k : Int) ∧ Row wr w.heap.size 24 [.slice PA pn pc, .slice RV rs.length vc] ∧ Row wr g11 31 [.bool (decide ((redP (f (topI f k)) D) < 0)), .slice A11 k11 c11, .slice D11 l11 b11] ∧ RatF w.heap.size wr (.agg #[.bool (decide ((redP (f (topI f k)) D) < 0)), .slice A11 k11 c11, .slice D11 l11 b11]) (redP (f (topI f k)) D) (redQ (f (topI f k)) D) 330 ∧ Below w.heap.size w wr) (fun _ iv _ => n - (intOf iv).toNat)
  case atStart => exact ⟨1, A11, k11, c11, D11, l11, b11, by omega, by omega, by rw [htop1]; rfl, rfl, hr3, by rw [htop1]; exact hr11, by rw [htop1]; exact hv11x, BB⟩
  case round =>
    clear hr3 hr11 hv11 hv11x BB htop1
    obtain ⟨k, A11, k11, c11, D11, l11, b11, hk1, hk, rfl, rfl, hr3, hr11, hv11, BB⟩ := hrel
    have HST : Hid (topI f (k + 1) = if f (topI f k) < f k then k else topI f k) := rfl
    obtain ⟨t, hte⟩ : ∃ x, topI f k = x := ⟨_, rfl⟩
    rw [hte] at hr11 hv11 HST ⊢
    have HTE := Lib.hid hte
    clear hte
    by_cases hlt : k < n
    · have hkI : (k : Int) < (n : Int) := by omega
      have hyy11 := hr11.lt
      obtain ⟨bi, oi, ui, hLAk, hbi, hci, hui⟩ := lst_at (R := IntsL) (d := []) (xs := ms) hls HLU.out hlt
      obtain ⟨rfl, rfl⟩ : lb = bi ∧ lo = oi := by injection hLAk with h; injection h with h1 h2 h3; exact ⟨h1, h2⟩
      clear hLAk
      replace hui := hui.below BB
      have gi := (BB.cell (p := ⟨lb, lo + k, none⟩) hbi).trans hci
      have HII := Lib.hid (HIN.out k hlt)
      obtain ⟨mi, hmi⟩ : ∃ x, ms.getD k [] = x := ⟨_, rfl⟩
      rw [hmi] at HII hui
      clear hmi hci
      obtain ⟨MA, mc, mus, rfl, _, _, _, _⟩ := id hui
      obtain ⟨ml, hml⟩ : ∃ n, mi.length = n := ⟨_, rfl⟩
      rw [hml] at gi hui
      clear hml
      have hp0 := HP.out.below BB
      have hr0 := HR.out.below BB
      have c30 : wr.cell? ⟨w.heap.size, 0, none⟩ = some (.slice PA pn pc) := hr3.cell 0
      have c31 : wr.cell? ⟨w.heap.size, 1, none⟩ = some (.slice RV rs.length vc) := hr3.cell 1
      have c110 : wr.cell? ⟨g11, 0, none⟩ = some (.bool (decide ((redP (f t) D) < 0))) := hr11.cell 0
      have c111 : wr.cell? ⟨g11, 1, none⟩ = some (.slice A11 k11 c11) := hr11.cell 1
      have c112 : wr.cell? ⟨g11, 2, none⟩ = some (.slice D11 l11 b11) := hr11.cell 2
      have z3 := hr3.lt
      have z11 := hr11.lt
      go_wp2_with fail
      have qs0 : wr.cell? ⟨w.heap.size, 0, none⟩ = some (.slice PA pn pc) := hr3.cell 0
      have qs1 : wr.cell? ⟨w.heap.size, 1, none⟩ = some (.slice RV rs.length vc) := hr3.cell 1
      have zs0 := hr3.lt
      have qs2 : wr.cell? ⟨lb, lo + k, none⟩ = some (.slice MA ml mc) := gi
      have zs1 := Nat.lt_of_lt_of_le hbi BB.size
      go_cut [13] (fun s0 wx => ∃ (g : Nat) (A13 : Option Addr) (k13 c13 : Nat) (D13 : Option Addr) (l13 b13 : Nat), s0 = .pointer (some ⟨g, 0, none⟩) ∧ wr.heap.size ≤ g ∧ Row wx g 31 [.bool (decide ((redP (f k) D) < 0)), .slice A13 k13 c13, .slice D13 l13 b13] ∧ RatF wr.heap.size wx (.agg #[.bool (decide ((redP (f k) D) < 0)), .slice A13 k13 c13, .slice D13 l13 b13]) (redP (f k) D) (redQ (f k) D) 330 ∧ Below wr.heap.size wr wx)
      case first =>
        go_region_held3 (fun w' => w'.cell? ⟨w.heap.size, 0, none⟩ = some (.slice PA pn pc) ∧ w'.cell? ⟨w.heap.size, 1, none⟩ = some (.slice RV rs.length vc) ∧ w'.cell? ⟨lb, lo + k, none⟩ = some (.slice MA ml mc))
          ((refine keep3c zs0 zs0 zs1 qs0 qs1 qs2 ?_; (repeat (first | with_reducible exact Below.refl _ _ | ((with_reducible refine bl_set ?_ ?_ _); rotate_left; (first | exact Nat.le_refl _ | exact gz4)) | with_reducible refine bl_call h4 ?_ | with_reducible refine bl_alloc ?_ _ | with_reducible refine bl_drew ?_)); done))
          (first
            | (go_at_call 26; ((with_reducible refine (HII.out _ _ (hp0.below ?_) (hr0.below ?_) (hui.below ?_)).mono ?_); (repeat (first | with_reducible exact Below.refl _ _ | ((with_reducible refine bl_set ?_ ?_ _); rotate_left; (first | exact Nat.le_refl _ | exact gz4)) | with_reducible refine bl_call h4 ?_ | with_reducible refine bl_alloc ?_ _ | with_reducible refine bl_drew ?_)); (repeat (first | with_reducible exact Below.refl _ _ | ((with_reducible refine bl_set ?_ ?_ _); rotate_left; (first | exact Nat.le_refl _ | exact gz4)) | with_reducible refine bl_call h4 ?_ | with_reducible refine bl_alloc ?_ _ | with_reducible refine bl_drew ?_)); (repeat (first | with_reducible exact Below.refl _ _ | ((with_reducible refine bl_set ?_ ?_ _); rotate_left; (first | exact Nat.le_refl _ | exact gz4)) | with_reducible refine bl_call h4 ?_ | with_reducible refine bl_alloc ?_ _ | with_reducible refine bl_drew ?_)); rintro e w4 ⟨v4, rfl, hR4, h4⟩; have gz4 : wr.heap.size ≤ w4.heap.size := (bl_call h4 (by (repeat (first | with_reducible exact Below.refl _ _ | ((with_reducible refine bl_set ?_ ?_ _); rotate_left; (first | exact Nat.le_refl _ | exact gz4)) | with_reducible refine bl_call h4 ?_ | with_reducible refine bl_alloc ?_ _ | with_reducible refine bl_drew ?_))) : Below wr.heap.size wr w4).size; (first | (have zg := RR.lt; replace RR := RR.keep h4) | (have R0 := Row.drew (Row.new wr 31 [.bool false, .slice none 0 0, .slice none 0 0]); have zg := R0.lt; have RR := R0.keep h4) | (have R0 := Row.new wr.drew 31 [.bool false, .slice none 0 0, .slice none 0 0]; have zg := R0.lt; have RR := R0.keep h4) | (have R0 := Row.new wr 31 [.bool false, .slice none 0 0, .slice none 0 0]; have zg := R0.lt; have RR := R0.keep h4) | skip); have hR4' := hR4; obtain ⟨m6, d6, e6, hm6, hd6, _, _⟩ := hR4'; subst e6; obtain ⟨A13, k13, c13, rfl⟩ := hm6.lim1.choose_spec.1.show_; obtain ⟨D13, l13, b13, rfl⟩ := hd6.lim1.choose_spec.1.show_; clear hm6 hd6; (try (have e0 := RR.cell 0; have e1 := RR.cell 1; have e2 := RR.cell 2; simp only [List.getElem?_cons_zero, List.getElem?_cons_succ] at e0 e1 e2; have f0 := RR.frozen 0; have f1 := RR.frozen 1; have f2 := RR.frozen 2)))))
        all_goals go_wp2_with fail
        all_goals go_meet
        all_goals go_light
        all_goals
          refine ⟨_, A13, k13, c13, D13, l13, b13, rfl, ?_, ?_, ?_, ?_⟩
          · (first | exact Nat.le_refl _ | exact gz4)
          · (first | exact Row.new _ _ _ | exact (((RR.set_ 0 _).set_ 1 _).set_ 2 _))
          · (first | exact (hR4.below (lit_below _ _)).base (bl_sz (by (repeat (first | with_reducible exact Below.refl _ _ | ((with_reducible refine bl_set ?_ ?_ _); rotate_left; (first | exact Nat.le_refl _ | exact gz4)) | with_reducible refine bl_call h4 ?_ | with_reducible refine bl_alloc ?_ _ | with_reducible refine bl_drew ?_)))) | exact ((((hR4.set_ zg _).set_ zg _).set_ zg _)).base (bl_sz (by (repeat (first | with_reducible exact Below.refl _ _ | ((with_reducible refine bl_set ?_ ?_ _); rotate_left; (first | exact Nat.le_refl _ | exact gz4)) | with_reducible refine bl_call h4 ?_ | with_reducible refine bl_alloc ?_ _ | with_reducible refine bl_drew ?_)))))
          · (repeat (first | with_reducible exact Below.refl _ _ | ((with_reducible refine bl_set ?_ ?_ _); rotate_left; (first | exact Nat.le_refl _ | exact gz4)) | with_reducible refine bl_call h4 ?_ | with_reducible refine bl_alloc ?_ _ | with_reducible refine bl_drew ?_))
      case rest =>
      obtain ⟨g13, A13, k13, c13, D13, l13, b13, rfl, hg13, hr13, hv13, hbc⟩ := hcut
      clear qs0 qs1 qs2 zs0 zs1 c30 c31 c110 c111 c112 z3 z11
      obtain ⟨x61, hx61⟩ : ∃ x, x = wc := ⟨_, rfl⟩
      rw [← hx61] at hr13 hv13 hbc ⊢
      clear hx61
      have o3_13 : w.heap.size < g13 := by have := hr3.lt; omega
      have o11_13 : g11 < g13 := by have := hr11.lt; omega
      have ob_13 : w.heap.size ≤ g13 := by have := BB.size; omega
      replace hr3 := hr3.keep hbc
      replace hr11 := hr11.keep hbc
      replace hv11 := hv11.below hbc
      replace BB : Below w.heap.size w x61 := BB.trans (hbc.mono BB.size)
      clear hbc
      clear hp0 hr0 hui gi HII
      have c30 : x61.cell? ⟨w.heap.size, 0, none⟩ = some (.slice PA pn pc) := hr3.cell 0
      have c31 : x61.cell? ⟨w.heap.size, 1, none⟩ = some (.slice RV rs.length vc) := hr3.cell 1
      have c110 : x61.cell? ⟨g11, 0, none⟩ = some (.bool (decide ((redP (f t) D) < 0))) := hr11.cell 0
      have c111 : x61.cell? ⟨g11, 1, none⟩ = some (.slice A11 k11 c11) := hr11.cell 1
      have c112 : x61.cell? ⟨g11, 2, none⟩ = some (.slice D11 l11 b11) := hr11.cell 2
      have c130 : x61.cell? ⟨g13, 0, none⟩ = some (.bool (decide ((redP (f k) D) < 0))) := hr13.cell 0
      have c131 : x61.cell? ⟨g13, 1, none⟩ = some (.slice A13 k13 c13) := hr13.cell 1
      have c132 : x61.cell? ⟨g13, 2, none⟩ = some (.slice D13 l13 b13) := hr13.cell 2
      have z3 := hr3.lt
      have z11 := hr11.lt
      have z13 := hr13.lt
      go_wp2_with fail
      clear c30 c31 c110 c111 c112 c130 c131 c132 z3 z11 z13
      refine (qcmp_any _ _ _ _ _ _ 330 _ (hv13.ratA (redQ_pos HDP.out)) (hv11.ratA (redQ_pos HDP.out)) (by decide) (by decide)).mono ?_
      rintro e x62 ⟨rfl, hb⟩
      replace hr3 := hr3.keep hb
      replace hr11 := hr11.keep hb
      replace hv11 := hv11.below hb
      replace hr13 := hr13.keep hb
      replace hv13 := hv13.below hb
      replace BB : Below w.heap.size w x62 := BB.trans (hb.mono BB.size)
      clear hb
      rw [cmp_redI _ _ HDP.out]
      have hb13 : g11 < wr.heap.size := hyy11
      by_cases hgt : f t < f k
      · have t1 : decide (0 < cmpZ (f k) (f t)) = true := by rw [cmpZ_posI]; exact decide_eq_true hgt
        rw [if_pos hgt] at HST
        have o3_11n : w.heap.size ≠ g11 := by omega
        have c30 : x62.cell? ⟨w.heap.size, 0, none⟩ = some (.slice PA pn pc) := hr3.cell 0
        have c31 : x62.cell? ⟨w.heap.size, 1, none⟩ = some (.slice RV rs.length vc) := hr3.cell 1
        have c110 : x62.cell? ⟨g11, 0, none⟩ = some (.bool (decide ((redP (f t) D) < 0))) := hr11.cell 0
        have c111 : x62.cell? ⟨g11, 1, none⟩ = some (.slice A11 k11 c11) := hr11.cell 1
        have c112 : x62.cell? ⟨g11, 2, none⟩ = some (.slice D11 l11 b11) := hr11.cell 2
        have c130 : x62.cell? ⟨g13, 0, none⟩ = some (.bool (decide ((redP (f k) D) < 0))) := hr13.cell 0
        have c131 : x62.cell? ⟨g13, 1, none⟩ = some (.slice A13 k13 c13) := hr13.cell 1
        have c132 : x62.cell? ⟨g13, 2, none⟩ = some (.slice D13 l13 b13) := hr13.cell 2
        have f110 : x62.frozen? ⟨g11, 0, none⟩ = false := hr11.frozen 0
        have f111 : x62.frozen? ⟨g11, 1, none⟩ = false := hr11.frozen 1
        have f112 : x62.frozen? ⟨g11, 2, none⟩ = false := hr11.frozen 2
        have z3 := hr3.lt
        have z11 := hr11.lt
        have z13 := hr13.lt
        go_wp2_with fail
        go_region
        all_goals
          go_wp2_with fail
          go_roundw
          case rel =>
            refine ⟨k + 1, A13, k13, c13, D13, l13, b13, by omega, by omega, by rw [HST.out], by go_num, ?_, ?_, ?_, ?_⟩
            · first | exact (((hr3.far o3_11n _).far o3_11n _).far o3_11n _).drew | exact ((hr3.far o3_11n _).far o3_11n _).far o3_11n _
            · rw [HST.out]
              first | exact (((hr11.set_ 0 _).set_ 1 _).set_ 2 _).drew | exact ((hr11.set_ 0 _).set_ 1 _).set_ 2 _
            · rw [HST.out]
              have hs := (((hv13.set_ (a := ⟨g11, 0, none⟩) hb13 (.bool (decide ((redP (f k) D) < 0)))).set_ (a := ⟨g11, 1, none⟩) hb13 (.slice A13 k13 c13)).set_ (a := ⟨g11, 2, none⟩) hb13 (.slice D13 l13 b13)).base (b' := w.heap.size) (by omega)
              first | exact hs | exact (hs.below (Below.refl _ _).drew)
            · first | exact ((((BB.setCell (p := ⟨g11, 0, none⟩) (by show w.heap.size ≤ g11; omega) _).setCell (p := ⟨g11, 1, none⟩) (by show w.heap.size ≤ g11; omega) _).setCell (p := ⟨g11, 2, none⟩) (by show w.heap.size ≤ g11; omega) _)).drew | exact (((BB.setCell (p := ⟨g11, 0, none⟩) (by show w.heap.size ≤ g11; omega) _).setCell (p := ⟨g11, 1, none⟩) (by show w.heap.size ≤ g11; omega) _).setCell (p := ⟨g11, 2, none⟩) (by show w.heap.size ≤ g11; omega) _)
          case measure => simp [intOf]; omega
      · have t1 : decide (0 < cmpZ (f k) (f t)) = false := by rw [cmpZ_posI]; exact decide_eq_false hgt
        rw [if_neg hgt] at HST
        have c30 : x62.cell? ⟨w.heap.size, 0, none⟩ = some (.slice PA pn pc) := hr3.cell 0
        have c31 : x62.cell? ⟨w.heap.size, 1, none⟩ = some (.slice RV rs.length vc) := hr3.cell 1
        have c110 : x62.cell? ⟨g11, 0, none⟩ = some (.bool (decide ((redP (f t) D) < 0))) := hr11.cell 0
        have c111 : x62.cell? ⟨g11, 1, none⟩ = some (.slice A11 k11 c11) := hr11.cell 1
        have c112 : x62.cell? ⟨g11, 2, none⟩ = some (.slice D11 l11 b11) := hr11.cell 2
        have c130 : x62.cell? ⟨g13, 0, none⟩ = some (.bool (decide ((redP (f k) D) < 0))) := hr13.cell 0
        have c131 : x62.cell? ⟨g13, 1, none⟩ = some (.slice A13 k13 c13) := hr13.cell 1
        have c132 : x62.cell? ⟨g13, 2, none⟩ = some (.slice D13 l13 b13) := hr13.cell 2
        have z3 := hr3.lt
        have z11 := hr11.lt
        have z13 := hr13.lt
        go_wp2_with fail
        clear c30 c31 c110 c111 c112 c130 c131 c132 z3 z11 z13
        go_roundw
        case rel => exact ⟨k + 1, A11, k11, c11, D11, l11, b11, by omega, by omega, by rw [HST.out], by go_num, hr3, by rw [HST.out]; exact hr11, by rw [HST.out]; exact hv11, BB⟩
        case measure => simp [intOf]; omega
    · obtain rfl : k = n := by omega
      go_wp2_with fail
      go_ret2
      exact ⟨by rw [HTE.out]; rfl, BB⟩

end Go.Proofs.YtompckomogmhiaaDoor
