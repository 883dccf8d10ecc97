/- The walk of GridNears. -/
import Derived.Test.YtdmjgildgjpmcaaRg2
namespace Go.Proofs.Ytdmjgildgjpmcaa
open Go.RowKit
set_option linter.unusedVariables false

set_option maxHeartbeats 8000000 in
theorem nrs_core (pv rv : Value) (ng : Bool) (mv dv : Value) (ps rs : List Int) (la lb : List Nat) (w : World) (hp : Nums .i64 w pv ps) (hr : Nums .i64 w rv rs) (ha : Lim w mv la) (hb : Lim w dv lb) (h1 : la.length ≤ 20) (h2 : lb.length ≤ 20) (I E : Int)
    (hN : ∀ W, Below w.heap.size w W → Calls Try.prog 24 #[.agg #[pv, rv], .agg #[.bool ng, mv, dv]] W fun e w' => e = .returned (.tuple #[.int .i64 I, .int .i64 E]) ∧ Below W.heap.size W w')
    (hM : ∀ W, Below w.heap.size w W → Calls Try.prog 25 #[.agg #[pv, rv], .agg #[.bool ng, mv, dv]] W fun e w' => e = .returned (.tuple #[.int .i64 I, .int .i64 E]) ∧ Below W.heap.size W w') :
    Calls Try.prog 6 #[.agg #[pv, rv], .agg #[.bool ng, mv, dv]] w fun e w' => e = .returned (.bool true) ∧ Below w.heap.size w w' := by
  have HN := Lib.hid hN
  have HV := Lib.hid hM
  clear hN hM
  have heq : (E == E) = true := by simp
  have heqI : (I == I) = true := by simp
  obtain ⟨PA, pc, rfl, hpc, hpm, hps⟩ := hp
  obtain ⟨RV, vc, rfl, hvc, hvm, hvs⟩ := hr
  obtain ⟨⟨RA, rc, rfl, _, _, _⟩, _⟩ := id ha
  obtain ⟨⟨RB, sc, rfl, _, _, _⟩, _⟩ := id hb
  obtain ⟨rk, hrk⟩ : ∃ n, la.length = n := ⟨_, rfl⟩
  obtain ⟨sk, hsk⟩ : ∃ n, lb.length = n := ⟨_, rfl⟩
  rw [hrk] at HN HV h1 ⊢
  rw [hsk] at HN HV h2 ⊢
  have g1 : decide (20 < (rk : Int)) = false := decide_eq_false (by omega)
  have g2 : decide (20 < (sk : Int)) = false := decide_eq_false (by omega)
  clear hps hvs hrk hsk ha hb
  obtain ⟨W0, hW0⟩ : ∃ W0 : World, W0 = (w.alloc (.cells #[.slice PA ps.length pc, .slice RV rs.length vc] 24)).alloc (.cells #[.bool ng, .slice RA rk rc, .slice RB sk sc] 42) := ⟨_, rfl⟩
  have r0 : Row W0 w.heap.size 24 [.slice PA ps.length pc, .slice RV rs.length vc] := by
    rw [hW0]
    have := Row.alloc (Row.new w 24 [.slice PA ps.length pc, .slice RV rs.length vc]) (.cells #[.bool ng, .slice RA rk rc, .slice RB sk sc] 42)
    simpa using this
  have r1 : Row W0 (w.heap.size + 1) 42 [.bool ng, .slice RA rk rc, .slice RB sk sc] := by
    rw [hW0]
    have := Row.new (w.alloc (.cells #[.slice PA ps.length pc, .slice RV rs.length vc] 24)) 42 [.bool ng, .slice RA rk rc, .slice RB sk sc]
    simpa using this
  have B0 : Below w.heap.size w W0 := by rw [hW0]; exact (((Below.refl _ _).alloc (Nat.le_refl _) _).alloc (by simp) _)
  have a0 : W0.cell? ⟨w.heap.size, 0, none⟩ = some (.slice PA ps.length pc) := r0.cell 0
  have a1 : W0.cell? ⟨w.heap.size, 1, none⟩ = some (.slice RV rs.length vc) := r0.cell 1
  have b0 : W0.cell? ⟨w.heap.size + 1, 0, none⟩ = some (.bool ng) := r1.cell 0
  have b1 : W0.cell? ⟨w.heap.size + 1, 1, none⟩ = some (.slice RA rk rc) := r1.cell 1
  have b2 : W0.cell? ⟨w.heap.size + 1, 2, none⟩ = some (.slice RB sk sc) := r1.cell 2
  go_enter Try.func6, Try.ntmps6
  go_wp2_with fail
  rw [← hW0]
  clear hW0
  go_wp2_with fail
  refine (HN.out _ B0).mono ?_
  rintro e w1 ⟨rfl, hb⟩
  have B1 := B0.trans (hb.mono B0.size)
  have q0 := r0.keep hb
  have q1 := r1.keep hb
  have c0 : w1.cell? ⟨w.heap.size, 0, none⟩ = some (.slice PA ps.length pc) := q0.cell 0
  have c1 : w1.cell? ⟨w.heap.size, 1, none⟩ = some (.slice RV rs.length vc) := q0.cell 1
  have d0 : w1.cell? ⟨w.heap.size + 1, 0, none⟩ = some (.bool ng) := q1.cell 0
  have d1 : w1.cell? ⟨w.heap.size + 1, 1, none⟩ = some (.slice RA rk rc) := q1.cell 1
  have d2 : w1.cell? ⟨w.heap.size + 1, 2, none⟩ = some (.slice RB sk sc) := q1.cell 2
  clear hb
  go_wp2_with fail
  refine (HV.out _ B1).mono ?_
  rintro e w2 ⟨rfl, hb⟩
  go_wp2_with fail
  go_ret
  exact ⟨rfl, B1.trans (hb.mono B1.size)⟩

set_option maxHeartbeats 8000000 in
theorem nrs_long (pv rv : Value) (ng : Bool) (mv dv : Value) (ps rs : List Int) (la lb : List Nat) (w : World) (hp : Nums .i64 w pv ps) (hr : Nums .i64 w rv rs) (ha : Lim w mv la) (hb : Lim w dv lb) (h : 20 < la.length ∨ 20 < lb.length) :
    Calls Try.prog 6 #[.agg #[pv, rv], .agg #[.bool ng, mv, dv]] w fun e w' => e = .returned (.bool true) ∧ Below w.heap.size w w' := by
  obtain ⟨PA, pc, rfl, hpc, hpm, hps⟩ := hp
  obtain ⟨RV, vc, rfl, hvc, hvm, hvs⟩ := hr
  obtain ⟨⟨RA, rc, rfl, _, _, _⟩, _⟩ := ha
  obtain ⟨⟨RB, sc, rfl, _, _, _⟩, _⟩ := hb
  obtain ⟨rk, hrk⟩ : ∃ n, la.length = n := ⟨_, rfl⟩
  obtain ⟨sk, hsk⟩ : ∃ n, lb.length = n := ⟨_, rfl⟩
  rw [hrk, hsk] at h ⊢
  clear hps hvs hrk hsk
  obtain ⟨W0, hW0⟩ : ∃ W0 : World, W0 = (w.alloc (.cells #[.slice PA ps.length pc, .slice RV rs.length vc] 24)).alloc (.cells #[.bool ng, .slice RA rk rc, .slice RB sk sc] 42) := ⟨_, rfl⟩
  have r0 : Row W0 w.heap.size 24 [.slice PA ps.length pc, .slice RV rs.length vc] := by
    rw [hW0]
    have := Row.alloc (Row.new w 24 [.slice PA ps.length pc, .slice RV rs.length vc]) (.cells #[.bool ng, .slice RA rk rc, .slice RB sk sc] 42)
    simpa using this
  have r1 : Row W0 (w.heap.size + 1) 42 [.bool ng, .slice RA rk rc, .slice RB sk sc] := by
    rw [hW0]
    have := Row.new (w.alloc (.cells #[.slice PA ps.length pc, .slice RV rs.length vc] 24)) 42 [.bool ng, .slice RA rk rc, .slice RB sk sc]
    simpa using this
  have B0 : Below w.heap.size w W0 := by rw [hW0]; exact (((Below.refl _ _).alloc (Nat.le_refl _) _).alloc (by simp) _)
  have b0 : W0.cell? ⟨w.heap.size + 1, 0, none⟩ = some (.bool ng) := r1.cell 0
  have b1 : W0.cell? ⟨w.heap.size + 1, 1, none⟩ = some (.slice RA rk rc) := r1.cell 1
  have b2 : W0.cell? ⟨w.heap.size + 1, 2, none⟩ = some (.slice RB sk sc) := r1.cell 2
  by_cases h1 : 20 < rk
  · have g1 : decide (20 < (rk : Int)) = true := decide_eq_true (by omega)
    clear h
    go_enter Try.func6, Try.ntmps6
    go_wp2_with fail
    rw [← hW0]
    clear hW0
    go_wp2_with fail
    go_ret
    exact ⟨rfl, B0⟩
  · have g1 : decide (20 < (rk : Int)) = false := decide_eq_false (by omega)
    have g2 : decide (20 < (sk : Int)) = true := decide_eq_true (by omega)
    clear h
    go_enter Try.func6, Try.ntmps6
    go_wp2_with fail
    rw [← hW0]
    clear hW0
    go_wp2_with fail
    go_ret
    exact ⟨rfl, B0⟩


theorem nrs_all (pv rv : Value) (ng : Bool) (mv dv : Value) (ps rs : List Int) (la lb : List Nat) (w : World) (hp : Nums .i64 w pv ps) (hr : Nums .i64 w rv rs) (ha : Lim w mv la) (hb : Lim w dv lb) :
    Calls Try.prog 6 #[.agg #[pv, rv], .agg #[.bool ng, mv, dv]] w fun e w' => e = .returned (.bool true) ∧ Below w.heap.size w w' := by
  by_cases h1 : la.length ≤ 20
  · by_cases h2 : lb.length ≤ 20
    · obtain ⟨P, Q, hq⟩ : ∃ P Q, RatA w (.agg #[.bool ng, mv, dv]) P Q 20 := ⟨_, _, ng, mv, la, dv, lb, rfl, ha, hb, h1, h2, rfl, rfl⟩
      by_cases hE : gridE ps rs = 0
      · exact nrs_core pv rv ng mv dv ps rs la lb w hp hr ha hb h1 h2 _ _
          (fun W h => near_ok pv rv _ ps rs P Q 20 W (hp.below h) (hr.below h) (hq.below h) (by omega) (by omega) hE)
          (fun W h => rnear_ok pv rv _ ps rs P Q 20 W (hp.below h) (hr.below h) (hq.below h) (by omega) (by omega) hE)
      · exact nrs_core pv rv ng mv dv ps rs la lb w hp hr ha hb h1 h2 _ _
          (fun W h => near_no pv rv _ ps rs P Q 20 W (hp.below h) (hr.below h) (hq.below h) hE)
          (fun W h => rnear_no pv rv _ ps rs P Q 20 W (hp.below h) (hr.below h) (hq.below h) hE)
    · exact nrs_long pv rv ng mv dv ps rs la lb w hp hr ha hb (.inr (by omega))
  · exact nrs_long pv rv ng mv dv ps rs la lb w hp hr ha hb (.inl (by omega))
end Go.Proofs.Ytdmjgildgjpmcaa
