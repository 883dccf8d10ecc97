/- Plain: Bayes' rule for reduced fractions; a sum of fractions over one denominator. No condition. -/
import Derived.Test.YtoihjclkocffhaaDoorRatG
import Derived.Test.YtoihjclkocffhaaDoorPoP
namespace Go.Proofs.YtoihjclkocffhaaDoor
set_option linter.unusedVariables false

/-- Cross products agree: so do the reduced products. -/
theorem cross_four {P1 P2 P3 P4 Q1 Q2 Q3 Q4 g1 g2 g3 g4 u v w x a b c d : Int} (h1 : u = P1 * g1) (h2 : a = Q1 * g1) (h3 : v = P2 * g2) (h4 : b = Q2 * g2) (h5 : w = P3 * g3) (h6 : c = Q3 * g3) (h7 : x = P4 * g4) (h8 : d = Q4 * g4)
    (p1 : 0 < g1) (p2 : 0 < g2) (p3 : 0 < g3) (p4 : 0 < g4) (he : u * v * (c * d) = w * x * (a * b)) : P1 * P2 * (Q3 * Q4) = P3 * P4 * (Q1 * Q2) := by
  have hg : 0 < g1 * g2 * (g3 * g4) := Int.mul_pos (Int.mul_pos p1 p2) (Int.mul_pos p3 p4)
  refine Int.eq_of_mul_eq_mul_right (Int.ne_of_gt hg) ?_
  subst h1 h2 h3 h4 h5 h6 h7 h8
  grind
theorem gcd_posR {p : Int} {q : Nat} (h : 0 < q) : 0 < ((Nat.gcd p.natAbs q : Nat) : Int) := by
  have := Nat.gcd_pos_of_pos_right p.natAbs h
  omega
/-- The share after a response times the predicted probability is the share before times the probability. -/
theorem bayes_red (w S S' x : Nat) (hS : 0 < S) (hS' : 0 < S') :
    redP (redP ((w * x : Nat) : Int) S' * redP (S' : Int) (S * 1000)) (redQ ((w * x : Nat) : Int) S' * redQ (S' : Int) (S * 1000)) = redP (redP (w : Int) S * redP (x : Int) 1000) (redQ (w : Int) S * redQ (x : Int) 1000) ∧
    redQ (redP ((w * x : Nat) : Int) S' * redP (S' : Int) (S * 1000)) (redQ ((w * x : Nat) : Int) S' * redQ (S' : Int) (S * 1000)) = redQ (redP (w : Int) S * redP (x : Int) 1000) (redQ (w : Int) S * redQ (x : Int) 1000) := by
  have hD : 0 < S * 1000 := by omega
  have q1 := redQ_pos (p := ((w * x : Nat) : Int)) hS'
  have q2 := redQ_pos (p := (S' : Int)) hD
  have q3 := redQ_pos (p := (w : Int)) hS
  have q4 := redQ_pos (p := (x : Int)) (q := 1000) (by decide)
  refine red_cross (Nat.mul_pos q1 q2) (Nat.mul_pos q3 q4) ?_
  obtain ⟨a1, b1⟩ := red_mul ((w * x : Nat) : Int) S'
  obtain ⟨a2, b2⟩ := red_mul (S' : Int) (S * 1000)
  obtain ⟨a3, b3⟩ := red_mul (w : Int) S
  obtain ⟨a4, b4⟩ := red_mul (x : Int) 1000
  have g1 := gcd_posR (p := ((w * x : Nat) : Int)) hS'
  have g2 := gcd_posR (p := (S' : Int)) hD
  have g3 := gcd_posR (p := (w : Int)) hS
  have g4 := gcd_posR (p := (x : Int)) (q := 1000) (by decide)
  have b1' : (S' : Int) = (redQ ((w * x : Nat) : Int) S' : Int) * ((Nat.gcd ((w * x : Nat) : Int).natAbs S' : Nat) : Int) := by rw [← Int.natCast_mul, ← b1]
  have b2' : ((S * 1000 : Nat) : Int) = (redQ (S' : Int) (S * 1000) : Int) * ((Nat.gcd (S' : Int).natAbs (S * 1000) : Nat) : Int) := by rw [← Int.natCast_mul, ← b2]
  have b3' : (S : Int) = (redQ (w : Int) S : Int) * ((Nat.gcd (w : Int).natAbs S : Nat) : Int) := by rw [← Int.natCast_mul, ← b3]
  have b4' : ((1000 : Nat) : Int) = (redQ (x : Int) 1000 : Int) * ((Nat.gcd (x : Int).natAbs 1000 : Nat) : Int) := by rw [← Int.natCast_mul, ← b4]
  rw [Int.natCast_mul, Int.natCast_mul]
  refine cross_four a1 b1' a2 b2' a3 b3' a4 b4' g1 g2 g3 g4 ?_
  rw [Int.natCast_mul w x, Int.natCast_mul S 1000]
  generalize ((1000 : Nat) : Int) = T
  grind
/-- A sum of two fractions over one denominator. -/
theorem add_red (a b : Int) (D : Nat) (hD : 0 < D) :
    redP (redP a D * (redQ b D : Int) + redP b D * (redQ a D : Int)) (redQ a D * redQ b D) = redP (a + b) D ∧ redQ (redP a D * (redQ b D : Int) + redP b D * (redQ a D : Int)) (redQ a D * redQ b D) = redQ (a + b) D := by
  have q1 := redQ_pos (p := a) hD
  have q2 := redQ_pos (p := b) hD
  refine red_cross (Nat.mul_pos q1 q2) hD ?_
  obtain ⟨a1, b1⟩ := red_mul a D
  obtain ⟨a2, b2⟩ := red_mul b D
  have g1 := gcd_posR (p := a) hD
  have g2 := gcd_posR (p := b) hD
  have b1' : (D : Int) = (redQ a D : Int) * ((Nat.gcd a.natAbs D : Nat) : Int) := by rw [← Int.natCast_mul, ← b1]
  have b2' : (D : Int) = (redQ b D : Int) * ((Nat.gcd b.natAbs D : Nat) : Int) := by rw [← Int.natCast_mul, ← b2]
  generalize redP a D = P1 at *
  generalize redP b D = P2 at *
  generalize (redQ a D) = Q1 at *
  generalize (redQ b D) = Q2 at *
  generalize ((Nat.gcd a.natAbs D : Nat) : Int) = h1 at *
  generalize ((Nat.gcd b.natAbs D : Nat) : Int) = h2 at *
  rw [Int.natCast_mul]
  have e1 : P1 * (Q2 : Int) * (D : Int) = a * ((Q1 : Int) * (Q2 : Int)) := by rw [a1]; rw [b1']; grind
  have e2 : P2 * (Q1 : Int) * (D : Int) = b * ((Q1 : Int) * (Q2 : Int)) := by rw [a2]; rw [b2']; grind
  grind
end Go.Proofs.YtoihjclkocffhaaDoor
