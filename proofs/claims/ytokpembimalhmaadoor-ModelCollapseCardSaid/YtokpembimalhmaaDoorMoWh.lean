/- Plain law: probabilities add up to 1, and bound the expected score. -/
import Derived.Test.YtokpembimalhmaaDoorMoH
import Derived.Test.YtokpembimalhmaaDoorRatG
namespace Go.Proofs.YtokpembimalhmaaDoor
open Go.RowKit
set_option linter.unusedVariables false

/-- The first k weights. -/
def sumTo (r : List Int) : Nat → Int
  | 0 => 0
  | k + 1 => sumTo r k + r.getD k 0
theorem sumTo_sfx (r : List Int) : ∀ k, k ≤ r.length → sumTo r k + sfx r k = r.sum
  | 0, _ => by simp [sumTo, sfx]
  | k + 1, h => by
    have := sumTo_sfx r k (by omega)
    rw [sfx_step (by omega)] at this
    rw [sumTo]; omega
theorem sumTo_all {r : List Int} {n : Nat} (h : r.length = n) : sumTo r n = r.sum := by
  have := sumTo_sfx r n (by omega)
  rw [sfx_end (by omega)] at this
  omega
theorem sumTo_bd {r : List Int} (h : ∀ x ∈ r, 1 ≤ x ∧ x ≤ 1000) : ∀ k, k ≤ r.length → 0 ≤ sumTo r k ∧ sumTo r k ≤ 1000 * (k : Int)
  | 0, _ => by simp [sumTo]
  | k + 1, hk => by
    have a := sumTo_bd h k (by omega)
    have b := h _ (mem_getD 0 (show k < r.length by omega))
    rw [sumTo]; omega
theorem red_same (p : Int) (q : Nat) : p * (redQ p q : Int) = redP p q * (q : Int) := by
  obtain ⟨h1, h2⟩ := red_mul p q
  generalize hg : Nat.gcd p.natAbs q = g at h1 h2
  have e : (q : Int) = (redQ p q : Int) * (g : Int) := by rw [← Int.natCast_mul, ← h2]
  calc p * (redQ p q : Int) = redP p q * (g : Int) * (redQ p q : Int) := by rw [← h1]
    _ = redP p q * ((redQ p q : Int) * (g : Int)) := by rw [Int.mul_assoc, Int.mul_comm (g : Int)]
    _ = redP p q * (q : Int) := by rw [← e]
theorem redQ_le (p : Int) {q : Nat} : redQ p q ≤ q := Nat.div_le_self _ _
/-- Two fractions over one denominator. -/
theorem red_add (a b : Int) {q : Nat} (hq : 0 < q) : redP (redP a q * (redQ b q : Int) + redP b q * (redQ a q : Int)) (redQ a q * redQ b q) = redP (a + b) q ∧ redQ (redP a q * (redQ b q : Int) + redP b q * (redQ a q : Int)) (redQ a q * redQ b q) = redQ (a + b) q := by
  refine red_cross (Nat.mul_pos (redQ_pos hq) (redQ_pos hq)) hq ?_
  have h1 := red_same a q
  have h2 := red_same b q
  rw [Int.natCast_mul]
  generalize redP a q = pa at *
  generalize redP b q = pb at *
  generalize (redQ a q : Int) = qa at *
  generalize (redQ b q : Int) = qb at *
  generalize (q : Int) = Q at *
  grind
theorem redP_le {p : Int} {q : Nat} (hq : 0 < q) : (redP p q).natAbs ≤ p.natAbs := by rw [redP_abs]; exact Nat.div_le_self _ _
/-- Comparing with a whole number. -/
theorem cmp_lo {a p : Int} {q : Nat} (hq : 0 < q) (h : a * (q : Int) ≤ p) : a * (redQ p q : Int) ≤ redP p q := by
  have h1 := red_same p q
  have h2 : (0 : Int) < (redQ p q : Int) := by have := redQ_pos (p := p) hq; omega
  have h3 : (0 : Int) < (q : Int) := by omega
  generalize redP p q = P at *
  generalize (redQ p q : Int) = K at *
  generalize (q : Int) = Q at *
  have h4 : a * Q * K ≤ p * K := Int.mul_le_mul_of_nonneg_right h (by omega)
  have h5 : a * K * Q ≤ P * Q := by rw [← h1, Int.mul_assoc, Int.mul_comm K Q, ← Int.mul_assoc]; exact h4
  exact Int.le_of_mul_le_mul_right h5 h3
theorem cmp_hi {a p : Int} {q : Nat} (hq : 0 < q) (h : p ≤ a * (q : Int)) : redP p q ≤ a * (redQ p q : Int) := by
  have h1 := red_same p q
  have h2 : (0 : Int) < (redQ p q : Int) := by have := redQ_pos (p := p) hq; omega
  have h3 : (0 : Int) < (q : Int) := by omega
  generalize redP p q = P at *
  generalize (redQ p q : Int) = K at *
  generalize (q : Int) = Q at *
  have h4 : p * K ≤ a * Q * K := Int.mul_le_mul_of_nonneg_right h (by omega)
  have h5 : P * Q ≤ a * K * Q := by rw [← h1, Int.mul_assoc a, Int.mul_comm K Q, ← Int.mul_assoc]; exact h4
  exact Int.le_of_mul_le_mul_right h5 h3
theorem expS_lo {r sc : List Int} {lo : Int} (h : ∀ x ∈ r, 1 ≤ x ∧ x ≤ 1000) (hs : ∀ j, j < sc.length → lo ≤ sc.getD j 0) : ∀ k, k ≤ r.length → k ≤ sc.length → lo * sumTo r k ≤ expS r sc k
  | 0, _, _ => by simp [sumTo, expS]
  | k + 1, a, b => by
    have c := expS_lo h hs k (by omega) (by omega)
    have d := h _ (mem_getD 0 (show k < r.length by omega))
    have e := hs k (by omega)
    have f : r.getD k 0 * lo ≤ r.getD k 0 * sc.getD k 0 := Int.mul_le_mul_of_nonneg_left e (by omega)
    rw [sumTo, expS, Int.mul_add, Int.mul_comm lo (r.getD k 0)]
    omega
theorem expS_hi {r sc : List Int} {hi : Int} (h : ∀ x ∈ r, 1 ≤ x ∧ x ≤ 1000) (hs : ∀ j, j < sc.length → sc.getD j 0 ≤ hi) : ∀ k, k ≤ r.length → k ≤ sc.length → expS r sc k ≤ hi * sumTo r k
  | 0, _, _ => by simp [sumTo, expS]
  | k + 1, a, b => by
    have c := expS_hi h hs k (by omega) (by omega)
    have d := h _ (mem_getD 0 (show k < r.length by omega))
    have e := hs k (by omega)
    have f : r.getD k 0 * sc.getD k 0 ≤ r.getD k 0 * hi := Int.mul_le_mul_of_nonneg_left e (by omega)
    rw [sumTo, expS, Int.mul_add, Int.mul_comm hi (r.getD k 0)]
    omega
/-- The least and the greatest of the first k + 1 scores. -/
def minTo (sc : List Int) : Nat → Int
  | 0 => sc.getD 0 0
  | k + 1 => if sc.getD k 0 < minTo sc k then sc.getD k 0 else minTo sc k
def maxTo (sc : List Int) : Nat → Int
  | 0 => sc.getD 0 0
  | k + 1 => if maxTo sc k < sc.getD k 0 then sc.getD k 0 else maxTo sc k
theorem minTo_le (sc : List Int) : ∀ k j, j < k → minTo sc k ≤ sc.getD j 0
  | k + 1, j, h => by
    have := minTo_le sc k j
    rw [minTo]
    rcases Nat.lt_succ_iff_lt_or_eq.1 h with h1 | h1
    · have := this h1; split <;> omega
    · subst h1; split <;> omega
theorem le_maxTo (sc : List Int) : ∀ k j, j < k → sc.getD j 0 ≤ maxTo sc k
  | k + 1, j, h => by
    have := le_maxTo sc k j
    rw [maxTo]
    rcases Nat.lt_succ_iff_lt_or_eq.1 h with h1 | h1
    · have := this h1; split <;> omega
    · subst h1; split <;> omega
theorem minTo_in {sc : List Int} {a b : Int} (h0 : 0 < sc.length) (h : ∀ j, j < sc.length → a ≤ sc.getD j 0 ∧ sc.getD j 0 ≤ b) : ∀ k, k ≤ sc.length → a ≤ minTo sc k ∧ minTo sc k ≤ b
  | 0, _ => h 0 h0
  | k + 1, hk => by
    have := minTo_in h0 h k (by omega)
    have := h k (by omega)
    rw [minTo]; split <;> omega
theorem maxTo_in {sc : List Int} {a b : Int} (h0 : 0 < sc.length) (h : ∀ j, j < sc.length → a ≤ sc.getD j 0 ∧ sc.getD j 0 ≤ b) : ∀ k, k ≤ sc.length → a ≤ maxTo sc k ∧ maxTo sc k ≤ b
  | 0, _ => h 0 h0
  | k + 1, hk => by
    have := maxTo_in h0 h k (by omega)
    have := h k (by omega)
    rw [maxTo]; split <;> omega
theorem natAt_short {w : World} {v : Value} {n L : Nat} (h : NatAt w v n L) (hn : n < 4294967296) : NatAt w v n 1 := h.short (by unfold bp; omega)
theorem RatF.short {base : Nat} {w : World} {v : Value} {p : Int} {q L : Nat} (h : RatF base w v p q L) (hp : p.natAbs < 4294967296) (hq : q < 4294967296) : RatF base w v p q 2 := by
  obtain ⟨mv, dv, hv, h1, h2, f1, f2⟩ := h
  exact ⟨mv, dv, hv, (natAt_short h1 hp).mono (by omega), (natAt_short h2 hq).mono (by omega), f1, f2⟩
end Go.Proofs.YtokpembimalhmaaDoor
