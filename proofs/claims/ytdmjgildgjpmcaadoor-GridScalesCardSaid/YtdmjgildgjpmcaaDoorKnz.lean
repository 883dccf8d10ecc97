/- Plain numbers: a shift of limbs to the left and to the right. -/
import Derived.Test.YtdmjgildgjpmcaaDoorKnv
namespace Go.Proofs.YtdmjgildgjpmcaaDoor
open Go.RowKit
set_option linter.unusedVariables false

theorem two_split {s : Nat} (hs : s < 32) : 2 ^ (32 - s) * 2 ^ s = 4294967296 := by
  rw [← Nat.pow_add, Nat.sub_add_cancel (by omega)]

theorem shl_digit {c x s : Nat} (hs : s < 32) (hc : c < 2 ^ s) (hx : x < 4294967296) :
    c ||| (x * 2 ^ s % 4294967296) = c + x * 2 ^ s % 4294967296 ∧ c + x * 2 ^ s % 4294967296 < 4294967296 ∧ x * 2 ^ s / 4294967296 < 2 ^ s := by
  have e := two_split hs
  have m : x * 2 ^ s % 4294967296 = x % 2 ^ (32 - s) * 2 ^ s := by rw [← e, Nat.mul_mod_mul_right]
  have hp : 0 < 2 ^ (32 - s) := Nat.pow_pos (by omega)
  have hl : x % 2 ^ (32 - s) < 2 ^ (32 - s) := Nat.mod_lt _ hp
  refine ⟨?_, ?_, ?_⟩
  · rw [m, Nat.or_comm, Nat.add_comm]
    have h2 := Nat.shiftLeft_add_eq_or_of_lt (i := s) (b := c) hc (x % 2 ^ (32 - s))
    rw [Nat.shiftLeft_eq] at h2
    exact h2.symm
  · rw [m]
    have h3 : (x % 2 ^ (32 - s) + 1) * 2 ^ s ≤ 2 ^ (32 - s) * 2 ^ s := Nat.mul_le_mul_right _ hl
    rw [Nat.add_mul, Nat.one_mul] at h3
    omega
  · rw [Nat.div_lt_iff_lt_mul (by omega)]
    have h4 : 0 < 2 ^ s := Nat.pow_pos (by omega)
    rw [Nat.mul_comm]
    exact Nat.mul_lt_mul_of_pos_left hx h4

theorem shl_step {so c lo hi x p A v : Nat} (P : Nat) (h : so + c * p = P * A) (e : lo + hi * 4294967296 = c + x * P) (hv : v = A + p * x) : (so + p * lo) + hi * (p * 4294967296) = P * v := by
  subst hv
  grind

theorem shr_digit {x y s : Nat} (hs : s < 32) (hx : x < 4294967296) :
    (x + y * 4294967296) / 2 ^ s % 4294967296 * 2 ^ s + x % 2 ^ s = x + y % 2 ^ s * 4294967296 := by
  have e := two_split hs
  have hP : 0 < 2 ^ s := Nat.pow_pos (by omega)
  generalize 2 ^ s = P at *
  generalize 2 ^ (32 - s) = Q at *
  rw [← e] at hx ⊢
  have a : (x + y * (Q * P)) / P = x / P + y * Q := by rw [← Nat.mul_assoc, Nat.add_mul_div_right _ _ hP]
  have b := Nat.div_add_mod y P
  have c := Nat.div_add_mod x P
  have hxq : x / P < Q := (Nat.div_lt_iff_lt_mul hP).2 hx
  have hy : y % P < P := Nat.mod_lt _ hP
  have d : (x / P + y * Q) % (Q * P) = x / P + y % P * Q := by
    have f : x / P + y * Q = (x / P + y % P * Q) + (Q * P) * (y / P) := by
      generalize y / P = yd at *
      generalize y % P = ym at *
      subst b
      grind
    rw [f, Nat.add_mul_mod_self_left, Nat.mod_eq_of_lt]
    have g : (y % P + 1) * Q ≤ P * Q := Nat.mul_le_mul_right _ hy
    rw [Nat.add_mul, Nat.one_mul, Nat.mul_comm P Q] at g
    omega
  rw [a, d]
  generalize x / P = xd at *
  generalize x % P = xm at *
  generalize y % P = ym at *
  subst c
  grind

theorem shr_step {so d x y0 y x0 p A P : Nat} (h : so * P + x0 = A + y0 * p) (e : d * P + y0 = x + y * 4294967296) : (so + p * d) * P + x0 = (A + p * x) + y * (p * 4294967296) := by
  grind

theorem shr_end {so P x0 v : Nat} (h : so * P + x0 = v) (hx : x0 < P) : so = v / P := by
  subst h
  rw [Nat.add_comm, Nat.add_mul_div_right _ _ (by omega), Nat.div_eq_of_lt hx, Nat.zero_add]
end Go.Proofs.YtdmjgildgjpmcaaDoor
