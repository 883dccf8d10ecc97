/- Plain facts on identifiers: numerals of a fixed width, and what they read as. No condition. -/
import Derived.Test.YtjjcicopblgdmaaDoorPlain
import Derived.Lib.ItoaNum
import Derived.Lib.Repeat
namespace Go.Proofs.YtjjcicopblgdmaaDoor
open Go.RowKit
set_option linter.unusedVariables false

/-- The last k decimal digits of n. -/
def dgs (n : Nat) : Nat → List UInt8
  | 0 => []
  | k + 1 => dgs (n / 10) k ++ [UInt8.ofNat (48 + n % 10)]
theorem dgs_len (k : Nat) : ∀ n, (dgs n k).length = k := by
  induction k with
  | zero => intro n; rfl
  | succ k ih => intro n; simp [dgs, ih]
theorem dig_nat {d : Nat} (h : d < 10) : (UInt8.ofNat (48 + d)).toNat = 48 + d := by
  rw [UInt8.toNat_ofNat']
  exact Nat.mod_eq_of_lt (by omega)
theorem dig_ok {d : Nat} (h : d < 10) : digB (UInt8.ofNat (48 + d)) = true := by
  rw [digB_iff, dig_nat h]; omega
theorem dgs_all (k : Nat) : ∀ n, allD (dgs n k) = true := by
  induction k with
  | zero => intro n; rfl
  | succ k ih => intro n; rw [dgs, allD_snoc, ih, dig_ok (Nat.mod_lt _ (by omega))]; rfl
theorem dgs_num (k : Nat) : ∀ n, n < 10 ^ k → numV (dgs n k) = (n : Int) := by
  induction k with
  | zero => intro n h; obtain rfl : n = 0 := by simpa using h
            rfl
  | succ k ih =>
    intro n h
    rw [Nat.pow_succ] at h
    rw [dgs, numV_snoc, ih _ (by omega), dig_nat (Nat.mod_lt _ (by omega))]
    omega
theorem num_nn {l : List UInt8} (h : allD l = true) : 0 ≤ numV l := (numV_bd l.length l rfl h).1
theorem dgs_of (k : Nat) : ∀ l : List UInt8, l.length = k → allD l = true → dgs (numV l).toNat k = l := by
  induction k with
  | zero => intro l hl _; obtain rfl := List.length_eq_zero_iff.1 hl; rfl
  | succ k ih =>
    intro l hl ha
    have hne : l ≠ [] := by intro h; rw [h] at hl; simp at hl
    obtain ⟨m, c, rfl⟩ : ∃ m c, l = m ++ [c] := ⟨l.dropLast, l.getLast hne, (List.dropLast_concat_getLast hne).symm⟩
    have hm : m.length = k := by simpa using hl
    rw [allD_snoc, Bool.and_eq_true, digB_iff] at ha
    obtain ⟨ha, c1, c2⟩ := ha
    have nn := num_nn ha
    have e : (numV (m ++ [c])).toNat = (numV m).toNat * 10 + (c.toNat - 48) := by rw [numV_snoc]; omega
    rw [dgs, e, show ((numV m).toNat * 10 + (c.toNat - 48)) / 10 = (numV m).toNat by omega, show ((numV m).toNat * 10 + (c.toNat - 48)) % 10 = c.toNat - 48 by omega, ih m hm ha, show 48 + (c.toNat - 48) = c.toNat by omega, UInt8.ofNat_toNat]
theorem dgs_zero (k : Nat) : dgs 0 k = List.replicate k 48 := by
  induction k with
  | zero => rfl
  | succ k ih => rw [dgs, Nat.zero_div, ih, List.replicate_succ']; rfl
theorem dgs_pad (k : Nat) : ∀ n, n < 10 ^ (k + 1) → List.replicate (k + 1 - (Lib.decDigits n).length) 48 ++ Lib.decDigits n = dgs n (k + 1) ∧ (Lib.decDigits n).length ≤ k + 1 := by
  induction k with
  | zero =>
    intro n h
    have h' : n < 10 := by simpa using h
    rw [Lib.decDigits_one h']
    simp [dgs, Nat.mod_eq_of_lt h']
  | succ k ih =>
    intro n h
    rw [Nat.pow_succ] at h
    by_cases h' : n < 10
    · rw [Lib.decDigits_one h']
      refine ⟨?_, by simp⟩
      rw [dgs, show n / 10 = 0 by omega, dgs_zero, Nat.mod_eq_of_lt h']
      simp
    · obtain ⟨h1, h2⟩ := ih (n / 10) (by omega)
      rw [Lib.decDigits, dif_neg h', dgs, ← h1]
      simp only [List.length_append, List.length_cons, List.length_nil]
      refine ⟨?_, by omega⟩
      rw [show k + 1 + 1 - ((Lib.decDigits (n / 10)).length + (0 + 1)) = k + 1 - (Lib.decDigits (n / 10)).length by omega, List.append_assoc]
theorem repeat_one (b : UInt8) : ∀ c, Lib.repeatL [b] c = List.replicate c b
  | 0 => rfl
  | c + 1 => by rw [Lib.repeatL, repeat_one b c, List.replicate_succ]; rfl
end Go.Proofs.YtjjcicopblgdmaaDoor
