/- Plain functions: expected scores. -/
import Derived.Test.YtokpembimalhmaaDoorMoL
namespace Go.Proofs.YtokpembimalhmaaDoor
open Go.RowKit
set_option linter.unusedVariables false

def scOk (sc : List Int) : Bool := sc.all fun x => decide (-1000000 ≤ x) && decide (x ≤ 1000000)
def expE (cats : Nat) (sc : List Int) : Int := if sc.length ≠ cats then 1 else if scOk sc = false then 3 else 0
/-- Weight times score, the first k. -/
def expS (r sc : List Int) : Nat → Int
  | 0 => 0
  | k + 1 => expS r sc k + r.getD k 0 * sc.getD k 0
theorem expE_1 {cats : Nat} {sc : List Int} (h : sc.length ≠ cats) : expE cats sc = 1 := if_pos h
theorem expE_3 {cats : Nat} {sc : List Int} (h : sc.length = cats) (h1 : scOk sc = false) : expE cats sc = 3 := by unfold expE; rw [if_neg (by omega), if_pos h1]
theorem expE_ok {cats : Nat} {sc : List Int} (h : sc.length = cats) (h1 : scOk sc = true) : expE cats sc = 0 := by unfold expE; rw [if_neg (by omega), if_neg (by simp [h1])]
theorem expE_zero {cats : Nat} {sc : List Int} (h : expE cats sc = 0) : sc.length = cats ∧ scOk sc = true := by
  unfold expE at h
  split at h
  · omega
  · split at h
    · omega
    · rename_i h1 h2; exact ⟨by omega, by simpa using h2⟩
theorem scOk_no {sc : List Int} {k : Nat} (hk : k < sc.length) (h : sc.getD k 0 < -1000000 ∨ 1000000 < sc.getD k 0) : scOk sc = false := by
  unfold scOk
  rw [List.all_eq_false]
  exact ⟨_, mem_getD 0 hk, by simp only [Bool.and_eq_true, decide_eq_true_eq]; omega⟩
theorem scOk_yes {sc : List Int} (h : ∀ j, j < sc.length → -1000000 ≤ sc.getD j 0 ∧ sc.getD j 0 ≤ 1000000) : scOk sc = true := by
  unfold scOk
  rw [List.all_eq_true]
  intro x hx
  obtain ⟨i, hi, rfl⟩ := List.mem_iff_getElem.1 hx
  have := h i hi
  rw [List.getD_eq_getElem?_getD, List.getElem?_eq_getElem hi] at this
  simpa using this
theorem scOk_at {sc : List Int} (h : scOk sc = true) {j : Nat} (hj : j < sc.length) : -1000000 ≤ sc.getD j 0 ∧ sc.getD j 0 ≤ 1000000 := by
  unfold scOk at h
  rw [List.all_eq_true] at h
  have := h _ (mem_getD 0 hj)
  simpa only [Bool.and_eq_true, decide_eq_true_eq] using this
theorem prod_bd {x y : Int} (h1 : 0 ≤ x) (h2 : x ≤ 1000) (h3 : -1000000 ≤ y) (h4 : y ≤ 1000000) : -1000000000 ≤ x * y ∧ x * y ≤ 1000000000 := by
  have a : x * y ≤ x * 1000000 := Int.mul_le_mul_of_nonneg_left h4 h1
  have b : x * (-1000000) ≤ x * y := Int.mul_le_mul_of_nonneg_left h3 h1
  omega
theorem expS_bd' {r sc : List Int} {K : Nat} (h1 : ∀ x ∈ r, 1 ≤ x ∧ x ≤ 1000) (h2 : ∀ j, j < K → -1000000 ≤ sc.getD j 0 ∧ sc.getD j 0 ≤ 1000000) : ∀ k, k ≤ K → k ≤ r.length → -1000000000 * (k : Int) ≤ expS r sc k ∧ expS r sc k ≤ 1000000000 * (k : Int)
  | 0, _, _ => by simp [expS]
  | k + 1, a, b => by
    have h := expS_bd' h1 h2 k (by omega) (by omega)
    have x := h1 _ (mem_getD 0 (show k < r.length by omega))
    have y := h2 k (by omega)
    have p := prod_bd (x := r.getD k 0) (y := sc.getD k 0) (by omega) x.2 y.1 y.2
    rw [expS]
    omega
end Go.Proofs.YtokpembimalhmaaDoor
