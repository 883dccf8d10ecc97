/- Plain numbers: the shift that lifts a limb's highest bit to the top. -/
import Derived.Test.YtdmjgildgjpmcaaDoorKnz
import Derived.Lib.BitFns
namespace Go.Proofs.YtdmjgildgjpmcaaDoor
set_option linter.unusedVariables false

theorem aux_spec : ∀ f x : Nat, x < 2 ^ f → x < 2 ^ Lib.bitLenAux f x ∧ (x ≠ 0 → 2 ^ (Lib.bitLenAux f x - 1) ≤ x)
  | 0, x, h => by
    rw [Nat.pow_zero] at h
    obtain rfl : x = 0 := by omega
    exact ⟨by decide, fun h => absurd rfl h⟩
  | f + 1, x, h => by
    unfold Lib.bitLenAux
    by_cases hx : x = 0
    · subst hx; exact ⟨Nat.pow_pos (by omega), fun h => absurd rfl h⟩
    · rw [if_neg hx]
      rw [Nat.pow_succ] at h
      obtain ⟨a, b⟩ := aux_spec f (x / 2) (by omega)
      have hk0 : x / 2 = 0 → Lib.bitLenAux f (x / 2) = 0 := by intro e; rw [e]; cases f <;> simp [Lib.bitLenAux]
      generalize Lib.bitLenAux f (x / 2) = k at *
      refine ⟨by rw [Nat.add_comm, Nat.pow_succ]; omega, fun _ => ?_⟩
      rw [Nat.add_sub_cancel_left]
      by_cases h2 : x / 2 = 0
      · rw [hk0 h2, Nat.pow_zero]; omega
      · have b := b h2
        have hk : k ≠ 0 := by intro e; subst e; rw [Nat.pow_zero] at a; omega
        obtain ⟨m, rfl⟩ : ∃ m, k = m + 1 := ⟨k - 1, by omega⟩
        rw [Nat.add_sub_cancel] at b
        rw [Nat.pow_succ]; omega
theorem norm_top {x : Nat} (hx : 0 < x) (hl : x < 4294967296) : Lib.bitLen x ≤ 32 ∧ 32 - Lib.bitLen x < 32 ∧ 2147483648 ≤ x * 2 ^ (32 - Lib.bitLen x) ∧ x * 2 ^ (32 - Lib.bitLen x) < 4294967296 := by
  obtain ⟨h1, h2⟩ : x < 2 ^ Lib.bitLen x ∧ (x ≠ 0 → 2 ^ (Lib.bitLen x - 1) ≤ x) := aux_spec 64 x (by omega)
  have h2 := h2 (by omega)
  have hb : 0 < Lib.bitLen x := by
    rcases Nat.eq_zero_or_pos (Lib.bitLen x) with h | h
    · rw [h, Nat.pow_zero] at h1; omega
    · exact h
  have hb2 : Lib.bitLen x ≤ 32 := by
    rcases Nat.lt_or_ge 32 (Lib.bitLen x) with h | h
    · have : 2 ^ 32 ≤ 2 ^ (Lib.bitLen x - 1) := Nat.pow_le_pow_right (by omega) (by omega)
      omega
    · exact h
  generalize Lib.bitLen x = b at *
  refine ⟨hb2, by omega, ?_, ?_⟩
  · have h3 : 2 ^ (b - 1) * 2 ^ (32 - b) ≤ x * 2 ^ (32 - b) := Nat.mul_le_mul_right _ h2
    rw [← Nat.pow_add, show b - 1 + (32 - b) = 31 by omega] at h3
    omega
  · have h3 : x * 2 ^ (32 - b) < 2 ^ b * 2 ^ (32 - b) := Nat.mul_lt_mul_of_pos_right h1 (Nat.pow_pos (by omega))
    rw [← Nat.pow_add, show b + (32 - b) = 32 by omega] at h3
    omega
end Go.Proofs.YtdmjgildgjpmcaaDoor
