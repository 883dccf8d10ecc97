/- Plain facts on identifiers: the numbers and prefixes that strings bear. No condition. -/
import Derived.RowKit
namespace Go.Proofs.YtjjcicopblgdmaaDoor
def digB (c : UInt8) : Bool := decide (48 ≤ c.toNat) && decide (c.toNat ≤ 57)
def numV : List UInt8 → Int := fun l => l.foldl (fun n c => n * 10 + ((c.toNat : Int) - 48)) 0
def allD (l : List UInt8) : Bool := l.all digB
theorem digB_iff (c : UInt8) : digB c = true ↔ 48 ≤ (c.toNat : Int) ∧ (c.toNat : Int) ≤ 57 := by
  unfold digB; simp; omega
theorem numV_snoc (l : List UInt8) (c : UInt8) : numV (l ++ [c]) = numV l * 10 + ((c.toNat : Int) - 48) := by
  unfold numV; rw [List.foldl_append]; rfl
theorem allD_snoc (l : List UInt8) (c : UInt8) : allD (l ++ [c]) = (allD l && digB c) := by
  unfold allD; simp
theorem pow_succ_int (n : Nat) : (10 : Int) ^ (n + 1) = 10 ^ n * 10 := Int.pow_succ ..
theorem numV_bd : ∀ (n : Nat) (l : List UInt8), l.length = n → allD l = true → 0 ≤ numV l ∧ numV l < 10 ^ n := by
  intro n
  induction n with
  | zero => intro l hl _; obtain rfl := List.length_eq_zero_iff.1 hl; simp [numV]
  | succ n ih =>
    intro l hl ha
    have hne : l ≠ [] := by intro h; rw [h] at hl; simp at hl
    rw [← List.dropLast_concat_getLast hne] at ha ⊢
    rw [allD_snoc, Bool.and_eq_true, digB_iff] at ha
    rw [numV_snoc]
    have := ih l.dropLast (by simp; omega) ha.1
    rw [pow_succ_int]
    omega
theorem take_snoc (s : ByteArray) (k : Nat) (h : k < s.size) : s.data.toList.take (k + 1) = s.data.toList.take k ++ [s[k]] := by
  rw [List.take_succ_eq_append_getElem (by simpa using h)]; rfl
theorem pow_le7 (k : Nat) (h : k ≤ 7) : (10 : Int) ^ k ≤ 10000000 := by
  have : k = 0 ∨ k = 1 ∨ k = 2 ∨ k = 3 ∨ k = 4 ∨ k = 5 ∨ k = 6 ∨ k = 7 := by omega
  rcases this with h | h | h | h | h | h | h | h <;> subst h <;> decide
theorem numV_take_bd (s : ByteArray) (k : Nat) (hk : k ≤ s.size) (hs : s.size ≤ 7) (h : allD (s.data.toList.take k) = true) :
    0 ≤ numV (s.data.toList.take k) ∧ numV (s.data.toList.take k) < 10000000 := by
  have h1 := numV_bd k (s.data.toList.take k) (by simp; omega) h
  have := pow_le7 k (by omega)
  omega
theorem allD_take_step (s : ByteArray) (k : Nat) (h : k < s.size) : allD (s.data.toList.take (k + 1)) = (allD (s.data.toList.take k) && digB s[k]) := by
  rw [take_snoc s k h, allD_snoc]
theorem numV_take_step (s : ByteArray) (k : Nat) (h : k < s.size) : numV (s.data.toList.take (k + 1)) = numV (s.data.toList.take k) * 10 + ((s[k].toNat : Int) - 48) := by
  rw [take_snoc s k h, numV_snoc]
theorem allD_false_of_take (s : ByteArray) (k : Nat) (h : allD (s.data.toList.take k) = false) : allD s.data.toList = false := by
  unfold allD at *
  rw [List.all_eq_false] at *
  obtain ⟨x, hx, hd⟩ := h
  exact ⟨x, List.mem_of_mem_take hx, hd⟩
end Go.Proofs.YtjjcicopblgdmaaDoor
