/- Plain facts for the reference's arithmetic: the number of bits, a limb as a quotient, division bit by bit. No condition. -/
import Derived.Test.YtdmjgildgjpmcaaKnd
namespace Go.Proofs.Ytdmjgildgjpmcaa
set_option linter.unusedVariables false

/-- The number of significant bits. -/
def bitL (v : Nat) : Nat := if h : v = 0 then 0 else bitL (v / 2) + 1
termination_by v
decreasing_by omega
theorem bitL_zero : bitL 0 = 0 := by unfold bitL; simp
theorem bitL_pos {v : Nat} (h : 0 < v) : bitL v = bitL (v / 2) + 1 := by
  rw [bitL, dif_neg (by omega)]
theorem bitL_spec (v : Nat) : v < 2 ^ bitL v ∧ (0 < v → 2 ^ bitL v ≤ 2 * v) := by
  induction v using Nat.strongRecOn with
  | _ v ih =>
    rcases Nat.eq_zero_or_pos v with h | h
    · subst h; rw [bitL_zero]; exact ⟨by decide, fun h => absurd h (by omega)⟩
    · obtain ⟨a, b⟩ := ih (v / 2) (by omega)
      rw [bitL_pos h, Nat.pow_succ]
      refine ⟨by omega, fun _ => ?_⟩
      rcases Nat.eq_zero_or_pos (v / 2) with h2 | h2
      · rw [h2, bitL_zero, Nat.pow_zero]; omega
      · have := b h2; omega
theorem pow2_lt {i j : Nat} (h : 2 ^ i < 2 ^ j) : i < j := by
  rcases Nat.lt_or_ge i j with h1 | h1
  · exact h1
  · have := Nat.pow_le_pow_right (n := 2) (by omega) h1; omega
theorem bitL_eq {v m : Nat} (h1 : 2 ^ m ≤ v) (h2 : v < 2 ^ (m + 1)) : bitL v = m + 1 := by
  have hp : 0 < 2 ^ m := Nat.pow_pos (by omega)
  obtain ⟨a, b⟩ := bitL_spec v
  have b := b (by omega)
  have c1 := pow2_lt (show 2 ^ m < 2 ^ bitL v by omega)
  have c2 := pow2_lt (show 2 ^ bitL v < 2 ^ (m + 2) by rw [show m + 2 = (m + 1) + 1 from rfl, Nat.pow_succ]; omega)
  omega
theorem bitL_bd {v : Nat} (h : 0 < v) : ∃ m, bitL v = m + 1 ∧ 2 ^ m ≤ v ∧ v < 2 ^ (m + 1) := by
  obtain ⟨a, b⟩ := bitL_spec v
  have b := b h
  have hb : 0 < bitL v := by rw [bitL_pos h]; omega
  obtain ⟨m, hm⟩ : ∃ m, bitL v = m + 1 := ⟨bitL v - 1, by omega⟩
  rw [hm] at a b
  exact ⟨m, hm, by rw [Nat.pow_succ] at b; omega, a⟩
theorem bitL_top {lo t k : Nat} (hl : lo < 2 ^ k) (ht : 0 < t) : bitL (lo + 2 ^ k * t) = k + bitL t := by
  obtain ⟨m, hm, h1, h2⟩ := bitL_bd ht
  rw [hm, show k + (m + 1) = (k + m) + 1 by omega]
  have e1 : 2 ^ k * 2 ^ m ≤ 2 ^ k * t := Nat.mul_le_mul_left _ h1
  have e2 : 2 ^ k * (t + 1) ≤ 2 ^ k * 2 ^ (m + 1) := Nat.mul_le_mul_left _ h2
  rw [Nat.mul_add, Nat.mul_one] at e2
  refine bitL_eq (by rw [Nat.pow_add]; omega) ?_
  rw [show k + m + 1 = k + (m + 1) by omega, Nat.pow_add]; omega
theorem bitL_iff (v : Nat) : bitL v = 0 ↔ v = 0 := by
  constructor
  · intro h
    rcases Nat.eq_zero_or_pos v with h1 | h1
    · exact h1
    · rw [bitL_pos h1] at h; omega
  · intro h; subst h; exact bitL_zero
theorem bp_two (k : Nat) : bp k = 2 ^ (32 * k) := by
  unfold bp
  rw [Nat.pow_mul]
/-- The bits of a list in normal form. -/
theorem bitL_list {l : List Nat} {n : Nat} (hl : l.length = n + 1) (hall : AllB l) (ht : 0 < l.getD n 0) : bitL (val l) = 32 * n + bitL (l.getD n 0) := by
  have e := val_take_succ l n
  rw [List.take_of_length_le (by omega)] at e
  have h := val_lt (hall.take n)
  rw [List.length_take, Nat.min_eq_left (by omega), bp_two] at h
  rw [e, bp_two]
  exact bitL_top h ht
theorem bitL_le {l : List Nat} (hall : AllB l) : bitL (val l) ≤ 32 * l.length := by
  have h := val_lt hall
  rw [bp_two] at h
  rcases Nat.eq_zero_or_pos (val l) with h0 | h0
  · rw [h0, bitL_zero]; omega
  · obtain ⟨m, hm, h1, h2⟩ := bitL_bd h0
    have := pow2_lt (show 2 ^ m < 2 ^ (32 * l.length) by omega)
    omega
/-- What a number of fewer bits is. -/
theorem bitL_lt {a b : Nat} (h : bitL a < bitL b) : a < b := by
  obtain ⟨a1, _⟩ := bitL_spec a
  have hb : 0 < b := by
    rcases Nat.eq_zero_or_pos b with h0 | h0
    · subst h0; rw [bitL_zero] at h; omega
    · exact h0
  obtain ⟨m, hm, h1, h2⟩ := bitL_bd hb
  have := Nat.pow_le_pow_right (n := 2) (by omega) (show bitL a ≤ m by omega)
  omega
theorem bitL_start {a b n : Nat} (hb : 0 < b) (h : bitL a = bitL b + n) : a < b * 2 ^ (n + 1) := by
  obtain ⟨a1, _⟩ := bitL_spec a
  obtain ⟨m, hm, h1, h2⟩ := bitL_bd hb
  have e : 2 ^ m * 2 ^ (n + 1) ≤ b * 2 ^ (n + 1) := Nat.mul_le_mul_right _ h1
  rw [← Nat.pow_add] at e
  rw [h, hm, show m + 1 + n = m + (n + 1) by omega] at a1
  omega
/-- A limb as a quotient. -/
theorem val_limb {l : List Nat} (hall : AllB l) {k : Nat} (hk : k < l.length) : val l / bp k % 4294967296 = l.getD k 0 := by
  have e := val_drop_take l k (by omega)
  have h := val_lt (hall.take k)
  rw [List.length_take, Nat.min_eq_left (by omega)] at h
  have d := val_drop_step l k hk
  have hx := hall.getD k
  rw [e, Nat.add_mul_div_left _ _ (bp_pos k), Nat.div_eq_of_lt h, Nat.zero_add, d, Nat.add_mul_mod_self_left, Nat.mod_eq_of_lt hx]
theorem val_setR {l : List Nat} {k x : Nat} (hk : k < l.length) : val (l.set k x) + bp k * l.getD k 0 = val l + bp k * x := by
  have e := val_drop_take l (k + 1) (by omega)
  have e2 := val_drop_take (l.set k x) (k + 1) (by rw [List.length_set]; omega)
  rw [val_take_set _ _ _ hk, drop_set_succ] at e2
  rw [val_take_succ] at e
  omega
/-- One bit more, below all those that are set. -/
theorem bit_limb {l : List Nat} (hall : AllB l) {j R : Nat} (hk : j / 32 < l.length) (hv : val l = 2 ^ (j + 1) * R) :
    l.getD (j / 32) 0 ||| 2 ^ (j % 32) = l.getD (j / 32) 0 + 2 ^ (j % 32) ∧ l.getD (j / 32) 0 + 2 ^ (j % 32) < 4294967296 := by
  have hs : j % 32 < 32 := Nat.mod_lt _ (by omega)
  have e := val_limb hall hk
  have hj : j + 1 = 32 * (j / 32) + (j % 32 + 1) := by omega
  rw [hv, hj, Nat.pow_add, bp_two, Nat.mul_assoc, Nat.mul_div_cancel_left _ (Nat.pow_pos (by omega))] at e
  generalize j % 32 = s at *
  generalize l.getD (j / 32) 0 = x at *
  have e32 : 2 ^ (s + 1) * 2 ^ (31 - s) = 4294967296 := by rw [← Nat.pow_add, show s + 1 + (31 - s) = 32 by omega]
  have e3 : x = 2 ^ (s + 1) * (R % 2 ^ (31 - s)) := by
    rw [← e, ← e32, Nat.mul_mod_mul_left]
  have hlt : R % 2 ^ (31 - s) < 2 ^ (31 - s) := Nat.mod_lt _ (Nat.pow_pos (by omega))
  generalize R % 2 ^ (31 - s) = y at *
  have h2 : 2 ^ s < 2 ^ (s + 1) := by rw [Nat.pow_succ]; have := Nat.pow_pos (n := s) (show 0 < 2 by omega); omega
  have h3 := Nat.shiftLeft_add_eq_or_of_lt (i := s + 1) (b := 2 ^ s) h2 y
  rw [Nat.shiftLeft_eq, Nat.mul_comm] at h3
  refine ⟨by rw [e3]; exact h3.symm, ?_⟩
  have h4 : 2 ^ (s + 1) * (y + 1) ≤ 2 ^ (s + 1) * 2 ^ (31 - s) := Nat.mul_le_mul_left _ hlt
  rw [e32, Nat.mul_add, Nat.mul_one] at h4
  omega
theorem bit_val {l : List Nat} (hall : AllB l) {j R : Nat} (hk : j / 32 < l.length) (hv : val l = 2 ^ (j + 1) * R) :
    val (l.set (j / 32) (l.getD (j / 32) 0 + 2 ^ (j % 32))) = 2 ^ j * (2 * R + 1) := by
  have h := val_setR (x := l.getD (j / 32) 0 + 2 ^ (j % 32)) hk
  have e : bp (j / 32) * 2 ^ (j % 32) = 2 ^ j := by rw [bp_two, ← Nat.pow_add]; congr 1; omega
  rw [Nat.mul_add, e] at h
  rw [hv, Nat.pow_succ] at h
  generalize 2 ^ j = P at *
  have : P * (2 * R + 1) = P * 2 * R + P := by grind
  omega
/-- A step of the division. -/
theorem dv_sub {a A b Q j : Nat} (h : a = A + b * Q) (hA : A < b * 2 ^ (j + 1)) (hge : b * 2 ^ j ≤ A) : a = (A - b * 2 ^ j) + b * (Q + 2 ^ j) ∧ A - b * 2 ^ j < b * 2 ^ j := by
  rw [Nat.pow_succ] at hA
  have e : b * (2 ^ j * 2) = b * 2 ^ j + b * 2 ^ j := by grind
  rw [e] at hA
  rw [Nat.mul_add]
  omega
theorem dv_half {b j : Nat} : b * 2 ^ (j + 1) / 2 = b * 2 ^ j := by
  rw [Nat.pow_succ, ← Nat.mul_assoc, Nat.mul_div_cancel _ (by omega)]
theorem dv_end {a A b Q : Nat} (h : a = A + b * Q) (hA : A < b) : a / b = Q ∧ a % b = A := by
  have hb : 0 < b := by omega
  subst h
  rw [Nat.add_mul_div_left _ _ hb, Nat.div_eq_of_lt hA, Nat.zero_add, Nat.add_mul_mod_self_left, Nat.mod_eq_of_lt hA]
  exact ⟨rfl, rfl⟩
/-- Subtraction, limb by limb. -/
theorem sub_stepR {so b a bw y x d bw' p : Nat} (h : so + b = a + bw * p) (e : d + y + bw = x + bw' * 4294967296) : (so + p * d) + (b + p * y) = (a + p * x) + bw' * (p * 4294967296) := by
  have : p * (d + y + bw) = p * (x + bw' * 4294967296) := by rw [e]
  grind
theorem sub_end {n so bw : Nat} {a b : List Nat} (hn : a.length = n) (ha : AllB a) (hb : AllB b) (hso : so < bp n) (hbw : bw ≤ 1) (h : so + val (b.take n) = val a + bw * bp n) (hle : val b ≤ val a) : so = val a - val b := by
  have h1 := val_lt ha
  rw [hn] at h1
  have hbt : val (b.take n) = val b := by
    rcases Nat.lt_or_ge n b.length with hl | hl
    · have e := val_drop_take b n (by omega)
      rcases Nat.eq_zero_or_pos (val (b.drop n)) with h0 | h0
      · rw [h0] at e; omega
      · have : bp n * 1 ≤ bp n * val (b.drop n) := Nat.mul_le_mul_left _ h0
        omega
    · rw [val_take_all _ hl]
  rw [hbt] at h
  rcases (by omega : bw = 0 ∨ bw = 1) with hw | hw
  · subst hw; omega
  · subst hw; omega
end Go.Proofs.Ytdmjgildgjpmcaa
