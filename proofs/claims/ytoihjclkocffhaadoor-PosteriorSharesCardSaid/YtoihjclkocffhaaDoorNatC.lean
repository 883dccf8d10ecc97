/- The walk of nat.Bits. -/
import Derived.Test.YtoihjclkocffhaaDoorNatA
import Derived.Test.YtoihjclkocffhaaDoorShelf
import Derived.Lib.ItoaNum
namespace Go.Proofs.YtoihjclkocffhaaDoor
open Go.RowKit
set_option linter.unusedVariables false

/-- b is the number of significant bits of n. -/
def BitsIs (n b : Nat) : Prop := (n = 0 → b = 0) ∧ (0 < n → 1 ≤ b ∧ 2 ^ (b - 1) ≤ n ∧ n < 2 ^ b)
theorem bp_two (k : Nat) : bp k = 2 ^ (32 * k) := by
  unfold bp
  rw [show (4294967296 : Nat) = 2 ^ 32 by decide, ← Nat.pow_mul]
theorem bitLen_is {x : Nat} (h : x < 4294967296) : BitsIs x (Lib.bitLen x) := by
  unfold Lib.bitLen
  refine ⟨fun h0 => by subst h0; exact Lib.bitLenAux_zero _, fun h0 => ?_⟩
  exact Lib.bitLenAux_bounds 64 x (Nat.lt_of_lt_of_le h (by decide)) (by omega)
theorem bits_join {r j t b : Nat} (hr : r < bp j) (ht : 0 < t) (hb : BitsIs t b) : BitsIs (r + bp j * t) (32 * j + b) := by
  obtain ⟨_, h⟩ := hb
  obtain ⟨h1, h2, h3⟩ := h ht
  have hp := bp_pos j
  refine ⟨fun h0 => ?_, fun _ => ⟨by omega, ?_, ?_⟩⟩
  · have := Nat.mul_pos hp ht; omega
  · rw [show 32 * j + b - 1 = 32 * j + (b - 1) by omega, Nat.pow_add, ← bp_two]
    have := Nat.mul_le_mul_left (bp j) h2
    omega
  · rw [Nat.pow_add, ← bp_two]
    have := Nat.mul_le_mul_left (bp j) (show t + 1 ≤ 2 ^ b from h3)
    rw [Nat.mul_add] at this
    omega

set_option maxHeartbeats 1000000 in
theorem bits_any (v : Value) (ls : List Nat) (w : World) (h : Lim w v ls) (hl : ls.length ≤ 70368744177664) :
    Calls Tryd.prog 51 #[v] w fun e w' => ∃ b : Nat, e = .returned (.int .i64 (b : Int)) ∧ w = w' ∧ BitsIs (val ls) b := by
  obtain ⟨⟨A, c, rfl, hn, hc, hs⟩, hall⟩ := h
  have hlen := strip_len ls
  have HV := Lib.hid (strip_val ls)
  have hs2 := hs.strip
  have hall2 := strip_all hall
  have hnt := strip_noTop ls
  have T1 := Lib.hid (trim_any A _ c ls w hs hn hc)
  unfold maxLen at hc
  generalize strip ls = la at *
  go_enter Tryd.func51, Tryd.ntmps51
  go_wp2_with fail
  refine T1.out.mono ?_
  rintro e w' ⟨rfl, rfl⟩
  rcases Nat.eq_zero_or_pos la.length with h0 | hp
  · have hla : la = [] := List.eq_nil_of_length_eq_zero h0
    subst hla
    have hv0 : Hid (val ls = 0) := by unfold Hid; rw [← HV.out]; rfl
    have f0 : ((([] : List Nat).length : Int) == 0) = true := by simp
    go_wp2_with fail
    go_ret
    exact ⟨0, rfl, rfl, fun _ => rfl, fun h => by have := hv0.out; omega⟩
  · obtain ⟨j, hj⟩ : ∃ j, la.length = j + 1 := ⟨la.length - 1, by omega⟩
    have HB : Hid (0 < la.getD j 0 ∧ val ls = val (la.take j) + bp j * la.getD j 0 ∧ val (la.take j) < bp j) := by
      unfold Hid
      refine ⟨?_, ?_, ?_⟩
      · rcases hnt with h0 | ⟨m, x, rfl, hx⟩
        · subst h0; simp at hj
        · rw [List.length_append] at hj
          have : m.length = j := by simpa using hj
          subst this
          simpa [List.getD] using hx
      · rw [← HV.out, ← val_take_succ, val_take_all _ (by omega)]
      · have := val_lt (hall2.take j)
        rwa [List.length_take, Nat.min_eq_left (by omega)] at this
    have hx := hall2.getD j
    rw [hj] at hs2 ⊢
    obtain ⟨b1, o1, rfl, hb1, hcell⟩ := hs2.lim (show j < j + 1 by omega)
    have g1 := hcell j (by omega)
    clear hcell hs2 hnt hall2
    generalize la.getD j 0 = x at *
    have f0 : (((j + 1 : Nat) : Int) == 0) = false := by rw [beq_eq_false_iff_ne]; omega
    go_wp2_with fail
    refine (Tryd.bits_Len32 _ _ (by omega) (by omega)).mono ?_
    rintro e w' ⟨rfl, rfl⟩
    have hbl := bitLen_is hx
    have hle := Lib.bitLen_le x 32 (by omega) (by omega)
    rw [Int.toNat_natCast]
    generalize Lib.bitLen x = B at *
    go_wp2_with fail
    go_ret
    refine ⟨32 * j + B, by go_num, rfl, ?_⟩
    rw [HB.out.2.1]
    exact bits_join HB.out.2.2 HB.out.1 hbl
end Go.Proofs.YtoihjclkocffhaaDoor
