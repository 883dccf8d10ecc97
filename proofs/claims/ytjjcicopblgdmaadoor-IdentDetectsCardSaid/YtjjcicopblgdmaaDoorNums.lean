/- The walks of number, prefix and the check digits. No condition beyond those stated. -/
import Derived.Test.YtjjcicopblgdmaaDoorProg
import Derived.Test.YtjjcicopblgdmaaDoorPlain
import Derived.WalkKit
import Derived.Lib.Hide
import Derived.WalkSpells
import Derived.LoopTactic
import Derived.Outline
namespace Go.Proofs.YtjjcicopblgdmaaDoor
open Go.RowKit

set_option maxHeartbeats 400000 in
theorem number_yes (s : ByteArray) (w : World) (hs : s.size ≤ 7) (hd : Hid (allD s.data.toList = true)) :
    Calls Tryd.prog 16 #[.string s] w fun e w' => e = .returned (.tuple #[.int .i64 (numV s.data.toList), .bool true]) ∧ w = w' := by
  go_enter Tryd.func16, Tryd.ntmps16
  go_wp2
  go_loop [4, 5] (fun n i => ∃ k : Nat, k ≤ s.size ∧ i = .int .i64 k ∧ n = .int .i64 (numV (s.data.toList.take k))) (fun _ i => s.size - (intOf i).toNat)
  case atStart => exact ⟨0, Nat.zero_le _, rfl, rfl⟩
  case round =>
    obtain ⟨k, hk, rfl, rfl⟩ := hrel
    have hall : ∀ j, j ≤ s.size → allD (s.data.toList.take j) = true := by
      intro j hj
      have := hd.out
      unfold allD at *
      rw [List.all_eq_true] at *
      exact fun x hx => this x (List.mem_of_mem_take hx)
    by_cases hlt : k < s.size
    · obtain ⟨b1, b2⟩ := numV_take_bd s k (by omega) hs (hall k (by omega))
      have HS := Lib.hid (numV_take_step s k hlt)
      have hg := hall (k + 1) (by omega)
      rw [allD_take_step s k hlt, Bool.and_eq_true, digB_iff] at hg
      obtain ⟨_, g1, g2⟩ := hg
      clear hall
      go_wp2
      go_round
      case rel => exact ⟨k + 1, by omega, by go_num, by rw [HS.out]⟩
      case measure => simp [intOf]; omega
    · clear hall
      go_wp2
      go_ret2
      refine ⟨?_, rfl⟩
      rw [List.take_of_length_le (by simp; omega)]
      rfl
set_option maxHeartbeats 400000 in
theorem rnumber_yes (s : ByteArray) (w : World) (hs : s.size ≤ 7) (hd : Hid (allD s.data.toList = true)) :
    Calls Tryd.prog 19 #[.string s] w fun e w' => e = .returned (.int .i64 (numV s.data.toList)) ∧ w = w' := by
  go_enter Tryd.func19, Tryd.ntmps19
  go_wp2
  go_loop [3, 4] (fun n i => ∃ k : Nat, k ≤ s.size ∧ i = .int .i64 k ∧ n = .int .i64 (numV (s.data.toList.take k))) (fun _ i => s.size - (intOf i).toNat)
  case atStart => exact ⟨0, Nat.zero_le _, rfl, rfl⟩
  case round =>
    obtain ⟨k, hk, rfl, rfl⟩ := hrel
    have hall : ∀ j, j ≤ s.size → allD (s.data.toList.take j) = true := by
      intro j hj
      have := hd.out
      unfold allD at *
      rw [List.all_eq_true] at *
      exact fun x hx => this x (List.mem_of_mem_take hx)
    by_cases hlt : k < s.size
    · obtain ⟨b1, b2⟩ := numV_take_bd s k (by omega) hs (hall k (by omega))
      have HS := Lib.hid (numV_take_step s k hlt)
      have hg := hall (k + 1) (by omega)
      rw [allD_take_step s k hlt, Bool.and_eq_true, digB_iff] at hg
      obtain ⟨_, g1, g2⟩ := hg
      clear hall
      go_wp2
      go_round
      case rel => exact ⟨k + 1, by omega, by go_num, by rw [HS.out, Int.mul_comm]⟩
      case measure => simp [intOf]; omega
    · clear hall
      go_wp2
      go_ret
      refine ⟨?_, rfl⟩
      rw [List.take_of_length_le (by simp; omega)]
      rfl

set_option maxHeartbeats 400000 in
theorem number_no (s : ByteArray) (w : World) (hs : s.size ≤ 7) (hd : Hid (allD s.data.toList = false)) :
    Calls Tryd.prog 16 #[.string s] w fun e w' => e = .returned (.tuple #[.int .i64 0, .bool false]) ∧ w = w' := by
  go_enter Tryd.func16, Tryd.ntmps16
  go_wp2
  go_loop [4, 5] (fun n i => ∃ k : Nat, k ≤ s.size ∧ i = .int .i64 k ∧ n = .int .i64 (numV (s.data.toList.take k)) ∧ Hid (allD (s.data.toList.take k) = true)) (fun _ i => s.size - (intOf i).toNat)
  case atStart => exact ⟨0, Nat.zero_le _, rfl, rfl, by simp [Hid, allD]⟩
  case round =>
    obtain ⟨k, hk, rfl, rfl, hall⟩ := hrel
    have hlt : k < s.size := by
      rcases Nat.lt_or_ge k s.size with h | h
      · exact h
      · have h1 := hall.out
        have h2 := hd.out
        rw [List.take_of_length_le (by simp; omega)] at h1
        rw [h1] at h2; cases h2
    obtain ⟨b1, b2⟩ := numV_take_bd s k (by omega) hs hall.out
    have HS := Lib.hid (numV_take_step s k hlt)
    have HA := Lib.hid (allD_take_step s k hlt)
    by_cases hdg : digB s[k] = true
    · obtain ⟨g1, g2⟩ := (digB_iff _).1 hdg
      have HD := Lib.hid hdg
      clear hdg
      go_wp2
      go_round
      case rel => exact ⟨k + 1, by omega, by go_num, by rw [HS.out], by unfold Hid; rw [HA.out, hall.out, HD.out]; rfl⟩
      case measure => simp [intOf]; omega
    · have g : ¬ (48 ≤ (s[k].toNat : Int) ∧ (s[k].toNat : Int) ≤ 57) := by rw [← digB_iff]; exact hdg
      clear hdg
      by_cases g1 : (s[k].toNat : Int) < 48
      · clear g
        go_wp2
        go_ret2
        exact ⟨rfl, rfl⟩
      · have g2 : 57 < (s[k].toNat : Int) := by omega
        clear g
        go_wp2
        go_ret2
        exact ⟨rfl, rfl⟩

set_option maxHeartbeats 400000 in
theorem rnumber_no (s : ByteArray) (w : World) (hs : s.size ≤ 7) (hd : Hid (allD s.data.toList = false)) :
    Calls Tryd.prog 19 #[.string s] w fun e w' => e = .returned (.int .i64 (-1)) ∧ w = w' := by
  go_enter Tryd.func19, Tryd.ntmps19
  go_wp2
  go_loop [3, 4] (fun n i => ∃ k : Nat, k ≤ s.size ∧ i = .int .i64 k ∧ n = .int .i64 (numV (s.data.toList.take k)) ∧ Hid (allD (s.data.toList.take k) = true)) (fun _ i => s.size - (intOf i).toNat)
  case atStart => exact ⟨0, Nat.zero_le _, rfl, rfl, by simp [Hid, allD]⟩
  case round =>
    obtain ⟨k, hk, rfl, rfl, hall⟩ := hrel
    have hlt : k < s.size := by
      rcases Nat.lt_or_ge k s.size with h | h
      · exact h
      · have h1 := hall.out
        have h2 := hd.out
        rw [List.take_of_length_le (by simp; omega)] at h1
        rw [h1] at h2; cases h2
    obtain ⟨b1, b2⟩ := numV_take_bd s k (by omega) hs hall.out
    have HS := Lib.hid (numV_take_step s k hlt)
    have HA := Lib.hid (allD_take_step s k hlt)
    by_cases hdg : digB s[k] = true
    · obtain ⟨g1, g2⟩ := (digB_iff _).1 hdg
      have HD := Lib.hid hdg
      clear hdg
      go_wp2
      go_round
      case rel => exact ⟨k + 1, by omega, by go_num, by rw [HS.out, Int.mul_comm], by unfold Hid; rw [HA.out, hall.out, HD.out]; rfl⟩
      case measure => simp [intOf]; omega
    · have g : ¬ (48 ≤ (s[k].toNat : Int) ∧ (s[k].toNat : Int) ≤ 57) := by rw [← digB_iff]; exact hdg
      clear hdg
      by_cases g1 : (s[k].toNat : Int) < 48
      · clear g
        go_wp2
        go_ret
        exact ⟨rfl, rfl⟩
      · have g2 : 57 < (s[k].toNat : Int) := by omega
        clear g
        go_wp2
        go_ret
        exact ⟨rfl, rfl⟩

def numI (l : List UInt8) : Int := if allD l then numV l else 0
def numJ (l : List UInt8) : Int := if allD l then numV l else -1
theorem numI_bd (s : ByteArray) (hs : s.size ≤ 7) : 0 ≤ numI s.data.toList ∧ numI s.data.toList ≤ 9999999 := by
  unfold numI
  split
  · rename_i h
    have := numV_take_bd s s.size (Nat.le_refl _) hs (by rw [List.take_of_length_le (by simp)]; exact h)
    rw [List.take_of_length_le (by simp)] at this
    omega
  · omega
theorem number_any (s : ByteArray) (w : World) (hs : s.size ≤ 7) :
    Calls Tryd.prog 16 #[.string s] w fun e w' => e = .returned (.tuple #[.int .i64 (numI s.data.toList), .bool (allD s.data.toList)]) ∧ w = w' := by
  by_cases h : allD s.data.toList = true
  · have e : numI s.data.toList = numV s.data.toList := by simp [numI, h]
    rw [e, h]; exact number_yes s w hs h
  · have h' : allD s.data.toList = false := by simpa using h
    have e : numI s.data.toList = 0 := by simp [numI, h']
    rw [e, h']; exact number_no s w hs h'
theorem rnumber_any (s : ByteArray) (w : World) (hs : s.size ≤ 7) :
    Calls Tryd.prog 19 #[.string s] w fun e w' => e = .returned (.int .i64 (numJ s.data.toList)) ∧ w = w' := by
  by_cases h : allD s.data.toList = true
  · have e : numJ s.data.toList = numV s.data.toList := by simp [numJ, h]
    rw [e]; exact rnumber_yes s w hs h
  · have h' : allD s.data.toList = false := by simpa using h
    have e : numJ s.data.toList = -1 := by simp [numJ, h']
    rw [e]; exact rnumber_no s w hs h'

theorem number_at (s : ByteArray) (l : List UInt8) (w : World) (hs : s.size ≤ 7) (hl : s.data.toList = l) :
    Calls Tryd.prog 16 #[.string s] w fun e w' => e = .returned (.tuple #[.int .i64 (numI l), .bool (allD l)]) ∧ w = w' := by
  subst hl; exact number_any s w hs
theorem rnumber_at (s : ByteArray) (l : List UInt8) (w : World) (hs : s.size ≤ 7) (hl : s.data.toList = l) :
    Calls Tryd.prog 19 #[.string s] w fun e w' => e = .returned (.int .i64 (numJ l)) ∧ w = w' := by
  subst hl; exact rnumber_any s w hs

def preB : Nat → ByteArray
  | 1 => ⟨#[73, 84, 77]⟩
  | 2 => ⟨#[70, 82, 77]⟩
  | 3 => ⟨#[67, 65, 78]⟩
  | 4 => ⟨#[83, 69, 83]⟩
  | 5 => ⟨#[82, 65, 84]⟩
  | 6 => ⟨#[65, 83, 84]⟩
  | _ => ⟨#[]⟩
theorem prefix_in (k : Nat) (w : World) (h1 : 1 ≤ k) (h2 : k ≤ 6) :
    Calls Tryd.prog 18 #[.int .i64 (k : Int)] w fun e w' => e = .returned (.string (preB k)) ∧ w = w' := by
  have : k = 1 ∨ k = 2 ∨ k = 3 ∨ k = 4 ∨ k = 5 ∨ k = 6 := by omega
  clear h1 h2
  rcases this with h | h | h | h | h | h <;> subst h
  all_goals
    go_enter Tryd.func18, Tryd.ntmps18
    go_wp2
    go_ret
    exact ⟨rfl, rfl⟩
theorem prefix_out (k : Int) (w : World) (h : Hid (k < 1 ∨ 6 < k)) :
    Calls Tryd.prog 18 #[.int .i64 k] w fun e w' => e = .returned (.string ⟨#[]⟩) ∧ w = w' := by
  have e1 : (k == 1) = false := beq_eq_false_iff_ne.2 (by have := h.out; omega)
  have e2 : (k == 2) = false := beq_eq_false_iff_ne.2 (by have := h.out; omega)
  have e3 : (k == 3) = false := beq_eq_false_iff_ne.2 (by have := h.out; omega)
  have e4 : (k == 4) = false := beq_eq_false_iff_ne.2 (by have := h.out; omega)
  have e5 : (k == 5) = false := beq_eq_false_iff_ne.2 (by have := h.out; omega)
  have e6 : (k == 6) = false := beq_eq_false_iff_ne.2 (by have := h.out; omega)
  go_enter Tryd.func18, Tryd.ntmps18
  go_wp2
  go_ret
  exact ⟨rfl, rfl⟩
theorem digits_any (k n : Int) (w : World) (h1 : 1 ≤ k) (h2 : k ≤ 6) (h3 : 0 ≤ n) (h4 : n ≤ 9999999) :
    Calls Tryd.prog 17 #[.int .i64 k, .int .i64 n] w fun e w' => e = .returned (.int .i64 (98 - ((k * 10000000 + n) * 100) % 97)) ∧ w = w' := by
  go_enter Tryd.func17, Tryd.ntmps17
  go_wp2
  go_ret
  exact ⟨rfl, rfl⟩
theorem rcheck_ok (k : Nat) (n : Int) (w : World) (h1 : 1 ≤ k) (h2 : k ≤ 6) (h3 : 1 ≤ n) (h4 : n ≤ 9999999) :
    Calls Tryd.prog 13 #[.int .i64 (k : Int), .int .i64 n] w fun e w' => e = .returned (.tuple #[.int .i64 (98 - (((k : Int) * 10000000 + n) * 100) % 97), .int .i64 0]) ∧ w = w' := by
  have hp : (preB k).toList.isEmpty = false := by
    have : k = 1 ∨ k = 2 ∨ k = 3 ∨ k = 4 ∨ k = 5 ∨ k = 6 := by omega
    rcases this with h | h | h | h | h | h <;> subst h <;> decide +kernel
  go_enter Tryd.func13, Tryd.ntmps13
  go_wp2_with (go_at_call 18; refine (prefix_in k _ h1 h2).mono ?_; rintro e w' ⟨rfl, rfl⟩)
  go_ret2
  exact ⟨rfl, rfl⟩
end Go.Proofs.YtjjcicopblgdmaaDoor
