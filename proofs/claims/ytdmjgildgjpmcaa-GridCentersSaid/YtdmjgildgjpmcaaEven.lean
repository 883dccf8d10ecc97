/- The walks of grid.even and the reference's points. -/
import Derived.Test.YtdmjgildgjpmcaaProg
import Derived.Test.YtdmjgildgjpmcaaMem
import Derived.WalkKit
import Derived.LoopTactic
import Derived.Outline
import Derived.WalkSpells
namespace Go.Proofs.Ytdmjgildgjpmcaa
open Go.RowKit

theorem info3 : (Try.prog.info? 3).map (fun i => (i.zero, i.size, i.bytes)) = some (some (.int .i64 0), 1, 8) := by kernel_rfl

def ints (zs : List Int) : List Value := zs.map (Value.int .i64)
def ptsL (lo step : Int) (n : Nat) : List Int := (List.range n).map fun i : Nat => lo + (i : Int) * step
/-- n places, the first k of them filled. -/
def filled (f : Nat → Value) (z : Value) (n k : Nat) : List Value := (List.range k).map f ++ List.replicate (n - k) z
theorem filled_zero (f : Nat → Value) (z : Value) (n : Nat) : filled f z n 0 = List.replicate n z := by simp [filled]
theorem filled_len (f : Nat → Value) (z : Value) (n k : Nat) (h : k ≤ n) : (filled f z n k).length = n := by simp [filled]; omega
theorem filled_get (f : Nat → Value) (z : Value) (n k : Nat) (h : k < n) : (filled f z n k)[k]? = some z := by
  unfold filled
  rw [List.getElem?_append_right (by simp), List.getElem?_replicate]
  simp; omega
theorem filled_set (f : Nat → Value) (z : Value) (n k : Nat) (h : k < n) : (filled f z n k).set k (f k) = filled f z n (k + 1) := by
  unfold filled
  apply List.ext_getElem?
  intro i
  rw [List.getElem?_set]
  by_cases hi : k = i
  · subst hi
    rw [if_pos rfl, if_pos (by simp; omega), List.getElem?_append_left (by simp)]
    simp
  · rw [if_neg hi]
    rcases Nat.lt_or_ge i k with h1 | h1
    · rw [List.getElem?_append_left (by simpa using h1), List.getElem?_append_left (by simp; omega)]
      simp [h1, Nat.lt_succ_of_lt h1]
    · rw [List.getElem?_append_right (by simpa using h1), List.getElem?_append_right (by simp; omega)]
      simp only [List.length_map, List.length_range, List.getElem?_replicate]
      by_cases h2 : i < n
      · rw [if_pos (by omega), if_pos (by omega)]
      · rw [if_neg (by omega), if_neg (by omega)]
theorem filled_all (f : Nat → Value) (z : Value) (n : Nat) : filled f z n n = (List.range n).map f := by simp [filled]

set_option maxHeartbeats 1000000 in
theorem even_yes (lo step : Int) (n : Nat) (w : World) (h1 : 1 ≤ n) (h2 : n ≤ 21) (h3 : 1 ≤ step) (h4 : step ≤ 1000) (h5 : -1000 ≤ lo) (h6 : lo ≤ 1000) (h7 : lo + ((n : Int) - 1) * step ≤ 1000) :
    Calls Try.prog 27 #[.int .i64 lo, .int .i64 step, .int .i64 (n : Int)] w fun e w' => e = .returned (.tuple #[.slice (some ⟨w.heap.size, 0, none⟩) n n, .bool true]) ∧ Row w' w.heap.size 3 (ints (ptsL lo step n)) ∧ Below w.heap.size w w' := by
  have hmk := run_mk (P := Try.prog) Try.underlying22 info3 rfl n (by omega) (by omega)
  have h8 : 0 ≤ ((n : Int) - 1) * step := Int.mul_nonneg (by omega) (by omega)
  have d1 : decide ((n : Int) < 1) = false := by simp; omega
  have d2 : decide (21 < (n : Int)) = false := by simp; omega
  have d3 : decide (step < 1) = false := by simp; omega
  have d4 : decide (1000 < step) = false := by simp; omega
  have d5 : decide (lo < -1000) = false := by simp; omega
  have d6 : decide (1000 < lo) = false := by simp; omega
  have d7 : decide (1000 < lo + ((n : Int) - 1) * step) = false := by simp; omega
  go_enter Try.func27, Try.ntmps27
  go_wp2
  clear hmk d1 d2 d3 d4 d5 d6 d7
  go_loopw [9, 43] (fun _ i wr => ∃ k : Nat, k ≤ n ∧ i = .int .i64 (k : Int) ∧ Row wr w.heap.size 3 (filled (fun j => .int .i64 (lo + (j : Int) * step)) (.int .i64 0) n k) ∧ Below w.heap.size w wr) (fun _ i _ => n - (intOf i).toNat)
  case atStart => exact ⟨0, by omega, rfl, by rw [filled_zero]; exact Row.newz _ _ _ _, (Below.refl _ _).alloc (Nat.le_refl _) _⟩
  case round =>
    obtain ⟨k, hk, rfl, hrow, hb⟩ := hrel
    by_cases hlt : k < n
    · have hc : wr.cell? ⟨w.heap.size, k, none⟩ = some (.int .i64 0) := by rw [hrow.cell, filled_get _ _ _ _ hlt]
      have hf : wr.frozen? ⟨w.heap.size, k, none⟩ = false := hrow.frozen k
      have m1 : 0 ≤ (k : Int) * step := Int.mul_nonneg (by omega) (by omega)
      have m2 : (k : Int) * step ≤ ((n : Int) - 1) * step := Int.mul_le_mul_of_nonneg_right (by omega) (by omega)
      go_wp2
      go_roundw
      case rel => exact ⟨k + 1, by omega, by go_num, by rw [← filled_set _ _ _ _ hlt]; exact hrow.set_ k _, hb.setCell (Nat.le_refl _) _⟩
      case measure => simp [intOf]; omega
    · obtain rfl : k = n := by omega
      go_wp2
      go_ret2
      refine ⟨rfl, ?_, hb⟩
      rw [filled_all] at hrow
      unfold ints ptsL
      rw [List.map_map]
      exact hrow

theorem range_snoc {α : Type} (f : Nat → α) (k : Nat) : (List.range (k + 1)).map f = (List.range k).map f ++ [f k] := by
  rw [List.range_succ, List.map_append]; rfl

set_option maxHeartbeats 1000000 in
theorem points_yes (lo step : Int) (n : Nat) (w : World) (h1 : 1 ≤ n) (h2 : n ≤ 21) (h3 : 1 ≤ step) (h4 : step ≤ 1000) (h5 : -1000 ≤ lo) (h6 : lo ≤ 1000) (h7 : lo + ((n : Int) - 1) * step ≤ 1000) :
    Calls Try.prog 28 #[.int .i64 lo, .int .i64 step, .int .i64 (n : Int)] w fun e w' => ∃ v, e = .returned (.tuple #[v, .bool true]) ∧ w'.ownsRow w.heap.size 3 1 v n (ints (ptsL lo step n)) ∧ Below w.heap.size w w' := by
  have h8 : 0 ≤ ((n : Int) - 1) * step := Int.mul_nonneg (by omega) (by omega)
  have d1 : decide ((n : Int) < 1) = false := by simp; omega
  have d2 : decide (21 < (n : Int)) = false := by simp; omega
  have d3 : decide (step < 1) = false := by simp; omega
  have d4 : decide (1000 < step) = false := by simp; omega
  have d5 : decide (lo < -1000) = false := by simp; omega
  have d6 : decide (1000 < lo) = false := by simp; omega
  have d7 : decide (1000 < lo + ((n : Int) - 1) * step) = false := by simp; omega
  go_enter Try.func28, Try.ntmps28
  go_wp2
  clear d1 d2 d3 d4 d5 d6 d7
  go_loopw [8, 9] (fun v i wr => ∃ k : Nat, k ≤ n ∧ i = .int .i64 (k : Int) ∧ wr.ownsRow w.heap.size 3 1 v k (ints (ptsL lo step k)) ∧ Below w.heap.size w wr) (fun _ i _ => n - (intOf i).toNat)
  case atStart => exact ⟨0, by omega, rfl, World.ownsRow_nil _ _ _ _, Below.refl _ _⟩
  case round =>
    obtain ⟨k, hk, rfl, hown, hb⟩ := hrel
    by_cases hlt : k < n
    · have m1 : 0 ≤ (k : Int) * step := Int.mul_nonneg (by omega) (by omega)
      have m2 : (k : Int) * step ≤ ((n : Int) - 1) * step := Int.mul_le_mul_of_nonneg_right (by omega) (by omega)
      go_wp2_with (at_builtin; (refine wpList_append_one wr rfl (.tmp 46) (.tmp 52) 22 rfl w.heap.size 3 (.int .i64 0) 8 Try.underlying22 info3 rfl u8 k _ (.int .i64 (lo + (k : Int) * step)) rfl rfl hown rfl (by unfold maxLen; omega) (by omega) hb.size ?_); intro A' c' w1 hown' hb')
      go_roundw
      case rel =>
        refine ⟨k + 1, by omega, by go_num, ?_, hb.trans hb'⟩
        unfold ints ptsL at *
        rw [range_snoc, List.map_append]
        exact hown'
      case measure => simp [intOf]; omega
    · obtain rfl : k = n := by omega
      go_wp2
      go_ret2
      exact ⟨_, rfl, hown, hb⟩
def FitsI (lo step n : Int) : Prop := 1 ≤ n ∧ n ≤ 21 ∧ 1 ≤ step ∧ step ≤ 1000 ∧ -1000 ≤ lo ∧ lo ≤ 1000 ∧ lo + (n - 1) * step ≤ 1000
set_option maxHeartbeats 1000000 in
theorem even_no (lo step n : Int) (w : World) (h : Hid (¬ FitsI lo step n)) :
    Calls Try.prog 27 #[.int .i64 lo, .int .i64 step, .int .i64 n] w fun e w' => e = .returned (.tuple #[.slice none 0 0, .bool false]) ∧ w = w' := by
  by_cases c1 : n < 1
  · have d1 : decide (n < 1) = true := by simpa using c1
    clear h
    go_enter Try.func27, Try.ntmps27
    go_wp2
    go_ret2
    exact ⟨rfl, rfl⟩
  · have d1 : decide (n < 1) = false := by simpa using c1
    by_cases c2 : 21 < n
    · have d2 : decide (21 < n) = true := by simpa using c2
      clear h
      go_enter Try.func27, Try.ntmps27
      go_wp2
      go_ret2
      exact ⟨rfl, rfl⟩
    · have d2 : decide (21 < n) = false := by simpa using c2
      by_cases c3 : step < 1
      · have d3 : decide (step < 1) = true := by simpa using c3
        clear h
        go_enter Try.func27, Try.ntmps27
        go_wp2
        go_ret2
        exact ⟨rfl, rfl⟩
      · have d3 : decide (step < 1) = false := by simpa using c3
        by_cases c4 : 1000 < step
        · have d4 : decide (1000 < step) = true := by simpa using c4
          clear h
          go_enter Try.func27, Try.ntmps27
          go_wp2
          go_ret2
          exact ⟨rfl, rfl⟩
        · have d4 : decide (1000 < step) = false := by simpa using c4
          by_cases c5 : lo < -1000
          · have d5 : decide (lo < -1000) = true := by simpa using c5
            clear h
            go_enter Try.func27, Try.ntmps27
            go_wp2
            go_ret2
            exact ⟨rfl, rfl⟩
          · have d5 : decide (lo < -1000) = false := by simpa using c5
            by_cases c6 : 1000 < lo
            · have d6 : decide (1000 < lo) = true := by simpa using c6
              clear h
              go_enter Try.func27, Try.ntmps27
              go_wp2
              go_ret2
              exact ⟨rfl, rfl⟩
            · have d6 : decide (1000 < lo) = false := by simpa using c6
              have m1 : 0 ≤ (n - 1) * step := Int.mul_nonneg (by omega) (by omega)
              have m2 : (n - 1) * step ≤ 20 * 1000 := Int.mul_le_mul (by omega) (by omega) (by omega) (by omega)
              by_cases c7 : 1000 < lo + (n - 1) * step
              · have d7 : decide (1000 < lo + (n - 1) * step) = true := by simpa using c7
                clear h
                go_enter Try.func27, Try.ntmps27
                go_wp2
                go_ret2
                exact ⟨rfl, rfl⟩
              · have d7 : decide (1000 < lo + (n - 1) * step) = false := by simpa using c7
                exact absurd ⟨by omega, by omega, by omega, by omega, by omega, by omega, by omega⟩ h.out
set_option maxHeartbeats 1000000 in
theorem points_no (lo step n : Int) (w : World) (h : Hid (¬ FitsI lo step n)) :
    Calls Try.prog 28 #[.int .i64 lo, .int .i64 step, .int .i64 n] w fun e w' => e = .returned (.tuple #[.slice none 0 0, .bool false]) ∧ w = w' := by
  by_cases c1 : n < 1
  · have d1 : decide (n < 1) = true := by simpa using c1
    clear h
    go_enter Try.func28, Try.ntmps28
    go_wp2
    go_ret2
    exact ⟨rfl, rfl⟩
  · have d1 : decide (n < 1) = false := by simpa using c1
    by_cases c2 : 21 < n
    · have d2 : decide (21 < n) = true := by simpa using c2
      clear h
      go_enter Try.func28, Try.ntmps28
      go_wp2
      go_ret2
      exact ⟨rfl, rfl⟩
    · have d2 : decide (21 < n) = false := by simpa using c2
      by_cases c3 : step < 1
      · have d3 : decide (step < 1) = true := by simpa using c3
        clear h
        go_enter Try.func28, Try.ntmps28
        go_wp2
        go_ret2
        exact ⟨rfl, rfl⟩
      · have d3 : decide (step < 1) = false := by simpa using c3
        by_cases c4 : 1000 < step
        · have d4 : decide (1000 < step) = true := by simpa using c4
          clear h
          go_enter Try.func28, Try.ntmps28
          go_wp2
          go_ret2
          exact ⟨rfl, rfl⟩
        · have d4 : decide (1000 < step) = false := by simpa using c4
          by_cases c5 : lo < -1000
          · have d5 : decide (lo < -1000) = true := by simpa using c5
            clear h
            go_enter Try.func28, Try.ntmps28
            go_wp2
            go_ret2
            exact ⟨rfl, rfl⟩
          · have d5 : decide (lo < -1000) = false := by simpa using c5
            by_cases c6 : 1000 < lo
            · have d6 : decide (1000 < lo) = true := by simpa using c6
              clear h
              go_enter Try.func28, Try.ntmps28
              go_wp2
              go_ret2
              exact ⟨rfl, rfl⟩
            · have d6 : decide (1000 < lo) = false := by simpa using c6
              have m1 : 0 ≤ (n - 1) * step := Int.mul_nonneg (by omega) (by omega)
              have m2 : (n - 1) * step ≤ 20 * 1000 := Int.mul_le_mul (by omega) (by omega) (by omega) (by omega)
              by_cases c7 : 1000 < lo + (n - 1) * step
              · have d7 : decide (1000 < lo + (n - 1) * step) = true := by simpa using c7
                clear h
                go_enter Try.func28, Try.ntmps28
                go_wp2
                go_ret2
                exact ⟨rfl, rfl⟩
              · have d7 : decide (1000 < lo + (n - 1) * step) = false := by simpa using c7
                exact absurd ⟨by omega, by omega, by omega, by omega, by omega, by omega, by omega⟩ h.out
end Go.Proofs.Ytdmjgildgjpmcaa
