/- The walks of Uniform and Triangle. -/
import Derived.Test.YtdmjgildgjpmcaaEven
namespace Go.Proofs.Ytdmjgildgjpmcaa
open Go.RowKit

structure Fits (lo step : Int) (n : Nat) : Prop where
  h1 : 1 ≤ n
  h2 : n ≤ 21
  h3 : 1 ≤ step
  h4 : step ≤ 1000
  h5 : -1000 ≤ lo
  h6 : lo ≤ 1000
  h7 : lo + ((n : Int) - 1) * step ≤ 1000

theorem ptsL_len (lo step : Int) (n : Nat) : (ptsL lo step n).length = n := by simp [ptsL]
def onesL (n : Nat) : List Int := (List.range n).map fun _ => 1
def triW (n j : Nat) : Int := (if (n : Int) - 1 - (j : Int) < (j : Int) then (n : Int) - 1 - (j : Int) else (j : Int)) + 1
def triL (n : Nat) : List Int := (List.range n).map fun j => triW n j

set_option maxHeartbeats 1000000 in
theorem uniform_yes (lo step : Int) (n : Nat) (w : World) (hf : Fits lo step n) :
    Calls Try.prog 8 #[.int .i64 lo, .int .i64 step, .int .i64 (n : Int)] w fun e w' => ∃ pv rv, e = .returned (.tuple #[.agg #[pv, rv], .int .i64 0]) ∧ Nums .i64 w' pv (ptsL lo step n) ∧ Nums .i64 w' rv (onesL n) ∧ Fresh w.heap.size pv ∧ Fresh w.heap.size rv ∧ Below w.heap.size w w' := by
  have h2 := hf.h2
  have hmk := run_mk (P := Try.prog) Try.underlying22 info3 rfl n (by omega) (by omega)
  go_enter Try.func8, Try.ntmps8
  go_wp2_with fail
  refine (even_yes lo step n _ hf.h1 hf.h2 hf.h3 hf.h4 hf.h5 hf.h6 hf.h7).mono ?_
  rintro e w1 ⟨rfl, hrow, hb⟩
  have hg : Row w1 w.heap.size 24 [.slice none 0 0, .slice none 0 0] := (Row.new w 24 [.slice none 0 0, .slice none 0 0]).keep hb
  have hb0 : Below w.heap.size w w1 := ((Below.refl _ _).alloc (Nat.le_refl _) _).trans (hb.mono (by simp))
  have hz : w.heap.size + 1 < w1.heap.size := by have := hrow.lt; simpa using this
  replace hrow : Row w1 (w.heap.size + 1) 3 (ints (ptsL lo step n)) := by simpa using hrow
  clear hb
  go_wp2_with fail
  clear hmk
  go_loopw [11, 26] (fun _ i wr => ∃ k : Nat, k ≤ n ∧ i = .int .i64 (k : Int) ∧ Row wr w1.heap.size 3 (filled (fun j => .int .i64 1) (.int .i64 0) n k) ∧ Below w1.heap.size w1 wr) (fun _ i _ => n - (intOf i).toNat)
  case atStart => exact ⟨0, by omega, rfl, by rw [filled_zero]; exact Row.newz _ _ _ _, (Below.refl _ _).alloc (Nat.le_refl _) _⟩
  case round =>
    obtain ⟨k, hk, rfl, hr, hbr⟩ := hrel
    by_cases hlt : k < n
    · have hc : wr.cell? ⟨w1.heap.size, k, none⟩ = some (.int .i64 0) := by rw [hr.cell, filled_get _ _ _ _ hlt]
      have hfz : wr.frozen? ⟨w1.heap.size, k, none⟩ = false := hr.frozen k
      go_wp2
      go_roundw
      case rel => exact ⟨k + 1, by omega, by go_num, by rw [← filled_set _ _ _ _ hlt]; exact hr.set_ k _, hbr.setCell (Nat.le_refl _) _⟩
      case measure => simp [intOf]; omega
    · obtain rfl : k = n := by omega
      have hg' := hg.keep hbr
      have g0 : wr.cell? ⟨w.heap.size, 0, none⟩ = some (.slice none 0 0) := hg'.cell 0
      have g1 : wr.cell? ⟨w.heap.size, 1, none⟩ = some (.slice none 0 0) := hg'.cell 1
      have f0 : wr.frozen? ⟨w.heap.size, 0, none⟩ = false := hg'.frozen 0
      have f1 : wr.frozen? ⟨w.heap.size, 1, none⟩ = false := hg'.frozen 1
      go_wp2
      refine bodyPost_ret (v := .tuple #[.agg #[.slice (some ⟨w.heap.size + 1, 0, none⟩) k k, .slice (some ⟨w1.heap.size, 0, none⟩) k k], .int .i64 0]) (by simp [results, Try.results8, go_sem, g0, g1]) rfl ⟨_, _, rfl, ?_, ?_, by simp [Fresh], by simp [Fresh]; omega, ?_⟩
      · have := ((hrow.keep hbr).far (p := ⟨w.heap.size, 0, none⟩) (by simp) (.slice (some ⟨w.heap.size + 1, 0, none⟩) k k)).far (p := ⟨w.heap.size, 1, none⟩) (by simp) (.slice (some ⟨w1.heap.size, 0, none⟩) k k)
        have h' := Nums.of_row this (by rw [ptsL_len]; unfold maxLen; omega)
        rw [ptsL_len] at h'
        exact h'
      · have hr' : Row wr w1.heap.size 3 ((onesL k).map (Value.int .i64)) := by
          rw [filled_all] at hr
          unfold onesL
          rw [List.map_map]
          exact hr
        have := (hr'.far (p := ⟨w.heap.size, 0, none⟩) (by simp; omega) (.slice (some ⟨w.heap.size + 1, 0, none⟩) k k)).far (p := ⟨w.heap.size, 1, none⟩) (by simp; omega) (.slice (some ⟨w1.heap.size, 0, none⟩) k k)
        have hl : (onesL k).length = k := by simp [onesL]
        have h' := Nums.of_row this (by rw [hl]; unfold maxLen; omega)
        rw [hl] at h'
        exact h'
      · exact ((hb0.trans (hbr.mono (by omega))).setCell (Nat.le_refl _) _).setCell (Nat.le_refl _) _
set_option maxHeartbeats 1000000 in
theorem uniform_no (lo step n : Int) (w : World) (hf : Hid (¬ FitsI lo step n)) :
    Calls Try.prog 8 #[.int .i64 lo, .int .i64 step, .int .i64 n] w fun e w' => e = .returned (.tuple #[.agg #[.slice none 0 0, .slice none 0 0], .int .i64 3]) ∧ Below w.heap.size w w' := by
  go_enter Try.func8, Try.ntmps8
  go_wp2_with fail
  refine (even_no lo step n _ hf).mono ?_
  rintro e w1 ⟨rfl, rfl⟩
  go_wp2_with fail
  exact bodyPost_ret (v := .tuple #[.agg #[.slice none 0 0, .slice none 0 0], .int .i64 3]) (by simp [results, Try.results8, go_sem]) rfl ⟨rfl, (Below.refl _ _).alloc (Nat.le_refl _) _⟩

set_option maxHeartbeats 1000000 in
theorem triangle_yes (lo step : Int) (n : Nat) (w : World) (hf : Fits lo step n) :
    Calls Try.prog 11 #[.int .i64 lo, .int .i64 step, .int .i64 (n : Int)] w fun e w' => ∃ pv rv, e = .returned (.tuple #[.agg #[pv, rv], .int .i64 0]) ∧ Nums .i64 w' pv (ptsL lo step n) ∧ Nums .i64 w' rv (triL n) ∧ Fresh w.heap.size pv ∧ Fresh w.heap.size rv ∧ Below w.heap.size w w' := by
  have h2 := hf.h2
  have hmk := run_mk (P := Try.prog) Try.underlying22 info3 rfl n (by omega) (by omega)
  go_enter Try.func11, Try.ntmps11
  go_wp2_with fail
  refine (even_yes lo step n _ hf.h1 hf.h2 hf.h3 hf.h4 hf.h5 hf.h6 hf.h7).mono ?_
  rintro e w1 ⟨rfl, hrow, hb⟩
  have hg : Row w1 w.heap.size 24 [.slice none 0 0, .slice none 0 0] := (Row.new w 24 [.slice none 0 0, .slice none 0 0]).keep hb
  have hb0 : Below w.heap.size w w1 := ((Below.refl _ _).alloc (Nat.le_refl _) _).trans (hb.mono (by simp))
  have hz : w.heap.size + 1 < w1.heap.size := by have := hrow.lt; simpa using this
  replace hrow : Row w1 (w.heap.size + 1) 3 (ints (ptsL lo step n)) := by simpa using hrow
  clear hb
  go_wp2_with fail
  clear hmk
  go_loopw [11, 26] (fun _ i wr => ∃ k : Nat, k ≤ n ∧ i = .int .i64 (k : Int) ∧ Row wr w1.heap.size 3 (filled (fun j => .int .i64 (triW n j)) (.int .i64 0) n k) ∧ Below w1.heap.size w1 wr) (fun _ i _ => n - (intOf i).toNat)
  case atStart => exact ⟨0, by omega, rfl, by rw [filled_zero]; exact Row.newz _ _ _ _, (Below.refl _ _).alloc (Nat.le_refl _) _⟩
  case round =>
    obtain ⟨k, hk, rfl, hr, hbr⟩ := hrel
    by_cases hlt : k < n
    · have hc : wr.cell? ⟨w1.heap.size, k, none⟩ = some (.int .i64 0) := by rw [hr.cell, filled_get _ _ _ _ hlt]
      have hfz : wr.frozen? ⟨w1.heap.size, k, none⟩ = false := hr.frozen k
      go_wp2
      go_roundw
      case rel => exact ⟨k + 1, by omega, by go_num, by rw [← filled_set _ _ _ _ hlt]; exact hr.set_ k _, hbr.setCell (Nat.le_refl _) _⟩
      case measure => simp [intOf]; omega
    · obtain rfl : k = n := by omega
      have hg' := hg.keep hbr
      have g0 : wr.cell? ⟨w.heap.size, 0, none⟩ = some (.slice none 0 0) := hg'.cell 0
      have g1 : wr.cell? ⟨w.heap.size, 1, none⟩ = some (.slice none 0 0) := hg'.cell 1
      have f0 : wr.frozen? ⟨w.heap.size, 0, none⟩ = false := hg'.frozen 0
      have f1 : wr.frozen? ⟨w.heap.size, 1, none⟩ = false := hg'.frozen 1
      go_wp2
      refine bodyPost_ret (v := .tuple #[.agg #[.slice (some ⟨w.heap.size + 1, 0, none⟩) k k, .slice (some ⟨w1.heap.size, 0, none⟩) k k], .int .i64 0]) (by simp [results, Try.results11, go_sem, g0, g1]) rfl ⟨_, _, rfl, ?_, ?_, by simp [Fresh], by simp [Fresh]; omega, ?_⟩
      · have := ((hrow.keep hbr).far (p := ⟨w.heap.size, 0, none⟩) (by simp) (.slice (some ⟨w.heap.size + 1, 0, none⟩) k k)).far (p := ⟨w.heap.size, 1, none⟩) (by simp) (.slice (some ⟨w1.heap.size, 0, none⟩) k k)
        have h' := Nums.of_row this (by rw [ptsL_len]; unfold maxLen; omega)
        rw [ptsL_len] at h'
        exact h'
      · have hr' : Row wr w1.heap.size 3 ((triL k).map (Value.int .i64)) := by
          rw [filled_all] at hr
          unfold triL
          rw [List.map_map]
          exact hr
        have := (hr'.far (p := ⟨w.heap.size, 0, none⟩) (by simp; omega) (.slice (some ⟨w.heap.size + 1, 0, none⟩) k k)).far (p := ⟨w.heap.size, 1, none⟩) (by simp; omega) (.slice (some ⟨w1.heap.size, 0, none⟩) k k)
        have hl : (triL k).length = k := by simp [triL]
        have h' := Nums.of_row this (by rw [hl]; unfold maxLen; omega)
        rw [hl] at h'
        exact h'
      · exact ((hb0.trans (hbr.mono (by omega))).setCell (Nat.le_refl _) _).setCell (Nat.le_refl _) _
set_option maxHeartbeats 1000000 in
theorem triangle_no (lo step n : Int) (w : World) (hf : Hid (¬ FitsI lo step n)) :
    Calls Try.prog 11 #[.int .i64 lo, .int .i64 step, .int .i64 n] w fun e w' => e = .returned (.tuple #[.agg #[.slice none 0 0, .slice none 0 0], .int .i64 3]) ∧ Below w.heap.size w w' := by
  go_enter Try.func11, Try.ntmps11
  go_wp2_with fail
  refine (even_no lo step n _ hf).mono ?_
  rintro e w1 ⟨rfl, rfl⟩
  go_wp2_with fail
  exact bodyPost_ret (v := .tuple #[.agg #[.slice none 0 0, .slice none 0 0], .int .i64 3]) (by simp [results, Try.results11, go_sem]) rfl ⟨rfl, (Below.refl _ _).alloc (Nat.le_refl _) _⟩
end Go.Proofs.Ytdmjgildgjpmcaa
