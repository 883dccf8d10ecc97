/- The walks of model.percent, model.valid and of the reference's floor and settings. -/
import Derived.Test.YtokpembimalhmaaDoorModV
namespace Go.Proofs.YtokpembimalhmaaDoor
open Go.RowKit
set_option linter.unusedVariables false

theorem mvalid1_any (rv : Value) (rows : List (List Int)) (w : World) (h : IntsL w rv rows) :
    Calls Tryd.prog 33 #[.agg #[rv]] w fun e w' => e = .returned (.int .i64 (modE rows (rows.length : Int))) ∧ Below w.heap.size w w' := by
  have h' := h
  obtain ⟨A, c, us, rfl, hc, hm, _, _⟩ := h'
  have B0 : Below w.heap.size w (w.alloc (.cells #[.slice A rows.length c] 24)) := (Below.refl _ _).alloc (Nat.le_refl _) _
  go_enter Tryd.func33, Tryd.ntmps33
  go_wp2_with fail
  refine (mvalid_any _ rows _ _ (h.below B0)).mono ?_
  rintro e w1 ⟨rfl, hb1⟩
  go_wp2_with fail
  go_ret
  exact ⟨rfl, B0.trans (hb1.mono B0.size)⟩

theorem tdiv_pos {n : Int} (h : 0 ≤ n) : n.tdiv 100 = n / 100 := Int.tdiv_eq_ediv_of_nonneg h
theorem tdiv_neg {n : Int} (h : n < 0) : -((-n + 99).tdiv 100) = n / 100 := by
  rw [Int.tdiv_eq_ediv_of_nonneg (by omega)]; omega
theorem floor_eq {n : Int} : (if n.tmod 100 < 0 then n.tdiv 100 - 1 else n.tdiv 100) = n / 100 := by
  rcases (by omega : n < 0 ∨ 0 ≤ n) with h | h
  · obtain ⟨m, rfl⟩ : ∃ m : Nat, n = -(m : Int) := ⟨n.natAbs, by omega⟩
    rw [Int.neg_tmod, Int.neg_tdiv, Int.tmod_eq_emod_of_nonneg (by omega), Int.tdiv_eq_ediv_of_nonneg (by omega)]
    split <;> omega
  · rw [Int.tmod_eq_emod_of_nonneg h, Int.tdiv_eq_ediv_of_nonneg h, if_neg (by omega)]

set_option maxHeartbeats 1000000 in
theorem percent_any (n : Int) (w : World) (h1 : -100000000 ≤ n) (h2 : n ≤ 100000000) :
    Calls Tryd.prog 37 #[.int .i64 n] w fun e w' => e = .returned (.int .i64 (n / 100)) ∧ w = w' := by
  by_cases h0 : n < 0
  · have HE : Hid (-((-n + 99) / 100) = n / 100) := by unfold Hid; omega
    have d : decide (n < 0) = true := by simpa using h0
    go_enter Tryd.func37, Tryd.ntmps37
    go_wp2_with fail
    go_ret
    exact ⟨by rw [← HE.out]; rfl, rfl⟩
  · have HE := Lib.hid (tdiv_pos (n := n) (by omega))
    have d : decide (n < 0) = false := by simpa using h0
    go_enter Tryd.func37, Tryd.ntmps37
    go_wp2_with fail
    go_ret
    exact ⟨by rw [← HE.out]; rfl, rfl⟩
set_option maxHeartbeats 1000000 in
theorem floor_any (n : Int) (w : World) (h1 : -100000000 ≤ n) (h2 : n ≤ 100000000) :
    Calls Tryd.prog 40 #[.int .i64 n] w fun e w' => e = .returned (.int .i64 (n / 100)) ∧ w = w' := by
  have HF := floor_eq (n := n)
  have hb : -1000001 ≤ n.tdiv 100 ∧ n.tdiv 100 ≤ 1000001 := by
    split at HF <;> omega
  obtain ⟨hb1, hb2⟩ := hb
  by_cases h0 : n.tmod 100 < 0
  · rw [if_pos h0] at HF
    have HE := Lib.hid HF
    clear HF
    have d : decide (n.tmod 100 < 0) = true := by simpa using h0
    go_enter Tryd.func40, Tryd.ntmps40
    go_wp2_with fail
    go_ret
    exact ⟨by rw [← HE.out]; rfl, rfl⟩
  · rw [if_neg h0] at HF
    have HE := Lib.hid HF
    clear HF
    have d : decide (n.tmod 100 < 0) = false := by simpa using h0
    go_enter Tryd.func40, Tryd.ntmps40
    go_wp2_with fail
    go_ret
    exact ⟨by rw [← HE.out]; rfl, rfl⟩

def setOk (d s : Int) : Bool := decide (-1000 ≤ d ∧ d ≤ 1000 ∧ 0 ≤ s ∧ s ≤ 2000)
theorem setOk_iff {d s : Int} : setOk d s = true ↔ -1000 ≤ d ∧ d ≤ 1000 ∧ 0 ≤ s ∧ s ≤ 2000 := by unfold setOk; simp
set_option maxHeartbeats 1000000 in
theorem settings_any (k n : Int) (w : World) :
    Calls Tryd.prog 39 #[.int .i64 k, .int .i64 n] w fun e w' => e = .returned (.bool (setOk k n)) ∧ w = w' := by
  rcases h1 : decide (-1000 ≤ k) with _ | _ <;> rcases h2 : decide (k ≤ 1000) with _ | _ <;> rcases h3 : decide (0 ≤ n) with _ | _ <;> rcases h4 : decide (n ≤ 2000) with _ | _
  all_goals
    have H : Hid (setOk k n = (decide (-1000 ≤ k) && decide (k ≤ 1000) && decide (0 ≤ n) && decide (n ≤ 2000))) := by
      unfold Hid setOk; rw [Bool.eq_iff_iff]; simp only [decide_eq_true_eq, Bool.and_eq_true]; omega
    rw [h1, h2, h3, h4] at H
    go_enter Tryd.func39, Tryd.ntmps39
    go_wp2_with fail
    go_ret
    exact ⟨by rw [H.out]; rfl, rfl⟩
end Go.Proofs.YtokpembimalhmaaDoor
