/- The walks of model.percent, model.valid and of the reference's floor and settings. -/
import Derived.Test.YtompckomogmhiaaDoorModV
namespace Go.Proofs.YtompckomogmhiaaDoor
open Go.RowKit
set_option linter.unusedVariables false

theorem mvalid1_any (rv : Value) (rows : List (List Int)) (w : World) (h : IntsL w rv rows) :
    Calls Tryd.prog 39 #[.agg #[rv]] w fun e w' => e = .returned (.int .i64 (modE rows (rows.length : Int))) ∧ Below w.heap.size w w' := by
  have h' := h
  obtain ⟨A, c, us, rfl, hc, hm, _, _⟩ := h'
  have B0 : Below w.heap.size w (w.alloc (.cells #[.slice A rows.length c] 40)) := (Below.refl _ _).alloc (Nat.le_refl _) _
  go_enter Tryd.func39, Tryd.ntmps39
  go_wp2_with fail
  refine (mvalid_any _ rows _ _ (h.below B0)).mono ?_
  rintro e w1 ⟨rfl, hb1⟩
  go_wp2_with fail
  go_ret
  exact ⟨rfl, B0.trans (hb1.mono B0.size)⟩

theorem tdiv_pos {n : Int} (h : 0 ≤ n) : n.tdiv 100 = n / 100 := Int.tdiv_eq_ediv_of_nonneg h
theorem tdiv_neg {n : Int} (h : n < 0) : -((-n + 99).tdiv 100) = n / 100 := by
  rw [Int.tdiv_eq_ediv_of_nonneg (by omega)]; omega
theorem floor_eq {n : Int} : (if n.tmod 100 < 0 then n.tdiv 100 - 1 else n.tdiv 100) = n / 100 := by
  rcases (by omega : n < 0 ∨ 0 ≤ n) with h | h
  · obtain ⟨m, rfl⟩ : ∃ m : Nat, n = -(m : Int) := ⟨n.natAbs, by omega⟩
    rw [Int.neg_tmod, Int.neg_tdiv, Int.tmod_eq_emod_of_nonneg (by omega), Int.tdiv_eq_ediv_of_nonneg (by omega)]
    split <;> omega
  · rw [Int.tmod_eq_emod_of_nonneg h, Int.tdiv_eq_ediv_of_nonneg h, if_neg (by omega)]

def setOk (d s : Int) : Bool := decide (-1000 ≤ d ∧ d ≤ 1000 ∧ 0 ≤ s ∧ s ≤ 2000)
theorem setOk_iff {d s : Int} : setOk d s = true ↔ -1000 ≤ d ∧ d ≤ 1000 ∧ 0 ≤ s ∧ s ≤ 2000 := by unfold setOk; simp
end Go.Proofs.YtompckomogmhiaaDoor
