/- The walk of model.Ramp. -/
import Derived.Test.YtompckomogmhiaaDoorMoP
import Derived.WalkLawsBesides
namespace Go.Proofs.YtompckomogmhiaaDoor
open Go.RowKit
set_option linter.unusedVariables false

theorem infoInts : (Tryd.prog.info? 22).map (fun i => (i.zero, i.size, i.bytes)) = some (some (.slice none 0 0), 1, 24) := by kernel_rfl
theorem range6 {d s lo hi : Int} (h : d < -1000 ∨ 1000 < d ∨ s < 0 ∨ 2000 < s ∨ lo < 1 ∨ hi < lo ∨ 999 < hi) :
    decide (d < -1000) = true ∨ (decide (d < -1000) = false ∧ decide (1000 < d) = true) ∨ (decide (d < -1000) = false ∧ decide (1000 < d) = false ∧ decide (s < 0) = true) ∨
    (decide (d < -1000) = false ∧ decide (1000 < d) = false ∧ decide (s < 0) = false ∧ decide (2000 < s) = true) ∨
    (decide (d < -1000) = false ∧ decide (1000 < d) = false ∧ decide (s < 0) = false ∧ decide (2000 < s) = false ∧ decide (lo < 1) = true) ∨
    (decide (d < -1000) = false ∧ decide (1000 < d) = false ∧ decide (s < 0) = false ∧ decide (2000 < s) = false ∧ decide (lo < 1) = false ∧ decide (hi < lo) = true) ∨
    (decide (d < -1000) = false ∧ decide (1000 < d) = false ∧ decide (s < 0) = false ∧ decide (2000 < s) = false ∧ decide (lo < 1) = false ∧ decide (hi < lo) = false ∧ decide (999 < hi) = true) := by
  simp only [decide_eq_true_eq, decide_eq_false_iff_not]; omega

end Go.Proofs.YtompckomogmhiaaDoor
