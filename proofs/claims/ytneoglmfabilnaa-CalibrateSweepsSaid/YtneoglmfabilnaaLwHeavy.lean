/- The walk of the law's heavy. -/
import Derived.Test.YtneoglmfabilnaaLaw28
namespace Go.Proofs.Ytneoglmfabilnaa
open Go.RowKit
set_option linter.unusedVariables false

set_option maxHeartbeats 2000000 in
theorem heavy_any (qv iv cv : Value) (qs is : List Int) (w : World) (hq : Nums .i64 w qv qs) (hi : Nums .i64 w iv is) (hcv : ∃ A n c, cv = .slice A n c) :
    Calls Try.prog 13 #[.agg #[qv, iv, cv]] w fun e w' => ∃ b, e = .returned (.bool b) ∧ Below w.heap.size w w' := by
  obtain ⟨X, cX, rfl, x1, x2, x3⟩ := hq
  obtain ⟨Y, cY, rfl, y1, y2, y3⟩ := hi
  obtain ⟨A, n, c, rfl⟩ := hcv
  clear x3 y3
  unfold maxLen at x2 y2
  have hbox : Below w.heap.size w (w.alloc (.cells #[.slice X qs.length cX, .slice Y is.length cY, .slice A n c] 36)) := (Below.refl _ _).alloc (Nat.le_refl _) _
  generalize qs.length = nq at *
  generalize is.length = ni at *
  rcases h1 : decide (4 < (nq : Int)) <;> rcases h2 : decide ((nq : Int) ≤ 200) <;> rcases h3 : decide (5 < (ni : Int)) <;> rcases h4 : decide ((ni : Int) ≤ 60)
  all_goals
    go_enter Try.func13, Try.ntmps13
    go_wp2_with fail
    go_ret
    exact ⟨_, rfl, hbox⟩
end Go.Proofs.Ytneoglmfabilnaa
