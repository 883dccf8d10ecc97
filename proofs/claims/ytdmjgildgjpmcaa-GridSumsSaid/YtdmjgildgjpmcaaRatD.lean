/- The walks of ratio's Norm and Sign. -/
import Derived.Test.YtdmjgildgjpmcaaRatC
namespace Go.Proofs.Ytdmjgildgjpmcaa
open Go.RowKit
set_option linter.unusedVariables false

/-- The struct of a fraction, its slices shown. -/
theorem RatA.show_ {w : World} {v : Value} {p : Int} {q L : Nat} (h : RatA w v p q L) : ∃ neg A n cA B k cB, v = .agg #[.bool neg, .slice A n cA, .slice B k cB] := by
  obtain ⟨neg, mv, ls, dv, ld, rfl, ⟨⟨A, cA, rfl, _⟩, _⟩, ⟨⟨B, cB, rfl, _⟩, _⟩, _⟩ := h
  exact ⟨_, _, _, _, _, _, _, rfl⟩
theorem IntA.show_ {w : World} {v : Value} {p : Int} {L : Nat} (h : IntA w v p L) : ∃ neg A n cA, v = .agg #[.bool neg, .slice A n cA] := by
  obtain ⟨neg, mv, ls, rfl, ⟨⟨A, cA, rfl, _⟩, _⟩, _⟩ := h
  exact ⟨_, _, _, _, rfl⟩
theorem Lim.show_ {w : World} {v : Value} {ls : List Nat} (h : Lim w v ls) : ∃ A n c, v = .slice A n c := by
  obtain ⟨⟨A, cA, rfl, _⟩, _⟩ := h
  exact ⟨_, _, _, rfl⟩

end Go.Proofs.Ytdmjgildgjpmcaa
