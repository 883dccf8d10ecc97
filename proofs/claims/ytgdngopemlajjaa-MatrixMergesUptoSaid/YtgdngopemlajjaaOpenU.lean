/- How a law's arguments read, with the bulk that bounds their lengths. -/
import Derived.Test.YtgdngopemlajjaaOpenL
import Derived.Test.YtgdngopemlajjaaRows
namespace Go.Proofs.Ytgdngopemlajjaa
open Go.RowKit Go.ChangeShapes Go.WideShapes Go.Deep
set_option linter.unusedVariables false

theorem bulk_pos {H : Type} (d : DataW H) : 1 ≤ Rows.uptoBulk d := by
  cases d with
  | lit l => cases l <;> simp [Rows.uptoBulk]
  | _ => simp [Rows.uptoBulk]
theorem bulk_len {H : Type} : ∀ l : List (DataW H), l.length ≤ Rows.uptoBulkAll l
  | [] => by simp
  | d :: l => by
    have := bulk_len l
    have := bulk_pos d
    simp only [List.length_cons, Rows.uptoBulkAll]
    omega
section
variable {H : Type} {enc : TypeId × Value → H} {P : Program} {w : World} {base : Nat} {spare : Nat → Bool} {held : Bool}
theorem open_numsU {t e : TypeId} {k : IntKind} {fuel : Nat} {v : Value} {x : DataW H × List MemPlace} (ht : P.underlying t = some (.slice e)) (he : P.underlying e = some (.int k)) (hce : P.cellsOf e = 1)
    (h : DataW.trod enc P w base spare held fuel t [v] = some x) : ∃ zs, Nums k w v zs ∧ (∀ z ∈ zs, (Lit.int k z).wf = true) ∧ zs.length ≤ Rows.uptoBulk x.1 := by
  obtain ⟨zs, hn, hw⟩ := open_nums ht he hce h
  refine ⟨zs, hn, hw, ?_⟩
  obtain ⟨A, c, rfl, _, _, _⟩ := hn
  rcases open_ints ht he hce h with ⟨hcs, _⟩ | ⟨a, len, cap, zs', hcs, _, hl, hm, hz, hx, hcell, hwf⟩
  · simp only [List.cons.injEq, and_true, Value.slice.injEq] at hcs
    rw [hcs.2.1]; omega
  · simp only [List.cons.injEq, and_true, Value.slice.injEq] at hcs
    subst hx
    have hlz : len ≤ zs'.length := by rw [hz]; split <;> omega
    have := bulk_len (lits (H := H) k (zs'.take len))
    have e1 : (lits (H := H) k (zs'.take len)).length = len := by simp [lits]; omega
    simp only [Rows.uptoBulk]
    omega
theorem open_intsLU {t e i : TypeId} {fuel : Nat} {v : Value} {x : DataW H × List MemPlace} (ht : P.underlying t = some (.slice e)) (hce : P.cellsOf e = 1) (he : P.underlying e = some (.slice i)) (hi : P.underlying i = some (.int .i64)) (hci : P.cellsOf i = 1)
    (h : DataW.trod enc P w base spare held fuel t [v] = some x) : ∃ xs, IntsL w v xs ∧ xs.length ≤ Rows.uptoBulk x.1 := by
  obtain ⟨xs, hxs⟩ := open_intsL ht hce he hi hci h
  refine ⟨xs, hxs, ?_⟩
  obtain ⟨A, c, us, rfl, _, _, _, _⟩ := hxs
  rcases open_slice ht h with ⟨hcs, _⟩ | ⟨a, len, cap, m, n, D, Pl, hcs, _, hl, hm, hmm, hx, _⟩
  · simp only [List.cons.injEq, and_true, Value.slice.injEq] at hcs
    rw [hcs.2.1]; omega
  · simp only [List.cons.injEq, and_true, Value.slice.injEq] at hcs
    subst hx
    have := bulk_len ((List.range len).map D)
    simp only [List.length_map, List.length_range] at this
    simp only [Rows.uptoBulk]
    omega
end
end Go.Proofs.Ytgdngopemlajjaa
