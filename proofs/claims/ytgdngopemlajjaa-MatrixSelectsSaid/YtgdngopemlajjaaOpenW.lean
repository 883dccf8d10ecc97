/- How a law's arguments read, with the form's bound on their sizes. -/
import Derived.Test.YtgdngopemlajjaaOpenL
import Derived.SizedLaws
namespace Go.Proofs.Ytgdngopemlajjaa
open Go.RowKit Go.ChangeShapes Go.WideShapes Go.Deep
set_option linter.unusedVariables false

theorem bytesInt : Try.prog.bytesOf 3 = 8 := by kernel_rfl
theorem bytesInts : Try.prog.bytesOf 22 = 24 := by kernel_rfl
section
variable {H : Type} {enc : TypeId × Value → H} {P : Program} {w : World} {base : Nat} {spare : Nat → Bool} {held : Bool}
theorem sizeAt {ts : List TypeId} {ds : List (DataW H)} (h : (DataW.weightsEach P ts ds).all (· ≤ reachBytes) = true) {j : Nat} {t : TypeId} {d : DataW H} (ht : ts[j]? = some t) (hd : ds[j]? = some d) : ∀ m ∈ d.weights P t, m ≤ 140737488351232 := by
  intro m hm
  have := List.all_eq_true.1 h _ (DataW.weights_mem_each ht hd m hm)
  exact of_decide_eq_true this
theorem size_agg3 {t : TypeId} {f0 f1 f2 : Field} {a b c : DataW H} (hu : P.underlying t = some (.struct #[f0, f1, f2])) (h : ∀ m ∈ (DataW.agg [a, b, c]).weights P t, m ≤ 140737488351232) :
    (∀ m ∈ a.weights P f0.type, m ≤ 140737488351232) ∧ (∀ m ∈ b.weights P f1.type, m ≤ 140737488351232) ∧ ∀ m ∈ c.weights P f2.type, m ≤ 140737488351232 := by
  simp only [DataW.weights, hu, DataW.weightsEach, List.map_cons, List.map_nil, List.mem_append] at h
  exact ⟨fun m hm => h m (.inl hm), fun m hm => h m (.inr (.inl hm)), fun m hm => h m (.inr (.inr (.inl hm)))⟩
theorem open_numsS {t e : TypeId} {k : IntKind} {fuel : Nat} {v : Value} {x : DataW H × List MemPlace} (ht : P.underlying t = some (.slice e)) (he : P.underlying e = some (.int k)) (hce : P.cellsOf e = 1)
    (h : DataW.trod enc P w base spare held fuel t [v] = some x) (hsz : ∀ m ∈ x.1.weights P t, m ≤ 140737488351232) : ∃ zs, Nums k w v zs ∧ (∀ z ∈ zs, (Lit.int k z).wf = true) ∧ zs.length * P.bytesOf e ≤ 140737488351232 := by
  rcases open_ints ht he hce h with ⟨hcs, _⟩ | ⟨a, len, cap, zs, hcs, _, hl, hm, hz, hx, hcell, hwf⟩
  · simp only [List.cons.injEq, and_true] at hcs
    subst hcs
    exact ⟨[], Nums.nil _ _, fun z hz => by simp at hz, by simp⟩
  · simp only [List.cons.injEq, and_true] at hcs
    subst hcs hx
    have hlz : len ≤ zs.length := by rw [hz]; split <;> omega
    refine ⟨zs.take len, ⟨some a, cap, ?_, ?_, hm, ?_⟩, fun z hz => hwf z (List.mem_of_mem_take hz), ?_⟩
    · rw [List.length_take, Nat.min_eq_left hlz]
    · rw [List.length_take, Nat.min_eq_left hlz]; exact hl
    · refine sl_of_cells (by simp) (fun i u hu => ?_)
      rw [List.getElem?_map, List.getElem?_take] at hu
      split at hu
      · rename_i hi
        rw [List.getElem?_eq_getElem (by omega)] at hu
        simp only [Option.map_some, Option.some.injEq] at hu
        subst hu
        rw [hcell i (by omega)]
        simp [List.getD, List.getElem?_eq_getElem (show i < zs.length by omega)]
      · simp at hu
    · have hw := hsz (((lits (H := H) k (zs.take len)).length + (lits (H := H) k (zs.drop len)).length) * P.bytesOf e) (by simp [DataW.weights, ht])
      have e1 : (lits (H := H) k (zs.take len)).length = (zs.take len).length := by simp [lits]
      rw [e1] at hw
      exact Nat.le_trans (Nat.mul_le_mul_right _ (Nat.le_add_right _ _)) hw
theorem open_intsLS {t e i : TypeId} {fuel : Nat} {v : Value} {x : DataW H × List MemPlace} (ht : P.underlying t = some (.slice e)) (hce : P.cellsOf e = 1) (he : P.underlying e = some (.slice i)) (hi : P.underlying i = some (.int .i64)) (hci : P.cellsOf i = 1)
    (h : DataW.trod enc P w base spare held fuel t [v] = some x) (hsz : ∀ m ∈ x.1.weights P t, m ≤ 140737488351232) : ∃ xs, IntsL w v xs ∧ xs.length * P.bytesOf e ≤ 140737488351232 := by
  obtain ⟨xs, hxs⟩ := open_intsL ht hce he hi hci h
  refine ⟨xs, hxs, ?_⟩
  obtain ⟨A, c, us, rfl, _, _, _, _⟩ := hxs
  rcases open_slice ht h with ⟨hcs, _⟩ | ⟨a, len, cap, m, n, D, Pl, hcs, _, hl, hm, hmm, hx, _⟩
  · simp only [List.cons.injEq, and_true, Value.slice.injEq] at hcs
    rw [hcs.2.1]; simp
  · simp only [List.cons.injEq, and_true, Value.slice.injEq] at hcs
    subst hx
    have hw := hsz _ (by simp only [DataW.weights, ht]; exact List.mem_cons_self ..)
    simp only [List.length_map, List.length_range] at hw
    rw [hcs.2.1]
    exact Nat.le_trans (Nat.mul_le_mul_right _ (Nat.le_add_right _ _)) hw
end
end Go.Proofs.Ytgdngopemlajjaa
