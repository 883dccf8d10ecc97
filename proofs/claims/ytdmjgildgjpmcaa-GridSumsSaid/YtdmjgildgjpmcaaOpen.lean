/- How a law's arguments read: slices of numbers, of limbs, of such slices. -/
import Derived.Test.YtdmjgildgjpmcaaNatL
import Derived.ProofKit
import Derived.OpenShut
import Derived.Deep.Slices
import Derived.Lib.SmallJoins
namespace Go.Proofs.Ytdmjgildgjpmcaa
open Go.RowKit Go.ChangeShapes Go.WideShapes Go.Deep
set_option linter.unusedVariables false

section
variable {H : Type} {enc : TypeId × Value → H} {P : Program} {w : World} {base : Nat} {spare : Nat → Bool} {held : Bool}
theorem spot_none {a : Addr} {v : Value} (h : w.cell? a = some v) : a.spot = none := by
  unfold World.cell? at h
  split at h
  · split at h
    · cases h
    · rename_i hs
      cases hsp : a.spot with
      | none => rfl
      | some x => rw [hsp] at hs; simp at hs
  · cases h
theorem sl_of_cells {a : Addr} {n : Nat} {xs : List Value} (hl : xs.length = n) (hc : ∀ i u, xs[i]? = some u → w.cell? (a.add i) = some u) : Sl w (some a) n xs := by
  refine ⟨hl, fun hn => ?_⟩
  have h0 : xs[0]? = some (xs[0]'(by omega)) := List.getElem?_eq_getElem _
  have h1 := hc 0 _ h0
  have hsp : a.spot = none := spot_none h1
  obtain ⟨b, o, sp⟩ := a
  simp only at hsp
  subst hsp
  refine ⟨b, o, rfl, fun j u hu => ?_⟩
  have := hc j u hu
  unfold Addr.add at this
  split at this
  · rename_i h; subst h; exact this
  · exact this
theorem open_nums {t e : TypeId} {k : IntKind} {fuel : Nat} {v : Value} {x : DataW H × List MemPlace} (ht : P.underlying t = some (.slice e)) (he : P.underlying e = some (.int k)) (hce : P.cellsOf e = 1)
    (h : DataW.trod enc P w base spare held fuel t [v] = some x) : ∃ zs, Nums k w v zs ∧ ∀ z ∈ zs, (Lit.int k z).wf = true := by
  rcases open_ints ht he hce h with ⟨hcs, _⟩ | ⟨a, len, cap, zs, hcs, _, hl, hm, hz, _, hcell, hwf⟩
  · simp only [List.cons.injEq, and_true] at hcs
    subst hcs
    exact ⟨[], Nums.nil _ _, fun z hz => by simp at hz⟩
  · simp only [List.cons.injEq, and_true] at hcs
    subst hcs
    have hlz : len ≤ zs.length := by rw [hz]; split <;> omega
    refine ⟨zs.take len, ⟨some a, cap, ?_, ?_, hm, ?_⟩, fun z hz => hwf z (List.mem_of_mem_take hz)⟩
    · rw [List.length_take, Nat.min_eq_left hlz]
    · rw [List.length_take, Nat.min_eq_left hlz]; exact hl
    · refine sl_of_cells (by simp) (fun i u hu => ?_)
      rw [List.getElem?_map, List.getElem?_take] at hu
      split at hu
      · rename_i hi
        rw [List.getElem?_eq_getElem (by omega)] at hu
        simp only [Option.map_some, Option.some.injEq] at hu
        subst hu
        rw [hcell i (by omega)]
        simp [List.getD, List.getElem?_eq_getElem (show i < zs.length by omega)]
      · simp at hu
theorem open_lim {t e : TypeId} {fuel : Nat} {v : Value} {x : DataW H × List MemPlace} (ht : P.underlying t = some (.slice e)) (he : P.underlying e = some (.int .u32)) (hce : P.cellsOf e = 1)
    (h : DataW.trod enc P w base spare held fuel t [v] = some x) : ∃ ls, Lim w v ls := by
  obtain ⟨zs, ⟨A, c, hv, h1, h2, hs⟩, hwf⟩ := open_nums ht he hce h
  have hb : ∀ z ∈ zs, 0 ≤ z ∧ z < 4294967296 := by
    intro z hz
    have := hwf z hz
    simp [Lit.wf, IntKind.min, IntKind.max, IntKind.signed, IntKind.bits] at this
    omega
  have e : zs.map (Value.int .u32) = lims (zs.map Int.toNat) := by
    unfold lims
    rw [List.map_map]
    apply List.map_congr_left
    intro z hz
    simp only [Function.comp]
    rw [Int.toNat_of_nonneg (hb z hz).1]
  refine ⟨zs.map Int.toNat, ⟨A, c, by rw [List.length_map]; exact hv, by rw [List.length_map]; exact h1, h2, ?_⟩, ?_⟩
  · rw [List.length_map, ← e]; exact hs
  · intro y hy
    obtain ⟨z, hz, rfl⟩ := List.mem_map.1 hy
    have := hb z hz
    omega
end
end Go.Proofs.Ytdmjgildgjpmcaa
