/- Lists in memory, of whatever elements; slices of slices of numbers; models. -/
import Derived.Test.YtoihjclkocffhaaDoorNatL
namespace Go.Proofs.YtoihjclkocffhaaDoor
open Go.RowKit
set_option linter.unusedVariables false

/-- The slice v holds these things, each read by R. -/
def LstOf {α : Type} (R : World → Value → α → Prop) (d : α) (w : World) (v : Value) (xs : List α) : Prop :=
  ∃ A c us, v = .slice A xs.length c ∧ xs.length ≤ c ∧ c ≤ maxLen ∧ Sl w A xs.length us ∧ ∀ i u, us[i]? = some u → R w u (xs.getD i d)
section
variable {α : Type} {R : World → Value → α → Prop} {d : α} {w w' : World} {v : Value} {xs : List α}
theorem LstOf.below (hR : ∀ u x, R w u x → R w' u x) (h : LstOf R d w v xs) (hb : Below w.heap.size w w') : LstOf R d w' v xs := by
  obtain ⟨A, c, us, hv, h1, h2, hs, hu⟩ := h
  exact ⟨A, c, us, hv, h1, h2, hs.below hb, fun i u hi => hR u _ (hu i u hi)⟩
theorem LstOf.nil : LstOf R d w (.slice none 0 0) [] := ⟨none, 0, [], rfl, by simp, by simp, Sl.nil, fun i u h => by simp at h⟩
/-- Inside a round: the address, and the cell at an index with what it reads as. -/
theorem lst_at {A : Option Addr} {n : Nat} {us : List Value} (hs : Sl w A n us) (hu : ∀ i u, us[i]? = some u → R w u (xs.getD i d)) {k : Nat} (hk : k < n) :
    ∃ b o u, A = some ⟨b, o, none⟩ ∧ b < w.heap.size ∧ w.cell? ⟨b, o + k, none⟩ = some u ∧ R w u (xs.getD k d) := by
  obtain ⟨b, o, e, hc⟩ := hs.2 (by omega)
  have hx : us[k]? = some (us[k]'(by rw [hs.1]; exact hk)) := List.getElem?_eq_getElem _
  exact ⟨b, o, _, e, hs.lt (by omega) e, hc k _ hx, hu k _ hx⟩
end
/-- A slice of slices of ints. -/
def IntsL : World → Value → List (List Int) → Prop := LstOf (Nums .i64) []
theorem IntsL.below {w w' : World} {v : Value} {xs : List (List Int)} (h : IntsL w v xs) (hb : Below w.heap.size w w') : IntsL w' v xs := LstOf.below (fun u x hx => hx.below hb) h hb
/-- A slice of models (each is its rows). -/
def ModL : World → Value → List (List (List Int)) → Prop := LstOf IntsL []
theorem ModL.below {w w' : World} {v : Value} {xs : List (List (List Int))} (h : ModL w v xs) (hb : Below w.heap.size w w') : ModL w' v xs := LstOf.below (fun u x hx => hx.below hb) h hb
/-- A slice of slices of models. -/
def FamL : World → Value → List (List (List (List Int))) → Prop := LstOf ModL []
theorem FamL.below {w w' : World} {v : Value} {xs : List (List (List (List Int)))} (h : FamL w v xs) (hb : Below w.heap.size w w') : FamL w' v xs := LstOf.below (fun u x hx => hx.below hb) h hb
end Go.Proofs.YtoihjclkocffhaaDoor
