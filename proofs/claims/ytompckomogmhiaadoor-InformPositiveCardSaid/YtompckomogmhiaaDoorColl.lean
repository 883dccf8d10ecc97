/- Rows of numbers that a call makes and collects in a slice of slices. -/
import Derived.Test.YtompckomogmhiaaDoorLst
namespace Go.Proofs.YtompckomogmhiaaDoor
open Go.RowKit
set_option linter.unusedVariables false

/-- ws are slices that read as the first k lists of xs; they lie from block base on, and none of them in the block row. -/
def CollI (w : World) (ws : List Value) (xs : List (List Int)) (k base : Nat) (row : Option Nat) : Prop :=
  ws.length = k ∧ ∀ i u, ws[i]? = some u → Nums .i64 w u (xs.getD i []) ∧ Off row u ∧ Fresh base u
section
variable {w w' : World} {ws : List Value} {xs : List (List Int)} {k base : Nat} {row : Option Nat}
theorem CollI.zero (w : World) (xs : List (List Int)) (base : Nat) (row : Option Nat) : CollI w [] xs 0 base row := ⟨rfl, fun i u h => by simp at h⟩
theorem CollI.below (h : CollI w ws xs k base row) (hb : Below w.heap.size w w') : CollI w' ws xs k base row :=
  ⟨h.1, fun i u hu => ⟨(h.2 i u hu).1.below hb, (h.2 i u hu).2⟩⟩
theorem Nums.off {kk : IntKind} {v : Value} {zs : List Int} (h : Nums kk w v zs) {j : Nat} (hj : w.heap.size ≤ j) : Off (some j) v := by
  obtain ⟨A, c, rfl, _, _, hs⟩ := h
  exact hs.off hj
theorem Nums.grown {kk : IntKind} {v : Value} {zs : List Int} (h : Nums kk w v zs) (hg : w.grownBy w' row) (ho : Off row v) : Nums kk w' v zs := by
  obtain ⟨A, c, rfl, h1, h2, hs⟩ := h
  exact ⟨A, c, rfl, h1, h2, hs.grown hg ho⟩
theorem CollI.grown {row' : Option Nat} (h : CollI w ws xs k base row) (hg : w.grownBy w' row) (hr : row' = row ∨ ∃ j, row' = some j ∧ w.heap.size ≤ j) : CollI w' ws xs k base row' := by
  refine ⟨h.1, fun i u hu => ?_⟩
  obtain ⟨a, b, c⟩ := h.2 i u hu
  refine ⟨a.grown hg b, ?_, c⟩
  rcases hr with rfl | ⟨j, rfl, hj⟩
  · exact b
  · exact a.off hj
theorem CollI.set_ (h : CollI w ws xs k base row) {p : Addr} (hp : p.block < base) (x : Value) : CollI (w.setCell p x) ws xs k base row :=
  ⟨h.1, fun i u hu => ⟨(h.2 i u hu).1.set_ (h.2 i u hu).2.2 hp x, (h.2 i u hu).2⟩⟩
theorem CollI.snoc (h : CollI w ws xs k base row) {u : Value} (hu : Nums .i64 w u (xs.getD k [])) (ho : Off row u) (hf : Fresh base u) : CollI w (ws ++ [u]) xs (k + 1) base row := by
  refine ⟨by simp [h.1], fun i v hv => ?_⟩
  rcases Nat.lt_trichotomy i k with h1 | h1 | h1
  · rw [List.getElem?_append_left (by rw [h.1]; exact h1)] at hv; exact h.2 i v hv
  · subst h1
    rw [List.getElem?_append_right (by rw [h.1]; exact Nat.le_refl _), h.1, Nat.sub_self] at hv
    simp only [List.getElem?_cons_zero, Option.some.injEq] at hv
    subst hv
    exact ⟨hu, ho, hf⟩
  · rw [List.getElem?_eq_none (by simp [h.1]; omega)] at hv; cases hv
theorem CollI.intsL {e : Nat} {v : Value} (h : CollI w ws xs k base row) (hk : xs.length = k) (ho : w.ownsRow base e 1 v k ws) : IntsL w v xs := by
  obtain ⟨A, c, rfl, h1, h2, hs⟩ := Sl.of_own ho
  subst hk
  exact ⟨A, c, ws, rfl, h1, h2, hs, fun i u hu => (h.2 i u hu).1⟩
end
theorem intsL_nil (w : World) : IntsL w (.slice none 0 0) [] := LstOf.nil
theorem IntsL.set_ {w : World} {v : Value} {xs : List (List Int)} (h : IntsL w v xs) {B : Nat} {p : Addr} (hB : w.heap.size ≤ B) (hp : B ≤ p.block) (x : Value) : IntsL (w.setCell p x) v xs :=
  h.below (((Below.refl _ _).setCell (by omega) _))
theorem Nums.setBig {kk : IntKind} {w : World} {v : Value} {xs : List Int} (h : Nums kk w v xs) {p : Addr} (hp : w.heap.size ≤ p.block) (x : Value) : Nums kk (w.setCell p x) v xs :=
  h.below (((Below.refl _ _).setCell hp _))
theorem set3 {kk : IntKind} {w : World} {v : Value} {zs : List Int} (h : Nums kk w v zs) {base b : Nat} (hf : Fresh base v) (hp : b < base) (x y z : Value) : Nums kk (((w.setCell ⟨b, 0, none⟩ x).setCell ⟨b, 1, none⟩ y).setCell ⟨b, 2, none⟩ z) v zs :=
  ((h.set_ hf (p := ⟨b, 0, none⟩) hp x).set_ hf (p := ⟨b, 1, none⟩) hp y).set_ hf (p := ⟨b, 2, none⟩) hp z
end Go.Proofs.YtompckomogmhiaaDoor
