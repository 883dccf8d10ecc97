/- The walk of ratio's Add. -/
import Derived.Test.YtfoleamcaflfeaaDoorRatE
import Derived.Deep.CutRange
import Derived.Deep.DeepCutAuto
import Derived.Deep.Light
namespace Go.Proofs.YtfoleamcaflfeaaDoor
open Go.RowKit
set_option linter.unusedVariables false

theorem bl_alloc {a w : World} (h : Below a.heap.size a w) (o : Obj) : Below a.heap.size a (w.alloc o) := h.alloc h.size o
theorem bl_set {a w : World} (h : Below a.heap.size a w) {p : Addr} (hp : a.heap.size ≤ p.block) (x : Value) : Below a.heap.size a (w.setCell p x) := h.setCell hp x
theorem keep2c {W w' : World} {p1 p2 : Addr} {x1 x2 : Value} (l1 : p1.block < W.heap.size) (l2 : p2.block < W.heap.size) (h1 : W.cell? p1 = some x1) (h2 : W.cell? p2 = some x2) (hb : Below W.heap.size W w') :
    w'.cell? p1 = some x1 ∧ w'.cell? p2 = some x2 := ⟨(hb.cell l1).trans h1, (hb.cell l2).trans h2⟩
theorem keep2t {w : World} {g b : Nat} {x y z x1 x2 : Value} (hne : b < g) (h : w.cell? ⟨g, 0, none⟩ = some x1 ∧ w.cell? ⟨g, 1, none⟩ = some x2) :
    (((w.setCell ⟨b, 0, none⟩ x).setCell ⟨b, 1, none⟩ y).setCell ⟨b, 2, none⟩ z).cell? ⟨g, 0, none⟩ = some x1 ∧ (((w.setCell ⟨b, 0, none⟩ x).setCell ⟨b, 1, none⟩ y).setCell ⟨b, 2, none⟩ z).cell? ⟨g, 1, none⟩ = some x2 := by
  obtain ⟨h1, h2⟩ := h
  have n1 : ∀ (w : World) (k k' : Nat) (z : Value), (w.setCell ⟨b, k', none⟩ z).cell? ⟨g, k, none⟩ = w.cell? ⟨g, k, none⟩ := fun w k k' z => World.cell?_setCell_other _ _ _ _ (fun e => by injection e with e _ _; omega)
  refine ⟨?_, ?_⟩
  · rw [n1, n1, n1]; exact h1
  · rw [n1, n1, n1]; exact h2

end Go.Proofs.YtfoleamcaflfeaaDoor
