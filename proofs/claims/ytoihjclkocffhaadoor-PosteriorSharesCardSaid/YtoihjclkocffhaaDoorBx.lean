/- Words for walks with boxes: a block made at once; weights as numbers; sums over a list. No condition. -/
import Derived.Test.YtoihjclkocffhaaDoorIntB
import Derived.Test.YtoihjclkocffhaaDoorLst
namespace Go.Proofs.YtoihjclkocffhaaDoor
open Go.RowKit
set_option linter.unusedVariables false

theorem lit_below (w : World) (o : Obj) : Below w.heap.size w (w.alloc o) := (Below.refl _ _).alloc (Nat.le_refl _) _
theorem lit_more {a w : World} (h : Below a.heap.size a w) (o : Obj) : Below a.heap.size a (w.alloc o) := h.alloc h.size _
theorem row_at {w : World} {t : Nat} {xs : List Value} {g : Nat} (h : w.heap.size = g) : Row (w.alloc (.cells xs.toArray t)) g t xs := by
  subst h; exact Row.new w t xs
/-- A number in whatever form. -/
def NatAny (w : World) (v : Value) (n L : Nat) : Prop := ∃ ls, Lim w v ls ∧ val ls = n ∧ ls.length ≤ L
theorem NatAny.below {w w' : World} {v : Value} {n L : Nat} (h : NatAny w v n L) (hb : Below w.heap.size w w') : NatAny w' v n L := by
  obtain ⟨ls, h1, h2, h3⟩ := h
  exact ⟨ls, h1.below hb, h2, h3⟩
theorem NatAt.any {w : World} {v : Value} {n L : Nat} (h : NatAt w v n L) : NatAny w v n L := by
  obtain ⟨ls, h1, _, h3, h4⟩ := h
  exact ⟨ls, h1, h3, h4⟩
/-- The slice v holds these numbers, each of at most L limbs. -/
def Wts (w : World) (v : Value) (ns : List Nat) (L : Nat) : Prop := LstOf (fun w u n => NatAny w u n L) 0 w v ns
theorem Wts.below {w w' : World} {v : Value} {ns : List Nat} {L : Nat} (h : Wts w v ns L) (hb : Below w.heap.size w w') : Wts w' v ns L := LstOf.below (fun u x hx => hx.below hb) h hb
theorem CanL.wts {w : World} {v : Value} {ns : List Nat} {L : Nat} (h : CanL w v ns L) : Wts w v ns L := by
  obtain ⟨A, c, us, hv, h1, h2, hs, hu⟩ := h
  exact ⟨A, c, us, hv, h1, h2, hs, fun i u hi => (hu i u hi).any⟩
theorem LimL.wts {w : World} {v : Value} {lss : List (List Nat)} {L : Nat} (h : LimL w v lss) (hL : ∀ l ∈ lss, l.length ≤ L) : Wts w v (lss.map val) L := by
  obtain ⟨A, c, us, hv, h1, h2, hs, hu⟩ := h
  refine ⟨A, c, us, by rw [List.length_map]; exact hv, by rw [List.length_map]; exact h1, h2, by rw [List.length_map]; exact hs, fun i u hi => ⟨lss.getD i [], hu i u hi, ?_, ?_⟩⟩
  · have hl : i < lss.length := by have := hs.1; rw [List.getElem?_eq_some_iff] at hi; obtain ⟨hi, _⟩ := hi; omega
    rw [List.getD_eq_getElem?_getD, List.getD_eq_getElem?_getD, List.getElem?_map, List.getElem?_eq_getElem hl]; rfl
  · have hl : i < lss.length := by have := hs.1; rw [List.getElem?_eq_some_iff] at hi; obtain ⟨hi, _⟩ := hi; omega
    rw [List.getD_eq_getElem?_getD, List.getElem?_eq_getElem hl]
    exact hL _ (List.getElem_mem hl)
/-- The sum of the first numbers. -/
def mom (f : Nat → Int) : Nat → Int
  | 0 => 0
  | k + 1 => mom f k + f k
def wF0 (ns : List Nat) (k : Nat) : Int := mom (fun i => (ns.getD i 0 : Int)) k
def wF1 (ns : List Nat) (ps : List Int) (k : Nat) : Int := mom (fun i => (ns.getD i 0 : Int) * ps.getD i 0) k
def wF2 (ns : List Nat) (ps : List Int) (k : Nat) : Int := mom (fun i => (ns.getD i 0 : Int) * ps.getD i 0 * ps.getD i 0) k
end Go.Proofs.YtoihjclkocffhaaDoor
