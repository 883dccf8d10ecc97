/- The walks of the reference's fractions: Norm, Neg, Mul (package examboardref03). -/
import Derived.Test.YtoihjclkocffhaaDoorRf6
import Derived.Test.YtoihjclkocffhaaDoorRatQ
import Derived.Test.YtoihjclkocffhaaDoorBx
import Derived.Deep.RegionHeld3
namespace Go.Proofs.YtoihjclkocffhaaDoor
open Go.RowKit
set_option linter.unusedVariables false
set_option maxRecDepth 100000

theorem bwR_call {K : Nat} {a W w1 : World} (ha : K ≤ a.heap.size) (h : Below W.heap.size W w1) (h0 : Below K a W) : Below K a w1 := h0.trans (h.mono (Nat.le_trans ha h0.size))
theorem bwR_set {K : Nat} {a w : World} (h0 : Below K a w) {p : Addr} (hp : K ≤ p.block) (x : Value) : Below K a (w.setCell p x) := h0.setCell hp x
theorem bwR_drew {K : Nat} {a w : World} (h0 : Below K a w) : Below K a w.drew := h0.drew
theorem bl_szR {a w : World} (h : Below a.heap.size a w) : a.heap.size ≤ w.heap.size := h.size
theorem rmulN (v u : Value) (la lb : List Nat) (w : World) (ha : Lim w v la) (hb : Lim w u lb) (hsum : la.length + lb.length ≤ 70368744177664) :
    Calls Tryd.prog 39 #[v, u] w fun e w' => ∃ x, e = .returned x ∧ NatAt w' x (val la * val lb) (la.length + lb.length) ∧ Fresh w.heap.size x ∧ Below w.heap.size w w' :=
  (rmul_wide v u la lb w ha hb hsum).mono fun e w' h => by
    obtain ⟨x, he, hN⟩ := h
    exact ⟨x, he, hN.nat, hN.fresh, hN.bel⟩
theorem keepR3 {K : Nat} {W w' : World} {p1 p2 p3 : Addr} {x1 x2 x3 : Value} (l1 : p1.block < K) (l2 : p2.block < K) (l3 : p3.block < K) (h1 : W.cell? p1 = some x1) (h2 : W.cell? p2 = some x2) (h3 : W.cell? p3 = some x3) (hb : Below K W w') :
    w'.cell? p1 = some x1 ∧ w'.cell? p2 = some x2 ∧ w'.cell? p3 = some x3 := ⟨(hb.cell l1).trans h1, (hb.cell l2).trans h2, (hb.cell l3).trans h3⟩
theorem keepR6 {K : Nat} {W w' : World} {p1 p2 p3 p4 p5 p6 : Addr} {x1 x2 x3 x4 x5 x6 : Value} (l1 : p1.block < K) (l2 : p2.block < K) (l3 : p3.block < K) (l4 : p4.block < K) (l5 : p5.block < K) (l6 : p6.block < K) (h1 : W.cell? p1 = some x1) (h2 : W.cell? p2 = some x2) (h3 : W.cell? p3 = some x3) (h4 : W.cell? p4 = some x4) (h5 : W.cell? p5 = some x5) (h6 : W.cell? p6 = some x6) (hb : Below K W w') :
    w'.cell? p1 = some x1 ∧ w'.cell? p2 = some x2 ∧ w'.cell? p3 = some x3 ∧ w'.cell? p4 = some x4 ∧ w'.cell? p5 = some x5 ∧ w'.cell? p6 = some x6 := ⟨(hb.cell l1).trans h1, (hb.cell l2).trans h2, (hb.cell l3).trans h3, (hb.cell l4).trans h4, (hb.cell l5).trans h5, (hb.cell l6).trans h6⟩

end Go.Proofs.YtoihjclkocffhaaDoor
