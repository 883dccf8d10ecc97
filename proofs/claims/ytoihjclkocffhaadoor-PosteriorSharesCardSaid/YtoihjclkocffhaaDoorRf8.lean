/- The walks of the reference's fractions: Add, Cmp, Sub (package examboardref03). -/
import Derived.Test.YtoihjclkocffhaaDoorRf7
import Derived.Deep.DeepCutAuto
import Derived.Deep.CutRange
import Derived.Deep.Light
namespace Go.Proofs.YtoihjclkocffhaaDoor
open Go.RowKit
set_option linter.unusedVariables false
set_option maxRecDepth 100000

theorem keepR10 {K : Nat} {W w' : World} {p1 p2 p3 p4 p5 p6 p7 p8 p9 p10 : Addr} {x1 x2 x3 x4 x5 x6 x7 x8 x9 x10 : Value} (l1 : p1.block < K) (l2 : p2.block < K) (l3 : p3.block < K) (l4 : p4.block < K) (l5 : p5.block < K) (l6 : p6.block < K) (l7 : p7.block < K) (l8 : p8.block < K) (l9 : p9.block < K) (l10 : p10.block < K) (h1 : W.cell? p1 = some x1) (h2 : W.cell? p2 = some x2) (h3 : W.cell? p3 = some x3) (h4 : W.cell? p4 = some x4) (h5 : W.cell? p5 = some x5) (h6 : W.cell? p6 = some x6) (h7 : W.cell? p7 = some x7) (h8 : W.cell? p8 = some x8) (h9 : W.cell? p9 = some x9) (h10 : W.cell? p10 = some x10) (hb : Below K W w') :
    w'.cell? p1 = some x1 ∧ w'.cell? p2 = some x2 ∧ w'.cell? p3 = some x3 ∧ w'.cell? p4 = some x4 ∧ w'.cell? p5 = some x5 ∧ w'.cell? p6 = some x6 ∧ w'.cell? p7 = some x7 ∧ w'.cell? p8 = some x8 ∧ w'.cell? p9 = some x9 ∧ w'.cell? p10 = some x10 := ⟨(hb.cell l1).trans h1, (hb.cell l2).trans h2, (hb.cell l3).trans h3, (hb.cell l4).trans h4, (hb.cell l5).trans h5, (hb.cell l6).trans h6, (hb.cell l7).trans h7, (hb.cell l8).trans h8, (hb.cell l9).trans h9, (hb.cell l10).trans h10⟩
theorem far3 {w : World} {g : Nat} {a b c : Value} {p : Addr} {x : Value} (h : p.block ≠ g) (hc : w.cell? p = some x) : (((w.setCell ⟨g, 0, none⟩ a).setCell ⟨g, 1, none⟩ b).setCell ⟨g, 2, none⟩ c).cell? p = some x := by
  rw [World.cell?_setCell_other _ _ _ _ (fun e => h (by subst e; rfl)), World.cell?_setCell_other _ _ _ _ (fun e => h (by subst e; rfl)), World.cell?_setCell_other _ _ _ _ (fun e => h (by subst e; rfl))]; exact hc
theorem keepZ10 {w : World} {g : Nat} {a b c : Value} {p1 p2 p3 p4 p5 p6 p7 p8 p9 p10 : Addr} {x1 x2 x3 x4 x5 x6 x7 x8 x9 x10 : Value} (l1 : p1.block ≠ g) (l2 : p2.block ≠ g) (l3 : p3.block ≠ g) (l4 : p4.block ≠ g) (l5 : p5.block ≠ g) (l6 : p6.block ≠ g) (l7 : p7.block ≠ g) (l8 : p8.block ≠ g) (l9 : p9.block ≠ g) (l10 : p10.block ≠ g) (h : w.cell? p1 = some x1 ∧ w.cell? p2 = some x2 ∧ w.cell? p3 = some x3 ∧ w.cell? p4 = some x4 ∧ w.cell? p5 = some x5 ∧ w.cell? p6 = some x6 ∧ w.cell? p7 = some x7 ∧ w.cell? p8 = some x8 ∧ w.cell? p9 = some x9 ∧ w.cell? p10 = some x10) :
    (((w.setCell ⟨g, 0, none⟩ a).setCell ⟨g, 1, none⟩ b).setCell ⟨g, 2, none⟩ c).cell? p1 = some x1 ∧ (((w.setCell ⟨g, 0, none⟩ a).setCell ⟨g, 1, none⟩ b).setCell ⟨g, 2, none⟩ c).cell? p2 = some x2 ∧ (((w.setCell ⟨g, 0, none⟩ a).setCell ⟨g, 1, none⟩ b).setCell ⟨g, 2, none⟩ c).cell? p3 = some x3 ∧ (((w.setCell ⟨g, 0, none⟩ a).setCell ⟨g, 1, none⟩ b).setCell ⟨g, 2, none⟩ c).cell? p4 = some x4 ∧ (((w.setCell ⟨g, 0, none⟩ a).setCell ⟨g, 1, none⟩ b).setCell ⟨g, 2, none⟩ c).cell? p5 = some x5 ∧ (((w.setCell ⟨g, 0, none⟩ a).setCell ⟨g, 1, none⟩ b).setCell ⟨g, 2, none⟩ c).cell? p6 = some x6 ∧ (((w.setCell ⟨g, 0, none⟩ a).setCell ⟨g, 1, none⟩ b).setCell ⟨g, 2, none⟩ c).cell? p7 = some x7 ∧ (((w.setCell ⟨g, 0, none⟩ a).setCell ⟨g, 1, none⟩ b).setCell ⟨g, 2, none⟩ c).cell? p8 = some x8 ∧ (((w.setCell ⟨g, 0, none⟩ a).setCell ⟨g, 1, none⟩ b).setCell ⟨g, 2, none⟩ c).cell? p9 = some x9 ∧ (((w.setCell ⟨g, 0, none⟩ a).setCell ⟨g, 1, none⟩ b).setCell ⟨g, 2, none⟩ c).cell? p10 = some x10 := by
  obtain ⟨h1, h2, h3, h4, h5, h6, h7, h8, h9, h10⟩ := h
  exact ⟨far3 l1 h1, far3 l2 h2, far3 l3 h3, far3 l4 h4, far3 l5 h5, far3 l6 h6, far3 l7 h7, far3 l8 h8, far3 l9 h9, far3 l10 h10⟩
theorem keep6R {W w' : World} {p1 p2 p3 p4 p5 p6 : Addr} {x1 x2 x3 x4 x5 x6 : Value} (l1 : p1.block < W.heap.size) (l2 : p2.block < W.heap.size) (l3 : p3.block < W.heap.size) (l4 : p4.block < W.heap.size) (l5 : p5.block < W.heap.size) (l6 : p6.block < W.heap.size) (h1 : W.cell? p1 = some x1) (h2 : W.cell? p2 = some x2) (h3 : W.cell? p3 = some x3) (h4 : W.cell? p4 = some x4) (h5 : W.cell? p5 = some x5) (h6 : W.cell? p6 = some x6) (hb : Below W.heap.size W w') :
    w'.cell? p1 = some x1 ∧ w'.cell? p2 = some x2 ∧ w'.cell? p3 = some x3 ∧ w'.cell? p4 = some x4 ∧ w'.cell? p5 = some x5 ∧ w'.cell? p6 = some x6 := keepR6 l1 l2 l3 l4 l5 l6 h1 h2 h3 h4 h5 h6 hb
theorem red_subR (p p' : Int) (q q' : Nat) (hq : 0 < q) (hq' : 0 < q') : redP (p * ((redQ (-p') q' : Nat) : Int) + redP (-p') q' * (q : Int)) (q * redQ (-p') q') = redP (p * (q' : Int) - p' * (q : Int)) (q * q') ∧ redQ (p * ((redQ (-p') q' : Nat) : Int) + redP (-p') q' * (q : Int)) (q * redQ (-p') q') = redQ (p * (q' : Int) - p' * (q : Int)) (q * q') := by
  obtain ⟨m1, m2⟩ := red_mul (-p') q'
  have hQ := redQ_pos (p := -p') hq'
  generalize Nat.gcd (-p').natAbs q' = g at *
  refine red_cross (Nat.mul_pos hq hQ) (Nat.mul_pos hq hq') ?_
  generalize redP (-p') q' = P at *
  generalize redQ (-p') q' = Q at *
  have e : (q' : Int) = (Q : Int) * (g : Int) := by rw [m2, Int.natCast_mul]
  have e2 : p' = -(P * (g : Int)) := by omega
  rw [Int.natCast_mul, Int.natCast_mul, e, e2]
  grind

end Go.Proofs.YtoihjclkocffhaaDoor
