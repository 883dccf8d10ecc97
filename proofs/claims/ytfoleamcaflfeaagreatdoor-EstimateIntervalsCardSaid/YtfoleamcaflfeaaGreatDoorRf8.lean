/- The walks of the reference's fractions: Add, Cmp, Sub (package examboardref03). -/
import Derived.Test.YtfoleamcaflfeaaGreatDoorRf7
import Derived.Deep.DeepCutAuto
import Derived.Deep.CutRange
import Derived.Deep.Light
namespace Go.Proofs.YtfoleamcaflfeaaGreatDoor
open Go.RowKit
set_option linter.unusedVariables false
set_option maxRecDepth 100000

theorem keepR10 {K : Nat} {W w' : World} {p1 p2 p3 p4 p5 p6 p7 p8 p9 p10 : Addr} {x1 x2 x3 x4 x5 x6 x7 x8 x9 x10 : Value} (l1 : p1.block < K) (l2 : p2.block < K) (l3 : p3.block < K) (l4 : p4.block < K) (l5 : p5.block < K) (l6 : p6.block < K) (l7 : p7.block < K) (l8 : p8.block < K) (l9 : p9.block < K) (l10 : p10.block < K) (h1 : W.cell? p1 = some x1) (h2 : W.cell? p2 = some x2) (h3 : W.cell? p3 = some x3) (h4 : W.cell? p4 = some x4) (h5 : W.cell? p5 = some x5) (h6 : W.cell? p6 = some x6) (h7 : W.cell? p7 = some x7) (h8 : W.cell? p8 = some x8) (h9 : W.cell? p9 = some x9) (h10 : W.cell? p10 = some x10) (hb : Below K W w') :
    w'.cell? p1 = some x1 ∧ w'.cell? p2 = some x2 ∧ w'.cell? p3 = some x3 ∧ w'.cell? p4 = some x4 ∧ w'.cell? p5 = some x5 ∧ w'.cell? p6 = some x6 ∧ w'.cell? p7 = some x7 ∧ w'.cell? p8 = some x8 ∧ w'.cell? p9 = some x9 ∧ w'.cell? p10 = some x10 := ⟨(hb.cell l1).trans h1, (hb.cell l2).trans h2, (hb.cell l3).trans h3, (hb.cell l4).trans h4, (hb.cell l5).trans h5, (hb.cell l6).trans h6, (hb.cell l7).trans h7, (hb.cell l8).trans h8, (hb.cell l9).trans h9, (hb.cell l10).trans h10⟩
theorem far3 {w : World} {g : Nat} {a b c : Value} {p : Addr} {x : Value} (h : p.block ≠ g) (hc : w.cell? p = some x) : (((w.setCell ⟨g, 0, none⟩ a).setCell ⟨g, 1, none⟩ b).setCell ⟨g, 2, none⟩ c).cell? p = some x := by
  rw [World.cell?_setCell_other _ _ _ _ (fun e => h (by subst e; rfl)), World.cell?_setCell_other _ _ _ _ (fun e => h (by subst e; rfl)), World.cell?_setCell_other _ _ _ _ (fun e => h (by subst e; rfl))]; exact hc
theorem keepZ10 {w : World} {g : Nat} {a b c : Value} {p1 p2 p3 p4 p5 p6 p7 p8 p9 p10 : Addr} {x1 x2 x3 x4 x5 x6 x7 x8 x9 x10 : Value} (l1 : p1.block ≠ g) (l2 : p2.block ≠ g) (l3 : p3.block ≠ g) (l4 : p4.block ≠ g) (l5 : p5.block ≠ g) (l6 : p6.block ≠ g) (l7 : p7.block ≠ g) (l8 : p8.block ≠ g) (l9 : p9.block ≠ g) (l10 : p10.block ≠ g) (h : w.cell? p1 = some x1 ∧ w.cell? p2 = some x2 ∧ w.cell? p3 = some x3 ∧ w.cell? p4 = some x4 ∧ w.cell? p5 = some x5 ∧ w.cell? p6 = some x6 ∧ w.cell? p7 = some x7 ∧ w.cell? p8 = some x8 ∧ w.cell? p9 = some x9 ∧ w.cell? p10 = some x10) :
    (((w.setCell ⟨g, 0, none⟩ a).setCell ⟨g, 1, none⟩ b).setCell ⟨g, 2, none⟩ c).cell? p1 = some x1 ∧ (((w.setCell ⟨g, 0, none⟩ a).setCell ⟨g, 1, none⟩ b).setCell ⟨g, 2, none⟩ c).cell? p2 = some x2 ∧ (((w.setCell ⟨g, 0, none⟩ a).setCell ⟨g, 1, none⟩ b).setCell ⟨g, 2, none⟩ c).cell? p3 = some x3 ∧ (((w.setCell ⟨g, 0, none⟩ a).setCell ⟨g, 1, none⟩ b).setCell ⟨g, 2, none⟩ c).cell? p4 = some x4 ∧ (((w.setCell ⟨g, 0, none⟩ a).setCell ⟨g, 1, none⟩ b).setCell ⟨g, 2, none⟩ c).cell? p5 = some x5 ∧ (((w.setCell ⟨g, 0, none⟩ a).setCell ⟨g, 1, none⟩ b).setCell ⟨g, 2, none⟩ c).cell? p6 = some x6 ∧ (((w.setCell ⟨g, 0, none⟩ a).setCell ⟨g, 1, none⟩ b).setCell ⟨g, 2, none⟩ c).cell? p7 = some x7 ∧ (((w.setCell ⟨g, 0, none⟩ a).setCell ⟨g, 1, none⟩ b).setCell ⟨g, 2, none⟩ c).cell? p8 = some x8 ∧ (((w.setCell ⟨g, 0, none⟩ a).setCell ⟨g, 1, none⟩ b).setCell ⟨g, 2, none⟩ c).cell? p9 = some x9 ∧ (((w.setCell ⟨g, 0, none⟩ a).setCell ⟨g, 1, none⟩ b).setCell ⟨g, 2, none⟩ c).cell? p10 = some x10 := by
  obtain ⟨h1, h2, h3, h4, h5, h6, h7, h8, h9, h10⟩ := h
  exact ⟨far3 l1 h1, far3 l2 h2, far3 l3 h3, far3 l4 h4, far3 l5 h5, far3 l6 h6, far3 l7 h7, far3 l8 h8, far3 l9 h9, far3 l10 h10⟩
theorem keep6R {W w' : World} {p1 p2 p3 p4 p5 p6 : Addr} {x1 x2 x3 x4 x5 x6 : Value} (l1 : p1.block < W.heap.size) (l2 : p2.block < W.heap.size) (l3 : p3.block < W.heap.size) (l4 : p4.block < W.heap.size) (l5 : p5.block < W.heap.size) (l6 : p6.block < W.heap.size) (h1 : W.cell? p1 = some x1) (h2 : W.cell? p2 = some x2) (h3 : W.cell? p3 = some x3) (h4 : W.cell? p4 = some x4) (h5 : W.cell? p5 = some x5) (h6 : W.cell? p6 = some x6) (hb : Below W.heap.size W w') :
    w'.cell? p1 = some x1 ∧ w'.cell? p2 = some x2 ∧ w'.cell? p3 = some x3 ∧ w'.cell? p4 = some x4 ∧ w'.cell? p5 = some x5 ∧ w'.cell? p6 = some x6 := keepR6 l1 l2 l3 l4 l5 l6 h1 h2 h3 h4 h5 h6 hb
theorem red_subR (p p' : Int) (q q' : Nat) (hq : 0 < q) (hq' : 0 < q') : redP (p * ((redQ (-p') q' : Nat) : Int) + redP (-p') q' * (q : Int)) (q * redQ (-p') q') = redP (p * (q' : Int) - p' * (q : Int)) (q * q') ∧ redQ (p * ((redQ (-p') q' : Nat) : Int) + redP (-p') q' * (q : Int)) (q * redQ (-p') q') = redQ (p * (q' : Int) - p' * (q : Int)) (q * q') := by
  obtain ⟨m1, m2⟩ := red_mul (-p') q'
  have hQ := redQ_pos (p := -p') hq'
  generalize Nat.gcd (-p').natAbs q' = g at *
  refine red_cross (Nat.mul_pos hq hQ) (Nat.mul_pos hq hq') ?_
  generalize redP (-p') q' = P at *
  generalize redQ (-p') q' = Q at *
  have e : (q' : Int) = (Q : Int) * (g : Int) := by rw [m2, Int.natCast_mul]
  have e2 : p' = -(P * (g : Int)) := by omega
  rw [Int.natCast_mul, Int.natCast_mul, e, e2]
  grind

set_option maxHeartbeats 32000000 in
theorem r3cmp_any (v u : Value) (p p' : Int) (q q' L : Nat) (w : World) (ha : RatA w v p q L) (hb : RatA w u p' q' L) (hL : 2 ≤ L) (hM : L ≤ 35184372088800) :
    Calls Tryz.prog 17 #[v, u] w fun e w' => e = .returned (.int .i64 (cmpZ (p * (q' : Int)) (p' * (q : Int)))) ∧ Below w.heap.size w w' := by
  have hM0 := hM
  replace hM : L ≤ 70368744177664 := by omega
  have hqa := ha.pos
  have hqb := hb.pos
  have ha0 := ha
  obtain ⟨na, A, n, c, B, m, d, rfl⟩ := ha0.show_
  clear ha0
  have hb0 := hb
  obtain ⟨nb, A', n', c', B', m', d', rfl⟩ := hb0.show_
  clear hb0
  obtain ⟨W0, hW0⟩ : ∃ W0 : World, W0 = (w.alloc (.cells #[.bool na, .slice A n c, .slice B m d] 28)).alloc (.cells #[.bool nb, .slice A' n' c', .slice B' m' d'] 28) := ⟨_, rfl⟩
  have r0 : Row W0 w.heap.size 28 [.bool na, .slice A n c, .slice B m d] := by
    rw [hW0]
    have := Row.alloc (Row.new w 28 [.bool na, .slice A n c, .slice B m d]) (.cells #[.bool nb, .slice A' n' c', .slice B' m' d'] 28)
    simpa using this
  have r1 : Row W0 (w.heap.size + 1) 28 [.bool nb, .slice A' n' c', .slice B' m' d'] := by
    rw [hW0]
    have := Row.new (w.alloc (.cells #[.bool na, .slice A n c, .slice B m d] 28)) 28 [.bool nb, .slice A' n' c', .slice B' m' d']
    simpa using this
  have B0 : Below w.heap.size w W0 := by rw [hW0]; exact (((Below.refl _ _).alloc (Nat.le_refl _) _).alloc (by simp) _)
  go_enter Tryz.func17, Tryz.ntmps17
  go_wp2_with fail
  rw [← hW0]
  clear hW0
  have BB := B0
  have hr1 := r0
  have hr2 := r1
  clear B0 r0 r1
  replace ha := ha.below BB
  replace hb := hb.below BB
  have c10 : W0.cell? ⟨w.heap.size, 0, none⟩ = some (.bool na) := hr1.cell 0
  have c11 : W0.cell? ⟨w.heap.size, 1, none⟩ = some (.slice A n c) := hr1.cell 1
  have c12 : W0.cell? ⟨w.heap.size, 2, none⟩ = some (.slice B m d) := hr1.cell 2
  have c20 : W0.cell? ⟨w.heap.size + 1, 0, none⟩ = some (.bool nb) := hr2.cell 0
  have c21 : W0.cell? ⟨w.heap.size + 1, 1, none⟩ = some (.slice A' n' c') := hr2.cell 1
  have c22 : W0.cell? ⟨w.heap.size + 1, 2, none⟩ = some (.slice B' m' d') := hr2.cell 2
  have z1 := hr1.lt
  have z2 := hr2.lt
  go_wp2_with fail
  have qs0 : W0.cell? ⟨w.heap.size, 0, none⟩ = some (.bool na) := hr1.cell 0
  have qs1 : W0.cell? ⟨w.heap.size, 1, none⟩ = some (.slice A n c) := hr1.cell 1
  have qs2 : W0.cell? ⟨w.heap.size, 2, none⟩ = some (.slice B m d) := hr1.cell 2
  have qs3 : W0.cell? ⟨w.heap.size + 1, 0, none⟩ = some (.bool nb) := hr2.cell 0
  have qs4 : W0.cell? ⟨w.heap.size + 1, 1, none⟩ = some (.slice A' n' c') := hr2.cell 1
  have qs5 : W0.cell? ⟨w.heap.size + 1, 2, none⟩ = some (.slice B' m' d') := hr2.cell 2
  have zs0 := hr1.lt
  have zs1 := hr2.lt
  go_cut [5] (fun s0 wx => ∃ (g : Nat) (A5 : Option Addr) (k5 c5 : Nat), s0 = .pointer (some ⟨g, 0, none⟩) ∧ W0.heap.size ≤ g ∧ Row wx g 26 [.bool (decide (p * (q' : Int) < 0)), .slice A5 k5 c5] ∧ IntF W0.heap.size wx (.agg #[.bool (decide (p * (q' : Int) < 0)), .slice A5 k5 c5]) (p * (q' : Int)) (L + L) ∧ Below W0.heap.size W0 wx)
  case first =>
    go_region_held3 (fun w' => w'.cell? ⟨w.heap.size, 0, none⟩ = some (.bool na) ∧ w'.cell? ⟨w.heap.size, 1, none⟩ = some (.slice A n c) ∧ w'.cell? ⟨w.heap.size, 2, none⟩ = some (.slice B m d) ∧ w'.cell? ⟨w.heap.size + 1, 0, none⟩ = some (.bool nb) ∧ w'.cell? ⟨w.heap.size + 1, 1, none⟩ = some (.slice A' n' c') ∧ w'.cell? ⟨w.heap.size + 1, 2, none⟩ = some (.slice B' m' d'))
      ((refine keep6R zs0 zs0 zs0 zs1 zs1 zs1 qs0 qs1 qs2 qs3 qs4 qs5 ?_; (repeat (first | with_reducible exact Below.refl _ _ | ((with_reducible refine bl_set ?_ ?_ _); rotate_left; (first | exact Nat.le_refl _ | exact gz14 | exact gz15 | exact gz16 | exact gz17)) | with_reducible refine bl_call h17 ?_ | with_reducible refine bl_call h16 ?_ | with_reducible refine bl_call h15 ?_ | with_reducible refine bl_call h14 ?_ | with_reducible refine bl_alloc ?_ _ | with_reducible refine bl_drew ?_)); done))
      (first
        | (go_at_call 40; ((with_reducible refine (r3top_any _ p q L _ (ha.below ?_) hL hM).mono ?_); (repeat (first | with_reducible exact Below.refl _ _ | ((with_reducible refine bl_set ?_ ?_ _); rotate_left; (first | exact Nat.le_refl _ | exact gz14 | exact gz15 | exact gz16 | exact gz17)) | with_reducible refine bl_call h17 ?_ | with_reducible refine bl_call h16 ?_ | with_reducible refine bl_call h15 ?_ | with_reducible refine bl_call h14 ?_ | with_reducible refine bl_alloc ?_ _ | with_reducible refine bl_drew ?_)); rintro e w14 ⟨v14, rfl, hv14, h14⟩; have gz14 : W0.heap.size ≤ w14.heap.size := (bl_call h14 (by (repeat (first | with_reducible exact Below.refl _ _ | ((with_reducible refine bl_set ?_ ?_ _); rotate_left; (first | exact Nat.le_refl _ | exact gz14 | exact gz15 | exact gz16 | exact gz17)) | with_reducible refine bl_call h17 ?_ | with_reducible refine bl_call h16 ?_ | with_reducible refine bl_call h15 ?_ | with_reducible refine bl_call h14 ?_ | with_reducible refine bl_alloc ?_ _ | with_reducible refine bl_drew ?_))) : Below W0.heap.size W0 w14).size; (first | (replace RR := RR.keep h14) | (have R0 := Row.drew (Row.new W0 26 [.bool false, .slice none 0 0]); have RR := R0.keep h14; clear R0) | (have R0 := Row.new W0.drew 26 [.bool false, .slice none 0 0]; have RR := R0.keep h14; clear R0) | (have R0 := Row.new W0 26 [.bool false, .slice none 0 0]; have RR := R0.keep h14; clear R0) | (have R0 := Row.new w15 26 [.bool false, .slice none 0 0]; have RR := R0.keep h14; clear R0) | (have R0 := Row.new w16 26 [.bool false, .slice none 0 0]; have RR := R0.keep h14; clear R0) | (have R0 := Row.new w17 26 [.bool false, .slice none 0 0]; have RR := R0.keep h14; clear R0) | skip)))
        | (go_at_call 43; ((with_reducible refine (r3low_any _ p' q' L _ (hb.below ?_) hL hM).mono ?_); (repeat (first | with_reducible exact Below.refl _ _ | ((with_reducible refine bl_set ?_ ?_ _); rotate_left; (first | exact Nat.le_refl _ | exact gz14 | exact gz15 | exact gz16 | exact gz17)) | with_reducible refine bl_call h17 ?_ | with_reducible refine bl_call h16 ?_ | with_reducible refine bl_call h15 ?_ | with_reducible refine bl_call h14 ?_ | with_reducible refine bl_alloc ?_ _ | with_reducible refine bl_drew ?_)); rintro e w15 ⟨v15, rfl, hv15, hf15, h15⟩; have gz15 : W0.heap.size ≤ w15.heap.size := (bl_call h15 (by (repeat (first | with_reducible exact Below.refl _ _ | ((with_reducible refine bl_set ?_ ?_ _); rotate_left; (first | exact Nat.le_refl _ | exact gz14 | exact gz15 | exact gz16 | exact gz17)) | with_reducible refine bl_call h17 ?_ | with_reducible refine bl_call h16 ?_ | with_reducible refine bl_call h15 ?_ | with_reducible refine bl_call h14 ?_ | with_reducible refine bl_alloc ?_ _ | with_reducible refine bl_drew ?_))) : Below W0.heap.size W0 w15).size; (first | (replace RR := RR.keep h15) | (have R0 := Row.drew (Row.new W0 26 [.bool false, .slice none 0 0]); have RR := R0.keep h15; clear R0) | (have R0 := Row.new W0.drew 26 [.bool false, .slice none 0 0]; have RR := R0.keep h15; clear R0) | (have R0 := Row.new W0 26 [.bool false, .slice none 0 0]; have RR := R0.keep h15; clear R0) | (have R0 := Row.new w14 26 [.bool false, .slice none 0 0]; have RR := R0.keep h15; clear R0) | (have R0 := Row.new w16 26 [.bool false, .slice none 0 0]; have RR := R0.keep h15; clear R0) | (have R0 := Row.new w17 26 [.bool false, .slice none 0 0]; have RR := R0.keep h15; clear R0) | skip); obtain ⟨l15, hl15, _, hq15, hk15⟩ := id hv15))
        | (go_at_call 42; ((with_reducible refine (r2make_any false _ l15 _ (hl15.below ?_) (by omega)).mono ?_); (repeat (first | with_reducible exact Below.refl _ _ | ((with_reducible refine bl_set ?_ ?_ _); rotate_left; (first | exact Nat.le_refl _ | exact gz14 | exact gz15 | exact gz16 | exact gz17)) | with_reducible refine bl_call h17 ?_ | with_reducible refine bl_call h16 ?_ | with_reducible refine bl_call h15 ?_ | with_reducible refine bl_call h14 ?_ | with_reducible refine bl_alloc ?_ _ | with_reducible refine bl_drew ?_)); rintro e w16 ⟨v16, rfl, hv16, h16⟩; have gz16 : W0.heap.size ≤ w16.heap.size := (bl_call h16 (by (repeat (first | with_reducible exact Below.refl _ _ | ((with_reducible refine bl_set ?_ ?_ _); rotate_left; (first | exact Nat.le_refl _ | exact gz14 | exact gz15 | exact gz16 | exact gz17)) | with_reducible refine bl_call h17 ?_ | with_reducible refine bl_call h16 ?_ | with_reducible refine bl_call h15 ?_ | with_reducible refine bl_call h14 ?_ | with_reducible refine bl_alloc ?_ _ | with_reducible refine bl_drew ?_))) : Below W0.heap.size W0 w16).size; (first | (replace RR := RR.keep h16) | (have R0 := Row.drew (Row.new W0 26 [.bool false, .slice none 0 0]); have RR := R0.keep h16; clear R0) | (have R0 := Row.new W0.drew 26 [.bool false, .slice none 0 0]; have RR := R0.keep h16; clear R0) | (have R0 := Row.new W0 26 [.bool false, .slice none 0 0]; have RR := R0.keep h16; clear R0) | (have R0 := Row.new w14 26 [.bool false, .slice none 0 0]; have RR := R0.keep h16; clear R0) | (have R0 := Row.new w15 26 [.bool false, .slice none 0 0]; have RR := R0.keep h16; clear R0) | (have R0 := Row.new w17 26 [.bool false, .slice none 0 0]; have RR := R0.keep h16; clear R0) | skip); rw [show sg false (val l15) = (q' : Int) from (by rw [hq15]; rfl)] at hv16))
        | (go_at_call 41; ((with_reducible refine (r2mul_any _ _ p q' L L _ (hv14.intA.below ?_) ((hv16.intA.mono hk15).below ?_) (by omega) (by omega)).mono ?_); (repeat (first | with_reducible exact Below.refl _ _ | ((with_reducible refine bl_set ?_ ?_ _); rotate_left; (first | exact Nat.le_refl _ | exact gz14 | exact gz15 | exact gz16 | exact gz17)) | with_reducible refine bl_call h17 ?_ | with_reducible refine bl_call h16 ?_ | with_reducible refine bl_call h15 ?_ | with_reducible refine bl_call h14 ?_ | with_reducible refine bl_alloc ?_ _ | with_reducible refine bl_drew ?_)); (repeat (first | with_reducible exact Below.refl _ _ | ((with_reducible refine bl_set ?_ ?_ _); rotate_left; (first | exact Nat.le_refl _ | exact gz14 | exact gz15 | exact gz16 | exact gz17)) | with_reducible refine bl_call h17 ?_ | with_reducible refine bl_call h16 ?_ | with_reducible refine bl_call h15 ?_ | with_reducible refine bl_call h14 ?_ | with_reducible refine bl_alloc ?_ _ | with_reducible refine bl_drew ?_)); rintro e w17 ⟨v17, rfl, hR17, h17⟩; have gz17 : W0.heap.size ≤ w17.heap.size := (bl_call h17 (by (repeat (first | with_reducible exact Below.refl _ _ | ((with_reducible refine bl_set ?_ ?_ _); rotate_left; (first | exact Nat.le_refl _ | exact gz14 | exact gz15 | exact gz16 | exact gz17)) | with_reducible refine bl_call h17 ?_ | with_reducible refine bl_call h16 ?_ | with_reducible refine bl_call h15 ?_ | with_reducible refine bl_call h14 ?_ | with_reducible refine bl_alloc ?_ _ | with_reducible refine bl_drew ?_))) : Below W0.heap.size W0 w17).size; (first | (have zg := RR.lt; replace RR := RR.keep h17) | (have R0 := Row.drew (Row.new W0 26 [.bool false, .slice none 0 0]); have zg := R0.lt; have RR := R0.keep h17) | (have R0 := Row.new W0.drew 26 [.bool false, .slice none 0 0]; have zg := R0.lt; have RR := R0.keep h17) | (have R0 := Row.new W0 26 [.bool false, .slice none 0 0]; have zg := R0.lt; have RR := R0.keep h17) | (have R0 := Row.new w14 26 [.bool false, .slice none 0 0]; have zg := R0.lt; have RR := R0.keep h17) | (have R0 := Row.new w15 26 [.bool false, .slice none 0 0]; have zg := R0.lt; have RR := R0.keep h17) | (have R0 := Row.new w16 26 [.bool false, .slice none 0 0]; have zg := R0.lt; have RR := R0.keep h17) | skip); have hR17' := hR17; obtain ⟨m17, e17, hm17, _⟩ := hR17'; subst e17; obtain ⟨A5, k5, c5, rfl⟩ := hm17.lim1.choose_spec.1.show_; clear hm17; (try (have e0 := RR.cell 0; have e1 := RR.cell 1; simp only [List.getElem?_cons_zero, List.getElem?_cons_succ] at e0 e1; have f0 := RR.frozen 0; have f1 := RR.frozen 1)))))
    all_goals go_wp2_with fail
    all_goals go_meet
    all_goals go_light
    all_goals
      refine ⟨_, A5, k5, c5, rfl, ?_, ?_, ?_, ?_⟩
      · (first | exact Nat.le_refl _ | exact gz14 | exact gz15 | exact gz16 | exact gz17)
      · (first | exact Row.new _ _ _ | exact ((RR.set_ 0 _).set_ 1 _))
      · (first | exact (hR17.below (lit_below _ _)).base (bl_szR (by (repeat (first | with_reducible exact Below.refl _ _ | ((with_reducible refine bl_set ?_ ?_ _); rotate_left; (first | exact Nat.le_refl _ | exact gz14 | exact gz15 | exact gz16 | exact gz17)) | with_reducible refine bl_call h17 ?_ | with_reducible refine bl_call h16 ?_ | with_reducible refine bl_call h15 ?_ | with_reducible refine bl_call h14 ?_ | with_reducible refine bl_alloc ?_ _ | with_reducible refine bl_drew ?_)))) | exact (((hR17.set_ zg _).set_ zg _)).base (bl_szR (by (repeat (first | with_reducible exact Below.refl _ _ | ((with_reducible refine bl_set ?_ ?_ _); rotate_left; (first | exact Nat.le_refl _ | exact gz14 | exact gz15 | exact gz16 | exact gz17)) | with_reducible refine bl_call h17 ?_ | with_reducible refine bl_call h16 ?_ | with_reducible refine bl_call h15 ?_ | with_reducible refine bl_call h14 ?_ | with_reducible refine bl_alloc ?_ _ | with_reducible refine bl_drew ?_)))))
      · (repeat (first | with_reducible exact Below.refl _ _ | ((with_reducible refine bl_set ?_ ?_ _); rotate_left; (first | exact Nat.le_refl _ | exact gz14 | exact gz15 | exact gz16 | exact gz17)) | with_reducible refine bl_call h17 ?_ | with_reducible refine bl_call h16 ?_ | with_reducible refine bl_call h15 ?_ | with_reducible refine bl_call h14 ?_ | with_reducible refine bl_alloc ?_ _ | with_reducible refine bl_drew ?_))
  case rest =>
  obtain ⟨g5, A5, k5, c5, rfl, hg5, hr5, hv5, hbc⟩ := hcut
  clear qs0 qs1 qs2 qs3 qs4 qs5 zs0 zs1 c10 c11 c12 c20 c21 c22 z1 z2
  obtain ⟨x1, hx1⟩ : ∃ x, x = wc := ⟨_, rfl⟩
  rw [← hx1] at hr5 hv5 hbc ⊢
  clear hx1
  have o1_5 : w.heap.size < g5 := by have := hr1.lt; omega
  have o2_5 : w.heap.size + 1 < g5 := by have := hr2.lt; omega
  have ob_5 : w.heap.size ≤ g5 := by have := BB.size; omega
  replace hr1 := hr1.keep hbc
  replace hr2 := hr2.keep hbc
  replace ha := ha.below hbc
  replace hb := hb.below hbc
  replace BB : Below w.heap.size w x1 := BB.trans (hbc.mono BB.size)
  clear hbc
  have c10 : x1.cell? ⟨w.heap.size, 0, none⟩ = some (.bool na) := hr1.cell 0
  have c11 : x1.cell? ⟨w.heap.size, 1, none⟩ = some (.slice A n c) := hr1.cell 1
  have c12 : x1.cell? ⟨w.heap.size, 2, none⟩ = some (.slice B m d) := hr1.cell 2
  have c20 : x1.cell? ⟨w.heap.size + 1, 0, none⟩ = some (.bool nb) := hr2.cell 0
  have c21 : x1.cell? ⟨w.heap.size + 1, 1, none⟩ = some (.slice A' n' c') := hr2.cell 1
  have c22 : x1.cell? ⟨w.heap.size + 1, 2, none⟩ = some (.slice B' m' d') := hr2.cell 2
  have c50 : x1.cell? ⟨g5, 0, none⟩ = some (.bool (decide (p * (q' : Int) < 0))) := hr5.cell 0
  have c51 : x1.cell? ⟨g5, 1, none⟩ = some (.slice A5 k5 c5) := hr5.cell 1
  have z1 := hr1.lt
  have z2 := hr2.lt
  have z5 := hr5.lt
  go_wp2_with fail
  have qs0 : x1.cell? ⟨w.heap.size, 0, none⟩ = some (.bool na) := hr1.cell 0
  have qs1 : x1.cell? ⟨w.heap.size, 1, none⟩ = some (.slice A n c) := hr1.cell 1
  have qs2 : x1.cell? ⟨w.heap.size, 2, none⟩ = some (.slice B m d) := hr1.cell 2
  have qs3 : x1.cell? ⟨w.heap.size + 1, 0, none⟩ = some (.bool nb) := hr2.cell 0
  have qs4 : x1.cell? ⟨w.heap.size + 1, 1, none⟩ = some (.slice A' n' c') := hr2.cell 1
  have qs5 : x1.cell? ⟨w.heap.size + 1, 2, none⟩ = some (.slice B' m' d') := hr2.cell 2
  have zs0 := hr1.lt
  have zs1 := hr2.lt
  go_cut [6] (fun s0 wx => ∃ (g : Nat) (A6 : Option Addr) (k6 c6 : Nat), s0 = .pointer (some ⟨g, 0, none⟩) ∧ x1.heap.size ≤ g ∧ Row wx g 26 [.bool (decide (p' * (q : Int) < 0)), .slice A6 k6 c6] ∧ IntF x1.heap.size wx (.agg #[.bool (decide (p' * (q : Int) < 0)), .slice A6 k6 c6]) (p' * (q : Int)) (L + L) ∧ Below x1.heap.size x1 wx)
  case first =>
    go_region_held3 (fun w' => w'.cell? ⟨w.heap.size, 0, none⟩ = some (.bool na) ∧ w'.cell? ⟨w.heap.size, 1, none⟩ = some (.slice A n c) ∧ w'.cell? ⟨w.heap.size, 2, none⟩ = some (.slice B m d) ∧ w'.cell? ⟨w.heap.size + 1, 0, none⟩ = some (.bool nb) ∧ w'.cell? ⟨w.heap.size + 1, 1, none⟩ = some (.slice A' n' c') ∧ w'.cell? ⟨w.heap.size + 1, 2, none⟩ = some (.slice B' m' d'))
      ((refine keep6R zs0 zs0 zs0 zs1 zs1 zs1 qs0 qs1 qs2 qs3 qs4 qs5 ?_; (repeat (first | with_reducible exact Below.refl _ _ | ((with_reducible refine bl_set ?_ ?_ _); rotate_left; (first | exact Nat.le_refl _ | exact gz14 | exact gz15 | exact gz16 | exact gz17)) | with_reducible refine bl_call h17 ?_ | with_reducible refine bl_call h16 ?_ | with_reducible refine bl_call h15 ?_ | with_reducible refine bl_call h14 ?_ | with_reducible refine bl_alloc ?_ _ | with_reducible refine bl_drew ?_)); done))
      (first
        | (go_at_call 40; ((with_reducible refine (r3top_any _ p' q' L _ (hb.below ?_) hL hM).mono ?_); (repeat (first | with_reducible exact Below.refl _ _ | ((with_reducible refine bl_set ?_ ?_ _); rotate_left; (first | exact Nat.le_refl _ | exact gz14 | exact gz15 | exact gz16 | exact gz17)) | with_reducible refine bl_call h17 ?_ | with_reducible refine bl_call h16 ?_ | with_reducible refine bl_call h15 ?_ | with_reducible refine bl_call h14 ?_ | with_reducible refine bl_alloc ?_ _ | with_reducible refine bl_drew ?_)); rintro e w14 ⟨v14, rfl, hv14, h14⟩; have gz14 : x1.heap.size ≤ w14.heap.size := (bl_call h14 (by (repeat (first | with_reducible exact Below.refl _ _ | ((with_reducible refine bl_set ?_ ?_ _); rotate_left; (first | exact Nat.le_refl _ | exact gz14 | exact gz15 | exact gz16 | exact gz17)) | with_reducible refine bl_call h17 ?_ | with_reducible refine bl_call h16 ?_ | with_reducible refine bl_call h15 ?_ | with_reducible refine bl_call h14 ?_ | with_reducible refine bl_alloc ?_ _ | with_reducible refine bl_drew ?_))) : Below x1.heap.size x1 w14).size; (first | (replace RR := RR.keep h14) | (have R0 := Row.drew (Row.new x1 26 [.bool false, .slice none 0 0]); have RR := R0.keep h14; clear R0) | (have R0 := Row.new x1.drew 26 [.bool false, .slice none 0 0]; have RR := R0.keep h14; clear R0) | (have R0 := Row.new x1 26 [.bool false, .slice none 0 0]; have RR := R0.keep h14; clear R0) | (have R0 := Row.new w15 26 [.bool false, .slice none 0 0]; have RR := R0.keep h14; clear R0) | (have R0 := Row.new w16 26 [.bool false, .slice none 0 0]; have RR := R0.keep h14; clear R0) | (have R0 := Row.new w17 26 [.bool false, .slice none 0 0]; have RR := R0.keep h14; clear R0) | skip)))
        | (go_at_call 43; ((with_reducible refine (r3low_any _ p q L _ (ha.below ?_) hL hM).mono ?_); (repeat (first | with_reducible exact Below.refl _ _ | ((with_reducible refine bl_set ?_ ?_ _); rotate_left; (first | exact Nat.le_refl _ | exact gz14 | exact gz15 | exact gz16 | exact gz17)) | with_reducible refine bl_call h17 ?_ | with_reducible refine bl_call h16 ?_ | with_reducible refine bl_call h15 ?_ | with_reducible refine bl_call h14 ?_ | with_reducible refine bl_alloc ?_ _ | with_reducible refine bl_drew ?_)); rintro e w15 ⟨v15, rfl, hv15, hf15, h15⟩; have gz15 : x1.heap.size ≤ w15.heap.size := (bl_call h15 (by (repeat (first | with_reducible exact Below.refl _ _ | ((with_reducible refine bl_set ?_ ?_ _); rotate_left; (first | exact Nat.le_refl _ | exact gz14 | exact gz15 | exact gz16 | exact gz17)) | with_reducible refine bl_call h17 ?_ | with_reducible refine bl_call h16 ?_ | with_reducible refine bl_call h15 ?_ | with_reducible refine bl_call h14 ?_ | with_reducible refine bl_alloc ?_ _ | with_reducible refine bl_drew ?_))) : Below x1.heap.size x1 w15).size; (first | (replace RR := RR.keep h15) | (have R0 := Row.drew (Row.new x1 26 [.bool false, .slice none 0 0]); have RR := R0.keep h15; clear R0) | (have R0 := Row.new x1.drew 26 [.bool false, .slice none 0 0]; have RR := R0.keep h15; clear R0) | (have R0 := Row.new x1 26 [.bool false, .slice none 0 0]; have RR := R0.keep h15; clear R0) | (have R0 := Row.new w14 26 [.bool false, .slice none 0 0]; have RR := R0.keep h15; clear R0) | (have R0 := Row.new w16 26 [.bool false, .slice none 0 0]; have RR := R0.keep h15; clear R0) | (have R0 := Row.new w17 26 [.bool false, .slice none 0 0]; have RR := R0.keep h15; clear R0) | skip); obtain ⟨l15, hl15, _, hq15, hk15⟩ := id hv15))
        | (go_at_call 42; ((with_reducible refine (r2make_any false _ l15 _ (hl15.below ?_) (by omega)).mono ?_); (repeat (first | with_reducible exact Below.refl _ _ | ((with_reducible refine bl_set ?_ ?_ _); rotate_left; (first | exact Nat.le_refl _ | exact gz14 | exact gz15 | exact gz16 | exact gz17)) | with_reducible refine bl_call h17 ?_ | with_reducible refine bl_call h16 ?_ | with_reducible refine bl_call h15 ?_ | with_reducible refine bl_call h14 ?_ | with_reducible refine bl_alloc ?_ _ | with_reducible refine bl_drew ?_)); rintro e w16 ⟨v16, rfl, hv16, h16⟩; have gz16 : x1.heap.size ≤ w16.heap.size := (bl_call h16 (by (repeat (first | with_reducible exact Below.refl _ _ | ((with_reducible refine bl_set ?_ ?_ _); rotate_left; (first | exact Nat.le_refl _ | exact gz14 | exact gz15 | exact gz16 | exact gz17)) | with_reducible refine bl_call h17 ?_ | with_reducible refine bl_call h16 ?_ | with_reducible refine bl_call h15 ?_ | with_reducible refine bl_call h14 ?_ | with_reducible refine bl_alloc ?_ _ | with_reducible refine bl_drew ?_))) : Below x1.heap.size x1 w16).size; (first | (replace RR := RR.keep h16) | (have R0 := Row.drew (Row.new x1 26 [.bool false, .slice none 0 0]); have RR := R0.keep h16; clear R0) | (have R0 := Row.new x1.drew 26 [.bool false, .slice none 0 0]; have RR := R0.keep h16; clear R0) | (have R0 := Row.new x1 26 [.bool false, .slice none 0 0]; have RR := R0.keep h16; clear R0) | (have R0 := Row.new w14 26 [.bool false, .slice none 0 0]; have RR := R0.keep h16; clear R0) | (have R0 := Row.new w15 26 [.bool false, .slice none 0 0]; have RR := R0.keep h16; clear R0) | (have R0 := Row.new w17 26 [.bool false, .slice none 0 0]; have RR := R0.keep h16; clear R0) | skip); rw [show sg false (val l15) = (q : Int) from (by rw [hq15]; rfl)] at hv16))
        | (go_at_call 41; ((with_reducible refine (r2mul_any _ _ p' q L L _ (hv14.intA.below ?_) ((hv16.intA.mono hk15).below ?_) (by omega) (by omega)).mono ?_); (repeat (first | with_reducible exact Below.refl _ _ | ((with_reducible refine bl_set ?_ ?_ _); rotate_left; (first | exact Nat.le_refl _ | exact gz14 | exact gz15 | exact gz16 | exact gz17)) | with_reducible refine bl_call h17 ?_ | with_reducible refine bl_call h16 ?_ | with_reducible refine bl_call h15 ?_ | with_reducible refine bl_call h14 ?_ | with_reducible refine bl_alloc ?_ _ | with_reducible refine bl_drew ?_)); (repeat (first | with_reducible exact Below.refl _ _ | ((with_reducible refine bl_set ?_ ?_ _); rotate_left; (first | exact Nat.le_refl _ | exact gz14 | exact gz15 | exact gz16 | exact gz17)) | with_reducible refine bl_call h17 ?_ | with_reducible refine bl_call h16 ?_ | with_reducible refine bl_call h15 ?_ | with_reducible refine bl_call h14 ?_ | with_reducible refine bl_alloc ?_ _ | with_reducible refine bl_drew ?_)); rintro e w17 ⟨v17, rfl, hR17, h17⟩; have gz17 : x1.heap.size ≤ w17.heap.size := (bl_call h17 (by (repeat (first | with_reducible exact Below.refl _ _ | ((with_reducible refine bl_set ?_ ?_ _); rotate_left; (first | exact Nat.le_refl _ | exact gz14 | exact gz15 | exact gz16 | exact gz17)) | with_reducible refine bl_call h17 ?_ | with_reducible refine bl_call h16 ?_ | with_reducible refine bl_call h15 ?_ | with_reducible refine bl_call h14 ?_ | with_reducible refine bl_alloc ?_ _ | with_reducible refine bl_drew ?_))) : Below x1.heap.size x1 w17).size; (first | (have zg := RR.lt; replace RR := RR.keep h17) | (have R0 := Row.drew (Row.new x1 26 [.bool false, .slice none 0 0]); have zg := R0.lt; have RR := R0.keep h17) | (have R0 := Row.new x1.drew 26 [.bool false, .slice none 0 0]; have zg := R0.lt; have RR := R0.keep h17) | (have R0 := Row.new x1 26 [.bool false, .slice none 0 0]; have zg := R0.lt; have RR := R0.keep h17) | (have R0 := Row.new w14 26 [.bool false, .slice none 0 0]; have zg := R0.lt; have RR := R0.keep h17) | (have R0 := Row.new w15 26 [.bool false, .slice none 0 0]; have zg := R0.lt; have RR := R0.keep h17) | (have R0 := Row.new w16 26 [.bool false, .slice none 0 0]; have zg := R0.lt; have RR := R0.keep h17) | skip); have hR17' := hR17; obtain ⟨m17, e17, hm17, _⟩ := hR17'; subst e17; obtain ⟨A6, k6, c6, rfl⟩ := hm17.lim1.choose_spec.1.show_; clear hm17; (try (have e0 := RR.cell 0; have e1 := RR.cell 1; simp only [List.getElem?_cons_zero, List.getElem?_cons_succ] at e0 e1; have f0 := RR.frozen 0; have f1 := RR.frozen 1)))))
    all_goals go_wp2_with fail
    all_goals go_meet
    all_goals go_light
    all_goals
      refine ⟨_, A6, k6, c6, rfl, ?_, ?_, ?_, ?_⟩
      · (first | exact Nat.le_refl _ | exact gz14 | exact gz15 | exact gz16 | exact gz17)
      · (first | exact Row.new _ _ _ | exact ((RR.set_ 0 _).set_ 1 _))
      · (first | exact (hR17.below (lit_below _ _)).base (bl_szR (by (repeat (first | with_reducible exact Below.refl _ _ | ((with_reducible refine bl_set ?_ ?_ _); rotate_left; (first | exact Nat.le_refl _ | exact gz14 | exact gz15 | exact gz16 | exact gz17)) | with_reducible refine bl_call h17 ?_ | with_reducible refine bl_call h16 ?_ | with_reducible refine bl_call h15 ?_ | with_reducible refine bl_call h14 ?_ | with_reducible refine bl_alloc ?_ _ | with_reducible refine bl_drew ?_)))) | exact (((hR17.set_ zg _).set_ zg _)).base (bl_szR (by (repeat (first | with_reducible exact Below.refl _ _ | ((with_reducible refine bl_set ?_ ?_ _); rotate_left; (first | exact Nat.le_refl _ | exact gz14 | exact gz15 | exact gz16 | exact gz17)) | with_reducible refine bl_call h17 ?_ | with_reducible refine bl_call h16 ?_ | with_reducible refine bl_call h15 ?_ | with_reducible refine bl_call h14 ?_ | with_reducible refine bl_alloc ?_ _ | with_reducible refine bl_drew ?_)))))
      · (repeat (first | with_reducible exact Below.refl _ _ | ((with_reducible refine bl_set ?_ ?_ _); rotate_left; (first | exact Nat.le_refl _ | exact gz14 | exact gz15 | exact gz16 | exact gz17)) | with_reducible refine bl_call h17 ?_ | with_reducible refine bl_call h16 ?_ | with_reducible refine bl_call h15 ?_ | with_reducible refine bl_call h14 ?_ | with_reducible refine bl_alloc ?_ _ | with_reducible refine bl_drew ?_))
  case rest =>
  obtain ⟨g6, A6, k6, c6, rfl, hg6, hr6, hv6, hbc⟩ := hcut
  clear qs0 qs1 qs2 qs3 qs4 qs5 zs0 zs1 c10 c11 c12 c20 c21 c22 c50 c51 z1 z2 z5
  obtain ⟨x2, hx2⟩ : ∃ x, x = wc := ⟨_, rfl⟩
  rw [← hx2] at hr6 hv6 hbc ⊢
  clear hx2
  have o1_6 : w.heap.size < g6 := by have := hr1.lt; omega
  have o2_6 : w.heap.size + 1 < g6 := by have := hr2.lt; omega
  have o5_6 : g5 < g6 := by have := hr5.lt; omega
  have ob_6 : w.heap.size ≤ g6 := by have := BB.size; omega
  replace hr1 := hr1.keep hbc
  replace hr2 := hr2.keep hbc
  replace ha := ha.below hbc
  replace hb := hb.below hbc
  replace hr5 := hr5.keep hbc
  replace hv5 := hv5.below hbc
  replace BB : Below w.heap.size w x2 := BB.trans (hbc.mono BB.size)
  clear hbc
  clear ha hb
  have c10 : x2.cell? ⟨w.heap.size, 0, none⟩ = some (.bool na) := hr1.cell 0
  have c11 : x2.cell? ⟨w.heap.size, 1, none⟩ = some (.slice A n c) := hr1.cell 1
  have c12 : x2.cell? ⟨w.heap.size, 2, none⟩ = some (.slice B m d) := hr1.cell 2
  have c20 : x2.cell? ⟨w.heap.size + 1, 0, none⟩ = some (.bool nb) := hr2.cell 0
  have c21 : x2.cell? ⟨w.heap.size + 1, 1, none⟩ = some (.slice A' n' c') := hr2.cell 1
  have c22 : x2.cell? ⟨w.heap.size + 1, 2, none⟩ = some (.slice B' m' d') := hr2.cell 2
  have c50 : x2.cell? ⟨g5, 0, none⟩ = some (.bool (decide (p * (q' : Int) < 0))) := hr5.cell 0
  have c51 : x2.cell? ⟨g5, 1, none⟩ = some (.slice A5 k5 c5) := hr5.cell 1
  have c60 : x2.cell? ⟨g6, 0, none⟩ = some (.bool (decide (p' * (q : Int) < 0))) := hr6.cell 0
  have c61 : x2.cell? ⟨g6, 1, none⟩ = some (.slice A6 k6 c6) := hr6.cell 1
  have z1 := hr1.lt
  have z2 := hr2.lt
  have z5 := hr5.lt
  have z6 := hr6.lt
  go_wp2_with fail
  clear c10 c11 c12 c20 c21 c22 c50 c51 c60 c61 z1 z2 z5 z6
  refine (r2cmp_any _ _ _ _ (L + L) (L + L) _ hv5.intA hv6.intA (by omega) (by omega)).mono ?_
  rintro e x3 ⟨rfl, hb⟩
  replace hr1 := hr1.keep hb
  replace hr2 := hr2.keep hb
  replace hr5 := hr5.keep hb
  replace hv5 := hv5.below hb
  replace hr6 := hr6.keep hb
  replace hv6 := hv6.below hb
  replace BB : Below w.heap.size w x3 := BB.trans (hb.mono BB.size)
  clear hb
  have c10 : x3.cell? ⟨w.heap.size, 0, none⟩ = some (.bool na) := hr1.cell 0
  have c11 : x3.cell? ⟨w.heap.size, 1, none⟩ = some (.slice A n c) := hr1.cell 1
  have c12 : x3.cell? ⟨w.heap.size, 2, none⟩ = some (.slice B m d) := hr1.cell 2
  have c20 : x3.cell? ⟨w.heap.size + 1, 0, none⟩ = some (.bool nb) := hr2.cell 0
  have c21 : x3.cell? ⟨w.heap.size + 1, 1, none⟩ = some (.slice A' n' c') := hr2.cell 1
  have c22 : x3.cell? ⟨w.heap.size + 1, 2, none⟩ = some (.slice B' m' d') := hr2.cell 2
  have c50 : x3.cell? ⟨g5, 0, none⟩ = some (.bool (decide (p * (q' : Int) < 0))) := hr5.cell 0
  have c51 : x3.cell? ⟨g5, 1, none⟩ = some (.slice A5 k5 c5) := hr5.cell 1
  have c60 : x3.cell? ⟨g6, 0, none⟩ = some (.bool (decide (p' * (q : Int) < 0))) := hr6.cell 0
  have c61 : x3.cell? ⟨g6, 1, none⟩ = some (.slice A6 k6 c6) := hr6.cell 1
  have z1 := hr1.lt
  have z2 := hr2.lt
  have z5 := hr5.lt
  have z6 := hr6.lt
  go_wp2_with fail
  clear c10 c11 c12 c20 c21 c22 c50 c51 c60 c61 z1 z2 z5 z6
  go_ret
  exact ⟨rfl, BB⟩
end Go.Proofs.YtfoleamcaflfeaaGreatDoor
