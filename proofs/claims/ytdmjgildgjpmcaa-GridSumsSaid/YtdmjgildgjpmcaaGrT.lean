/- The walk of GridSums. -/
import Derived.Test.YtdmjgildgjpmcaaRg5
import Derived.Test.YtdmjgildgjpmcaaSm
import Derived.Test.YtdmjgildgjpmcaaLrg
namespace Go.Proofs.Ytdmjgildgjpmcaa
open Go.RowKit
set_option linter.unusedVariables false
set_option maxRecDepth 100000

set_option maxHeartbeats 8000000 in
theorem sms_core (pv rv wv : Value) (ps rs : List Int) (lss : List (List Nat)) (w : World) (hp : Nums .i64 w pv ps) (hr : Nums .i64 w rv rs) (hw : LimL w wv lss) (E P PV : Int) (Q QV LA LB LC LD : Nat) (h20 : ∀ l ∈ lss, l.length ≤ 20)
    (hM1 : ∀ W, Below w.heap.size w W → Calls Try.prog 19 #[.agg #[pv, rv], wv] W fun e w' => ∃ x, e = .returned (.tuple #[x, .int .i64 E]) ∧ RatF W.heap.size w' x P Q LA ∧ Below W.heap.size W w')
    (hM2 : ∀ W, Below w.heap.size w W → Calls Try.prog 20 #[.agg #[pv, rv], wv] W fun e w' => ∃ x, e = .returned (.tuple #[x, .int .i64 E]) ∧ RatF W.heap.size w' x P Q LB ∧ Below W.heap.size W w')
    (hV1 : ∀ W, Below w.heap.size w W → Calls Try.prog 22 #[.agg #[pv, rv], wv] W fun e w' => ∃ x, e = .returned (.tuple #[x, .int .i64 E]) ∧ RatF W.heap.size w' x PV QV LC ∧ Below W.heap.size W w')
    (hV2 : ∀ W, Below w.heap.size w W → Calls Try.prog 23 #[.agg #[pv, rv], wv] W fun e w' => ∃ x, e = .returned (.tuple #[x, .int .i64 E]) ∧ RatF W.heap.size w' x PV QV LD ∧ Below W.heap.size W w') :
    Calls Try.prog 5 #[.agg #[pv, rv], wv] w fun e w' => e = .returned (.bool true) ∧ Below w.heap.size w w' := by
  have HM1 := Lib.hid hM1
  have HM2 := Lib.hid hM2
  have HV1 := Lib.hid hV1
  have HV2 := Lib.hid hV2
  have hlg : ∀ W : World, Below w.heap.size w W → Calls Try.prog 18 #[wv] W fun e w' => e = .returned (.bool false) ∧ Below W.heap.size W w' := fun W h => (large_any wv lss W (hw.below h)).mono fun e w' h => by
    obtain ⟨h, rfl⟩ := h
    rcases h with ⟨_, l, hl, h2⟩ | ⟨h, _⟩
    · exact absurd (h20 l hl) (by omega)
    · exact ⟨h, Below.refl _ _⟩
  have HLG := Lib.hid hlg
  clear hM1 hM2 hV1 hV2 hlg h20
  have heq : (E == E) = true := by simp
  have hne : (E != E) = false := by simp
  obtain ⟨PA, pc, rfl, hpc, hpm, hps⟩ := hp
  obtain ⟨RV, vc, rfl, hvc, hvm, hvs⟩ := hr
  obtain ⟨WA, wc, us, rfl, hwc, hwm, hws, hwu⟩ := hw
  clear hwu
  obtain ⟨W0, hW0⟩ : ∃ W0 : World, W0 = w.alloc (.cells #[.slice PA ps.length pc, .slice RV rs.length vc] 24) := ⟨_, rfl⟩
  have r0 : Row W0 w.heap.size 24 [.slice PA ps.length pc, .slice RV rs.length vc] := by
    rw [hW0]
    have := Row.new w 24 [.slice PA ps.length pc, .slice RV rs.length vc]
    simpa using this
  have B0 : Below w.heap.size w W0 := by rw [hW0]; exact ((Below.refl _ _).alloc (Nat.le_refl _) _)
  go_enter Try.func5, Try.ntmps5
  go_wp2_with fail
  rw [← hW0]
  clear hW0
  have BB := B0
  have hr2 := r0
  clear B0 r0
  have c20 : W0.cell? ⟨w.heap.size, 0, none⟩ = some (.slice PA ps.length pc) := hr2.cell 0
  have c21 : W0.cell? ⟨w.heap.size, 1, none⟩ = some (.slice RV rs.length vc) := hr2.cell 1
  have z2 := hr2.lt
  go_wp2_with fail
  clear c20 c21 z2
  refine (HLG.out _ BB).mono ?_
  rintro e x1 ⟨rfl, hb⟩
  replace hr2 := hr2.keep hb
  replace BB : Below w.heap.size w x1 := BB.trans (hb.mono BB.size)
  clear hb
  have c20 : x1.cell? ⟨w.heap.size, 0, none⟩ = some (.slice PA ps.length pc) := hr2.cell 0
  have c21 : x1.cell? ⟨w.heap.size, 1, none⟩ = some (.slice RV rs.length vc) := hr2.cell 1
  have z2 := hr2.lt
  go_wp2_with fail
  clear c20 c21 z2
  refine (HM1.out _ BB).mono ?_
  rintro e x2 ⟨v5, rfl, hv5, hb⟩
  replace hr2 := hr2.keep hb
  replace BB : Below w.heap.size w x2 := BB.trans (hb.mono BB.size)
  clear hb
  have h5' := hv5
  obtain ⟨m5, d5, e5, hm5, hd5, _, _⟩ := h5'
  subst e5
  obtain ⟨A5, k5, c5, rfl⟩ := hm5.lim1.choose_spec.1.show_
  obtain ⟨D5, l5, b5, rfl⟩ := hd5.lim1.choose_spec.1.show_
  clear hm5 hd5
  obtain ⟨g5, hg5⟩ : ∃ g, x2.heap.size = g := ⟨_, rfl⟩
  have hr5 : Row (x2.alloc (.cells #[.bool (decide (P < 0)), .slice A5 k5 c5, .slice D5 l5 b5] 42)) g5 42 [.bool (decide (P < 0)), .slice A5 k5 c5, .slice D5 l5 b5] := row_at hg5
  have hl := lit_below x2 (.cells #[.bool (decide (P < 0)), .slice A5 k5 c5, .slice D5 l5 b5] 42)
  have o2_5 : w.heap.size < g5 := by have := hr2.lt; omega
  have ob_5 : w.heap.size ≤ g5 := by have := BB.size; omega
  have c20 : x2.cell? ⟨w.heap.size, 0, none⟩ = some (.slice PA ps.length pc) := hr2.cell 0
  have c21 : x2.cell? ⟨w.heap.size, 1, none⟩ = some (.slice RV rs.length vc) := hr2.cell 1
  have d20 : (x2.alloc (.cells #[.bool (decide (P < 0)), .slice A5 k5 c5, .slice D5 l5 b5] 42)).cell? ⟨w.heap.size, 0, none⟩ = some (.slice PA ps.length pc) := (hr2.alloc _).cell 0
  have d21 : (x2.alloc (.cells #[.bool (decide (P < 0)), .slice A5 k5 c5, .slice D5 l5 b5] 42)).cell? ⟨w.heap.size, 1, none⟩ = some (.slice RV rs.length vc) := (hr2.alloc _).cell 1
  have e0 : (x2.alloc (.cells #[.bool (decide (P < 0)), .slice A5 k5 c5, .slice D5 l5 b5] 42)).cell? ⟨g5, 0, none⟩ = some (.bool (decide (P < 0))) := hr5.cell 0
  have e1 : (x2.alloc (.cells #[.bool (decide (P < 0)), .slice A5 k5 c5, .slice D5 l5 b5] 42)).cell? ⟨g5, 1, none⟩ = some (.slice A5 k5 c5) := hr5.cell 1
  have e2 : (x2.alloc (.cells #[.bool (decide (P < 0)), .slice A5 k5 c5, .slice D5 l5 b5] 42)).cell? ⟨g5, 2, none⟩ = some (.slice D5 l5 b5) := hr5.cell 2
  go_wp2_with fail
  clear c20 c21 d20 d21 e0 e1 e2
  clear hg5
  generalize (x2.alloc (.cells #[.bool (decide (P < 0)), .slice A5 k5 c5, .slice D5 l5 b5] 42)) = x3 at *
  replace hr2 := hr2.keep hl
  replace hv5 := hv5.below hl
  replace BB : Below w.heap.size w x3 := BB.trans (hl.mono BB.size)
  clear hl
  refine (HM2.out _ BB).mono ?_
  rintro e x4 ⟨v7, rfl, hv7, hb⟩
  replace hr2 := hr2.keep hb
  replace hv5 := hv5.below hb
  replace hr5 := hr5.keep hb
  replace BB : Below w.heap.size w x4 := BB.trans (hb.mono BB.size)
  clear hb
  have h7' := hv7
  obtain ⟨m7, d7, e7, hm7, hd7, _, _⟩ := h7'
  subst e7
  obtain ⟨A7, k7, c7, rfl⟩ := hm7.lim1.choose_spec.1.show_
  obtain ⟨D7, l7, b7, rfl⟩ := hd7.lim1.choose_spec.1.show_
  clear hm7 hd7
  obtain ⟨g7, hg7⟩ : ∃ g, x4.heap.size = g := ⟨_, rfl⟩
  have hr7 : Row (x4.alloc (.cells #[.bool (decide (P < 0)), .slice A7 k7 c7, .slice D7 l7 b7] 42)) g7 42 [.bool (decide (P < 0)), .slice A7 k7 c7, .slice D7 l7 b7] := row_at hg7
  have hl := lit_below x4 (.cells #[.bool (decide (P < 0)), .slice A7 k7 c7, .slice D7 l7 b7] 42)
  have o2_7 : w.heap.size < g7 := by have := hr2.lt; omega
  have o5_7 : g5 < g7 := by have := hr5.lt; omega
  have ob_7 : w.heap.size ≤ g7 := by have := BB.size; omega
  have c20 : x4.cell? ⟨w.heap.size, 0, none⟩ = some (.slice PA ps.length pc) := hr2.cell 0
  have c21 : x4.cell? ⟨w.heap.size, 1, none⟩ = some (.slice RV rs.length vc) := hr2.cell 1
  have c50 : x4.cell? ⟨g5, 0, none⟩ = some (.bool (decide (P < 0))) := hr5.cell 0
  have c51 : x4.cell? ⟨g5, 1, none⟩ = some (.slice A5 k5 c5) := hr5.cell 1
  have c52 : x4.cell? ⟨g5, 2, none⟩ = some (.slice D5 l5 b5) := hr5.cell 2
  have d20 : (x4.alloc (.cells #[.bool (decide (P < 0)), .slice A7 k7 c7, .slice D7 l7 b7] 42)).cell? ⟨w.heap.size, 0, none⟩ = some (.slice PA ps.length pc) := (hr2.alloc _).cell 0
  have d21 : (x4.alloc (.cells #[.bool (decide (P < 0)), .slice A7 k7 c7, .slice D7 l7 b7] 42)).cell? ⟨w.heap.size, 1, none⟩ = some (.slice RV rs.length vc) := (hr2.alloc _).cell 1
  have d50 : (x4.alloc (.cells #[.bool (decide (P < 0)), .slice A7 k7 c7, .slice D7 l7 b7] 42)).cell? ⟨g5, 0, none⟩ = some (.bool (decide (P < 0))) := (hr5.alloc _).cell 0
  have d51 : (x4.alloc (.cells #[.bool (decide (P < 0)), .slice A7 k7 c7, .slice D7 l7 b7] 42)).cell? ⟨g5, 1, none⟩ = some (.slice A5 k5 c5) := (hr5.alloc _).cell 1
  have d52 : (x4.alloc (.cells #[.bool (decide (P < 0)), .slice A7 k7 c7, .slice D7 l7 b7] 42)).cell? ⟨g5, 2, none⟩ = some (.slice D5 l5 b5) := (hr5.alloc _).cell 2
  have e0 : (x4.alloc (.cells #[.bool (decide (P < 0)), .slice A7 k7 c7, .slice D7 l7 b7] 42)).cell? ⟨g7, 0, none⟩ = some (.bool (decide (P < 0))) := hr7.cell 0
  have e1 : (x4.alloc (.cells #[.bool (decide (P < 0)), .slice A7 k7 c7, .slice D7 l7 b7] 42)).cell? ⟨g7, 1, none⟩ = some (.slice A7 k7 c7) := hr7.cell 1
  have e2 : (x4.alloc (.cells #[.bool (decide (P < 0)), .slice A7 k7 c7, .slice D7 l7 b7] 42)).cell? ⟨g7, 2, none⟩ = some (.slice D7 l7 b7) := hr7.cell 2
  go_wp2_with fail
  clear c20 c21 c50 c51 c52 d20 d21 d50 d51 d52 e0 e1 e2
  clear hg7
  generalize (x4.alloc (.cells #[.bool (decide (P < 0)), .slice A7 k7 c7, .slice D7 l7 b7] 42)) = x5 at *
  replace hr2 := hr2.keep hl
  replace hv5 := hv5.below hl
  replace hr5 := hr5.keep hl
  replace hv7 := hv7.below hl
  replace BB : Below w.heap.size w x5 := BB.trans (hl.mono BB.size)
  clear hl
  refine (qsame_yes _ _ _ _ _ _ _ _ _ hv5 hv7).mono ?_
  rintro e x6 ⟨rfl, hb⟩
  replace hr2 := hr2.keep hb
  replace hv5 := hv5.below hb
  replace hr5 := hr5.keep hb
  replace hv7 := hv7.below hb
  replace hr7 := hr7.keep hb
  replace BB : Below w.heap.size w x6 := BB.trans (hb.mono BB.size)
  clear hb
  clear hv5 hv7
  have c20 : x6.cell? ⟨w.heap.size, 0, none⟩ = some (.slice PA ps.length pc) := hr2.cell 0
  have c21 : x6.cell? ⟨w.heap.size, 1, none⟩ = some (.slice RV rs.length vc) := hr2.cell 1
  have c50 : x6.cell? ⟨g5, 0, none⟩ = some (.bool (decide (P < 0))) := hr5.cell 0
  have c51 : x6.cell? ⟨g5, 1, none⟩ = some (.slice A5 k5 c5) := hr5.cell 1
  have c52 : x6.cell? ⟨g5, 2, none⟩ = some (.slice D5 l5 b5) := hr5.cell 2
  have c70 : x6.cell? ⟨g7, 0, none⟩ = some (.bool (decide (P < 0))) := hr7.cell 0
  have c71 : x6.cell? ⟨g7, 1, none⟩ = some (.slice A7 k7 c7) := hr7.cell 1
  have c72 : x6.cell? ⟨g7, 2, none⟩ = some (.slice D7 l7 b7) := hr7.cell 2
  have f50 : x6.frozen? ⟨g5, 0, none⟩ = false := hr5.frozen 0
  have f51 : x6.frozen? ⟨g5, 1, none⟩ = false := hr5.frozen 1
  have f52 : x6.frozen? ⟨g5, 2, none⟩ = false := hr5.frozen 2
  have f70 : x6.frozen? ⟨g7, 0, none⟩ = false := hr7.frozen 0
  have f71 : x6.frozen? ⟨g7, 1, none⟩ = false := hr7.frozen 1
  have f72 : x6.frozen? ⟨g7, 2, none⟩ = false := hr7.frozen 2
  have z2 := hr2.lt
  have z5 := hr5.lt
  have z7 := hr7.lt
  go_wp2_with fail
  clear c20 c21 c50 c51 c52 c70 c71 c72 f50 f51 f52 f70 f71 f72 z2 z5 z7
  refine (HV1.out _ BB).mono ?_
  have y5 := hr5.lt
  have y7 := hr7.lt
  rintro e x7 ⟨v15, rfl, hv15, hb⟩
  replace hr2 := hr2.keep hb
  replace hr5 := hr5.keep hb
  replace hr7 := hr7.keep hb
  replace BB : Below w.heap.size w x7 := BB.trans (hb.mono BB.size)
  clear hb
  have h15' := hv15
  obtain ⟨m15, d15, e15, hm15, hd15, _, _⟩ := h15'
  subst e15
  obtain ⟨A15, k15, c15, rfl⟩ := hm15.lim1.choose_spec.1.show_
  obtain ⟨D15, l15, b15, rfl⟩ := hd15.lim1.choose_spec.1.show_
  clear hm15 hd15
  have c20 : x7.cell? ⟨w.heap.size, 0, none⟩ = some (.slice PA ps.length pc) := hr2.cell 0
  have c21 : x7.cell? ⟨w.heap.size, 1, none⟩ = some (.slice RV rs.length vc) := hr2.cell 1
  have c50 : x7.cell? ⟨g5, 0, none⟩ = some (.bool (decide (P < 0))) := hr5.cell 0
  have c51 : x7.cell? ⟨g5, 1, none⟩ = some (.slice A5 k5 c5) := hr5.cell 1
  have c52 : x7.cell? ⟨g5, 2, none⟩ = some (.slice D5 l5 b5) := hr5.cell 2
  have c70 : x7.cell? ⟨g7, 0, none⟩ = some (.bool (decide (P < 0))) := hr7.cell 0
  have c71 : x7.cell? ⟨g7, 1, none⟩ = some (.slice A7 k7 c7) := hr7.cell 1
  have c72 : x7.cell? ⟨g7, 2, none⟩ = some (.slice D7 l7 b7) := hr7.cell 2
  have f50 : x7.frozen? ⟨g5, 0, none⟩ = false := hr5.frozen 0
  have f51 : x7.frozen? ⟨g5, 1, none⟩ = false := hr5.frozen 1
  have f52 : x7.frozen? ⟨g5, 2, none⟩ = false := hr5.frozen 2
  have f70 : x7.frozen? ⟨g7, 0, none⟩ = false := hr7.frozen 0
  have f71 : x7.frozen? ⟨g7, 1, none⟩ = false := hr7.frozen 1
  have f72 : x7.frozen? ⟨g7, 2, none⟩ = false := hr7.frozen 2
  have z2 := hr2.lt
  have z5 := hr5.lt
  have z7 := hr7.lt
  have nhr2 : Row (((x7.setCell ⟨g5, 0, none⟩ (.bool (decide (PV < 0)))).setCell ⟨g5, 1, none⟩ (.slice A15 k15 c15)).setCell ⟨g5, 2, none⟩ (.slice D15 l15 b15)) (w.heap.size) 24 [.slice PA ps.length pc, .slice RV rs.length vc] := (((hr2.far (by show w.heap.size ≠ g5; omega) _).far (by show w.heap.size ≠ g5; omega) _).far (by show w.heap.size ≠ g5; omega) _)
  have nhr5 : Row (((x7.setCell ⟨g5, 0, none⟩ (.bool (decide (PV < 0)))).setCell ⟨g5, 1, none⟩ (.slice A15 k15 c15)).setCell ⟨g5, 2, none⟩ (.slice D15 l15 b15)) (g5) 42 [.bool (decide (PV < 0)), .slice A15 k15 c15, .slice D15 l15 b15] := (((hr5.set_ 0 (.bool (decide (PV < 0)))).set_ 1 (.slice A15 k15 c15)).set_ 2 (.slice D15 l15 b15))
  have nhr7 : Row (((x7.setCell ⟨g5, 0, none⟩ (.bool (decide (PV < 0)))).setCell ⟨g5, 1, none⟩ (.slice A15 k15 c15)).setCell ⟨g5, 2, none⟩ (.slice D15 l15 b15)) (g7) 42 [.bool (decide (P < 0)), .slice A7 k7 c7, .slice D7 l7 b7] := (((hr7.far (by show g7 ≠ g5; omega) _).far (by show g7 ≠ g5; omega) _).far (by show g7 ≠ g5; omega) _)
  have nBB : Below w.heap.size w (((x7.setCell ⟨g5, 0, none⟩ (.bool (decide (PV < 0)))).setCell ⟨g5, 1, none⟩ (.slice A15 k15 c15)).setCell ⟨g5, 2, none⟩ (.slice D15 l15 b15)) := (((BB.setCell (by show w.heap.size ≤ g5; omega) _).setCell (by show w.heap.size ≤ g5; omega) _).setCell (by show w.heap.size ≤ g5; omega) _)
  have nhv15 := (((hv15.set_ (a := ⟨g5, 0, none⟩) (by show g5 < _; omega) (.bool (decide (PV < 0)))).set_ (a := ⟨g5, 1, none⟩) (by show g5 < _; omega) (.slice A15 k15 c15)).set_ (a := ⟨g5, 2, none⟩) (by show g5 < _; omega) (.slice D15 l15 b15))
  have d20 : (((x7.setCell ⟨g5, 0, none⟩ (.bool (decide (PV < 0)))).setCell ⟨g5, 1, none⟩ (.slice A15 k15 c15)).setCell ⟨g5, 2, none⟩ (.slice D15 l15 b15)).cell? ⟨w.heap.size, 0, none⟩ = some (.slice PA ps.length pc) := nhr2.cell 0
  have d21 : (((x7.setCell ⟨g5, 0, none⟩ (.bool (decide (PV < 0)))).setCell ⟨g5, 1, none⟩ (.slice A15 k15 c15)).setCell ⟨g5, 2, none⟩ (.slice D15 l15 b15)).cell? ⟨w.heap.size, 1, none⟩ = some (.slice RV rs.length vc) := nhr2.cell 1
  have d50 : (((x7.setCell ⟨g5, 0, none⟩ (.bool (decide (PV < 0)))).setCell ⟨g5, 1, none⟩ (.slice A15 k15 c15)).setCell ⟨g5, 2, none⟩ (.slice D15 l15 b15)).cell? ⟨g5, 0, none⟩ = some (.bool (decide (PV < 0))) := nhr5.cell 0
  have d51 : (((x7.setCell ⟨g5, 0, none⟩ (.bool (decide (PV < 0)))).setCell ⟨g5, 1, none⟩ (.slice A15 k15 c15)).setCell ⟨g5, 2, none⟩ (.slice D15 l15 b15)).cell? ⟨g5, 1, none⟩ = some (.slice A15 k15 c15) := nhr5.cell 1
  have d52 : (((x7.setCell ⟨g5, 0, none⟩ (.bool (decide (PV < 0)))).setCell ⟨g5, 1, none⟩ (.slice A15 k15 c15)).setCell ⟨g5, 2, none⟩ (.slice D15 l15 b15)).cell? ⟨g5, 2, none⟩ = some (.slice D15 l15 b15) := nhr5.cell 2
  have d70 : (((x7.setCell ⟨g5, 0, none⟩ (.bool (decide (PV < 0)))).setCell ⟨g5, 1, none⟩ (.slice A15 k15 c15)).setCell ⟨g5, 2, none⟩ (.slice D15 l15 b15)).cell? ⟨g7, 0, none⟩ = some (.bool (decide (P < 0))) := nhr7.cell 0
  have d71 : (((x7.setCell ⟨g5, 0, none⟩ (.bool (decide (PV < 0)))).setCell ⟨g5, 1, none⟩ (.slice A15 k15 c15)).setCell ⟨g5, 2, none⟩ (.slice D15 l15 b15)).cell? ⟨g7, 1, none⟩ = some (.slice A7 k7 c7) := nhr7.cell 1
  have d72 : (((x7.setCell ⟨g5, 0, none⟩ (.bool (decide (PV < 0)))).setCell ⟨g5, 1, none⟩ (.slice A15 k15 c15)).setCell ⟨g5, 2, none⟩ (.slice D15 l15 b15)).cell? ⟨g7, 2, none⟩ = some (.slice D7 l7 b7) := nhr7.cell 2
  have h50 : (((x7.setCell ⟨g5, 0, none⟩ (.bool (decide (PV < 0)))).setCell ⟨g5, 1, none⟩ (.slice A15 k15 c15)).setCell ⟨g5, 2, none⟩ (.slice D15 l15 b15)).frozen? ⟨g5, 0, none⟩ = false := nhr5.frozen 0
  have h51 : (((x7.setCell ⟨g5, 0, none⟩ (.bool (decide (PV < 0)))).setCell ⟨g5, 1, none⟩ (.slice A15 k15 c15)).setCell ⟨g5, 2, none⟩ (.slice D15 l15 b15)).frozen? ⟨g5, 1, none⟩ = false := nhr5.frozen 1
  have h52 : (((x7.setCell ⟨g5, 0, none⟩ (.bool (decide (PV < 0)))).setCell ⟨g5, 1, none⟩ (.slice A15 k15 c15)).setCell ⟨g5, 2, none⟩ (.slice D15 l15 b15)).frozen? ⟨g5, 2, none⟩ = false := nhr5.frozen 2
  have h70 : (((x7.setCell ⟨g5, 0, none⟩ (.bool (decide (PV < 0)))).setCell ⟨g5, 1, none⟩ (.slice A15 k15 c15)).setCell ⟨g5, 2, none⟩ (.slice D15 l15 b15)).frozen? ⟨g7, 0, none⟩ = false := nhr7.frozen 0
  have h71 : (((x7.setCell ⟨g5, 0, none⟩ (.bool (decide (PV < 0)))).setCell ⟨g5, 1, none⟩ (.slice A15 k15 c15)).setCell ⟨g5, 2, none⟩ (.slice D15 l15 b15)).frozen? ⟨g7, 1, none⟩ = false := nhr7.frozen 1
  have h72 : (((x7.setCell ⟨g5, 0, none⟩ (.bool (decide (PV < 0)))).setCell ⟨g5, 1, none⟩ (.slice A15 k15 c15)).setCell ⟨g5, 2, none⟩ (.slice D15 l15 b15)).frozen? ⟨g7, 2, none⟩ = false := nhr7.frozen 2
  go_wp2_with fail
  clear d20 d21 d50 d51 d52 d70 d71 d72 h50 h51 h52 h70 h71 h72 c20 c21 c50 c51 c52 c70 c71 c72 f50 f51 f52 f70 f71 f72 z2 z5 z7
  replace hr2 := nhr2
  clear nhr2
  replace hr5 := nhr5
  clear nhr5
  replace hr7 := nhr7
  clear nhr7
  replace hv15 := nhv15
  clear nhv15
  replace BB := nBB
  clear nBB
  generalize (((x7.setCell ⟨g5, 0, none⟩ (.bool (decide (PV < 0)))).setCell ⟨g5, 1, none⟩ (.slice A15 k15 c15)).setCell ⟨g5, 2, none⟩ (.slice D15 l15 b15)) = x8 at *
  refine (HV2.out _ BB).mono ?_
  have z7 := hr7.lt
  rintro e x9 ⟨v16, rfl, hv16, hb⟩
  replace hr2 := hr2.keep hb
  replace hr5 := hr5.keep hb
  replace hr7 := hr7.keep hb
  replace hv15 := hv15.below hb
  replace BB : Below w.heap.size w x9 := BB.trans (hb.mono BB.size)
  clear hb
  have h16' := hv16
  obtain ⟨m16, d16, e16, hm16, hd16, _, _⟩ := h16'
  subst e16
  obtain ⟨A16, k16, c16, rfl⟩ := hm16.lim1.choose_spec.1.show_
  obtain ⟨D16, l16, b16, rfl⟩ := hd16.lim1.choose_spec.1.show_
  clear hm16 hd16
  have c20 : x9.cell? ⟨w.heap.size, 0, none⟩ = some (.slice PA ps.length pc) := hr2.cell 0
  have c21 : x9.cell? ⟨w.heap.size, 1, none⟩ = some (.slice RV rs.length vc) := hr2.cell 1
  have c50 : x9.cell? ⟨g5, 0, none⟩ = some (.bool (decide (PV < 0))) := hr5.cell 0
  have c51 : x9.cell? ⟨g5, 1, none⟩ = some (.slice A15 k15 c15) := hr5.cell 1
  have c52 : x9.cell? ⟨g5, 2, none⟩ = some (.slice D15 l15 b15) := hr5.cell 2
  have c70 : x9.cell? ⟨g7, 0, none⟩ = some (.bool (decide (P < 0))) := hr7.cell 0
  have c71 : x9.cell? ⟨g7, 1, none⟩ = some (.slice A7 k7 c7) := hr7.cell 1
  have c72 : x9.cell? ⟨g7, 2, none⟩ = some (.slice D7 l7 b7) := hr7.cell 2
  have f50 : x9.frozen? ⟨g5, 0, none⟩ = false := hr5.frozen 0
  have f51 : x9.frozen? ⟨g5, 1, none⟩ = false := hr5.frozen 1
  have f52 : x9.frozen? ⟨g5, 2, none⟩ = false := hr5.frozen 2
  have f70 : x9.frozen? ⟨g7, 0, none⟩ = false := hr7.frozen 0
  have f71 : x9.frozen? ⟨g7, 1, none⟩ = false := hr7.frozen 1
  have f72 : x9.frozen? ⟨g7, 2, none⟩ = false := hr7.frozen 2
  have z2 := hr2.lt
  have z5 := hr5.lt
  have z7 := hr7.lt
  have nhr2 : Row (((x9.setCell ⟨g7, 0, none⟩ (.bool (decide (PV < 0)))).setCell ⟨g7, 1, none⟩ (.slice A16 k16 c16)).setCell ⟨g7, 2, none⟩ (.slice D16 l16 b16)) (w.heap.size) 24 [.slice PA ps.length pc, .slice RV rs.length vc] := (((hr2.far (by show w.heap.size ≠ g7; omega) _).far (by show w.heap.size ≠ g7; omega) _).far (by show w.heap.size ≠ g7; omega) _)
  have nhr5 : Row (((x9.setCell ⟨g7, 0, none⟩ (.bool (decide (PV < 0)))).setCell ⟨g7, 1, none⟩ (.slice A16 k16 c16)).setCell ⟨g7, 2, none⟩ (.slice D16 l16 b16)) (g5) 42 [.bool (decide (PV < 0)), .slice A15 k15 c15, .slice D15 l15 b15] := (((hr5.far (by show g5 ≠ g7; omega) _).far (by show g5 ≠ g7; omega) _).far (by show g5 ≠ g7; omega) _)
  have nhr7 : Row (((x9.setCell ⟨g7, 0, none⟩ (.bool (decide (PV < 0)))).setCell ⟨g7, 1, none⟩ (.slice A16 k16 c16)).setCell ⟨g7, 2, none⟩ (.slice D16 l16 b16)) (g7) 42 [.bool (decide (PV < 0)), .slice A16 k16 c16, .slice D16 l16 b16] := (((hr7.set_ 0 (.bool (decide (PV < 0)))).set_ 1 (.slice A16 k16 c16)).set_ 2 (.slice D16 l16 b16))
  have nBB : Below w.heap.size w (((x9.setCell ⟨g7, 0, none⟩ (.bool (decide (PV < 0)))).setCell ⟨g7, 1, none⟩ (.slice A16 k16 c16)).setCell ⟨g7, 2, none⟩ (.slice D16 l16 b16)) := (((BB.setCell (by show w.heap.size ≤ g7; omega) _).setCell (by show w.heap.size ≤ g7; omega) _).setCell (by show w.heap.size ≤ g7; omega) _)
  have nhv15 := (((hv15.set_ (a := ⟨g7, 0, none⟩) (by show g7 < _; omega) (.bool (decide (PV < 0)))).set_ (a := ⟨g7, 1, none⟩) (by show g7 < _; omega) (.slice A16 k16 c16)).set_ (a := ⟨g7, 2, none⟩) (by show g7 < _; omega) (.slice D16 l16 b16))
  have nhv16 := (((hv16.set_ (a := ⟨g7, 0, none⟩) (by show g7 < _; omega) (.bool (decide (PV < 0)))).set_ (a := ⟨g7, 1, none⟩) (by show g7 < _; omega) (.slice A16 k16 c16)).set_ (a := ⟨g7, 2, none⟩) (by show g7 < _; omega) (.slice D16 l16 b16))
  have d20 : (((x9.setCell ⟨g7, 0, none⟩ (.bool (decide (PV < 0)))).setCell ⟨g7, 1, none⟩ (.slice A16 k16 c16)).setCell ⟨g7, 2, none⟩ (.slice D16 l16 b16)).cell? ⟨w.heap.size, 0, none⟩ = some (.slice PA ps.length pc) := nhr2.cell 0
  have d21 : (((x9.setCell ⟨g7, 0, none⟩ (.bool (decide (PV < 0)))).setCell ⟨g7, 1, none⟩ (.slice A16 k16 c16)).setCell ⟨g7, 2, none⟩ (.slice D16 l16 b16)).cell? ⟨w.heap.size, 1, none⟩ = some (.slice RV rs.length vc) := nhr2.cell 1
  have d50 : (((x9.setCell ⟨g7, 0, none⟩ (.bool (decide (PV < 0)))).setCell ⟨g7, 1, none⟩ (.slice A16 k16 c16)).setCell ⟨g7, 2, none⟩ (.slice D16 l16 b16)).cell? ⟨g5, 0, none⟩ = some (.bool (decide (PV < 0))) := nhr5.cell 0
  have d51 : (((x9.setCell ⟨g7, 0, none⟩ (.bool (decide (PV < 0)))).setCell ⟨g7, 1, none⟩ (.slice A16 k16 c16)).setCell ⟨g7, 2, none⟩ (.slice D16 l16 b16)).cell? ⟨g5, 1, none⟩ = some (.slice A15 k15 c15) := nhr5.cell 1
  have d52 : (((x9.setCell ⟨g7, 0, none⟩ (.bool (decide (PV < 0)))).setCell ⟨g7, 1, none⟩ (.slice A16 k16 c16)).setCell ⟨g7, 2, none⟩ (.slice D16 l16 b16)).cell? ⟨g5, 2, none⟩ = some (.slice D15 l15 b15) := nhr5.cell 2
  have d70 : (((x9.setCell ⟨g7, 0, none⟩ (.bool (decide (PV < 0)))).setCell ⟨g7, 1, none⟩ (.slice A16 k16 c16)).setCell ⟨g7, 2, none⟩ (.slice D16 l16 b16)).cell? ⟨g7, 0, none⟩ = some (.bool (decide (PV < 0))) := nhr7.cell 0
  have d71 : (((x9.setCell ⟨g7, 0, none⟩ (.bool (decide (PV < 0)))).setCell ⟨g7, 1, none⟩ (.slice A16 k16 c16)).setCell ⟨g7, 2, none⟩ (.slice D16 l16 b16)).cell? ⟨g7, 1, none⟩ = some (.slice A16 k16 c16) := nhr7.cell 1
  have d72 : (((x9.setCell ⟨g7, 0, none⟩ (.bool (decide (PV < 0)))).setCell ⟨g7, 1, none⟩ (.slice A16 k16 c16)).setCell ⟨g7, 2, none⟩ (.slice D16 l16 b16)).cell? ⟨g7, 2, none⟩ = some (.slice D16 l16 b16) := nhr7.cell 2
  have h50 : (((x9.setCell ⟨g7, 0, none⟩ (.bool (decide (PV < 0)))).setCell ⟨g7, 1, none⟩ (.slice A16 k16 c16)).setCell ⟨g7, 2, none⟩ (.slice D16 l16 b16)).frozen? ⟨g5, 0, none⟩ = false := nhr5.frozen 0
  have h51 : (((x9.setCell ⟨g7, 0, none⟩ (.bool (decide (PV < 0)))).setCell ⟨g7, 1, none⟩ (.slice A16 k16 c16)).setCell ⟨g7, 2, none⟩ (.slice D16 l16 b16)).frozen? ⟨g5, 1, none⟩ = false := nhr5.frozen 1
  have h52 : (((x9.setCell ⟨g7, 0, none⟩ (.bool (decide (PV < 0)))).setCell ⟨g7, 1, none⟩ (.slice A16 k16 c16)).setCell ⟨g7, 2, none⟩ (.slice D16 l16 b16)).frozen? ⟨g5, 2, none⟩ = false := nhr5.frozen 2
  have h70 : (((x9.setCell ⟨g7, 0, none⟩ (.bool (decide (PV < 0)))).setCell ⟨g7, 1, none⟩ (.slice A16 k16 c16)).setCell ⟨g7, 2, none⟩ (.slice D16 l16 b16)).frozen? ⟨g7, 0, none⟩ = false := nhr7.frozen 0
  have h71 : (((x9.setCell ⟨g7, 0, none⟩ (.bool (decide (PV < 0)))).setCell ⟨g7, 1, none⟩ (.slice A16 k16 c16)).setCell ⟨g7, 2, none⟩ (.slice D16 l16 b16)).frozen? ⟨g7, 1, none⟩ = false := nhr7.frozen 1
  have h72 : (((x9.setCell ⟨g7, 0, none⟩ (.bool (decide (PV < 0)))).setCell ⟨g7, 1, none⟩ (.slice A16 k16 c16)).setCell ⟨g7, 2, none⟩ (.slice D16 l16 b16)).frozen? ⟨g7, 2, none⟩ = false := nhr7.frozen 2
  go_wp2_with fail
  clear d20 d21 d50 d51 d52 d70 d71 d72 h50 h51 h52 h70 h71 h72 c20 c21 c50 c51 c52 c70 c71 c72 f50 f51 f52 f70 f71 f72 z2 z5 z7
  replace hr2 := nhr2
  clear nhr2
  replace hr5 := nhr5
  clear nhr5
  replace hr7 := nhr7
  clear nhr7
  replace hv15 := nhv15
  clear nhv15
  replace hv16 := nhv16
  clear nhv16
  replace BB := nBB
  clear nBB
  generalize (((x9.setCell ⟨g7, 0, none⟩ (.bool (decide (PV < 0)))).setCell ⟨g7, 1, none⟩ (.slice A16 k16 c16)).setCell ⟨g7, 2, none⟩ (.slice D16 l16 b16)) = x10 at *
  refine (qsame_yes _ _ _ _ _ _ _ _ _ hv15 hv16).mono ?_
  rintro e x11 ⟨rfl, hb⟩
  replace hr2 := hr2.keep hb
  replace hr5 := hr5.keep hb
  replace hr7 := hr7.keep hb
  replace hv15 := hv15.below hb
  replace hv16 := hv16.below hb
  replace BB : Below w.heap.size w x11 := BB.trans (hb.mono BB.size)
  clear hb
  have c20 : x11.cell? ⟨w.heap.size, 0, none⟩ = some (.slice PA ps.length pc) := hr2.cell 0
  have c21 : x11.cell? ⟨w.heap.size, 1, none⟩ = some (.slice RV rs.length vc) := hr2.cell 1
  have c50 : x11.cell? ⟨g5, 0, none⟩ = some (.bool (decide (PV < 0))) := hr5.cell 0
  have c51 : x11.cell? ⟨g5, 1, none⟩ = some (.slice A15 k15 c15) := hr5.cell 1
  have c52 : x11.cell? ⟨g5, 2, none⟩ = some (.slice D15 l15 b15) := hr5.cell 2
  have c70 : x11.cell? ⟨g7, 0, none⟩ = some (.bool (decide (PV < 0))) := hr7.cell 0
  have c71 : x11.cell? ⟨g7, 1, none⟩ = some (.slice A16 k16 c16) := hr7.cell 1
  have c72 : x11.cell? ⟨g7, 2, none⟩ = some (.slice D16 l16 b16) := hr7.cell 2
  have f50 : x11.frozen? ⟨g5, 0, none⟩ = false := hr5.frozen 0
  have f51 : x11.frozen? ⟨g5, 1, none⟩ = false := hr5.frozen 1
  have f52 : x11.frozen? ⟨g5, 2, none⟩ = false := hr5.frozen 2
  have f70 : x11.frozen? ⟨g7, 0, none⟩ = false := hr7.frozen 0
  have f71 : x11.frozen? ⟨g7, 1, none⟩ = false := hr7.frozen 1
  have f72 : x11.frozen? ⟨g7, 2, none⟩ = false := hr7.frozen 2
  have z2 := hr2.lt
  have z5 := hr5.lt
  have z7 := hr7.lt
  go_wp2_with fail
  clear c20 c21 c50 c51 c52 c70 c71 c72 f50 f51 f52 f70 f71 f72 z2 z5 z7
  go_ret
  exact ⟨rfl, BB⟩

set_option maxHeartbeats 4000000 in
theorem sms_long (pv rv wv : Value) (ps rs : List Int) (lss : List (List Nat)) (w : World) (hp : Nums .i64 w pv ps) (hr : Nums .i64 w rv rs) (hw : LimL w wv lss) (h : ¬ ∀ l ∈ lss, l.length ≤ 20) :
    Calls Try.prog 5 #[.agg #[pv, rv], wv] w fun e w' => e = .returned (.bool true) ∧ Below w.heap.size w w' := by
  have hlg : ∀ W : World, Below w.heap.size w W → Calls Try.prog 18 #[wv] W fun e w' => e = .returned (.bool true) ∧ Below W.heap.size W w' := fun W hW => (large_any wv lss W (hw.below hW)).mono fun e w' h1 => by
    obtain ⟨h1, rfl⟩ := h1
    rcases h1 with ⟨h1, _⟩ | ⟨_, h1⟩
    · exact ⟨h1, Below.refl _ _⟩
    · exact absurd h1 h
  have HLG := Lib.hid hlg
  clear hlg h
  obtain ⟨PA, pc, rfl, hpc, hpm, hps⟩ := hp
  obtain ⟨RV, vc, rfl, hvc, hvm, hvs⟩ := hr
  obtain ⟨WA, wc, us, rfl, hwc, hwm, hws, hwu⟩ := hw
  clear hwu
  obtain ⟨W0, hW0⟩ : ∃ W0 : World, W0 = w.alloc (.cells #[.slice PA ps.length pc, .slice RV rs.length vc] 24) := ⟨_, rfl⟩
  have r0 : Row W0 w.heap.size 24 [.slice PA ps.length pc, .slice RV rs.length vc] := by
    rw [hW0]
    have := Row.new w 24 [.slice PA ps.length pc, .slice RV rs.length vc]
    simpa using this
  have B0 : Below w.heap.size w W0 := by rw [hW0]; exact ((Below.refl _ _).alloc (Nat.le_refl _) _)
  go_enter Try.func5, Try.ntmps5
  go_wp2_with fail
  rw [← hW0]
  clear hW0
  refine (HLG.out _ B0).mono ?_
  rintro e w1 ⟨rfl, hb⟩
  go_wp2_with fail
  go_ret
  exact ⟨rfl, B0.trans (hb.mono B0.size)⟩

theorem sms_all (pv rv wv : Value) (ps rs : List Int) (lss : List (List Nat)) (w : World) (hp : Nums .i64 w pv ps) (hr : Nums .i64 w rv rs) (hw : LimL w wv lss) :
    Calls Try.prog 5 #[.agg #[pv, rv], wv] w fun e w' => e = .returned (.bool true) ∧ Below w.heap.size w w' := by
  by_cases h20 : ∀ l ∈ lss, l.length ≤ 20
  · have hwt := hw.wts h20
    by_cases hE : sumE ps rs (lss.map val) = 0
    · exact sms_core pv rv wv ps rs lss w hp hr hw _ _ _ _ _ _ _ _ _ h20
        (fun W h => gmean_ok pv rv wv ps rs (lss.map val) 20 W (hp.below h) (hr.below h) (hwt.below h) (by omega) hE)
        (fun W h => rmean_ok pv rv wv ps rs (lss.map val) 20 W (hp.below h) (hr.below h) (hwt.below h) (by omega) hE)
        (fun W h => gvar_ok pv rv wv ps rs (lss.map val) 20 W (hp.below h) (hr.below h) (hwt.below h) (by omega) hE)
        (fun W h => rvar_ok pv rv wv ps rs (lss.map val) 20 W (hp.below h) (hr.below h) (hwt.below h) (by omega) hE)
    · exact sms_core pv rv wv ps rs lss w hp hr hw _ _ _ _ _ _ _ _ _ h20
        (fun W h => gmean_no pv rv wv ps rs (lss.map val) 20 W (hp.below h) (hr.below h) (hwt.below h) (by omega) hE)
        (fun W h => rmean_no pv rv wv ps rs (lss.map val) 20 W (hp.below h) (hr.below h) (hwt.below h) (by omega) hE)
        (fun W h => gvar_no pv rv wv ps rs (lss.map val) 20 W (hp.below h) (hr.below h) (hwt.below h) (by omega) hE)
        (fun W h => rvar_no pv rv wv ps rs (lss.map val) 20 W (hp.below h) (hr.below h) (hwt.below h) (by omega) hE)
  · exact sms_long pv rv wv ps rs lss w hp hr hw h20
end Go.Proofs.Ytdmjgildgjpmcaa
