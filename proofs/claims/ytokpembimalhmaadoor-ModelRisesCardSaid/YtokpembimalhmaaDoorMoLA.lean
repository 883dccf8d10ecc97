/- The walks of ModelChecks, ModelRamp, ModelSteps and ModelCollapses. -/
import Derived.Test.YtokpembimalhmaaDoorMoAw
import Derived.Test.YtokpembimalhmaaDoorMoV
import Derived.Test.YtokpembimalhmaaDoorMoX
import Derived.Test.YtokpembimalhmaaDoorMoN
namespace Go.Proofs.YtokpembimalhmaaDoor
open Go.RowKit
set_option linter.unusedVariables false

theorem intsL_slice {w : World} {v : Value} {xs : List (List Int)} (h : IntsL w v xs) : ∃ A n c, v = .slice A n c := by
  obtain ⟨A, c, _, hv, _⟩ := h
  exact ⟨A, _, c, hv⟩
set_option maxRecDepth 100000 in
set_option maxHeartbeats 8000000 in
theorem ramp_all (pv rv : Value) (ps rs : List Int) (d s lo hi : Int) (w : World) (hp : Nums .i64 w pv ps) (hr : Nums .i64 w rv rs) :
    Calls Tryd.prog 4 #[.agg #[pv, rv], .int .i64 d, .int .i64 s, .int .i64 lo, .int .i64 hi] w fun e w' => e = .returned (.bool true) ∧ Below w.heap.size w w' := by
  have hp0 := hp
  have hr0 := hr
  obtain ⟨X, cX, rfl, _, _, _⟩ := hp0
  obtain ⟨Y, cY, rfl, _, _, _⟩ := hr0
  go_enter Tryd.func4, Tryd.ntmps4
  go_wp2_with fail
  have hl : Below w.heap.size w (w.alloc (.cells #[.slice X ps.length cX, .slice Y rs.length cY] 33)) := lit_below _ _
  have hr1 : Row (w.alloc (.cells #[.slice X ps.length cX, .slice Y rs.length cY] 33)) (w.heap.size) 33 [.slice X ps.length cX, .slice Y rs.length cY] := row_at (by simp)
  refine (ramp_any _ _ ps rs d s lo hi _ (hp.below hl) (hr.below hl)).mono ?_
  rintro e w1 ⟨v1, rfl, hA, hb⟩
  replace hr1 := hr1.keep hb
  replace hb : Below w.heap.size w w1 := hl.trans (hb.mono hl.size)
  clear hl
  replace hp := hp.below hb
  replace hr := hr.below hb
  have BB : Below w.heap.size w w1 := hb
  clear hb
  obtain ⟨aA, an, ac, rfl⟩ := intsL_slice hA
  have q00 : w1.cell? ⟨w.heap.size, 0, none⟩ = some (.slice X ps.length cX) := hr1.cell 0
  have q01 : w1.cell? ⟨w.heap.size, 1, none⟩ = some (.slice Y rs.length cY) := hr1.cell 1
  have z0 := hr1.lt
  go_wp2_with fail
  clear q00 q01 z0
  have hl : Below w1.heap.size w1 (w1.alloc (.cells #[.slice aA an ac] 24)) := lit_below _ _
  have hr2 : Row (w1.alloc (.cells #[.slice aA an ac] 24)) (w1.heap.size) 24 [.slice aA an ac] := row_at (by simp)
  refine (rramp_any _ _ ps rs d s lo hi _ (hp.below hl) (hr.below hl)).mono ?_
  rintro e w2 ⟨v2, rfl, hB, hb⟩
  replace hr2 := hr2.keep hb
  replace hb : Below w1.heap.size w1 w2 := hl.trans (hb.mono hl.size)
  clear hl
  replace hp := hp.below hb
  replace hr := hr.below hb
  replace hr1 := hr1.keep hb
  replace hA := hA.below hb
  replace BB : Below w.heap.size w w2 := BB.trans (hb.mono BB.size)
  clear hb
  obtain ⟨bA, bn, bc, rfl⟩ := intsL_slice hB
  generalize rampE (gridE ps rs) d s lo hi = E at *
  have q00 : w2.cell? ⟨w.heap.size, 0, none⟩ = some (.slice X ps.length cX) := hr1.cell 0
  have q01 : w2.cell? ⟨w.heap.size, 1, none⟩ = some (.slice Y rs.length cY) := hr1.cell 1
  have z0 := hr1.lt
  have q10 : w2.cell? ⟨w1.heap.size, 0, none⟩ = some (.slice aA an ac) := hr2.cell 0
  have z1 := hr2.lt
  go_wp2_with fail
  clear q00 q01 q10 z0 z1
  have hl : Below w2.heap.size w2 (w2.alloc (.cells #[.slice bA bn bc] 24)) := lit_below _ _
  have hr3 : Row (w2.alloc (.cells #[.slice bA bn bc] 24)) (w2.heap.size) 24 [.slice bA bn bc] := row_at (by simp)
  refine (same_yes _ _ _ _ (hA.below hl) (hB.below hl)).mono ?_
  rintro e w3 ⟨rfl, hb⟩
  replace hr3 := hr3.keep hb
  replace hb : Below w2.heap.size w2 w3 := hl.trans (hb.mono hl.size)
  clear hl
  replace hp := hp.below hb
  replace hr := hr.below hb
  replace hr1 := hr1.keep hb
  replace hA := hA.below hb
  replace hr2 := hr2.keep hb
  replace hB := hB.below hb
  replace BB : Below w.heap.size w w3 := BB.trans (hb.mono BB.size)
  clear hb
  have q00 : w3.cell? ⟨w.heap.size, 0, none⟩ = some (.slice X ps.length cX) := hr1.cell 0
  have q01 : w3.cell? ⟨w.heap.size, 1, none⟩ = some (.slice Y rs.length cY) := hr1.cell 1
  have z0 := hr1.lt
  have q10 : w3.cell? ⟨w1.heap.size, 0, none⟩ = some (.slice aA an ac) := hr2.cell 0
  have z1 := hr2.lt
  have q20 : w3.cell? ⟨w2.heap.size, 0, none⟩ = some (.slice bA bn bc) := hr3.cell 0
  have z2 := hr3.lt
  go_wp2_with fail
  clear q00 q01 q10 q20 z0 z1 z2
  have hl : Below w3.heap.size w3 w3 := Below.refl _ _
  refine (awake_any _).mono ?_
  rintro e w4 ⟨rfl, hb⟩
  replace hb : Below w3.heap.size w3 w4 := hl.trans (hb.mono hl.size)
  clear hl
  replace hp := hp.below hb
  replace hr := hr.below hb
  replace hr1 := hr1.keep hb
  replace hA := hA.below hb
  replace hr2 := hr2.keep hb
  replace hB := hB.below hb
  replace hr3 := hr3.keep hb
  replace BB : Below w.heap.size w w4 := BB.trans (hb.mono BB.size)
  clear hb
  go_wp2_with fail
  go_ret
  exact ⟨rfl, BB⟩

set_option maxRecDepth 100000 in
set_option maxHeartbeats 8000000 in
theorem steps_all (pv rv dv : Value) (ps rs ds : List Int) (s : Int) (w : World) (hp : Nums .i64 w pv ps) (hr : Nums .i64 w rv rs) (hd : Nums .i64 w dv ds) :
    Calls Tryd.prog 5 #[.agg #[pv, rv], dv, .int .i64 s] w fun e w' => e = .returned (.bool true) ∧ Below w.heap.size w w' := by
  have hp0 := hp
  have hr0 := hr
  obtain ⟨X, cX, rfl, _, _, _⟩ := hp0
  obtain ⟨Y, cY, rfl, _, _, _⟩ := hr0
  have hd0 := hd
  obtain ⟨D, cD, rfl, _, _, _⟩ := hd0
  go_enter Tryd.func5, Tryd.ntmps5
  go_wp2_with fail
  have hl : Below w.heap.size w (w.alloc (.cells #[.slice X ps.length cX, .slice Y rs.length cY] 33)) := lit_below _ _
  have hr1 : Row (w.alloc (.cells #[.slice X ps.length cX, .slice Y rs.length cY] 33)) (w.heap.size) 33 [.slice X ps.length cX, .slice Y rs.length cY] := row_at (by simp)
  refine (msteps_any _ _ _ ps rs ds s _ (hp.below hl) (hr.below hl) (hd.below hl)).mono ?_
  rintro e w1 ⟨v1, rfl, hA, hb⟩
  replace hr1 := hr1.keep hb
  replace hb : Below w.heap.size w w1 := hl.trans (hb.mono hl.size)
  clear hl
  replace hp := hp.below hb
  replace hr := hr.below hb
  replace hd := hd.below hb
  have BB : Below w.heap.size w w1 := hb
  clear hb
  obtain ⟨aA, an, ac, rfl⟩ := intsL_slice hA
  have q00 : w1.cell? ⟨w.heap.size, 0, none⟩ = some (.slice X ps.length cX) := hr1.cell 0
  have q01 : w1.cell? ⟨w.heap.size, 1, none⟩ = some (.slice Y rs.length cY) := hr1.cell 1
  have z0 := hr1.lt
  go_wp2_with fail
  clear q00 q01 z0
  have hl : Below w1.heap.size w1 (w1.alloc (.cells #[.slice aA an ac] 24)) := lit_below _ _
  have hr2 : Row (w1.alloc (.cells #[.slice aA an ac] 24)) (w1.heap.size) 24 [.slice aA an ac] := row_at (by simp)
  refine (rsteps_any _ _ _ ps rs ds s _ (hp.below hl) (hr.below hl) (hd.below hl)).mono ?_
  rintro e w2 ⟨v2, rfl, hB, hb⟩
  replace hr2 := hr2.keep hb
  replace hb : Below w1.heap.size w1 w2 := hl.trans (hb.mono hl.size)
  clear hl
  replace hp := hp.below hb
  replace hr := hr.below hb
  replace hd := hd.below hb
  replace hr1 := hr1.keep hb
  replace hA := hA.below hb
  replace BB : Below w.heap.size w w2 := BB.trans (hb.mono BB.size)
  clear hb
  obtain ⟨bA, bn, bc, rfl⟩ := intsL_slice hB
  generalize stepsE (gridE ps rs) ds s = E at *
  have q00 : w2.cell? ⟨w.heap.size, 0, none⟩ = some (.slice X ps.length cX) := hr1.cell 0
  have q01 : w2.cell? ⟨w.heap.size, 1, none⟩ = some (.slice Y rs.length cY) := hr1.cell 1
  have z0 := hr1.lt
  have q10 : w2.cell? ⟨w1.heap.size, 0, none⟩ = some (.slice aA an ac) := hr2.cell 0
  have z1 := hr2.lt
  go_wp2_with fail
  clear q00 q01 q10 z0 z1
  have hl : Below w2.heap.size w2 (w2.alloc (.cells #[.slice bA bn bc] 24)) := lit_below _ _
  have hr3 : Row (w2.alloc (.cells #[.slice bA bn bc] 24)) (w2.heap.size) 24 [.slice bA bn bc] := row_at (by simp)
  refine (same_yes _ _ _ _ (hA.below hl) (hB.below hl)).mono ?_
  rintro e w3 ⟨rfl, hb⟩
  replace hr3 := hr3.keep hb
  replace hb : Below w2.heap.size w2 w3 := hl.trans (hb.mono hl.size)
  clear hl
  replace hp := hp.below hb
  replace hr := hr.below hb
  replace hd := hd.below hb
  replace hr1 := hr1.keep hb
  replace hA := hA.below hb
  replace hr2 := hr2.keep hb
  replace hB := hB.below hb
  replace BB : Below w.heap.size w w3 := BB.trans (hb.mono BB.size)
  clear hb
  have q00 : w3.cell? ⟨w.heap.size, 0, none⟩ = some (.slice X ps.length cX) := hr1.cell 0
  have q01 : w3.cell? ⟨w.heap.size, 1, none⟩ = some (.slice Y rs.length cY) := hr1.cell 1
  have z0 := hr1.lt
  have q10 : w3.cell? ⟨w1.heap.size, 0, none⟩ = some (.slice aA an ac) := hr2.cell 0
  have z1 := hr2.lt
  have q20 : w3.cell? ⟨w2.heap.size, 0, none⟩ = some (.slice bA bn bc) := hr3.cell 0
  have z2 := hr3.lt
  go_wp2_with fail
  clear q00 q01 q10 q20 z0 z1 z2
  have hl : Below w3.heap.size w3 w3 := Below.refl _ _
  refine (awake_any _).mono ?_
  rintro e w4 ⟨rfl, hb⟩
  replace hb : Below w3.heap.size w3 w4 := hl.trans (hb.mono hl.size)
  clear hl
  replace hp := hp.below hb
  replace hr := hr.below hb
  replace hd := hd.below hb
  replace hr1 := hr1.keep hb
  replace hA := hA.below hb
  replace hr2 := hr2.keep hb
  replace hB := hB.below hb
  replace hr3 := hr3.keep hb
  replace BB : Below w.heap.size w w4 := BB.trans (hb.mono BB.size)
  clear hb
  go_wp2_with fail
  go_ret
  exact ⟨rfl, BB⟩

set_option maxRecDepth 100000 in
set_option maxHeartbeats 8000000 in
theorem cols_all (rv tv : Value) (rows : List (List Int)) (tg : List Int) (w : World) (hm : IntsL w rv rows) (ht : Nums .i64 w tv tg) (h64 : I64 tg) :
    Calls Tryd.prog 6 #[.agg #[rv], tv] w fun e w' => e = .returned (.bool true) ∧ Below w.heap.size w w' := by
  have hm0 := hm
  obtain ⟨A, c, _, rfl, _, _, _, _⟩ := hm0
  have ht0 := ht
  obtain ⟨D, cD, rfl, _, _, _⟩ := ht0
  go_enter Tryd.func6, Tryd.ntmps6
  go_wp2_with fail
  have hl : Below w.heap.size w (w.alloc (.cells #[.slice A rows.length c] 24)) := lit_below _ _
  have hr1 : Row (w.alloc (.cells #[.slice A rows.length c] 24)) (w.heap.size) 24 [.slice A rows.length c] := row_at (by simp)
  refine (mcol_any _ _ rows tg _ (hm.below hl) (ht.below hl)).mono ?_
  rintro e w1 ⟨v1, rfl, hA, hb⟩
  replace hr1 := hr1.keep hb
  replace hb : Below w.heap.size w w1 := hl.trans (hb.mono hl.size)
  clear hl
  replace hm := hm.below hb
  replace ht := ht.below hb
  have BB : Below w.heap.size w w1 := hb
  clear hb
  obtain ⟨aA, an, ac, rfl⟩ := intsL_slice hA
  have q00 : w1.cell? ⟨w.heap.size, 0, none⟩ = some (.slice A rows.length c) := hr1.cell 0
  have z0 := hr1.lt
  go_wp2_with fail
  clear q00 z0
  have hl : Below w1.heap.size w1 (w1.alloc (.cells #[.slice aA an ac] 24)) := lit_below _ _
  have hr2 : Row (w1.alloc (.cells #[.slice aA an ac] 24)) (w1.heap.size) 24 [.slice aA an ac] := row_at (by simp)
  refine (rcol_any _ _ rows tg _ (hm.below hl) (ht.below hl) h64).mono ?_
  rintro e w2 ⟨v2, rfl, hB, hb⟩
  replace hr2 := hr2.keep hb
  replace hb : Below w1.heap.size w1 w2 := hl.trans (hb.mono hl.size)
  clear hl
  replace hm := hm.below hb
  replace ht := ht.below hb
  replace hr1 := hr1.keep hb
  replace hA := hA.below hb
  replace BB : Below w.heap.size w w2 := BB.trans (hb.mono BB.size)
  clear hb
  obtain ⟨bA, bn, bc, rfl⟩ := intsL_slice hB
  generalize colE (modE rows (rows.length : Int)) (catsOf rows) tg = E at *
  have q00 : w2.cell? ⟨w.heap.size, 0, none⟩ = some (.slice A rows.length c) := hr1.cell 0
  have z0 := hr1.lt
  have q10 : w2.cell? ⟨w1.heap.size, 0, none⟩ = some (.slice aA an ac) := hr2.cell 0
  have z1 := hr2.lt
  go_wp2_with fail
  clear q00 q10 z0 z1
  have hl : Below w2.heap.size w2 (w2.alloc (.cells #[.slice bA bn bc] 24)) := lit_below _ _
  have hr3 : Row (w2.alloc (.cells #[.slice bA bn bc] 24)) (w2.heap.size) 24 [.slice bA bn bc] := row_at (by simp)
  refine (same_yes _ _ _ _ (hA.below hl) (hB.below hl)).mono ?_
  rintro e w3 ⟨rfl, hb⟩
  replace hr3 := hr3.keep hb
  replace hb : Below w2.heap.size w2 w3 := hl.trans (hb.mono hl.size)
  clear hl
  replace hm := hm.below hb
  replace ht := ht.below hb
  replace hr1 := hr1.keep hb
  replace hA := hA.below hb
  replace hr2 := hr2.keep hb
  replace hB := hB.below hb
  replace BB : Below w.heap.size w w3 := BB.trans (hb.mono BB.size)
  clear hb
  have q00 : w3.cell? ⟨w.heap.size, 0, none⟩ = some (.slice A rows.length c) := hr1.cell 0
  have z0 := hr1.lt
  have q10 : w3.cell? ⟨w1.heap.size, 0, none⟩ = some (.slice aA an ac) := hr2.cell 0
  have z1 := hr2.lt
  have q20 : w3.cell? ⟨w2.heap.size, 0, none⟩ = some (.slice bA bn bc) := hr3.cell 0
  have z2 := hr3.lt
  go_wp2_with fail
  clear q00 q10 q20 z0 z1 z2
  have hl : Below w3.heap.size w3 w3 := Below.refl _ _
  refine (awake_any _).mono ?_
  rintro e w4 ⟨rfl, hb⟩
  replace hb : Below w3.heap.size w3 w4 := hl.trans (hb.mono hl.size)
  clear hl
  replace hm := hm.below hb
  replace ht := ht.below hb
  replace hr1 := hr1.keep hb
  replace hA := hA.below hb
  replace hr2 := hr2.keep hb
  replace hB := hB.below hb
  replace hr3 := hr3.keep hb
  replace BB : Below w.heap.size w w4 := BB.trans (hb.mono BB.size)
  clear hb
  go_wp2_with fail
  go_ret
  exact ⟨rfl, BB⟩

set_option maxRecDepth 100000 in
set_option maxHeartbeats 8000000 in
theorem checks_all (rv : Value) (rows : List (List Int)) (nn : Int) (w : World) (hm : IntsL w rv rows) :
    Calls Tryd.prog 3 #[.agg #[rv], .int .i64 nn] w fun e w' => e = .returned (.bool true) ∧ Below w.heap.size w w' := by
  have hm0 := hm
  obtain ⟨A, c, _, rfl, _, _, _, _⟩ := hm0
  obtain ⟨W0, hW0⟩ : ∃ W0 : World, W0 = w.alloc (.cells #[.slice A rows.length c] 24) := ⟨_, rfl⟩
  have hr1 : Row W0 w.heap.size 24 [.slice A rows.length c] := by rw [hW0]; exact Row.new w 24 [.slice A rows.length c]
  have B0 : Below w.heap.size w W0 := by rw [hW0]; exact lit_below _ _
  have hI := hm.below B0
  have q0 : W0.cell? ⟨w.heap.size, 0, none⟩ = some (.slice A rows.length c) := hr1.cell 0
  have z0 := hr1.lt
  go_enter Tryd.func3, Tryd.ntmps3
  go_wp2_with fail
  rw [← hW0]
  clear hW0
  go_region_held3 (fun w' => w'.cell? ⟨w.heap.size, 0, none⟩ = some (.slice A rows.length c))
    ((refine keep1c z0 q0 ?_; (repeat (first | with_reducible exact Below.refl _ _ | with_reducible refine bl_call hk1 ?_ | with_reducible refine bl_call hk2 ?_ | with_reducible refine bl_call hk3 ?_ | with_reducible refine bl_call hk4 ?_ | with_reducible refine bl_call hk5 ?_ | with_reducible refine bl_call hk6 ?_ | with_reducible refine bl_call hk7 ?_ | with_reducible refine lit_more ?_ _ | with_reducible refine bl_drew ?_)); done))
    (first
      | (go_at_call 10; ((with_reducible refine (mvalid_any _ rows _ _ (hI.below ?_)).mono ?_); ((repeat (first | with_reducible exact Below.refl _ _ | with_reducible refine bl_call hk1 ?_ | with_reducible refine bl_call hk2 ?_ | with_reducible refine bl_call hk3 ?_ | with_reducible refine bl_call hk4 ?_ | with_reducible refine bl_call hk5 ?_ | with_reducible refine bl_call hk6 ?_ | with_reducible refine bl_call hk7 ?_ | with_reducible refine lit_more ?_ _ | with_reducible refine bl_drew ?_))); rintro e k1 ⟨rfl, hk1⟩))
      | (go_at_call 11; ((with_reducible refine (rmvalid_any _ rows _ _ (hI.below ?_)).mono ?_); ((repeat (first | with_reducible exact Below.refl _ _ | with_reducible refine bl_call hk1 ?_ | with_reducible refine bl_call hk2 ?_ | with_reducible refine bl_call hk3 ?_ | with_reducible refine bl_call hk4 ?_ | with_reducible refine bl_call hk5 ?_ | with_reducible refine bl_call hk6 ?_ | with_reducible refine bl_call hk7 ?_ | with_reducible refine lit_more ?_ _ | with_reducible refine bl_drew ?_))); rintro e k2 ⟨rfl, hk2⟩))
      | (go_at_call 12; ((with_reducible refine (cats_any _ rows _ (hI.below ?_)).mono ?_); ((repeat (first | with_reducible exact Below.refl _ _ | with_reducible refine bl_call hk1 ?_ | with_reducible refine bl_call hk2 ?_ | with_reducible refine bl_call hk3 ?_ | with_reducible refine bl_call hk4 ?_ | with_reducible refine bl_call hk5 ?_ | with_reducible refine bl_call hk6 ?_ | with_reducible refine bl_call hk7 ?_ | with_reducible refine lit_more ?_ _ | with_reducible refine bl_drew ?_))); rintro e k3 ⟨rfl, hk3⟩))
      | (go_at_call 13; ((with_reducible refine (rcats_any _ rows _ (hI.below ?_)).mono ?_); ((repeat (first | with_reducible exact Below.refl _ _ | with_reducible refine bl_call hk1 ?_ | with_reducible refine bl_call hk2 ?_ | with_reducible refine bl_call hk3 ?_ | with_reducible refine bl_call hk4 ?_ | with_reducible refine bl_call hk5 ?_ | with_reducible refine bl_call hk6 ?_ | with_reducible refine bl_call hk7 ?_ | with_reducible refine lit_more ?_ _ | with_reducible refine bl_drew ?_))); rintro e k4 ⟨rfl, hk4⟩))
      | (go_at_call 14; ((with_reducible refine (mmono_any _ rows _ (hI.below ?_)).mono ?_); ((repeat (first | with_reducible exact Below.refl _ _ | with_reducible refine bl_call hk1 ?_ | with_reducible refine bl_call hk2 ?_ | with_reducible refine bl_call hk3 ?_ | with_reducible refine bl_call hk4 ?_ | with_reducible refine bl_call hk5 ?_ | with_reducible refine bl_call hk6 ?_ | with_reducible refine bl_call hk7 ?_ | with_reducible refine lit_more ?_ _ | with_reducible refine bl_drew ?_))); rintro e k5 ⟨rfl, hk5⟩))
      | (go_at_call 15; ((with_reducible refine (rmono_any _ rows _ (hI.below ?_)).mono ?_); ((repeat (first | with_reducible exact Below.refl _ _ | with_reducible refine bl_call hk1 ?_ | with_reducible refine bl_call hk2 ?_ | with_reducible refine bl_call hk3 ?_ | with_reducible refine bl_call hk4 ?_ | with_reducible refine bl_call hk5 ?_ | with_reducible refine bl_call hk6 ?_ | with_reducible refine bl_call hk7 ?_ | with_reducible refine lit_more ?_ _ | with_reducible refine bl_drew ?_))); rintro e k6 ⟨rfl, hk6⟩))
      | (go_at_call 16; ((with_reducible refine (awake_any _).mono ?_); rintro e k7 ⟨rfl, hk7⟩)))
  all_goals go_wp2_with fail
  all_goals go_ret
  all_goals exact ⟨rfl, B0.trans ((by (repeat (first | with_reducible exact Below.refl _ _ | with_reducible refine bl_call hk1 ?_ | with_reducible refine bl_call hk2 ?_ | with_reducible refine bl_call hk3 ?_ | with_reducible refine bl_call hk4 ?_ | with_reducible refine bl_call hk5 ?_ | with_reducible refine bl_call hk6 ?_ | with_reducible refine bl_call hk7 ?_ | with_reducible refine lit_more ?_ _ | with_reducible refine bl_drew ?_)) : Below W0.heap.size W0 k7).mono B0.size)⟩
end Go.Proofs.YtokpembimalhmaaDoor
