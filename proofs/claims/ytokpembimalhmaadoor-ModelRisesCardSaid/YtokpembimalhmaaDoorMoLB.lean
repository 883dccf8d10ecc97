/- The walk of ModelRises. -/
import Derived.Test.YtokpembimalhmaaDoorMoLA
import Derived.Test.YtokpembimalhmaaDoorMoRi
namespace Go.Proofs.YtokpembimalhmaaDoor
open Go.RowKit
set_option linter.unusedVariables false

theorem take_one {l : List Int} (h : 0 < l.length) : l.take 1 = [l.getD 0 0] := by
  match l, h with
  | x :: l, _ => rfl
theorem bl_setL {a w : World} (h : Below a.heap.size a w) {p : Addr} (hp : a.heap.size ≤ p.block) (x : Value) : Below a.heap.size a (w.setCell p x) := h.setCell hp x
theorem IntsF.slice {base : Nat} {w : World} {v : Value} {xs : List (List Int)} (h : IntsF base w v xs) : ∃ A n c, v = .slice A n c := by
  obtain ⟨A, c, _, hv, _⟩ := h
  exact ⟨A, _, c, hv⟩
theorem keep3 {W w' : World} {p1 p2 p3 : Addr} {x1 x2 x3 : Value} (l1 : p1.block < W.heap.size) (l2 : p2.block < W.heap.size) (l3 : p3.block < W.heap.size) (h1 : W.cell? p1 = some x1) (h2 : W.cell? p2 = some x2) (h3 : W.cell? p3 = some x3) (hb : Below W.heap.size W w') :
    w'.cell? p1 = some x1 ∧ w'.cell? p2 = some x2 ∧ w'.cell? p3 = some x3 := ⟨(hb.cell l1).trans h1, (hb.cell l2).trans h2, (hb.cell l3).trans h3⟩
theorem steps_one (pv rv dv : Value) (ps rs : List Int) (d0 s : Int) (w : World) (hp : Nums .i64 w pv ps) (hr : Nums .i64 w rv rs) (hd : Nums .i64 w dv [d0]) :
    Calls Tryd.prog 20 #[.agg #[pv, rv], dv, .int .i64 s] w (MdPostF (rampE (gridE ps rs) d0 s 1 999) (rampL ps d0 s 1 999) w) := by
  have := msteps_anyF pv rv dv ps rs [d0] s w hp hr hd
  rwa [one_E, one_L] at this

set_option maxRecDepth 100000 in
set_option maxHeartbeats 8000000 in
theorem rises_tt (pv rv dv : Value) (ps rs ds : List Int) (s lo hi : Int) (w : World) (hp : Nums .i64 w pv ps) (hr : Nums .i64 w rv rs) (hd : Nums .i64 w dv ds) (d0 : Int) (hn0 : 0 < ds.length) (hd0v : ds.getD 0 0 = d0) (h1 : stepsE (gridE ps rs) ds s = 0) (h2 : rampE (gridE ps rs) d0 s lo hi = 0) :
    Calls Tryd.prog 7 #[.agg #[pv, rv], dv, .int .i64 s, .int .i64 lo, .int .i64 hi] w fun e w' => e = .returned (.bool true) ∧ Below w.heap.size w w' := by
  have hp0 := hp
  have hr0 := hr
  have hd0 := hd
  obtain ⟨X, cX, rfl, _, _, _⟩ := hp0
  obtain ⟨Y, cY, rfl, _, _, _⟩ := hr0
  obtain ⟨D, cD, rfl, hDc, hDm, hDs⟩ := hd0
  obtain ⟨bd, od, rfl, _, hDc0⟩ := hDs.num hn0
  have hcd := hDc0 0 hn0
  rw [Nat.add_zero, hd0v] at hcd
  have hd1 : Nums .i64 w (.slice (some ⟨bd, od, none⟩) 1 cD) [d0] := ⟨_, cD, rfl, by simp only [List.length_cons, List.length_nil]; omega, hDm, by have := hDs.head (m := 1) hn0; rwa [← List.map_take, take_one hn0, hd0v] at this⟩
  have hcD1 : 1 ≤ cD := by omega
  have hcD0 : cD ≠ 0 := by omega
  have hcI : (1 : Int) ≤ (cD : Int) := by omega
  have hnI : (1 : Int) ≤ (ds.length : Int) := by omega
  have hn1 : 1 ≤ ds.length := hn0
  have HD0 := Lib.hid hd0v
  clear hd0v hDc0 hDs
  have BB : Below w.heap.size w w := Below.refl _ _
  unfold maxLen at hDm
  obtain ⟨g0, l1, l5, s1, s2⟩ := stepsE_zero h1
  obtain ⟨y1, y2, y3, y4, y5⟩ := gridE_zero g0
  have hV1 : modE (stepsL ps ds s) (ps.length : Int) = 0 := (steps_valid y2 y1 l1 l5).1
  have hC1 : catsOf (stepsL ps ds s) = ds.length + 1 := (steps_valid y2 y1 l1 l5).2
  have hM1 : monoB (modE (stepsL ps ds s) (((stepsL ps ds s).length : Nat) : Int)) (catsOf (stepsL ps ds s)) (stepsL ps ds s) = true := by rw [stepsL_len, monoB_eq hV1]; exact steps_mono y5 s1 l1 l5
  clear g0 s1 s2 y1 y2 y3 y4 y5
  obtain ⟨g0, _, _, s1, s2, l1', l2', l3'⟩ := rampE_zero h2
  obtain ⟨y1, y2, y3, y4, y5⟩ := gridE_zero g0
  have hV2 : modE (rampL ps d0 s lo hi) (ps.length : Int) = 0 := (ramp_valid y2 y1 l1' l2' l3').1
  have hM2 : monoB (modE (rampL ps d0 s lo hi) (((rampL ps d0 s lo hi).length : Nat) : Int)) (catsOf (rampL ps d0 s lo hi)) (rampL ps d0 s lo hi) = true := by rw [rampL_len, monoB_eq hV2]; exact ramp_mono y5 s1 l3' l2'
  clear g0 s1 s2 l1' l2' l3' y1 y2 y3 y4 y5
  replace hV1 := Lib.hid hV1
  replace hM1 := Lib.hid hM1
  replace hV2 := Lib.hid hV2
  replace hM2 := Lib.hid hM2
  replace hC1 := Lib.hid hC1
  have H1 := Lib.hid h1
  have H2 := Lib.hid h2
  clear h1 h2
  go_enter Tryd.func7, Tryd.ntmps7
  go_wp2_with fail
  have hl : Below w.heap.size w (w.alloc (.cells #[.slice X ps.length cX, .slice Y rs.length cY] 33)) := lit_below _ _
  have hr1 : Row (w.alloc (.cells #[.slice X ps.length cX, .slice Y rs.length cY] 33)) (w.heap.size) 33 [.slice X ps.length cX, .slice Y rs.length cY] := row_at (by simp)
  refine (msteps_any _ _ _ ps rs ds s _ (hp.below hl) (hr.below hl) (hd.below hl)).mono ?_
  rintro e w1 ⟨v1, rfl, hA, hb⟩
  replace hr1 := hr1.keep hb
  replace hb : Below w.heap.size w w1 := hl.trans (hb.mono hl.size)
  clear hl
  replace hp := hp.below hb
  replace hr := hr.below hb
  replace hd := hd.below hb
  replace hd1 := hd1.below hb
  have BB : Below w.heap.size w w1 := hb
  replace hcd := (hb.cell (p := ⟨bd, od, none⟩) (block_lt_of_cell hcd)).trans hcd
  clear hb
  obtain ⟨aA, an, ac, rfl⟩ := intsL_slice hA
  rw [H1.out, onE_ok] at hA
  rw [H1.out]
  have t2 : ((ds.length : Int) == 0) = false := by rw [beq_eq_false_iff_ne]; omega
  have q00 : w1.cell? ⟨w.heap.size, 0, none⟩ = some (.slice X ps.length cX) := hr1.cell 0
  have q01 : w1.cell? ⟨w.heap.size, 1, none⟩ = some (.slice Y rs.length cY) := hr1.cell 1
  have z0 := hr1.lt
  go_wp2_with fail
  clear q00 q01 z0
  have hl : Below w1.heap.size w1 (w1.alloc (.cells #[.slice aA an ac] 24)) := lit_below _ _
  have hr2 : Row (w1.alloc (.cells #[.slice aA an ac] 24)) (w1.heap.size) 24 [.slice aA an ac] := row_at (by simp)
  refine (mvalid_any _ (stepsL ps ds s) _ _ (hA.below hl)).mono ?_
  rintro e w2 ⟨rfl, hb⟩
  replace hr2 := hr2.keep hb
  replace hb : Below w1.heap.size w1 w2 := hl.trans (hb.mono hl.size)
  clear hl
  replace hp := hp.below hb
  replace hr := hr.below hb
  replace hd := hd.below hb
  replace hd1 := hd1.below hb
  replace hr1 := hr1.keep hb
  replace hA := hA.below hb
  replace BB : Below w.heap.size w w2 := BB.trans (hb.mono BB.size)
  replace hcd := (hb.cell (p := ⟨bd, od, none⟩) (block_lt_of_cell hcd)).trans hcd
  clear hb
  rw [hV1.out]
  have q00 : w2.cell? ⟨w.heap.size, 0, none⟩ = some (.slice X ps.length cX) := hr1.cell 0
  have q01 : w2.cell? ⟨w.heap.size, 1, none⟩ = some (.slice Y rs.length cY) := hr1.cell 1
  have z0 := hr1.lt
  have q10 : w2.cell? ⟨w1.heap.size, 0, none⟩ = some (.slice aA an ac) := hr2.cell 0
  have z1 := hr2.lt
  go_wp2_with fail
  clear q00 q01 q10 z0 z1
  have hl : Below w2.heap.size w2 w2 := Below.refl _ _
  refine (mmono_any _ (stepsL ps ds s) _ (hA.below hl)).mono ?_
  rintro e w3 ⟨rfl, hb⟩
  replace hb : Below w2.heap.size w2 w3 := hl.trans (hb.mono hl.size)
  clear hl
  replace hp := hp.below hb
  replace hr := hr.below hb
  replace hd := hd.below hb
  replace hd1 := hd1.below hb
  replace hr1 := hr1.keep hb
  replace hA := hA.below hb
  replace hr2 := hr2.keep hb
  replace BB : Below w.heap.size w w3 := BB.trans (hb.mono BB.size)
  replace hcd := (hb.cell (p := ⟨bd, od, none⟩) (block_lt_of_cell hcd)).trans hcd
  clear hb
  rw [hM1.out]
  have q00 : w3.cell? ⟨w.heap.size, 0, none⟩ = some (.slice X ps.length cX) := hr1.cell 0
  have q01 : w3.cell? ⟨w.heap.size, 1, none⟩ = some (.slice Y rs.length cY) := hr1.cell 1
  have z0 := hr1.lt
  have q10 : w3.cell? ⟨w1.heap.size, 0, none⟩ = some (.slice aA an ac) := hr2.cell 0
  have z1 := hr2.lt
  go_wp2_with fail
  clear q00 q01 q10 z0 z1
  have hl : Below w3.heap.size w3 w3 := Below.refl _ _
  refine (cats_any _ (stepsL ps ds s) _ (hA.below hl)).mono ?_
  rintro e w4 ⟨rfl, hb⟩
  replace hb : Below w3.heap.size w3 w4 := hl.trans (hb.mono hl.size)
  clear hl
  replace hp := hp.below hb
  replace hr := hr.below hb
  replace hd := hd.below hb
  replace hd1 := hd1.below hb
  replace hr1 := hr1.keep hb
  replace hA := hA.below hb
  replace hr2 := hr2.keep hb
  replace BB : Below w.heap.size w w4 := BB.trans (hb.mono BB.size)
  replace hcd := (hb.cell (p := ⟨bd, od, none⟩) (block_lt_of_cell hcd)).trans hcd
  clear hb
  rw [hC1.out]
  have q00 : w4.cell? ⟨w.heap.size, 0, none⟩ = some (.slice X ps.length cX) := hr1.cell 0
  have q01 : w4.cell? ⟨w.heap.size, 1, none⟩ = some (.slice Y rs.length cY) := hr1.cell 1
  have z0 := hr1.lt
  have q10 : w4.cell? ⟨w1.heap.size, 0, none⟩ = some (.slice aA an ac) := hr2.cell 0
  have z1 := hr2.lt
  go_wp2_with fail
  have qg0 : w4.cell? ⟨w.heap.size, 0, none⟩ = some (.slice X ps.length cX) := hr1.cell 0
  have qg1 : w4.cell? ⟨w.heap.size, 1, none⟩ = some (.slice Y rs.length cY) := hr1.cell 1
  have qd : w4.cell? ⟨bd, od, none⟩ = some (.int .i64 d0) := hcd
  have zg := hr1.lt
  have zd := block_lt_of_cell hcd
  go_cut [13, 14] (fun s1 s2 wx => ∃ g A n c, s1 = .pointer (some ⟨g, 0, none⟩) ∧ s2 = .int .i64 (rampE (gridE ps rs) d0 s lo hi) ∧ Row wx g 24 [.slice A n c] ∧ IntsL wx (.slice A n c) (onE (rampE (gridE ps rs) d0 s lo hi) (rampL ps d0 s lo hi)) ∧ Below w4.heap.size w4 wx)
  case first =>
    go_region_held3 (fun w' => w'.cell? ⟨w.heap.size, 0, none⟩ = some (.slice X ps.length cX) ∧ w'.cell? ⟨w.heap.size, 1, none⟩ = some (.slice Y rs.length cY) ∧ w'.cell? ⟨bd, od, none⟩ = some (.int .i64 d0))
      ((refine keep3 zg zg zd qg0 qg1 qd ?_; (repeat (first | with_reducible exact Below.refl _ _ | with_reducible refine bl_call hb9 ?_ | ((with_reducible refine bl_setL ?_ ?_ _); rotate_left; exact Nat.le_refl _) | with_reducible refine lit_more ?_ _ | with_reducible refine bl_drew ?_)); done))
      ((go_at_call 17; ((with_reducible refine (ramp_anyF _ _ ps rs d0 s lo hi _ (hp.below ?_) (hr.below ?_)).mono ?_); ((repeat (first | with_reducible exact Below.refl _ _ | with_reducible refine bl_call hb9 ?_ | ((with_reducible refine bl_setL ?_ ?_ _); rotate_left; exact Nat.le_refl _) | with_reducible refine lit_more ?_ _ | with_reducible refine bl_drew ?_))); ((repeat (first | with_reducible exact Below.refl _ _ | with_reducible refine bl_call hb9 ?_ | ((with_reducible refine bl_setL ?_ ?_ _); rotate_left; exact Nat.le_refl _) | with_reducible refine lit_more ?_ _ | with_reducible refine bl_drew ?_))); rintro e w9 ⟨v9, rfl, hv9, hb9⟩; obtain ⟨A9, n9, c9, rfl⟩ := hv9.slice; (try (have R9 := (Row.drew (Row.new w4 24 [.slice none 0 0])).keep hb9; have e90 : w9.cell? ⟨w4.heap.size, 0, none⟩ = some (.slice none 0 0) := R9.cell 0; have f90 : w9.frozen? ⟨w4.heap.size, 0, none⟩ = false := R9.frozen 0)))))
    all_goals go_wp2_with fail
    all_goals go_meet
    all_goals go_light
    all_goals
      refine ⟨_, A9, n9, c9, rfl, rfl, ?_, ?_, ?_⟩
      · (first | exact Row.new _ _ _ | exact R9.set_ 0 _)
      · (first | exact hv9.ints.below (lit_below _ _) | exact (hv9.set_ (by simp) _).ints)
      · (first | ((repeat (first | with_reducible exact Below.refl _ _ | with_reducible refine bl_call hb9 ?_ | ((with_reducible refine bl_setL ?_ ?_ _); rotate_left; exact Nat.le_refl _) | with_reducible refine lit_more ?_ _ | with_reducible refine bl_drew ?_)); done) | exact (by (repeat (first | with_reducible exact Below.refl _ _ | with_reducible refine bl_call hb9 ?_ | ((with_reducible refine bl_setL ?_ ?_ _); rotate_left; exact Nat.le_refl _) | with_reducible refine lit_more ?_ _ | with_reducible refine bl_drew ?_)) : Below w4.heap.size w4 w9).setCell (Nat.le_refl _) _)
  case rest =>
  obtain ⟨Pg, PA, Pn, Pc, rfl, rfl, hrP, hP, hbc⟩ := hcut
  clear qg0 qg1 qd zg zd
  clear q00 q01 q10 z0 z1
  obtain ⟨w5, hw5⟩ : ∃ x, x = wc := ⟨_, rfl⟩
  rw [← hw5] at hrP hP hbc ⊢
  clear hw5
  replace BB : Below w.heap.size w w5 := BB.trans (hbc.mono BB.size)
  replace hcd := (hbc.cell (p := ⟨bd, od, none⟩) (block_lt_of_cell hcd)).trans hcd
  replace hp := hp.below hbc
  replace hr := hr.below hbc
  replace hd := hd.below hbc
  replace hd1 := hd1.below hbc
  replace hr1 := hr1.keep hbc
  replace hA := hA.below hbc
  replace hr2 := hr2.keep hbc
  clear hbc
  skip
  rw [H2.out, onE_ok] at hP
  rw [H2.out]
  have q00 : w5.cell? ⟨w.heap.size, 0, none⟩ = some (.slice X ps.length cX) := hr1.cell 0
  have q01 : w5.cell? ⟨w.heap.size, 1, none⟩ = some (.slice Y rs.length cY) := hr1.cell 1
  have z0 := hr1.lt
  have q10 : w5.cell? ⟨w1.heap.size, 0, none⟩ = some (.slice aA an ac) := hr2.cell 0
  have z1 := hr2.lt
  have q20 : w5.cell? ⟨Pg, 0, none⟩ = some (.slice PA Pn Pc) := hrP.cell 0
  have z2 := hrP.lt
  go_wp2_with fail
  clear q00 q01 q10 q20 z0 z1 z2
  have hl : Below w5.heap.size w5 w5 := Below.refl _ _
  refine (mvalid_any _ (rampL ps d0 s lo hi) _ _ (hP.below hl)).mono ?_
  rintro e w6 ⟨rfl, hb⟩
  replace hb : Below w5.heap.size w5 w6 := hl.trans (hb.mono hl.size)
  clear hl
  replace hp := hp.below hb
  replace hr := hr.below hb
  replace hd := hd.below hb
  replace hd1 := hd1.below hb
  replace hr1 := hr1.keep hb
  replace hA := hA.below hb
  replace hr2 := hr2.keep hb
  replace hrP := hrP.keep hb
  replace hP := hP.below hb
  replace BB : Below w.heap.size w w6 := BB.trans (hb.mono BB.size)
  replace hcd := (hb.cell (p := ⟨bd, od, none⟩) (block_lt_of_cell hcd)).trans hcd
  clear hb
  rw [hV2.out]
  have q00 : w6.cell? ⟨w.heap.size, 0, none⟩ = some (.slice X ps.length cX) := hr1.cell 0
  have q01 : w6.cell? ⟨w.heap.size, 1, none⟩ = some (.slice Y rs.length cY) := hr1.cell 1
  have z0 := hr1.lt
  have q10 : w6.cell? ⟨w1.heap.size, 0, none⟩ = some (.slice aA an ac) := hr2.cell 0
  have z1 := hr2.lt
  have q20 : w6.cell? ⟨Pg, 0, none⟩ = some (.slice PA Pn Pc) := hrP.cell 0
  have z2 := hrP.lt
  go_wp2_with fail
  clear q00 q01 q10 q20 z0 z1 z2
  have hl : Below w6.heap.size w6 w6 := Below.refl _ _
  refine (mmono_any _ (rampL ps d0 s lo hi) _ (hP.below hl)).mono ?_
  rintro e w7 ⟨rfl, hb⟩
  replace hb : Below w6.heap.size w6 w7 := hl.trans (hb.mono hl.size)
  clear hl
  replace hp := hp.below hb
  replace hr := hr.below hb
  replace hd := hd.below hb
  replace hd1 := hd1.below hb
  replace hr1 := hr1.keep hb
  replace hA := hA.below hb
  replace hr2 := hr2.keep hb
  replace hrP := hrP.keep hb
  replace hP := hP.below hb
  replace BB : Below w.heap.size w w7 := BB.trans (hb.mono BB.size)
  replace hcd := (hb.cell (p := ⟨bd, od, none⟩) (block_lt_of_cell hcd)).trans hcd
  clear hb
  rw [hM2.out]
  have q00 : w7.cell? ⟨w.heap.size, 0, none⟩ = some (.slice X ps.length cX) := hr1.cell 0
  have q01 : w7.cell? ⟨w.heap.size, 1, none⟩ = some (.slice Y rs.length cY) := hr1.cell 1
  have z0 := hr1.lt
  have q10 : w7.cell? ⟨w1.heap.size, 0, none⟩ = some (.slice aA an ac) := hr2.cell 0
  have z1 := hr2.lt
  have q20 : w7.cell? ⟨Pg, 0, none⟩ = some (.slice PA Pn Pc) := hrP.cell 0
  have z2 := hrP.lt
  go_wp2_with fail
  have qg0 : w7.cell? ⟨w.heap.size, 0, none⟩ = some (.slice X ps.length cX) := hr1.cell 0
  have qg1 : w7.cell? ⟨w.heap.size, 1, none⟩ = some (.slice Y rs.length cY) := hr1.cell 1
  have qd : w7.cell? ⟨bd, od, none⟩ = some (.int .i64 d0) := hcd
  have zg := hr1.lt
  have zd := block_lt_of_cell hcd
  go_cut [15, 14] (fun s1 s2 wx => ∃ g A n c, s1 = .pointer (some ⟨g, 0, none⟩) ∧ s2 = .int .i64 (rampE (gridE ps rs) d0 s 1 999) ∧ Row wx g 24 [.slice A n c] ∧ IntsL wx (.slice A n c) (onE (rampE (gridE ps rs) d0 s 1 999) (rampL ps d0 s 1 999)) ∧ Below w7.heap.size w7 wx)
  case first =>
    go_region_held3 (fun w' => w'.cell? ⟨w.heap.size, 0, none⟩ = some (.slice X ps.length cX) ∧ w'.cell? ⟨w.heap.size, 1, none⟩ = some (.slice Y rs.length cY) ∧ w'.cell? ⟨bd, od, none⟩ = some (.int .i64 d0))
      ((refine keep3 zg zg zd qg0 qg1 qd ?_; (repeat (first | with_reducible exact Below.refl _ _ | with_reducible refine bl_call hb9 ?_ | ((with_reducible refine bl_setL ?_ ?_ _); rotate_left; exact Nat.le_refl _) | with_reducible refine lit_more ?_ _ | with_reducible refine bl_drew ?_)); done))
      ((go_at_call 17; ((with_reducible refine (ramp_anyF _ _ ps rs d0 s 1 999 _ (hp.below ?_) (hr.below ?_)).mono ?_); ((repeat (first | with_reducible exact Below.refl _ _ | with_reducible refine bl_call hb9 ?_ | ((with_reducible refine bl_setL ?_ ?_ _); rotate_left; exact Nat.le_refl _) | with_reducible refine lit_more ?_ _ | with_reducible refine bl_drew ?_))); ((repeat (first | with_reducible exact Below.refl _ _ | with_reducible refine bl_call hb9 ?_ | ((with_reducible refine bl_setL ?_ ?_ _); rotate_left; exact Nat.le_refl _) | with_reducible refine lit_more ?_ _ | with_reducible refine bl_drew ?_))); rintro e w9 ⟨v9, rfl, hv9, hb9⟩; obtain ⟨A9, n9, c9, rfl⟩ := hv9.slice; (try (have R9 := (Row.drew (Row.new w7 24 [.slice none 0 0])).keep hb9; have e90 : w9.cell? ⟨w7.heap.size, 0, none⟩ = some (.slice none 0 0) := R9.cell 0; have f90 : w9.frozen? ⟨w7.heap.size, 0, none⟩ = false := R9.frozen 0)))))
    all_goals go_wp2_with fail
    all_goals go_meet
    all_goals go_light
    all_goals
      refine ⟨_, A9, n9, c9, rfl, rfl, ?_, ?_, ?_⟩
      · (first | exact Row.new _ _ _ | exact R9.set_ 0 _)
      · (first | exact hv9.ints.below (lit_below _ _) | exact (hv9.set_ (by simp) _).ints)
      · (first | ((repeat (first | with_reducible exact Below.refl _ _ | with_reducible refine bl_call hb9 ?_ | ((with_reducible refine bl_setL ?_ ?_ _); rotate_left; exact Nat.le_refl _) | with_reducible refine lit_more ?_ _ | with_reducible refine bl_drew ?_)); done) | exact (by (repeat (first | with_reducible exact Below.refl _ _ | with_reducible refine bl_call hb9 ?_ | ((with_reducible refine bl_setL ?_ ?_ _); rotate_left; exact Nat.le_refl _) | with_reducible refine lit_more ?_ _ | with_reducible refine bl_drew ?_)) : Below w7.heap.size w7 w9).setCell (Nat.le_refl _) _)
  case rest =>
  obtain ⟨Qg, QA, Qn, Qc, rfl, rfl, hrQ, hQ, hbc⟩ := hcut
  clear qg0 qg1 qd zg zd
  clear q00 q01 q10 q20 z0 z1 z2
  obtain ⟨w8, hw8⟩ : ∃ x, x = wc := ⟨_, rfl⟩
  rw [← hw8] at hrQ hQ hbc ⊢
  clear hw8
  replace BB : Below w.heap.size w w8 := BB.trans (hbc.mono BB.size)
  replace hcd := (hbc.cell (p := ⟨bd, od, none⟩) (block_lt_of_cell hcd)).trans hcd
  replace hp := hp.below hbc
  replace hr := hr.below hbc
  replace hd := hd.below hbc
  replace hd1 := hd1.below hbc
  replace hr1 := hr1.keep hbc
  replace hA := hA.below hbc
  replace hr2 := hr2.keep hbc
  replace hrP := hrP.keep hbc
  replace hP := hP.below hbc
  clear hbc
  have q00 : w8.cell? ⟨w.heap.size, 0, none⟩ = some (.slice X ps.length cX) := hr1.cell 0
  have q01 : w8.cell? ⟨w.heap.size, 1, none⟩ = some (.slice Y rs.length cY) := hr1.cell 1
  have z0 := hr1.lt
  have q10 : w8.cell? ⟨w1.heap.size, 0, none⟩ = some (.slice aA an ac) := hr2.cell 0
  have z1 := hr2.lt
  have q20 : w8.cell? ⟨Pg, 0, none⟩ = some (.slice PA Pn Pc) := hrP.cell 0
  have z2 := hrP.lt
  have q30 : w8.cell? ⟨Qg, 0, none⟩ = some (.slice QA Qn Qc) := hrQ.cell 0
  have z3 := hrQ.lt
  go_wp2_with fail
  have qg0 : w8.cell? ⟨w.heap.size, 0, none⟩ = some (.slice X ps.length cX) := hr1.cell 0
  have qg1 : w8.cell? ⟨w.heap.size, 1, none⟩ = some (.slice Y rs.length cY) := hr1.cell 1
  have qd : w8.cell? ⟨bd, od, none⟩ = some (.int .i64 d0) := hcd
  have zg := hr1.lt
  have zd := block_lt_of_cell hcd
  go_cut [16, 12] (fun s1 s2 wx => ∃ g A n c, s1 = .pointer (some ⟨g, 0, none⟩) ∧ s2 = .int .i64 (rampE (gridE ps rs) d0 s 1 999) ∧ Row wx g 24 [.slice A n c] ∧ IntsL wx (.slice A n c) (onE (rampE (gridE ps rs) d0 s 1 999) (rampL ps d0 s 1 999)) ∧ Below w8.heap.size w8 wx)
  case first =>
    go_region_held3 (fun w' => w'.cell? ⟨w.heap.size, 0, none⟩ = some (.slice X ps.length cX) ∧ w'.cell? ⟨w.heap.size, 1, none⟩ = some (.slice Y rs.length cY) ∧ w'.cell? ⟨bd, od, none⟩ = some (.int .i64 d0))
      ((refine keep3 zg zg zd qg0 qg1 qd ?_; (repeat (first | with_reducible exact Below.refl _ _ | with_reducible refine bl_call hb9 ?_ | ((with_reducible refine bl_setL ?_ ?_ _); rotate_left; exact Nat.le_refl _) | with_reducible refine lit_more ?_ _ | with_reducible refine bl_drew ?_)); done))
      ((go_at_call 20; ((with_reducible refine (steps_one _ _ _ ps rs d0 s _ (hp.below ?_) (hr.below ?_) (hd1.below ?_)).mono ?_); ((repeat (first | with_reducible exact Below.refl _ _ | with_reducible refine bl_call hb9 ?_ | ((with_reducible refine bl_setL ?_ ?_ _); rotate_left; exact Nat.le_refl _) | with_reducible refine lit_more ?_ _ | with_reducible refine bl_drew ?_))); ((repeat (first | with_reducible exact Below.refl _ _ | with_reducible refine bl_call hb9 ?_ | ((with_reducible refine bl_setL ?_ ?_ _); rotate_left; exact Nat.le_refl _) | with_reducible refine lit_more ?_ _ | with_reducible refine bl_drew ?_))); ((repeat (first | with_reducible exact Below.refl _ _ | with_reducible refine bl_call hb9 ?_ | ((with_reducible refine bl_setL ?_ ?_ _); rotate_left; exact Nat.le_refl _) | with_reducible refine lit_more ?_ _ | with_reducible refine bl_drew ?_))); rintro e w9 ⟨v9, rfl, hv9, hb9⟩; obtain ⟨A9, n9, c9, rfl⟩ := hv9.slice; (try (have R9 := (Row.drew (Row.new w8 24 [.slice none 0 0])).keep hb9; have e90 : w9.cell? ⟨w8.heap.size, 0, none⟩ = some (.slice none 0 0) := R9.cell 0; have f90 : w9.frozen? ⟨w8.heap.size, 0, none⟩ = false := R9.frozen 0)))))
    all_goals go_wp2_with fail
    all_goals go_meet
    all_goals go_light
    all_goals
      refine ⟨_, A9, n9, c9, rfl, rfl, ?_, ?_, ?_⟩
      · (first | exact Row.new _ _ _ | exact R9.set_ 0 _)
      · (first | exact hv9.ints.below (lit_below _ _) | exact (hv9.set_ (by simp) _).ints)
      · (first | ((repeat (first | with_reducible exact Below.refl _ _ | with_reducible refine bl_call hb9 ?_ | ((with_reducible refine bl_setL ?_ ?_ _); rotate_left; exact Nat.le_refl _) | with_reducible refine lit_more ?_ _ | with_reducible refine bl_drew ?_)); done) | exact (by (repeat (first | with_reducible exact Below.refl _ _ | with_reducible refine bl_call hb9 ?_ | ((with_reducible refine bl_setL ?_ ?_ _); rotate_left; exact Nat.le_refl _) | with_reducible refine lit_more ?_ _ | with_reducible refine bl_drew ?_)) : Below w8.heap.size w8 w9).setCell (Nat.le_refl _) _)
  case rest =>
  obtain ⟨Tg, TA, Tn, Tc, rfl, rfl, hrT, hT, hbc⟩ := hcut
  clear qg0 qg1 qd zg zd
  clear q00 q01 q10 q20 q30 z0 z1 z2 z3
  obtain ⟨w9, hw9⟩ : ∃ x, x = wc := ⟨_, rfl⟩
  rw [← hw9] at hrT hT hbc ⊢
  clear hw9
  replace BB : Below w.heap.size w w9 := BB.trans (hbc.mono BB.size)
  replace hcd := (hbc.cell (p := ⟨bd, od, none⟩) (block_lt_of_cell hcd)).trans hcd
  replace hp := hp.below hbc
  replace hr := hr.below hbc
  replace hd := hd.below hbc
  replace hd1 := hd1.below hbc
  replace hr1 := hr1.keep hbc
  replace hA := hA.below hbc
  replace hr2 := hr2.keep hbc
  replace hrP := hrP.keep hbc
  replace hP := hP.below hbc
  replace hrQ := hrQ.keep hbc
  replace hQ := hQ.below hbc
  clear hbc
  generalize rampE (gridE ps rs) d0 s 1 999 = e3 at *
  have q00 : w9.cell? ⟨w.heap.size, 0, none⟩ = some (.slice X ps.length cX) := hr1.cell 0
  have q01 : w9.cell? ⟨w.heap.size, 1, none⟩ = some (.slice Y rs.length cY) := hr1.cell 1
  have z0 := hr1.lt
  have q10 : w9.cell? ⟨w1.heap.size, 0, none⟩ = some (.slice aA an ac) := hr2.cell 0
  have z1 := hr2.lt
  have q20 : w9.cell? ⟨Pg, 0, none⟩ = some (.slice PA Pn Pc) := hrP.cell 0
  have z2 := hrP.lt
  have q30 : w9.cell? ⟨Qg, 0, none⟩ = some (.slice QA Qn Qc) := hrQ.cell 0
  have z3 := hrQ.lt
  have q40 : w9.cell? ⟨Tg, 0, none⟩ = some (.slice TA Tn Tc) := hrT.cell 0
  have z4 := hrT.lt
  go_wp2_with fail
  clear q00 q01 q10 q20 q30 q40 z0 z1 z2 z3 z4
  have hl : Below w9.heap.size w9 w9 := Below.refl _ _
  refine (same_yes _ _ _ _ (hQ.below hl) (hT.below hl)).mono ?_
  rintro e w10 ⟨rfl, hb⟩
  replace hb : Below w9.heap.size w9 w10 := hl.trans (hb.mono hl.size)
  clear hl
  replace hp := hp.below hb
  replace hr := hr.below hb
  replace hd := hd.below hb
  replace hd1 := hd1.below hb
  replace hr1 := hr1.keep hb
  replace hA := hA.below hb
  replace hr2 := hr2.keep hb
  replace hrP := hrP.keep hb
  replace hP := hP.below hb
  replace hrQ := hrQ.keep hb
  replace hQ := hQ.below hb
  replace hrT := hrT.keep hb
  replace hT := hT.below hb
  replace BB : Below w.heap.size w w10 := BB.trans (hb.mono BB.size)
  replace hcd := (hb.cell (p := ⟨bd, od, none⟩) (block_lt_of_cell hcd)).trans hcd
  clear hb
  have q00 : w10.cell? ⟨w.heap.size, 0, none⟩ = some (.slice X ps.length cX) := hr1.cell 0
  have q01 : w10.cell? ⟨w.heap.size, 1, none⟩ = some (.slice Y rs.length cY) := hr1.cell 1
  have z0 := hr1.lt
  have q10 : w10.cell? ⟨w1.heap.size, 0, none⟩ = some (.slice aA an ac) := hr2.cell 0
  have z1 := hr2.lt
  have q20 : w10.cell? ⟨Pg, 0, none⟩ = some (.slice PA Pn Pc) := hrP.cell 0
  have z2 := hrP.lt
  have q30 : w10.cell? ⟨Qg, 0, none⟩ = some (.slice QA Qn Qc) := hrQ.cell 0
  have z3 := hrQ.lt
  have q40 : w10.cell? ⟨Tg, 0, none⟩ = some (.slice TA Tn Tc) := hrT.cell 0
  have z4 := hrT.lt
  go_wp2_with fail
  clear q00 q01 q10 q20 q30 q40 z0 z1 z2 z3 z4
  have hl : Below w10.heap.size w10 w10 := Below.refl _ _
  refine (awake_any _).mono ?_
  rintro e w11 ⟨rfl, hb⟩
  replace hb : Below w10.heap.size w10 w11 := hl.trans (hb.mono hl.size)
  clear hl
  replace hp := hp.below hb
  replace hr := hr.below hb
  replace hd := hd.below hb
  replace hd1 := hd1.below hb
  replace hr1 := hr1.keep hb
  replace hA := hA.below hb
  replace hr2 := hr2.keep hb
  replace hrP := hrP.keep hb
  replace hP := hP.below hb
  replace hrQ := hrQ.keep hb
  replace hQ := hQ.below hb
  replace hrT := hrT.keep hb
  replace hT := hT.below hb
  replace BB : Below w.heap.size w w11 := BB.trans (hb.mono BB.size)
  replace hcd := (hb.cell (p := ⟨bd, od, none⟩) (block_lt_of_cell hcd)).trans hcd
  clear hb
  go_wp2_with fail
  go_ret
  exact ⟨rfl, BB⟩

set_option maxRecDepth 100000 in
set_option maxHeartbeats 8000000 in
theorem rises_tf (pv rv dv : Value) (ps rs ds : List Int) (s lo hi : Int) (w : World) (hp : Nums .i64 w pv ps) (hr : Nums .i64 w rv rs) (hd : Nums .i64 w dv ds) (d0 : Int) (hn0 : 0 < ds.length) (hd0v : ds.getD 0 0 = d0) (h1 : stepsE (gridE ps rs) ds s = 0) (h2 : rampE (gridE ps rs) d0 s lo hi ≠ 0) :
    Calls Tryd.prog 7 #[.agg #[pv, rv], dv, .int .i64 s, .int .i64 lo, .int .i64 hi] w fun e w' => e = .returned (.bool true) ∧ Below w.heap.size w w' := by
  have hp0 := hp
  have hr0 := hr
  have hd0 := hd
  obtain ⟨X, cX, rfl, _, _, _⟩ := hp0
  obtain ⟨Y, cY, rfl, _, _, _⟩ := hr0
  obtain ⟨D, cD, rfl, hDc, hDm, hDs⟩ := hd0
  obtain ⟨bd, od, rfl, _, hDc0⟩ := hDs.num hn0
  have hcd := hDc0 0 hn0
  rw [Nat.add_zero, hd0v] at hcd
  have hd1 : Nums .i64 w (.slice (some ⟨bd, od, none⟩) 1 cD) [d0] := ⟨_, cD, rfl, by simp only [List.length_cons, List.length_nil]; omega, hDm, by have := hDs.head (m := 1) hn0; rwa [← List.map_take, take_one hn0, hd0v] at this⟩
  have hcD1 : 1 ≤ cD := by omega
  have hcD0 : cD ≠ 0 := by omega
  have hcI : (1 : Int) ≤ (cD : Int) := by omega
  have hnI : (1 : Int) ≤ (ds.length : Int) := by omega
  have hn1 : 1 ≤ ds.length := hn0
  have HD0 := Lib.hid hd0v
  clear hd0v hDc0 hDs
  have BB : Below w.heap.size w w := Below.refl _ _
  unfold maxLen at hDm
  obtain ⟨g0, l1, l5, s1, s2⟩ := stepsE_zero h1
  obtain ⟨y1, y2, y3, y4, y5⟩ := gridE_zero g0
  have hV1 : modE (stepsL ps ds s) (ps.length : Int) = 0 := (steps_valid y2 y1 l1 l5).1
  have hC1 : catsOf (stepsL ps ds s) = ds.length + 1 := (steps_valid y2 y1 l1 l5).2
  have hM1 : monoB (modE (stepsL ps ds s) (((stepsL ps ds s).length : Nat) : Int)) (catsOf (stepsL ps ds s)) (stepsL ps ds s) = true := by rw [stepsL_len, monoB_eq hV1]; exact steps_mono y5 s1 l1 l5
  clear g0 s1 s2 y1 y2 y3 y4 y5
  replace hV1 := Lib.hid hV1
  replace hM1 := Lib.hid hM1
  replace hC1 := Lib.hid hC1
  have H1 := Lib.hid h1
  have H2 := Lib.hid h2
  clear h1 h2
  go_enter Tryd.func7, Tryd.ntmps7
  go_wp2_with fail
  have hl : Below w.heap.size w (w.alloc (.cells #[.slice X ps.length cX, .slice Y rs.length cY] 33)) := lit_below _ _
  have hr1 : Row (w.alloc (.cells #[.slice X ps.length cX, .slice Y rs.length cY] 33)) (w.heap.size) 33 [.slice X ps.length cX, .slice Y rs.length cY] := row_at (by simp)
  refine (msteps_any _ _ _ ps rs ds s _ (hp.below hl) (hr.below hl) (hd.below hl)).mono ?_
  rintro e w1 ⟨v1, rfl, hA, hb⟩
  replace hr1 := hr1.keep hb
  replace hb : Below w.heap.size w w1 := hl.trans (hb.mono hl.size)
  clear hl
  replace hp := hp.below hb
  replace hr := hr.below hb
  replace hd := hd.below hb
  replace hd1 := hd1.below hb
  have BB : Below w.heap.size w w1 := hb
  replace hcd := (hb.cell (p := ⟨bd, od, none⟩) (block_lt_of_cell hcd)).trans hcd
  clear hb
  obtain ⟨aA, an, ac, rfl⟩ := intsL_slice hA
  rw [H1.out, onE_ok] at hA
  rw [H1.out]
  have t2 : ((ds.length : Int) == 0) = false := by rw [beq_eq_false_iff_ne]; omega
  have q00 : w1.cell? ⟨w.heap.size, 0, none⟩ = some (.slice X ps.length cX) := hr1.cell 0
  have q01 : w1.cell? ⟨w.heap.size, 1, none⟩ = some (.slice Y rs.length cY) := hr1.cell 1
  have z0 := hr1.lt
  go_wp2_with fail
  clear q00 q01 z0
  have hl : Below w1.heap.size w1 (w1.alloc (.cells #[.slice aA an ac] 24)) := lit_below _ _
  have hr2 : Row (w1.alloc (.cells #[.slice aA an ac] 24)) (w1.heap.size) 24 [.slice aA an ac] := row_at (by simp)
  refine (mvalid_any _ (stepsL ps ds s) _ _ (hA.below hl)).mono ?_
  rintro e w2 ⟨rfl, hb⟩
  replace hr2 := hr2.keep hb
  replace hb : Below w1.heap.size w1 w2 := hl.trans (hb.mono hl.size)
  clear hl
  replace hp := hp.below hb
  replace hr := hr.below hb
  replace hd := hd.below hb
  replace hd1 := hd1.below hb
  replace hr1 := hr1.keep hb
  replace hA := hA.below hb
  replace BB : Below w.heap.size w w2 := BB.trans (hb.mono BB.size)
  replace hcd := (hb.cell (p := ⟨bd, od, none⟩) (block_lt_of_cell hcd)).trans hcd
  clear hb
  rw [hV1.out]
  have q00 : w2.cell? ⟨w.heap.size, 0, none⟩ = some (.slice X ps.length cX) := hr1.cell 0
  have q01 : w2.cell? ⟨w.heap.size, 1, none⟩ = some (.slice Y rs.length cY) := hr1.cell 1
  have z0 := hr1.lt
  have q10 : w2.cell? ⟨w1.heap.size, 0, none⟩ = some (.slice aA an ac) := hr2.cell 0
  have z1 := hr2.lt
  go_wp2_with fail
  clear q00 q01 q10 z0 z1
  have hl : Below w2.heap.size w2 w2 := Below.refl _ _
  refine (mmono_any _ (stepsL ps ds s) _ (hA.below hl)).mono ?_
  rintro e w3 ⟨rfl, hb⟩
  replace hb : Below w2.heap.size w2 w3 := hl.trans (hb.mono hl.size)
  clear hl
  replace hp := hp.below hb
  replace hr := hr.below hb
  replace hd := hd.below hb
  replace hd1 := hd1.below hb
  replace hr1 := hr1.keep hb
  replace hA := hA.below hb
  replace hr2 := hr2.keep hb
  replace BB : Below w.heap.size w w3 := BB.trans (hb.mono BB.size)
  replace hcd := (hb.cell (p := ⟨bd, od, none⟩) (block_lt_of_cell hcd)).trans hcd
  clear hb
  rw [hM1.out]
  have q00 : w3.cell? ⟨w.heap.size, 0, none⟩ = some (.slice X ps.length cX) := hr1.cell 0
  have q01 : w3.cell? ⟨w.heap.size, 1, none⟩ = some (.slice Y rs.length cY) := hr1.cell 1
  have z0 := hr1.lt
  have q10 : w3.cell? ⟨w1.heap.size, 0, none⟩ = some (.slice aA an ac) := hr2.cell 0
  have z1 := hr2.lt
  go_wp2_with fail
  clear q00 q01 q10 z0 z1
  have hl : Below w3.heap.size w3 w3 := Below.refl _ _
  refine (cats_any _ (stepsL ps ds s) _ (hA.below hl)).mono ?_
  rintro e w4 ⟨rfl, hb⟩
  replace hb : Below w3.heap.size w3 w4 := hl.trans (hb.mono hl.size)
  clear hl
  replace hp := hp.below hb
  replace hr := hr.below hb
  replace hd := hd.below hb
  replace hd1 := hd1.below hb
  replace hr1 := hr1.keep hb
  replace hA := hA.below hb
  replace hr2 := hr2.keep hb
  replace BB : Below w.heap.size w w4 := BB.trans (hb.mono BB.size)
  replace hcd := (hb.cell (p := ⟨bd, od, none⟩) (block_lt_of_cell hcd)).trans hcd
  clear hb
  rw [hC1.out]
  have q00 : w4.cell? ⟨w.heap.size, 0, none⟩ = some (.slice X ps.length cX) := hr1.cell 0
  have q01 : w4.cell? ⟨w.heap.size, 1, none⟩ = some (.slice Y rs.length cY) := hr1.cell 1
  have z0 := hr1.lt
  have q10 : w4.cell? ⟨w1.heap.size, 0, none⟩ = some (.slice aA an ac) := hr2.cell 0
  have z1 := hr2.lt
  go_wp2_with fail
  have qg0 : w4.cell? ⟨w.heap.size, 0, none⟩ = some (.slice X ps.length cX) := hr1.cell 0
  have qg1 : w4.cell? ⟨w.heap.size, 1, none⟩ = some (.slice Y rs.length cY) := hr1.cell 1
  have qd : w4.cell? ⟨bd, od, none⟩ = some (.int .i64 d0) := hcd
  have zg := hr1.lt
  have zd := block_lt_of_cell hcd
  go_cut [13, 14] (fun s1 s2 wx => ∃ g A n c, s1 = .pointer (some ⟨g, 0, none⟩) ∧ s2 = .int .i64 (rampE (gridE ps rs) d0 s lo hi) ∧ Row wx g 24 [.slice A n c] ∧ IntsL wx (.slice A n c) (onE (rampE (gridE ps rs) d0 s lo hi) (rampL ps d0 s lo hi)) ∧ Below w4.heap.size w4 wx)
  case first =>
    go_region_held3 (fun w' => w'.cell? ⟨w.heap.size, 0, none⟩ = some (.slice X ps.length cX) ∧ w'.cell? ⟨w.heap.size, 1, none⟩ = some (.slice Y rs.length cY) ∧ w'.cell? ⟨bd, od, none⟩ = some (.int .i64 d0))
      ((refine keep3 zg zg zd qg0 qg1 qd ?_; (repeat (first | with_reducible exact Below.refl _ _ | with_reducible refine bl_call hb9 ?_ | ((with_reducible refine bl_setL ?_ ?_ _); rotate_left; exact Nat.le_refl _) | with_reducible refine lit_more ?_ _ | with_reducible refine bl_drew ?_)); done))
      ((go_at_call 17; ((with_reducible refine (ramp_anyF _ _ ps rs d0 s lo hi _ (hp.below ?_) (hr.below ?_)).mono ?_); ((repeat (first | with_reducible exact Below.refl _ _ | with_reducible refine bl_call hb9 ?_ | ((with_reducible refine bl_setL ?_ ?_ _); rotate_left; exact Nat.le_refl _) | with_reducible refine lit_more ?_ _ | with_reducible refine bl_drew ?_))); ((repeat (first | with_reducible exact Below.refl _ _ | with_reducible refine bl_call hb9 ?_ | ((with_reducible refine bl_setL ?_ ?_ _); rotate_left; exact Nat.le_refl _) | with_reducible refine lit_more ?_ _ | with_reducible refine bl_drew ?_))); rintro e w9 ⟨v9, rfl, hv9, hb9⟩; obtain ⟨A9, n9, c9, rfl⟩ := hv9.slice; (try (have R9 := (Row.drew (Row.new w4 24 [.slice none 0 0])).keep hb9; have e90 : w9.cell? ⟨w4.heap.size, 0, none⟩ = some (.slice none 0 0) := R9.cell 0; have f90 : w9.frozen? ⟨w4.heap.size, 0, none⟩ = false := R9.frozen 0)))))
    all_goals go_wp2_with fail
    all_goals go_meet
    all_goals go_light
    all_goals
      refine ⟨_, A9, n9, c9, rfl, rfl, ?_, ?_, ?_⟩
      · (first | exact Row.new _ _ _ | exact R9.set_ 0 _)
      · (first | exact hv9.ints.below (lit_below _ _) | exact (hv9.set_ (by simp) _).ints)
      · (first | ((repeat (first | with_reducible exact Below.refl _ _ | with_reducible refine bl_call hb9 ?_ | ((with_reducible refine bl_setL ?_ ?_ _); rotate_left; exact Nat.le_refl _) | with_reducible refine lit_more ?_ _ | with_reducible refine bl_drew ?_)); done) | exact (by (repeat (first | with_reducible exact Below.refl _ _ | with_reducible refine bl_call hb9 ?_ | ((with_reducible refine bl_setL ?_ ?_ _); rotate_left; exact Nat.le_refl _) | with_reducible refine lit_more ?_ _ | with_reducible refine bl_drew ?_)) : Below w4.heap.size w4 w9).setCell (Nat.le_refl _) _)
  case rest =>
  obtain ⟨Pg, PA, Pn, Pc, rfl, rfl, hrP, hP, hbc⟩ := hcut
  clear qg0 qg1 qd zg zd
  clear q00 q01 q10 z0 z1
  obtain ⟨w5, hw5⟩ : ∃ x, x = wc := ⟨_, rfl⟩
  rw [← hw5] at hrP hP hbc ⊢
  clear hw5
  replace BB : Below w.heap.size w w5 := BB.trans (hbc.mono BB.size)
  replace hcd := (hbc.cell (p := ⟨bd, od, none⟩) (block_lt_of_cell hcd)).trans hcd
  replace hp := hp.below hbc
  replace hr := hr.below hbc
  replace hd := hd.below hbc
  replace hd1 := hd1.below hbc
  replace hr1 := hr1.keep hbc
  replace hA := hA.below hbc
  replace hr2 := hr2.keep hbc
  clear hbc
  have t3 : (rampE (gridE ps rs) d0 s lo hi == 0) = false := by rw [beq_eq_false_iff_ne]; exact H2.out
  generalize rampE (gridE ps rs) d0 s lo hi = e2 at *
  have q00 : w5.cell? ⟨w.heap.size, 0, none⟩ = some (.slice X ps.length cX) := hr1.cell 0
  have q01 : w5.cell? ⟨w.heap.size, 1, none⟩ = some (.slice Y rs.length cY) := hr1.cell 1
  have z0 := hr1.lt
  have q10 : w5.cell? ⟨w1.heap.size, 0, none⟩ = some (.slice aA an ac) := hr2.cell 0
  have z1 := hr2.lt
  have q20 : w5.cell? ⟨Pg, 0, none⟩ = some (.slice PA Pn Pc) := hrP.cell 0
  have z2 := hrP.lt
  go_wp2_with fail
  have qg0 : w5.cell? ⟨w.heap.size, 0, none⟩ = some (.slice X ps.length cX) := hr1.cell 0
  have qg1 : w5.cell? ⟨w.heap.size, 1, none⟩ = some (.slice Y rs.length cY) := hr1.cell 1
  have qd : w5.cell? ⟨bd, od, none⟩ = some (.int .i64 d0) := hcd
  have zg := hr1.lt
  have zd := block_lt_of_cell hcd
  go_cut [15, 14] (fun s1 s2 wx => ∃ g A n c, s1 = .pointer (some ⟨g, 0, none⟩) ∧ s2 = .int .i64 (rampE (gridE ps rs) d0 s 1 999) ∧ Row wx g 24 [.slice A n c] ∧ IntsL wx (.slice A n c) (onE (rampE (gridE ps rs) d0 s 1 999) (rampL ps d0 s 1 999)) ∧ Below w5.heap.size w5 wx)
  case first =>
    go_region_held3 (fun w' => w'.cell? ⟨w.heap.size, 0, none⟩ = some (.slice X ps.length cX) ∧ w'.cell? ⟨w.heap.size, 1, none⟩ = some (.slice Y rs.length cY) ∧ w'.cell? ⟨bd, od, none⟩ = some (.int .i64 d0))
      ((refine keep3 zg zg zd qg0 qg1 qd ?_; (repeat (first | with_reducible exact Below.refl _ _ | with_reducible refine bl_call hb9 ?_ | ((with_reducible refine bl_setL ?_ ?_ _); rotate_left; exact Nat.le_refl _) | with_reducible refine lit_more ?_ _ | with_reducible refine bl_drew ?_)); done))
      ((go_at_call 17; ((with_reducible refine (ramp_anyF _ _ ps rs d0 s 1 999 _ (hp.below ?_) (hr.below ?_)).mono ?_); ((repeat (first | with_reducible exact Below.refl _ _ | with_reducible refine bl_call hb9 ?_ | ((with_reducible refine bl_setL ?_ ?_ _); rotate_left; exact Nat.le_refl _) | with_reducible refine lit_more ?_ _ | with_reducible refine bl_drew ?_))); ((repeat (first | with_reducible exact Below.refl _ _ | with_reducible refine bl_call hb9 ?_ | ((with_reducible refine bl_setL ?_ ?_ _); rotate_left; exact Nat.le_refl _) | with_reducible refine lit_more ?_ _ | with_reducible refine bl_drew ?_))); rintro e w9 ⟨v9, rfl, hv9, hb9⟩; obtain ⟨A9, n9, c9, rfl⟩ := hv9.slice; (try (have R9 := (Row.drew (Row.new w5 24 [.slice none 0 0])).keep hb9; have e90 : w9.cell? ⟨w5.heap.size, 0, none⟩ = some (.slice none 0 0) := R9.cell 0; have f90 : w9.frozen? ⟨w5.heap.size, 0, none⟩ = false := R9.frozen 0)))))
    all_goals go_wp2_with fail
    all_goals go_meet
    all_goals go_light
    all_goals
      refine ⟨_, A9, n9, c9, rfl, rfl, ?_, ?_, ?_⟩
      · (first | exact Row.new _ _ _ | exact R9.set_ 0 _)
      · (first | exact hv9.ints.below (lit_below _ _) | exact (hv9.set_ (by simp) _).ints)
      · (first | ((repeat (first | with_reducible exact Below.refl _ _ | with_reducible refine bl_call hb9 ?_ | ((with_reducible refine bl_setL ?_ ?_ _); rotate_left; exact Nat.le_refl _) | with_reducible refine lit_more ?_ _ | with_reducible refine bl_drew ?_)); done) | exact (by (repeat (first | with_reducible exact Below.refl _ _ | with_reducible refine bl_call hb9 ?_ | ((with_reducible refine bl_setL ?_ ?_ _); rotate_left; exact Nat.le_refl _) | with_reducible refine lit_more ?_ _ | with_reducible refine bl_drew ?_)) : Below w5.heap.size w5 w9).setCell (Nat.le_refl _) _)
  case rest =>
  obtain ⟨Qg, QA, Qn, Qc, rfl, rfl, hrQ, hQ, hbc⟩ := hcut
  clear qg0 qg1 qd zg zd
  clear q00 q01 q10 q20 z0 z1 z2
  obtain ⟨w6, hw6⟩ : ∃ x, x = wc := ⟨_, rfl⟩
  rw [← hw6] at hrQ hQ hbc ⊢
  clear hw6
  replace BB : Below w.heap.size w w6 := BB.trans (hbc.mono BB.size)
  replace hcd := (hbc.cell (p := ⟨bd, od, none⟩) (block_lt_of_cell hcd)).trans hcd
  replace hp := hp.below hbc
  replace hr := hr.below hbc
  replace hd := hd.below hbc
  replace hd1 := hd1.below hbc
  replace hr1 := hr1.keep hbc
  replace hA := hA.below hbc
  replace hr2 := hr2.keep hbc
  replace hrP := hrP.keep hbc
  replace hP := hP.below hbc
  clear hbc
  have q00 : w6.cell? ⟨w.heap.size, 0, none⟩ = some (.slice X ps.length cX) := hr1.cell 0
  have q01 : w6.cell? ⟨w.heap.size, 1, none⟩ = some (.slice Y rs.length cY) := hr1.cell 1
  have z0 := hr1.lt
  have q10 : w6.cell? ⟨w1.heap.size, 0, none⟩ = some (.slice aA an ac) := hr2.cell 0
  have z1 := hr2.lt
  have q20 : w6.cell? ⟨Pg, 0, none⟩ = some (.slice PA Pn Pc) := hrP.cell 0
  have z2 := hrP.lt
  have q30 : w6.cell? ⟨Qg, 0, none⟩ = some (.slice QA Qn Qc) := hrQ.cell 0
  have z3 := hrQ.lt
  go_wp2_with fail
  have qg0 : w6.cell? ⟨w.heap.size, 0, none⟩ = some (.slice X ps.length cX) := hr1.cell 0
  have qg1 : w6.cell? ⟨w.heap.size, 1, none⟩ = some (.slice Y rs.length cY) := hr1.cell 1
  have qd : w6.cell? ⟨bd, od, none⟩ = some (.int .i64 d0) := hcd
  have zg := hr1.lt
  have zd := block_lt_of_cell hcd
  go_cut [16, 12] (fun s1 s2 wx => ∃ g A n c, s1 = .pointer (some ⟨g, 0, none⟩) ∧ s2 = .int .i64 (rampE (gridE ps rs) d0 s 1 999) ∧ Row wx g 24 [.slice A n c] ∧ IntsL wx (.slice A n c) (onE (rampE (gridE ps rs) d0 s 1 999) (rampL ps d0 s 1 999)) ∧ Below w6.heap.size w6 wx)
  case first =>
    go_region_held3 (fun w' => w'.cell? ⟨w.heap.size, 0, none⟩ = some (.slice X ps.length cX) ∧ w'.cell? ⟨w.heap.size, 1, none⟩ = some (.slice Y rs.length cY) ∧ w'.cell? ⟨bd, od, none⟩ = some (.int .i64 d0))
      ((refine keep3 zg zg zd qg0 qg1 qd ?_; (repeat (first | with_reducible exact Below.refl _ _ | with_reducible refine bl_call hb9 ?_ | ((with_reducible refine bl_setL ?_ ?_ _); rotate_left; exact Nat.le_refl _) | with_reducible refine lit_more ?_ _ | with_reducible refine bl_drew ?_)); done))
      ((go_at_call 20; ((with_reducible refine (steps_one _ _ _ ps rs d0 s _ (hp.below ?_) (hr.below ?_) (hd1.below ?_)).mono ?_); ((repeat (first | with_reducible exact Below.refl _ _ | with_reducible refine bl_call hb9 ?_ | ((with_reducible refine bl_setL ?_ ?_ _); rotate_left; exact Nat.le_refl _) | with_reducible refine lit_more ?_ _ | with_reducible refine bl_drew ?_))); ((repeat (first | with_reducible exact Below.refl _ _ | with_reducible refine bl_call hb9 ?_ | ((with_reducible refine bl_setL ?_ ?_ _); rotate_left; exact Nat.le_refl _) | with_reducible refine lit_more ?_ _ | with_reducible refine bl_drew ?_))); ((repeat (first | with_reducible exact Below.refl _ _ | with_reducible refine bl_call hb9 ?_ | ((with_reducible refine bl_setL ?_ ?_ _); rotate_left; exact Nat.le_refl _) | with_reducible refine lit_more ?_ _ | with_reducible refine bl_drew ?_))); rintro e w9 ⟨v9, rfl, hv9, hb9⟩; obtain ⟨A9, n9, c9, rfl⟩ := hv9.slice; (try (have R9 := (Row.drew (Row.new w6 24 [.slice none 0 0])).keep hb9; have e90 : w9.cell? ⟨w6.heap.size, 0, none⟩ = some (.slice none 0 0) := R9.cell 0; have f90 : w9.frozen? ⟨w6.heap.size, 0, none⟩ = false := R9.frozen 0)))))
    all_goals go_wp2_with fail
    all_goals go_meet
    all_goals go_light
    all_goals
      refine ⟨_, A9, n9, c9, rfl, rfl, ?_, ?_, ?_⟩
      · (first | exact Row.new _ _ _ | exact R9.set_ 0 _)
      · (first | exact hv9.ints.below (lit_below _ _) | exact (hv9.set_ (by simp) _).ints)
      · (first | ((repeat (first | with_reducible exact Below.refl _ _ | with_reducible refine bl_call hb9 ?_ | ((with_reducible refine bl_setL ?_ ?_ _); rotate_left; exact Nat.le_refl _) | with_reducible refine lit_more ?_ _ | with_reducible refine bl_drew ?_)); done) | exact (by (repeat (first | with_reducible exact Below.refl _ _ | with_reducible refine bl_call hb9 ?_ | ((with_reducible refine bl_setL ?_ ?_ _); rotate_left; exact Nat.le_refl _) | with_reducible refine lit_more ?_ _ | with_reducible refine bl_drew ?_)) : Below w6.heap.size w6 w9).setCell (Nat.le_refl _) _)
  case rest =>
  obtain ⟨Tg, TA, Tn, Tc, rfl, rfl, hrT, hT, hbc⟩ := hcut
  clear qg0 qg1 qd zg zd
  clear q00 q01 q10 q20 q30 z0 z1 z2 z3
  obtain ⟨w7, hw7⟩ : ∃ x, x = wc := ⟨_, rfl⟩
  rw [← hw7] at hrT hT hbc ⊢
  clear hw7
  replace BB : Below w.heap.size w w7 := BB.trans (hbc.mono BB.size)
  replace hcd := (hbc.cell (p := ⟨bd, od, none⟩) (block_lt_of_cell hcd)).trans hcd
  replace hp := hp.below hbc
  replace hr := hr.below hbc
  replace hd := hd.below hbc
  replace hd1 := hd1.below hbc
  replace hr1 := hr1.keep hbc
  replace hA := hA.below hbc
  replace hr2 := hr2.keep hbc
  replace hrP := hrP.keep hbc
  replace hP := hP.below hbc
  replace hrQ := hrQ.keep hbc
  replace hQ := hQ.below hbc
  clear hbc
  generalize rampE (gridE ps rs) d0 s 1 999 = e3 at *
  have q00 : w7.cell? ⟨w.heap.size, 0, none⟩ = some (.slice X ps.length cX) := hr1.cell 0
  have q01 : w7.cell? ⟨w.heap.size, 1, none⟩ = some (.slice Y rs.length cY) := hr1.cell 1
  have z0 := hr1.lt
  have q10 : w7.cell? ⟨w1.heap.size, 0, none⟩ = some (.slice aA an ac) := hr2.cell 0
  have z1 := hr2.lt
  have q20 : w7.cell? ⟨Pg, 0, none⟩ = some (.slice PA Pn Pc) := hrP.cell 0
  have z2 := hrP.lt
  have q30 : w7.cell? ⟨Qg, 0, none⟩ = some (.slice QA Qn Qc) := hrQ.cell 0
  have z3 := hrQ.lt
  have q40 : w7.cell? ⟨Tg, 0, none⟩ = some (.slice TA Tn Tc) := hrT.cell 0
  have z4 := hrT.lt
  go_wp2_with fail
  clear q00 q01 q10 q20 q30 q40 z0 z1 z2 z3 z4
  have hl : Below w7.heap.size w7 w7 := Below.refl _ _
  refine (same_yes _ _ _ _ (hQ.below hl) (hT.below hl)).mono ?_
  rintro e w8 ⟨rfl, hb⟩
  replace hb : Below w7.heap.size w7 w8 := hl.trans (hb.mono hl.size)
  clear hl
  replace hp := hp.below hb
  replace hr := hr.below hb
  replace hd := hd.below hb
  replace hd1 := hd1.below hb
  replace hr1 := hr1.keep hb
  replace hA := hA.below hb
  replace hr2 := hr2.keep hb
  replace hrP := hrP.keep hb
  replace hP := hP.below hb
  replace hrQ := hrQ.keep hb
  replace hQ := hQ.below hb
  replace hrT := hrT.keep hb
  replace hT := hT.below hb
  replace BB : Below w.heap.size w w8 := BB.trans (hb.mono BB.size)
  replace hcd := (hb.cell (p := ⟨bd, od, none⟩) (block_lt_of_cell hcd)).trans hcd
  clear hb
  have q00 : w8.cell? ⟨w.heap.size, 0, none⟩ = some (.slice X ps.length cX) := hr1.cell 0
  have q01 : w8.cell? ⟨w.heap.size, 1, none⟩ = some (.slice Y rs.length cY) := hr1.cell 1
  have z0 := hr1.lt
  have q10 : w8.cell? ⟨w1.heap.size, 0, none⟩ = some (.slice aA an ac) := hr2.cell 0
  have z1 := hr2.lt
  have q20 : w8.cell? ⟨Pg, 0, none⟩ = some (.slice PA Pn Pc) := hrP.cell 0
  have z2 := hrP.lt
  have q30 : w8.cell? ⟨Qg, 0, none⟩ = some (.slice QA Qn Qc) := hrQ.cell 0
  have z3 := hrQ.lt
  have q40 : w8.cell? ⟨Tg, 0, none⟩ = some (.slice TA Tn Tc) := hrT.cell 0
  have z4 := hrT.lt
  go_wp2_with fail
  clear q00 q01 q10 q20 q30 q40 z0 z1 z2 z3 z4
  have hl : Below w8.heap.size w8 w8 := Below.refl _ _
  refine (awake_any _).mono ?_
  rintro e w9 ⟨rfl, hb⟩
  replace hb : Below w8.heap.size w8 w9 := hl.trans (hb.mono hl.size)
  clear hl
  replace hp := hp.below hb
  replace hr := hr.below hb
  replace hd := hd.below hb
  replace hd1 := hd1.below hb
  replace hr1 := hr1.keep hb
  replace hA := hA.below hb
  replace hr2 := hr2.keep hb
  replace hrP := hrP.keep hb
  replace hP := hP.below hb
  replace hrQ := hrQ.keep hb
  replace hQ := hQ.below hb
  replace hrT := hrT.keep hb
  replace hT := hT.below hb
  replace BB : Below w.heap.size w w9 := BB.trans (hb.mono BB.size)
  replace hcd := (hb.cell (p := ⟨bd, od, none⟩) (block_lt_of_cell hcd)).trans hcd
  clear hb
  go_wp2_with fail
  go_ret
  exact ⟨rfl, BB⟩

set_option maxRecDepth 100000 in
set_option maxHeartbeats 8000000 in
theorem rises_ft (pv rv dv : Value) (ps rs ds : List Int) (s lo hi : Int) (w : World) (hp : Nums .i64 w pv ps) (hr : Nums .i64 w rv rs) (hd : Nums .i64 w dv ds) (d0 : Int) (hn0 : 0 < ds.length) (hd0v : ds.getD 0 0 = d0) (h1 : stepsE (gridE ps rs) ds s ≠ 0) (h2 : rampE (gridE ps rs) d0 s lo hi = 0) :
    Calls Tryd.prog 7 #[.agg #[pv, rv], dv, .int .i64 s, .int .i64 lo, .int .i64 hi] w fun e w' => e = .returned (.bool true) ∧ Below w.heap.size w w' := by
  have hp0 := hp
  have hr0 := hr
  have hd0 := hd
  obtain ⟨X, cX, rfl, _, _, _⟩ := hp0
  obtain ⟨Y, cY, rfl, _, _, _⟩ := hr0
  obtain ⟨D, cD, rfl, hDc, hDm, hDs⟩ := hd0
  obtain ⟨bd, od, rfl, _, hDc0⟩ := hDs.num hn0
  have hcd := hDc0 0 hn0
  rw [Nat.add_zero, hd0v] at hcd
  have hd1 : Nums .i64 w (.slice (some ⟨bd, od, none⟩) 1 cD) [d0] := ⟨_, cD, rfl, by simp only [List.length_cons, List.length_nil]; omega, hDm, by have := hDs.head (m := 1) hn0; rwa [← List.map_take, take_one hn0, hd0v] at this⟩
  have hcD1 : 1 ≤ cD := by omega
  have hcD0 : cD ≠ 0 := by omega
  have hcI : (1 : Int) ≤ (cD : Int) := by omega
  have hnI : (1 : Int) ≤ (ds.length : Int) := by omega
  have hn1 : 1 ≤ ds.length := hn0
  have HD0 := Lib.hid hd0v
  clear hd0v hDc0 hDs
  have BB : Below w.heap.size w w := Below.refl _ _
  unfold maxLen at hDm
  obtain ⟨g0, _, _, s1, s2, l1', l2', l3'⟩ := rampE_zero h2
  obtain ⟨y1, y2, y3, y4, y5⟩ := gridE_zero g0
  have hV2 : modE (rampL ps d0 s lo hi) (ps.length : Int) = 0 := (ramp_valid y2 y1 l1' l2' l3').1
  have hM2 : monoB (modE (rampL ps d0 s lo hi) (((rampL ps d0 s lo hi).length : Nat) : Int)) (catsOf (rampL ps d0 s lo hi)) (rampL ps d0 s lo hi) = true := by rw [rampL_len, monoB_eq hV2]; exact ramp_mono y5 s1 l3' l2'
  clear g0 s1 s2 l1' l2' l3' y1 y2 y3 y4 y5
  replace hV2 := Lib.hid hV2
  replace hM2 := Lib.hid hM2
  have H1 := Lib.hid h1
  have H2 := Lib.hid h2
  clear h1 h2
  go_enter Tryd.func7, Tryd.ntmps7
  go_wp2_with fail
  have hl : Below w.heap.size w (w.alloc (.cells #[.slice X ps.length cX, .slice Y rs.length cY] 33)) := lit_below _ _
  have hr1 : Row (w.alloc (.cells #[.slice X ps.length cX, .slice Y rs.length cY] 33)) (w.heap.size) 33 [.slice X ps.length cX, .slice Y rs.length cY] := row_at (by simp)
  refine (msteps_any _ _ _ ps rs ds s _ (hp.below hl) (hr.below hl) (hd.below hl)).mono ?_
  rintro e w1 ⟨v1, rfl, hA, hb⟩
  replace hr1 := hr1.keep hb
  replace hb : Below w.heap.size w w1 := hl.trans (hb.mono hl.size)
  clear hl
  replace hp := hp.below hb
  replace hr := hr.below hb
  replace hd := hd.below hb
  replace hd1 := hd1.below hb
  have BB : Below w.heap.size w w1 := hb
  replace hcd := (hb.cell (p := ⟨bd, od, none⟩) (block_lt_of_cell hcd)).trans hcd
  clear hb
  obtain ⟨aA, an, ac, rfl⟩ := intsL_slice hA
  have t1 : (stepsE (gridE ps rs) ds s == 0) = false := by rw [beq_eq_false_iff_ne]; exact H1.out
  generalize stepsE (gridE ps rs) ds s = e1 at *
  have t2 : ((ds.length : Int) == 0) = false := by rw [beq_eq_false_iff_ne]; omega
  have q00 : w1.cell? ⟨w.heap.size, 0, none⟩ = some (.slice X ps.length cX) := hr1.cell 0
  have q01 : w1.cell? ⟨w.heap.size, 1, none⟩ = some (.slice Y rs.length cY) := hr1.cell 1
  have z0 := hr1.lt
  go_wp2_with fail
  clear q00 q01 z0
  have hl : Below w1.heap.size w1 (w1.alloc (.cells #[.slice aA an ac] 24)) := lit_below _ _
  replace hcd := (hl.cell (p := ⟨bd, od, none⟩) (block_lt_of_cell hcd)).trans hcd
  have hr2 : Row (w1.alloc (.cells #[.slice aA an ac] 24)) (w1.heap.size) 24 [.slice aA an ac] := row_at (by simp)
  replace hp := hp.below hl
  replace hr := hr.below hl
  replace hd := hd.below hl
  replace hd1 := hd1.below hl
  replace hr1 := hr1.keep hl
  replace hA := hA.below hl
  replace BB : Below w.heap.size w (w1.alloc (.cells #[.slice aA an ac] 24)) := BB.trans (hl.mono BB.size)
  clear hl
  generalize (w1.alloc (.cells #[.slice aA an ac] 24)) = w2 at *
  have q00 : w2.cell? ⟨w.heap.size, 0, none⟩ = some (.slice X ps.length cX) := hr1.cell 0
  have q01 : w2.cell? ⟨w.heap.size, 1, none⟩ = some (.slice Y rs.length cY) := hr1.cell 1
  have z0 := hr1.lt
  have q10 : w2.cell? ⟨w1.heap.size, 0, none⟩ = some (.slice aA an ac) := hr2.cell 0
  have z1 := hr2.lt
  go_wp2_with fail
  have qg0 : w2.cell? ⟨w.heap.size, 0, none⟩ = some (.slice X ps.length cX) := hr1.cell 0
  have qg1 : w2.cell? ⟨w.heap.size, 1, none⟩ = some (.slice Y rs.length cY) := hr1.cell 1
  have qd : w2.cell? ⟨bd, od, none⟩ = some (.int .i64 d0) := hcd
  have zg := hr1.lt
  have zd := block_lt_of_cell hcd
  go_cut [13, 14] (fun s1 s2 wx => ∃ g A n c, s1 = .pointer (some ⟨g, 0, none⟩) ∧ s2 = .int .i64 (rampE (gridE ps rs) d0 s lo hi) ∧ Row wx g 24 [.slice A n c] ∧ IntsL wx (.slice A n c) (onE (rampE (gridE ps rs) d0 s lo hi) (rampL ps d0 s lo hi)) ∧ Below w2.heap.size w2 wx)
  case first =>
    go_region_held3 (fun w' => w'.cell? ⟨w.heap.size, 0, none⟩ = some (.slice X ps.length cX) ∧ w'.cell? ⟨w.heap.size, 1, none⟩ = some (.slice Y rs.length cY) ∧ w'.cell? ⟨bd, od, none⟩ = some (.int .i64 d0))
      ((refine keep3 zg zg zd qg0 qg1 qd ?_; (repeat (first | with_reducible exact Below.refl _ _ | with_reducible refine bl_call hb9 ?_ | ((with_reducible refine bl_setL ?_ ?_ _); rotate_left; exact Nat.le_refl _) | with_reducible refine lit_more ?_ _ | with_reducible refine bl_drew ?_)); done))
      ((go_at_call 17; ((with_reducible refine (ramp_anyF _ _ ps rs d0 s lo hi _ (hp.below ?_) (hr.below ?_)).mono ?_); ((repeat (first | with_reducible exact Below.refl _ _ | with_reducible refine bl_call hb9 ?_ | ((with_reducible refine bl_setL ?_ ?_ _); rotate_left; exact Nat.le_refl _) | with_reducible refine lit_more ?_ _ | with_reducible refine bl_drew ?_))); ((repeat (first | with_reducible exact Below.refl _ _ | with_reducible refine bl_call hb9 ?_ | ((with_reducible refine bl_setL ?_ ?_ _); rotate_left; exact Nat.le_refl _) | with_reducible refine lit_more ?_ _ | with_reducible refine bl_drew ?_))); rintro e w9 ⟨v9, rfl, hv9, hb9⟩; obtain ⟨A9, n9, c9, rfl⟩ := hv9.slice; (try (have R9 := (Row.drew (Row.new w2 24 [.slice none 0 0])).keep hb9; have e90 : w9.cell? ⟨w2.heap.size, 0, none⟩ = some (.slice none 0 0) := R9.cell 0; have f90 : w9.frozen? ⟨w2.heap.size, 0, none⟩ = false := R9.frozen 0)))))
    all_goals go_wp2_with fail
    all_goals go_meet
    all_goals go_light
    all_goals
      refine ⟨_, A9, n9, c9, rfl, rfl, ?_, ?_, ?_⟩
      · (first | exact Row.new _ _ _ | exact R9.set_ 0 _)
      · (first | exact hv9.ints.below (lit_below _ _) | exact (hv9.set_ (by simp) _).ints)
      · (first | ((repeat (first | with_reducible exact Below.refl _ _ | with_reducible refine bl_call hb9 ?_ | ((with_reducible refine bl_setL ?_ ?_ _); rotate_left; exact Nat.le_refl _) | with_reducible refine lit_more ?_ _ | with_reducible refine bl_drew ?_)); done) | exact (by (repeat (first | with_reducible exact Below.refl _ _ | with_reducible refine bl_call hb9 ?_ | ((with_reducible refine bl_setL ?_ ?_ _); rotate_left; exact Nat.le_refl _) | with_reducible refine lit_more ?_ _ | with_reducible refine bl_drew ?_)) : Below w2.heap.size w2 w9).setCell (Nat.le_refl _) _)
  case rest =>
  obtain ⟨Pg, PA, Pn, Pc, rfl, rfl, hrP, hP, hbc⟩ := hcut
  clear qg0 qg1 qd zg zd
  clear q00 q01 q10 z0 z1
  obtain ⟨w3, hw3⟩ : ∃ x, x = wc := ⟨_, rfl⟩
  rw [← hw3] at hrP hP hbc ⊢
  clear hw3
  replace BB : Below w.heap.size w w3 := BB.trans (hbc.mono BB.size)
  replace hcd := (hbc.cell (p := ⟨bd, od, none⟩) (block_lt_of_cell hcd)).trans hcd
  replace hp := hp.below hbc
  replace hr := hr.below hbc
  replace hd := hd.below hbc
  replace hd1 := hd1.below hbc
  replace hr1 := hr1.keep hbc
  replace hA := hA.below hbc
  replace hr2 := hr2.keep hbc
  clear hbc
  skip
  rw [H2.out, onE_ok] at hP
  rw [H2.out]
  have q00 : w3.cell? ⟨w.heap.size, 0, none⟩ = some (.slice X ps.length cX) := hr1.cell 0
  have q01 : w3.cell? ⟨w.heap.size, 1, none⟩ = some (.slice Y rs.length cY) := hr1.cell 1
  have z0 := hr1.lt
  have q10 : w3.cell? ⟨w1.heap.size, 0, none⟩ = some (.slice aA an ac) := hr2.cell 0
  have z1 := hr2.lt
  have q20 : w3.cell? ⟨Pg, 0, none⟩ = some (.slice PA Pn Pc) := hrP.cell 0
  have z2 := hrP.lt
  go_wp2_with fail
  clear q00 q01 q10 q20 z0 z1 z2
  have hl : Below w3.heap.size w3 w3 := Below.refl _ _
  refine (mvalid_any _ (rampL ps d0 s lo hi) _ _ (hP.below hl)).mono ?_
  rintro e w4 ⟨rfl, hb⟩
  replace hb : Below w3.heap.size w3 w4 := hl.trans (hb.mono hl.size)
  clear hl
  replace hp := hp.below hb
  replace hr := hr.below hb
  replace hd := hd.below hb
  replace hd1 := hd1.below hb
  replace hr1 := hr1.keep hb
  replace hA := hA.below hb
  replace hr2 := hr2.keep hb
  replace hrP := hrP.keep hb
  replace hP := hP.below hb
  replace BB : Below w.heap.size w w4 := BB.trans (hb.mono BB.size)
  replace hcd := (hb.cell (p := ⟨bd, od, none⟩) (block_lt_of_cell hcd)).trans hcd
  clear hb
  rw [hV2.out]
  have q00 : w4.cell? ⟨w.heap.size, 0, none⟩ = some (.slice X ps.length cX) := hr1.cell 0
  have q01 : w4.cell? ⟨w.heap.size, 1, none⟩ = some (.slice Y rs.length cY) := hr1.cell 1
  have z0 := hr1.lt
  have q10 : w4.cell? ⟨w1.heap.size, 0, none⟩ = some (.slice aA an ac) := hr2.cell 0
  have z1 := hr2.lt
  have q20 : w4.cell? ⟨Pg, 0, none⟩ = some (.slice PA Pn Pc) := hrP.cell 0
  have z2 := hrP.lt
  go_wp2_with fail
  clear q00 q01 q10 q20 z0 z1 z2
  have hl : Below w4.heap.size w4 w4 := Below.refl _ _
  refine (mmono_any _ (rampL ps d0 s lo hi) _ (hP.below hl)).mono ?_
  rintro e w5 ⟨rfl, hb⟩
  replace hb : Below w4.heap.size w4 w5 := hl.trans (hb.mono hl.size)
  clear hl
  replace hp := hp.below hb
  replace hr := hr.below hb
  replace hd := hd.below hb
  replace hd1 := hd1.below hb
  replace hr1 := hr1.keep hb
  replace hA := hA.below hb
  replace hr2 := hr2.keep hb
  replace hrP := hrP.keep hb
  replace hP := hP.below hb
  replace BB : Below w.heap.size w w5 := BB.trans (hb.mono BB.size)
  replace hcd := (hb.cell (p := ⟨bd, od, none⟩) (block_lt_of_cell hcd)).trans hcd
  clear hb
  rw [hM2.out]
  have q00 : w5.cell? ⟨w.heap.size, 0, none⟩ = some (.slice X ps.length cX) := hr1.cell 0
  have q01 : w5.cell? ⟨w.heap.size, 1, none⟩ = some (.slice Y rs.length cY) := hr1.cell 1
  have z0 := hr1.lt
  have q10 : w5.cell? ⟨w1.heap.size, 0, none⟩ = some (.slice aA an ac) := hr2.cell 0
  have z1 := hr2.lt
  have q20 : w5.cell? ⟨Pg, 0, none⟩ = some (.slice PA Pn Pc) := hrP.cell 0
  have z2 := hrP.lt
  go_wp2_with fail
  have qg0 : w5.cell? ⟨w.heap.size, 0, none⟩ = some (.slice X ps.length cX) := hr1.cell 0
  have qg1 : w5.cell? ⟨w.heap.size, 1, none⟩ = some (.slice Y rs.length cY) := hr1.cell 1
  have qd : w5.cell? ⟨bd, od, none⟩ = some (.int .i64 d0) := hcd
  have zg := hr1.lt
  have zd := block_lt_of_cell hcd
  go_cut [15, 14] (fun s1 s2 wx => ∃ g A n c, s1 = .pointer (some ⟨g, 0, none⟩) ∧ s2 = .int .i64 (rampE (gridE ps rs) d0 s 1 999) ∧ Row wx g 24 [.slice A n c] ∧ IntsL wx (.slice A n c) (onE (rampE (gridE ps rs) d0 s 1 999) (rampL ps d0 s 1 999)) ∧ Below w5.heap.size w5 wx)
  case first =>
    go_region_held3 (fun w' => w'.cell? ⟨w.heap.size, 0, none⟩ = some (.slice X ps.length cX) ∧ w'.cell? ⟨w.heap.size, 1, none⟩ = some (.slice Y rs.length cY) ∧ w'.cell? ⟨bd, od, none⟩ = some (.int .i64 d0))
      ((refine keep3 zg zg zd qg0 qg1 qd ?_; (repeat (first | with_reducible exact Below.refl _ _ | with_reducible refine bl_call hb9 ?_ | ((with_reducible refine bl_setL ?_ ?_ _); rotate_left; exact Nat.le_refl _) | with_reducible refine lit_more ?_ _ | with_reducible refine bl_drew ?_)); done))
      ((go_at_call 17; ((with_reducible refine (ramp_anyF _ _ ps rs d0 s 1 999 _ (hp.below ?_) (hr.below ?_)).mono ?_); ((repeat (first | with_reducible exact Below.refl _ _ | with_reducible refine bl_call hb9 ?_ | ((with_reducible refine bl_setL ?_ ?_ _); rotate_left; exact Nat.le_refl _) | with_reducible refine lit_more ?_ _ | with_reducible refine bl_drew ?_))); ((repeat (first | with_reducible exact Below.refl _ _ | with_reducible refine bl_call hb9 ?_ | ((with_reducible refine bl_setL ?_ ?_ _); rotate_left; exact Nat.le_refl _) | with_reducible refine lit_more ?_ _ | with_reducible refine bl_drew ?_))); rintro e w9 ⟨v9, rfl, hv9, hb9⟩; obtain ⟨A9, n9, c9, rfl⟩ := hv9.slice; (try (have R9 := (Row.drew (Row.new w5 24 [.slice none 0 0])).keep hb9; have e90 : w9.cell? ⟨w5.heap.size, 0, none⟩ = some (.slice none 0 0) := R9.cell 0; have f90 : w9.frozen? ⟨w5.heap.size, 0, none⟩ = false := R9.frozen 0)))))
    all_goals go_wp2_with fail
    all_goals go_meet
    all_goals go_light
    all_goals
      refine ⟨_, A9, n9, c9, rfl, rfl, ?_, ?_, ?_⟩
      · (first | exact Row.new _ _ _ | exact R9.set_ 0 _)
      · (first | exact hv9.ints.below (lit_below _ _) | exact (hv9.set_ (by simp) _).ints)
      · (first | ((repeat (first | with_reducible exact Below.refl _ _ | with_reducible refine bl_call hb9 ?_ | ((with_reducible refine bl_setL ?_ ?_ _); rotate_left; exact Nat.le_refl _) | with_reducible refine lit_more ?_ _ | with_reducible refine bl_drew ?_)); done) | exact (by (repeat (first | with_reducible exact Below.refl _ _ | with_reducible refine bl_call hb9 ?_ | ((with_reducible refine bl_setL ?_ ?_ _); rotate_left; exact Nat.le_refl _) | with_reducible refine lit_more ?_ _ | with_reducible refine bl_drew ?_)) : Below w5.heap.size w5 w9).setCell (Nat.le_refl _) _)
  case rest =>
  obtain ⟨Qg, QA, Qn, Qc, rfl, rfl, hrQ, hQ, hbc⟩ := hcut
  clear qg0 qg1 qd zg zd
  clear q00 q01 q10 q20 z0 z1 z2
  obtain ⟨w6, hw6⟩ : ∃ x, x = wc := ⟨_, rfl⟩
  rw [← hw6] at hrQ hQ hbc ⊢
  clear hw6
  replace BB : Below w.heap.size w w6 := BB.trans (hbc.mono BB.size)
  replace hcd := (hbc.cell (p := ⟨bd, od, none⟩) (block_lt_of_cell hcd)).trans hcd
  replace hp := hp.below hbc
  replace hr := hr.below hbc
  replace hd := hd.below hbc
  replace hd1 := hd1.below hbc
  replace hr1 := hr1.keep hbc
  replace hA := hA.below hbc
  replace hr2 := hr2.keep hbc
  replace hrP := hrP.keep hbc
  replace hP := hP.below hbc
  clear hbc
  have q00 : w6.cell? ⟨w.heap.size, 0, none⟩ = some (.slice X ps.length cX) := hr1.cell 0
  have q01 : w6.cell? ⟨w.heap.size, 1, none⟩ = some (.slice Y rs.length cY) := hr1.cell 1
  have z0 := hr1.lt
  have q10 : w6.cell? ⟨w1.heap.size, 0, none⟩ = some (.slice aA an ac) := hr2.cell 0
  have z1 := hr2.lt
  have q20 : w6.cell? ⟨Pg, 0, none⟩ = some (.slice PA Pn Pc) := hrP.cell 0
  have z2 := hrP.lt
  have q30 : w6.cell? ⟨Qg, 0, none⟩ = some (.slice QA Qn Qc) := hrQ.cell 0
  have z3 := hrQ.lt
  go_wp2_with fail
  have qg0 : w6.cell? ⟨w.heap.size, 0, none⟩ = some (.slice X ps.length cX) := hr1.cell 0
  have qg1 : w6.cell? ⟨w.heap.size, 1, none⟩ = some (.slice Y rs.length cY) := hr1.cell 1
  have qd : w6.cell? ⟨bd, od, none⟩ = some (.int .i64 d0) := hcd
  have zg := hr1.lt
  have zd := block_lt_of_cell hcd
  go_cut [16, 12] (fun s1 s2 wx => ∃ g A n c, s1 = .pointer (some ⟨g, 0, none⟩) ∧ s2 = .int .i64 (rampE (gridE ps rs) d0 s 1 999) ∧ Row wx g 24 [.slice A n c] ∧ IntsL wx (.slice A n c) (onE (rampE (gridE ps rs) d0 s 1 999) (rampL ps d0 s 1 999)) ∧ Below w6.heap.size w6 wx)
  case first =>
    go_region_held3 (fun w' => w'.cell? ⟨w.heap.size, 0, none⟩ = some (.slice X ps.length cX) ∧ w'.cell? ⟨w.heap.size, 1, none⟩ = some (.slice Y rs.length cY) ∧ w'.cell? ⟨bd, od, none⟩ = some (.int .i64 d0))
      ((refine keep3 zg zg zd qg0 qg1 qd ?_; (repeat (first | with_reducible exact Below.refl _ _ | with_reducible refine bl_call hb9 ?_ | ((with_reducible refine bl_setL ?_ ?_ _); rotate_left; exact Nat.le_refl _) | with_reducible refine lit_more ?_ _ | with_reducible refine bl_drew ?_)); done))
      ((go_at_call 20; ((with_reducible refine (steps_one _ _ _ ps rs d0 s _ (hp.below ?_) (hr.below ?_) (hd1.below ?_)).mono ?_); ((repeat (first | with_reducible exact Below.refl _ _ | with_reducible refine bl_call hb9 ?_ | ((with_reducible refine bl_setL ?_ ?_ _); rotate_left; exact Nat.le_refl _) | with_reducible refine lit_more ?_ _ | with_reducible refine bl_drew ?_))); ((repeat (first | with_reducible exact Below.refl _ _ | with_reducible refine bl_call hb9 ?_ | ((with_reducible refine bl_setL ?_ ?_ _); rotate_left; exact Nat.le_refl _) | with_reducible refine lit_more ?_ _ | with_reducible refine bl_drew ?_))); ((repeat (first | with_reducible exact Below.refl _ _ | with_reducible refine bl_call hb9 ?_ | ((with_reducible refine bl_setL ?_ ?_ _); rotate_left; exact Nat.le_refl _) | with_reducible refine lit_more ?_ _ | with_reducible refine bl_drew ?_))); rintro e w9 ⟨v9, rfl, hv9, hb9⟩; obtain ⟨A9, n9, c9, rfl⟩ := hv9.slice; (try (have R9 := (Row.drew (Row.new w6 24 [.slice none 0 0])).keep hb9; have e90 : w9.cell? ⟨w6.heap.size, 0, none⟩ = some (.slice none 0 0) := R9.cell 0; have f90 : w9.frozen? ⟨w6.heap.size, 0, none⟩ = false := R9.frozen 0)))))
    all_goals go_wp2_with fail
    all_goals go_meet
    all_goals go_light
    all_goals
      refine ⟨_, A9, n9, c9, rfl, rfl, ?_, ?_, ?_⟩
      · (first | exact Row.new _ _ _ | exact R9.set_ 0 _)
      · (first | exact hv9.ints.below (lit_below _ _) | exact (hv9.set_ (by simp) _).ints)
      · (first | ((repeat (first | with_reducible exact Below.refl _ _ | with_reducible refine bl_call hb9 ?_ | ((with_reducible refine bl_setL ?_ ?_ _); rotate_left; exact Nat.le_refl _) | with_reducible refine lit_more ?_ _ | with_reducible refine bl_drew ?_)); done) | exact (by (repeat (first | with_reducible exact Below.refl _ _ | with_reducible refine bl_call hb9 ?_ | ((with_reducible refine bl_setL ?_ ?_ _); rotate_left; exact Nat.le_refl _) | with_reducible refine lit_more ?_ _ | with_reducible refine bl_drew ?_)) : Below w6.heap.size w6 w9).setCell (Nat.le_refl _) _)
  case rest =>
  obtain ⟨Tg, TA, Tn, Tc, rfl, rfl, hrT, hT, hbc⟩ := hcut
  clear qg0 qg1 qd zg zd
  clear q00 q01 q10 q20 q30 z0 z1 z2 z3
  obtain ⟨w7, hw7⟩ : ∃ x, x = wc := ⟨_, rfl⟩
  rw [← hw7] at hrT hT hbc ⊢
  clear hw7
  replace BB : Below w.heap.size w w7 := BB.trans (hbc.mono BB.size)
  replace hcd := (hbc.cell (p := ⟨bd, od, none⟩) (block_lt_of_cell hcd)).trans hcd
  replace hp := hp.below hbc
  replace hr := hr.below hbc
  replace hd := hd.below hbc
  replace hd1 := hd1.below hbc
  replace hr1 := hr1.keep hbc
  replace hA := hA.below hbc
  replace hr2 := hr2.keep hbc
  replace hrP := hrP.keep hbc
  replace hP := hP.below hbc
  replace hrQ := hrQ.keep hbc
  replace hQ := hQ.below hbc
  clear hbc
  generalize rampE (gridE ps rs) d0 s 1 999 = e3 at *
  have q00 : w7.cell? ⟨w.heap.size, 0, none⟩ = some (.slice X ps.length cX) := hr1.cell 0
  have q01 : w7.cell? ⟨w.heap.size, 1, none⟩ = some (.slice Y rs.length cY) := hr1.cell 1
  have z0 := hr1.lt
  have q10 : w7.cell? ⟨w1.heap.size, 0, none⟩ = some (.slice aA an ac) := hr2.cell 0
  have z1 := hr2.lt
  have q20 : w7.cell? ⟨Pg, 0, none⟩ = some (.slice PA Pn Pc) := hrP.cell 0
  have z2 := hrP.lt
  have q30 : w7.cell? ⟨Qg, 0, none⟩ = some (.slice QA Qn Qc) := hrQ.cell 0
  have z3 := hrQ.lt
  have q40 : w7.cell? ⟨Tg, 0, none⟩ = some (.slice TA Tn Tc) := hrT.cell 0
  have z4 := hrT.lt
  go_wp2_with fail
  clear q00 q01 q10 q20 q30 q40 z0 z1 z2 z3 z4
  have hl : Below w7.heap.size w7 w7 := Below.refl _ _
  refine (same_yes _ _ _ _ (hQ.below hl) (hT.below hl)).mono ?_
  rintro e w8 ⟨rfl, hb⟩
  replace hb : Below w7.heap.size w7 w8 := hl.trans (hb.mono hl.size)
  clear hl
  replace hp := hp.below hb
  replace hr := hr.below hb
  replace hd := hd.below hb
  replace hd1 := hd1.below hb
  replace hr1 := hr1.keep hb
  replace hA := hA.below hb
  replace hr2 := hr2.keep hb
  replace hrP := hrP.keep hb
  replace hP := hP.below hb
  replace hrQ := hrQ.keep hb
  replace hQ := hQ.below hb
  replace hrT := hrT.keep hb
  replace hT := hT.below hb
  replace BB : Below w.heap.size w w8 := BB.trans (hb.mono BB.size)
  replace hcd := (hb.cell (p := ⟨bd, od, none⟩) (block_lt_of_cell hcd)).trans hcd
  clear hb
  have q00 : w8.cell? ⟨w.heap.size, 0, none⟩ = some (.slice X ps.length cX) := hr1.cell 0
  have q01 : w8.cell? ⟨w.heap.size, 1, none⟩ = some (.slice Y rs.length cY) := hr1.cell 1
  have z0 := hr1.lt
  have q10 : w8.cell? ⟨w1.heap.size, 0, none⟩ = some (.slice aA an ac) := hr2.cell 0
  have z1 := hr2.lt
  have q20 : w8.cell? ⟨Pg, 0, none⟩ = some (.slice PA Pn Pc) := hrP.cell 0
  have z2 := hrP.lt
  have q30 : w8.cell? ⟨Qg, 0, none⟩ = some (.slice QA Qn Qc) := hrQ.cell 0
  have z3 := hrQ.lt
  have q40 : w8.cell? ⟨Tg, 0, none⟩ = some (.slice TA Tn Tc) := hrT.cell 0
  have z4 := hrT.lt
  go_wp2_with fail
  clear q00 q01 q10 q20 q30 q40 z0 z1 z2 z3 z4
  have hl : Below w8.heap.size w8 w8 := Below.refl _ _
  refine (awake_any _).mono ?_
  rintro e w9 ⟨rfl, hb⟩
  replace hb : Below w8.heap.size w8 w9 := hl.trans (hb.mono hl.size)
  clear hl
  replace hp := hp.below hb
  replace hr := hr.below hb
  replace hd := hd.below hb
  replace hd1 := hd1.below hb
  replace hr1 := hr1.keep hb
  replace hA := hA.below hb
  replace hr2 := hr2.keep hb
  replace hrP := hrP.keep hb
  replace hP := hP.below hb
  replace hrQ := hrQ.keep hb
  replace hQ := hQ.below hb
  replace hrT := hrT.keep hb
  replace hT := hT.below hb
  replace BB : Below w.heap.size w w9 := BB.trans (hb.mono BB.size)
  replace hcd := (hb.cell (p := ⟨bd, od, none⟩) (block_lt_of_cell hcd)).trans hcd
  clear hb
  go_wp2_with fail
  go_ret
  exact ⟨rfl, BB⟩

set_option maxRecDepth 100000 in
set_option maxHeartbeats 8000000 in
theorem rises_ff (pv rv dv : Value) (ps rs ds : List Int) (s lo hi : Int) (w : World) (hp : Nums .i64 w pv ps) (hr : Nums .i64 w rv rs) (hd : Nums .i64 w dv ds) (d0 : Int) (hn0 : 0 < ds.length) (hd0v : ds.getD 0 0 = d0) (h1 : stepsE (gridE ps rs) ds s ≠ 0) (h2 : rampE (gridE ps rs) d0 s lo hi ≠ 0) :
    Calls Tryd.prog 7 #[.agg #[pv, rv], dv, .int .i64 s, .int .i64 lo, .int .i64 hi] w fun e w' => e = .returned (.bool true) ∧ Below w.heap.size w w' := by
  have hp0 := hp
  have hr0 := hr
  have hd0 := hd
  obtain ⟨X, cX, rfl, _, _, _⟩ := hp0
  obtain ⟨Y, cY, rfl, _, _, _⟩ := hr0
  obtain ⟨D, cD, rfl, hDc, hDm, hDs⟩ := hd0
  obtain ⟨bd, od, rfl, _, hDc0⟩ := hDs.num hn0
  have hcd := hDc0 0 hn0
  rw [Nat.add_zero, hd0v] at hcd
  have hd1 : Nums .i64 w (.slice (some ⟨bd, od, none⟩) 1 cD) [d0] := ⟨_, cD, rfl, by simp only [List.length_cons, List.length_nil]; omega, hDm, by have := hDs.head (m := 1) hn0; rwa [← List.map_take, take_one hn0, hd0v] at this⟩
  have hcD1 : 1 ≤ cD := by omega
  have hcD0 : cD ≠ 0 := by omega
  have hcI : (1 : Int) ≤ (cD : Int) := by omega
  have hnI : (1 : Int) ≤ (ds.length : Int) := by omega
  have hn1 : 1 ≤ ds.length := hn0
  have HD0 := Lib.hid hd0v
  clear hd0v hDc0 hDs
  have BB : Below w.heap.size w w := Below.refl _ _
  unfold maxLen at hDm
  have H1 := Lib.hid h1
  have H2 := Lib.hid h2
  clear h1 h2
  go_enter Tryd.func7, Tryd.ntmps7
  go_wp2_with fail
  have hl : Below w.heap.size w (w.alloc (.cells #[.slice X ps.length cX, .slice Y rs.length cY] 33)) := lit_below _ _
  have hr1 : Row (w.alloc (.cells #[.slice X ps.length cX, .slice Y rs.length cY] 33)) (w.heap.size) 33 [.slice X ps.length cX, .slice Y rs.length cY] := row_at (by simp)
  refine (msteps_any _ _ _ ps rs ds s _ (hp.below hl) (hr.below hl) (hd.below hl)).mono ?_
  rintro e w1 ⟨v1, rfl, hA, hb⟩
  replace hr1 := hr1.keep hb
  replace hb : Below w.heap.size w w1 := hl.trans (hb.mono hl.size)
  clear hl
  replace hp := hp.below hb
  replace hr := hr.below hb
  replace hd := hd.below hb
  replace hd1 := hd1.below hb
  have BB : Below w.heap.size w w1 := hb
  replace hcd := (hb.cell (p := ⟨bd, od, none⟩) (block_lt_of_cell hcd)).trans hcd
  clear hb
  obtain ⟨aA, an, ac, rfl⟩ := intsL_slice hA
  have t1 : (stepsE (gridE ps rs) ds s == 0) = false := by rw [beq_eq_false_iff_ne]; exact H1.out
  generalize stepsE (gridE ps rs) ds s = e1 at *
  have t2 : ((ds.length : Int) == 0) = false := by rw [beq_eq_false_iff_ne]; omega
  have q00 : w1.cell? ⟨w.heap.size, 0, none⟩ = some (.slice X ps.length cX) := hr1.cell 0
  have q01 : w1.cell? ⟨w.heap.size, 1, none⟩ = some (.slice Y rs.length cY) := hr1.cell 1
  have z0 := hr1.lt
  go_wp2_with fail
  clear q00 q01 z0
  have hl : Below w1.heap.size w1 (w1.alloc (.cells #[.slice aA an ac] 24)) := lit_below _ _
  replace hcd := (hl.cell (p := ⟨bd, od, none⟩) (block_lt_of_cell hcd)).trans hcd
  have hr2 : Row (w1.alloc (.cells #[.slice aA an ac] 24)) (w1.heap.size) 24 [.slice aA an ac] := row_at (by simp)
  replace hp := hp.below hl
  replace hr := hr.below hl
  replace hd := hd.below hl
  replace hd1 := hd1.below hl
  replace hr1 := hr1.keep hl
  replace hA := hA.below hl
  replace BB : Below w.heap.size w (w1.alloc (.cells #[.slice aA an ac] 24)) := BB.trans (hl.mono BB.size)
  clear hl
  generalize (w1.alloc (.cells #[.slice aA an ac] 24)) = w2 at *
  have q00 : w2.cell? ⟨w.heap.size, 0, none⟩ = some (.slice X ps.length cX) := hr1.cell 0
  have q01 : w2.cell? ⟨w.heap.size, 1, none⟩ = some (.slice Y rs.length cY) := hr1.cell 1
  have z0 := hr1.lt
  have q10 : w2.cell? ⟨w1.heap.size, 0, none⟩ = some (.slice aA an ac) := hr2.cell 0
  have z1 := hr2.lt
  go_wp2_with fail
  have qg0 : w2.cell? ⟨w.heap.size, 0, none⟩ = some (.slice X ps.length cX) := hr1.cell 0
  have qg1 : w2.cell? ⟨w.heap.size, 1, none⟩ = some (.slice Y rs.length cY) := hr1.cell 1
  have qd : w2.cell? ⟨bd, od, none⟩ = some (.int .i64 d0) := hcd
  have zg := hr1.lt
  have zd := block_lt_of_cell hcd
  go_cut [13, 14] (fun s1 s2 wx => ∃ g A n c, s1 = .pointer (some ⟨g, 0, none⟩) ∧ s2 = .int .i64 (rampE (gridE ps rs) d0 s lo hi) ∧ Row wx g 24 [.slice A n c] ∧ IntsL wx (.slice A n c) (onE (rampE (gridE ps rs) d0 s lo hi) (rampL ps d0 s lo hi)) ∧ Below w2.heap.size w2 wx)
  case first =>
    go_region_held3 (fun w' => w'.cell? ⟨w.heap.size, 0, none⟩ = some (.slice X ps.length cX) ∧ w'.cell? ⟨w.heap.size, 1, none⟩ = some (.slice Y rs.length cY) ∧ w'.cell? ⟨bd, od, none⟩ = some (.int .i64 d0))
      ((refine keep3 zg zg zd qg0 qg1 qd ?_; (repeat (first | with_reducible exact Below.refl _ _ | with_reducible refine bl_call hb9 ?_ | ((with_reducible refine bl_setL ?_ ?_ _); rotate_left; exact Nat.le_refl _) | with_reducible refine lit_more ?_ _ | with_reducible refine bl_drew ?_)); done))
      ((go_at_call 17; ((with_reducible refine (ramp_anyF _ _ ps rs d0 s lo hi _ (hp.below ?_) (hr.below ?_)).mono ?_); ((repeat (first | with_reducible exact Below.refl _ _ | with_reducible refine bl_call hb9 ?_ | ((with_reducible refine bl_setL ?_ ?_ _); rotate_left; exact Nat.le_refl _) | with_reducible refine lit_more ?_ _ | with_reducible refine bl_drew ?_))); ((repeat (first | with_reducible exact Below.refl _ _ | with_reducible refine bl_call hb9 ?_ | ((with_reducible refine bl_setL ?_ ?_ _); rotate_left; exact Nat.le_refl _) | with_reducible refine lit_more ?_ _ | with_reducible refine bl_drew ?_))); rintro e w9 ⟨v9, rfl, hv9, hb9⟩; obtain ⟨A9, n9, c9, rfl⟩ := hv9.slice; (try (have R9 := (Row.drew (Row.new w2 24 [.slice none 0 0])).keep hb9; have e90 : w9.cell? ⟨w2.heap.size, 0, none⟩ = some (.slice none 0 0) := R9.cell 0; have f90 : w9.frozen? ⟨w2.heap.size, 0, none⟩ = false := R9.frozen 0)))))
    all_goals go_wp2_with fail
    all_goals go_meet
    all_goals go_light
    all_goals
      refine ⟨_, A9, n9, c9, rfl, rfl, ?_, ?_, ?_⟩
      · (first | exact Row.new _ _ _ | exact R9.set_ 0 _)
      · (first | exact hv9.ints.below (lit_below _ _) | exact (hv9.set_ (by simp) _).ints)
      · (first | ((repeat (first | with_reducible exact Below.refl _ _ | with_reducible refine bl_call hb9 ?_ | ((with_reducible refine bl_setL ?_ ?_ _); rotate_left; exact Nat.le_refl _) | with_reducible refine lit_more ?_ _ | with_reducible refine bl_drew ?_)); done) | exact (by (repeat (first | with_reducible exact Below.refl _ _ | with_reducible refine bl_call hb9 ?_ | ((with_reducible refine bl_setL ?_ ?_ _); rotate_left; exact Nat.le_refl _) | with_reducible refine lit_more ?_ _ | with_reducible refine bl_drew ?_)) : Below w2.heap.size w2 w9).setCell (Nat.le_refl _) _)
  case rest =>
  obtain ⟨Pg, PA, Pn, Pc, rfl, rfl, hrP, hP, hbc⟩ := hcut
  clear qg0 qg1 qd zg zd
  clear q00 q01 q10 z0 z1
  obtain ⟨w3, hw3⟩ : ∃ x, x = wc := ⟨_, rfl⟩
  rw [← hw3] at hrP hP hbc ⊢
  clear hw3
  replace BB : Below w.heap.size w w3 := BB.trans (hbc.mono BB.size)
  replace hcd := (hbc.cell (p := ⟨bd, od, none⟩) (block_lt_of_cell hcd)).trans hcd
  replace hp := hp.below hbc
  replace hr := hr.below hbc
  replace hd := hd.below hbc
  replace hd1 := hd1.below hbc
  replace hr1 := hr1.keep hbc
  replace hA := hA.below hbc
  replace hr2 := hr2.keep hbc
  clear hbc
  have t3 : (rampE (gridE ps rs) d0 s lo hi == 0) = false := by rw [beq_eq_false_iff_ne]; exact H2.out
  generalize rampE (gridE ps rs) d0 s lo hi = e2 at *
  have q00 : w3.cell? ⟨w.heap.size, 0, none⟩ = some (.slice X ps.length cX) := hr1.cell 0
  have q01 : w3.cell? ⟨w.heap.size, 1, none⟩ = some (.slice Y rs.length cY) := hr1.cell 1
  have z0 := hr1.lt
  have q10 : w3.cell? ⟨w1.heap.size, 0, none⟩ = some (.slice aA an ac) := hr2.cell 0
  have z1 := hr2.lt
  have q20 : w3.cell? ⟨Pg, 0, none⟩ = some (.slice PA Pn Pc) := hrP.cell 0
  have z2 := hrP.lt
  go_wp2_with fail
  have qg0 : w3.cell? ⟨w.heap.size, 0, none⟩ = some (.slice X ps.length cX) := hr1.cell 0
  have qg1 : w3.cell? ⟨w.heap.size, 1, none⟩ = some (.slice Y rs.length cY) := hr1.cell 1
  have qd : w3.cell? ⟨bd, od, none⟩ = some (.int .i64 d0) := hcd
  have zg := hr1.lt
  have zd := block_lt_of_cell hcd
  go_cut [15, 14] (fun s1 s2 wx => ∃ g A n c, s1 = .pointer (some ⟨g, 0, none⟩) ∧ s2 = .int .i64 (rampE (gridE ps rs) d0 s 1 999) ∧ Row wx g 24 [.slice A n c] ∧ IntsL wx (.slice A n c) (onE (rampE (gridE ps rs) d0 s 1 999) (rampL ps d0 s 1 999)) ∧ Below w3.heap.size w3 wx)
  case first =>
    go_region_held3 (fun w' => w'.cell? ⟨w.heap.size, 0, none⟩ = some (.slice X ps.length cX) ∧ w'.cell? ⟨w.heap.size, 1, none⟩ = some (.slice Y rs.length cY) ∧ w'.cell? ⟨bd, od, none⟩ = some (.int .i64 d0))
      ((refine keep3 zg zg zd qg0 qg1 qd ?_; (repeat (first | with_reducible exact Below.refl _ _ | with_reducible refine bl_call hb9 ?_ | ((with_reducible refine bl_setL ?_ ?_ _); rotate_left; exact Nat.le_refl _) | with_reducible refine lit_more ?_ _ | with_reducible refine bl_drew ?_)); done))
      ((go_at_call 17; ((with_reducible refine (ramp_anyF _ _ ps rs d0 s 1 999 _ (hp.below ?_) (hr.below ?_)).mono ?_); ((repeat (first | with_reducible exact Below.refl _ _ | with_reducible refine bl_call hb9 ?_ | ((with_reducible refine bl_setL ?_ ?_ _); rotate_left; exact Nat.le_refl _) | with_reducible refine lit_more ?_ _ | with_reducible refine bl_drew ?_))); ((repeat (first | with_reducible exact Below.refl _ _ | with_reducible refine bl_call hb9 ?_ | ((with_reducible refine bl_setL ?_ ?_ _); rotate_left; exact Nat.le_refl _) | with_reducible refine lit_more ?_ _ | with_reducible refine bl_drew ?_))); rintro e w9 ⟨v9, rfl, hv9, hb9⟩; obtain ⟨A9, n9, c9, rfl⟩ := hv9.slice; (try (have R9 := (Row.drew (Row.new w3 24 [.slice none 0 0])).keep hb9; have e90 : w9.cell? ⟨w3.heap.size, 0, none⟩ = some (.slice none 0 0) := R9.cell 0; have f90 : w9.frozen? ⟨w3.heap.size, 0, none⟩ = false := R9.frozen 0)))))
    all_goals go_wp2_with fail
    all_goals go_meet
    all_goals go_light
    all_goals
      refine ⟨_, A9, n9, c9, rfl, rfl, ?_, ?_, ?_⟩
      · (first | exact Row.new _ _ _ | exact R9.set_ 0 _)
      · (first | exact hv9.ints.below (lit_below _ _) | exact (hv9.set_ (by simp) _).ints)
      · (first | ((repeat (first | with_reducible exact Below.refl _ _ | with_reducible refine bl_call hb9 ?_ | ((with_reducible refine bl_setL ?_ ?_ _); rotate_left; exact Nat.le_refl _) | with_reducible refine lit_more ?_ _ | with_reducible refine bl_drew ?_)); done) | exact (by (repeat (first | with_reducible exact Below.refl _ _ | with_reducible refine bl_call hb9 ?_ | ((with_reducible refine bl_setL ?_ ?_ _); rotate_left; exact Nat.le_refl _) | with_reducible refine lit_more ?_ _ | with_reducible refine bl_drew ?_)) : Below w3.heap.size w3 w9).setCell (Nat.le_refl _) _)
  case rest =>
  obtain ⟨Qg, QA, Qn, Qc, rfl, rfl, hrQ, hQ, hbc⟩ := hcut
  clear qg0 qg1 qd zg zd
  clear q00 q01 q10 q20 z0 z1 z2
  obtain ⟨w4, hw4⟩ : ∃ x, x = wc := ⟨_, rfl⟩
  rw [← hw4] at hrQ hQ hbc ⊢
  clear hw4
  replace BB : Below w.heap.size w w4 := BB.trans (hbc.mono BB.size)
  replace hcd := (hbc.cell (p := ⟨bd, od, none⟩) (block_lt_of_cell hcd)).trans hcd
  replace hp := hp.below hbc
  replace hr := hr.below hbc
  replace hd := hd.below hbc
  replace hd1 := hd1.below hbc
  replace hr1 := hr1.keep hbc
  replace hA := hA.below hbc
  replace hr2 := hr2.keep hbc
  replace hrP := hrP.keep hbc
  replace hP := hP.below hbc
  clear hbc
  have q00 : w4.cell? ⟨w.heap.size, 0, none⟩ = some (.slice X ps.length cX) := hr1.cell 0
  have q01 : w4.cell? ⟨w.heap.size, 1, none⟩ = some (.slice Y rs.length cY) := hr1.cell 1
  have z0 := hr1.lt
  have q10 : w4.cell? ⟨w1.heap.size, 0, none⟩ = some (.slice aA an ac) := hr2.cell 0
  have z1 := hr2.lt
  have q20 : w4.cell? ⟨Pg, 0, none⟩ = some (.slice PA Pn Pc) := hrP.cell 0
  have z2 := hrP.lt
  have q30 : w4.cell? ⟨Qg, 0, none⟩ = some (.slice QA Qn Qc) := hrQ.cell 0
  have z3 := hrQ.lt
  go_wp2_with fail
  have qg0 : w4.cell? ⟨w.heap.size, 0, none⟩ = some (.slice X ps.length cX) := hr1.cell 0
  have qg1 : w4.cell? ⟨w.heap.size, 1, none⟩ = some (.slice Y rs.length cY) := hr1.cell 1
  have qd : w4.cell? ⟨bd, od, none⟩ = some (.int .i64 d0) := hcd
  have zg := hr1.lt
  have zd := block_lt_of_cell hcd
  go_cut [16, 12] (fun s1 s2 wx => ∃ g A n c, s1 = .pointer (some ⟨g, 0, none⟩) ∧ s2 = .int .i64 (rampE (gridE ps rs) d0 s 1 999) ∧ Row wx g 24 [.slice A n c] ∧ IntsL wx (.slice A n c) (onE (rampE (gridE ps rs) d0 s 1 999) (rampL ps d0 s 1 999)) ∧ Below w4.heap.size w4 wx)
  case first =>
    go_region_held3 (fun w' => w'.cell? ⟨w.heap.size, 0, none⟩ = some (.slice X ps.length cX) ∧ w'.cell? ⟨w.heap.size, 1, none⟩ = some (.slice Y rs.length cY) ∧ w'.cell? ⟨bd, od, none⟩ = some (.int .i64 d0))
      ((refine keep3 zg zg zd qg0 qg1 qd ?_; (repeat (first | with_reducible exact Below.refl _ _ | with_reducible refine bl_call hb9 ?_ | ((with_reducible refine bl_setL ?_ ?_ _); rotate_left; exact Nat.le_refl _) | with_reducible refine lit_more ?_ _ | with_reducible refine bl_drew ?_)); done))
      ((go_at_call 20; ((with_reducible refine (steps_one _ _ _ ps rs d0 s _ (hp.below ?_) (hr.below ?_) (hd1.below ?_)).mono ?_); ((repeat (first | with_reducible exact Below.refl _ _ | with_reducible refine bl_call hb9 ?_ | ((with_reducible refine bl_setL ?_ ?_ _); rotate_left; exact Nat.le_refl _) | with_reducible refine lit_more ?_ _ | with_reducible refine bl_drew ?_))); ((repeat (first | with_reducible exact Below.refl _ _ | with_reducible refine bl_call hb9 ?_ | ((with_reducible refine bl_setL ?_ ?_ _); rotate_left; exact Nat.le_refl _) | with_reducible refine lit_more ?_ _ | with_reducible refine bl_drew ?_))); ((repeat (first | with_reducible exact Below.refl _ _ | with_reducible refine bl_call hb9 ?_ | ((with_reducible refine bl_setL ?_ ?_ _); rotate_left; exact Nat.le_refl _) | with_reducible refine lit_more ?_ _ | with_reducible refine bl_drew ?_))); rintro e w9 ⟨v9, rfl, hv9, hb9⟩; obtain ⟨A9, n9, c9, rfl⟩ := hv9.slice; (try (have R9 := (Row.drew (Row.new w4 24 [.slice none 0 0])).keep hb9; have e90 : w9.cell? ⟨w4.heap.size, 0, none⟩ = some (.slice none 0 0) := R9.cell 0; have f90 : w9.frozen? ⟨w4.heap.size, 0, none⟩ = false := R9.frozen 0)))))
    all_goals go_wp2_with fail
    all_goals go_meet
    all_goals go_light
    all_goals
      refine ⟨_, A9, n9, c9, rfl, rfl, ?_, ?_, ?_⟩
      · (first | exact Row.new _ _ _ | exact R9.set_ 0 _)
      · (first | exact hv9.ints.below (lit_below _ _) | exact (hv9.set_ (by simp) _).ints)
      · (first | ((repeat (first | with_reducible exact Below.refl _ _ | with_reducible refine bl_call hb9 ?_ | ((with_reducible refine bl_setL ?_ ?_ _); rotate_left; exact Nat.le_refl _) | with_reducible refine lit_more ?_ _ | with_reducible refine bl_drew ?_)); done) | exact (by (repeat (first | with_reducible exact Below.refl _ _ | with_reducible refine bl_call hb9 ?_ | ((with_reducible refine bl_setL ?_ ?_ _); rotate_left; exact Nat.le_refl _) | with_reducible refine lit_more ?_ _ | with_reducible refine bl_drew ?_)) : Below w4.heap.size w4 w9).setCell (Nat.le_refl _) _)
  case rest =>
  obtain ⟨Tg, TA, Tn, Tc, rfl, rfl, hrT, hT, hbc⟩ := hcut
  clear qg0 qg1 qd zg zd
  clear q00 q01 q10 q20 q30 z0 z1 z2 z3
  obtain ⟨w5, hw5⟩ : ∃ x, x = wc := ⟨_, rfl⟩
  rw [← hw5] at hrT hT hbc ⊢
  clear hw5
  replace BB : Below w.heap.size w w5 := BB.trans (hbc.mono BB.size)
  replace hcd := (hbc.cell (p := ⟨bd, od, none⟩) (block_lt_of_cell hcd)).trans hcd
  replace hp := hp.below hbc
  replace hr := hr.below hbc
  replace hd := hd.below hbc
  replace hd1 := hd1.below hbc
  replace hr1 := hr1.keep hbc
  replace hA := hA.below hbc
  replace hr2 := hr2.keep hbc
  replace hrP := hrP.keep hbc
  replace hP := hP.below hbc
  replace hrQ := hrQ.keep hbc
  replace hQ := hQ.below hbc
  clear hbc
  generalize rampE (gridE ps rs) d0 s 1 999 = e3 at *
  have q00 : w5.cell? ⟨w.heap.size, 0, none⟩ = some (.slice X ps.length cX) := hr1.cell 0
  have q01 : w5.cell? ⟨w.heap.size, 1, none⟩ = some (.slice Y rs.length cY) := hr1.cell 1
  have z0 := hr1.lt
  have q10 : w5.cell? ⟨w1.heap.size, 0, none⟩ = some (.slice aA an ac) := hr2.cell 0
  have z1 := hr2.lt
  have q20 : w5.cell? ⟨Pg, 0, none⟩ = some (.slice PA Pn Pc) := hrP.cell 0
  have z2 := hrP.lt
  have q30 : w5.cell? ⟨Qg, 0, none⟩ = some (.slice QA Qn Qc) := hrQ.cell 0
  have z3 := hrQ.lt
  have q40 : w5.cell? ⟨Tg, 0, none⟩ = some (.slice TA Tn Tc) := hrT.cell 0
  have z4 := hrT.lt
  go_wp2_with fail
  clear q00 q01 q10 q20 q30 q40 z0 z1 z2 z3 z4
  have hl : Below w5.heap.size w5 w5 := Below.refl _ _
  refine (same_yes _ _ _ _ (hQ.below hl) (hT.below hl)).mono ?_
  rintro e w6 ⟨rfl, hb⟩
  replace hb : Below w5.heap.size w5 w6 := hl.trans (hb.mono hl.size)
  clear hl
  replace hp := hp.below hb
  replace hr := hr.below hb
  replace hd := hd.below hb
  replace hd1 := hd1.below hb
  replace hr1 := hr1.keep hb
  replace hA := hA.below hb
  replace hr2 := hr2.keep hb
  replace hrP := hrP.keep hb
  replace hP := hP.below hb
  replace hrQ := hrQ.keep hb
  replace hQ := hQ.below hb
  replace hrT := hrT.keep hb
  replace hT := hT.below hb
  replace BB : Below w.heap.size w w6 := BB.trans (hb.mono BB.size)
  replace hcd := (hb.cell (p := ⟨bd, od, none⟩) (block_lt_of_cell hcd)).trans hcd
  clear hb
  have q00 : w6.cell? ⟨w.heap.size, 0, none⟩ = some (.slice X ps.length cX) := hr1.cell 0
  have q01 : w6.cell? ⟨w.heap.size, 1, none⟩ = some (.slice Y rs.length cY) := hr1.cell 1
  have z0 := hr1.lt
  have q10 : w6.cell? ⟨w1.heap.size, 0, none⟩ = some (.slice aA an ac) := hr2.cell 0
  have z1 := hr2.lt
  have q20 : w6.cell? ⟨Pg, 0, none⟩ = some (.slice PA Pn Pc) := hrP.cell 0
  have z2 := hrP.lt
  have q30 : w6.cell? ⟨Qg, 0, none⟩ = some (.slice QA Qn Qc) := hrQ.cell 0
  have z3 := hrQ.lt
  have q40 : w6.cell? ⟨Tg, 0, none⟩ = some (.slice TA Tn Tc) := hrT.cell 0
  have z4 := hrT.lt
  go_wp2_with fail
  clear q00 q01 q10 q20 q30 q40 z0 z1 z2 z3 z4
  have hl : Below w6.heap.size w6 w6 := Below.refl _ _
  refine (awake_any _).mono ?_
  rintro e w7 ⟨rfl, hb⟩
  replace hb : Below w6.heap.size w6 w7 := hl.trans (hb.mono hl.size)
  clear hl
  replace hp := hp.below hb
  replace hr := hr.below hb
  replace hd := hd.below hb
  replace hd1 := hd1.below hb
  replace hr1 := hr1.keep hb
  replace hA := hA.below hb
  replace hr2 := hr2.keep hb
  replace hrP := hrP.keep hb
  replace hP := hP.below hb
  replace hrQ := hrQ.keep hb
  replace hQ := hQ.below hb
  replace hrT := hrT.keep hb
  replace hT := hT.below hb
  replace BB : Below w.heap.size w w7 := BB.trans (hb.mono BB.size)
  replace hcd := (hb.cell (p := ⟨bd, od, none⟩) (block_lt_of_cell hcd)).trans hcd
  clear hb
  go_wp2_with fail
  go_ret
  exact ⟨rfl, BB⟩

set_option maxRecDepth 100000 in
set_option maxHeartbeats 8000000 in
theorem rises_no (pv rv dv : Value) (ps rs ds : List Int) (s lo hi : Int) (w : World) (hp : Nums .i64 w pv ps) (hr : Nums .i64 w rv rs) (hd : Nums .i64 w dv ds) (hn0 : ds.length = 0) :
    Calls Tryd.prog 7 #[.agg #[pv, rv], dv, .int .i64 s, .int .i64 lo, .int .i64 hi] w fun e w' => e = .returned (.bool true) ∧ Below w.heap.size w w' := by
  have hp0 := hp
  have hr0 := hr
  have hd0 := hd
  obtain ⟨X, cX, rfl, _, _, _⟩ := hp0
  obtain ⟨Y, cY, rfl, _, _, _⟩ := hr0
  obtain ⟨D, cD, rfl, _, _, _⟩ := hd0
  have t1 : (stepsE (gridE ps rs) ds s == 0) = false := by rw [beq_eq_false_iff_ne]; intro h; have := (stepsE_zero h).2.1; omega
  have t1' : (stepsE (gridE ps rs) ds s != 0) = true := by rw [bne_iff_ne]; intro h; have := (stepsE_zero h).2.1; omega
  have t2 : ((ds.length : Int) == 0) = true := by rw [beq_iff_eq]; omega
  have HN0 := Lib.hid hn0
  clear hn0
  go_enter Tryd.func7, Tryd.ntmps7
  go_wp2_with fail
  have hl : Below w.heap.size w (w.alloc (.cells #[.slice X ps.length cX, .slice Y rs.length cY] 33)) := lit_below _ _
  have hr1 : Row (w.alloc (.cells #[.slice X ps.length cX, .slice Y rs.length cY] 33)) (w.heap.size) 33 [.slice X ps.length cX, .slice Y rs.length cY] := row_at (by simp)
  refine (msteps_any _ _ _ ps rs ds s _ (hp.below hl) (hr.below hl) (hd.below hl)).mono ?_
  rintro e w1 ⟨v1, rfl, hA, hb⟩
  replace hr1 := hr1.keep hb
  replace hb : Below w.heap.size w w1 := hl.trans (hb.mono hl.size)
  clear hl
  replace hp := hp.below hb
  replace hr := hr.below hb
  replace hd := hd.below hb
  have BB : Below w.heap.size w w1 := hb
  clear hb
  obtain ⟨aA, an, ac, rfl⟩ := intsL_slice hA
  clear hA
  generalize stepsE (gridE ps rs) ds s = e1 at *
  have q00 : w1.cell? ⟨w.heap.size, 0, none⟩ = some (.slice X ps.length cX) := hr1.cell 0
  have q01 : w1.cell? ⟨w.heap.size, 1, none⟩ = some (.slice Y rs.length cY) := hr1.cell 1
  have z0 := hr1.lt
  go_wp2_with fail
  clear q00 q01 z0
  have hl : Below w1.heap.size w1 (w1.alloc (.cells #[.slice aA an ac] 24)) := lit_below _ _
  have hr2 : Row (w1.alloc (.cells #[.slice aA an ac] 24)) (w1.heap.size) 24 [.slice aA an ac] := row_at (by simp)
  refine (awake_any _).mono ?_
  rintro e w2 ⟨rfl, hb⟩
  replace hr2 := hr2.keep hb
  replace hb : Below w1.heap.size w1 w2 := hl.trans (hb.mono hl.size)
  clear hl
  replace hp := hp.below hb
  replace hr := hr.below hb
  replace hd := hd.below hb
  replace hr1 := hr1.keep hb
  replace BB : Below w.heap.size w w2 := BB.trans (hb.mono BB.size)
  clear hb
  go_wp2_with fail
  go_ret
  exact ⟨rfl, BB⟩
theorem rises_all (pv rv dv : Value) (ps rs ds : List Int) (s lo hi : Int) (w : World) (hp : Nums .i64 w pv ps) (hr : Nums .i64 w rv rs) (hd : Nums .i64 w dv ds) :
    Calls Tryd.prog 7 #[.agg #[pv, rv], dv, .int .i64 s, .int .i64 lo, .int .i64 hi] w fun e w' => e = .returned (.bool true) ∧ Below w.heap.size w w' := by
  by_cases hn : ds.length = 0
  · exact rises_no pv rv dv ps rs ds s lo hi w hp hr hd hn
  · have hn0 : 0 < ds.length := by omega
    by_cases h1 : stepsE (gridE ps rs) ds s = 0
    · by_cases h2 : rampE (gridE ps rs) (ds.getD 0 0) s lo hi = 0
      · exact rises_tt pv rv dv ps rs ds s lo hi w hp hr hd _ hn0 rfl h1 h2
      · exact rises_tf pv rv dv ps rs ds s lo hi w hp hr hd _ hn0 rfl h1 h2
    · by_cases h2 : rampE (gridE ps rs) (ds.getD 0 0) s lo hi = 0
      · exact rises_ft pv rv dv ps rs ds s lo hi w hp hr hd _ hn0 rfl h1 h2
      · exact rises_ff pv rv dv ps rs ds s lo hi w hp hr hd _ hn0 rfl h1 h2
end Go.Proofs.YtokpembimalhmaaDoor
