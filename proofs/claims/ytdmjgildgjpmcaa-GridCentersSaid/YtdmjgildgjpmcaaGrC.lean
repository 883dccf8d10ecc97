/- For every first point, distance and number of points the law GridCenters returns true; no condition. -/
import Derived.Test.YtdmjgildgjpmcaaGridMakes
import Derived.Test.YtdmjgildgjpmcaaGrM
import Derived.Test.YtdmjgildgjpmcaaGrQ
import Derived.Test.YtdmjgildgjpmcaaSm
import Derived.Test.YtdmjgildgjpmcaaRows
namespace Go.Proofs.Ytdmjgildgjpmcaa
open Go.RowKit Go.ChangeShapes Go.WideShapes Go.ChangeAt
set_option linter.unusedVariables false

set_option maxHeartbeats 8000000 in
theorem centers_no (lo step n : Int) (w : World) (h : Hid (¬ FitsI lo step n)) :
    Calls Try.prog 7 #[.int .i64 lo, .int .i64 step, .int .i64 n] w fun e w' => e = .returned (.bool true) ∧ Below w.heap.size w w' := by
  by_cases c0 : n < 1
  · have d0 : decide (n < 1) = true := by simpa using c0
    go_enter Try.func7, Try.ntmps7
    go_wp2_with fail
    refine (uniform_no lo step n _ h).mono ?_
    rintro e w1 ⟨rfl, hb1⟩
    have hl := lit_below w1 (.cells #[.slice none 0 0, .slice none 0 0] 24)
    go_wp2_with fail
    refine (triangle_no lo step n _ h).mono ?_
    rintro e w2 ⟨rfl, hb2⟩
    have BB := (hb1.trans (hl.mono hb1.size)).trans (hb2.mono (Nat.le_trans hb1.size hl.size))
    clear h
    go_wp2_with fail
    go_ret
    exact ⟨rfl, BB.alloc BB.size _⟩
  · have d0 : decide (n < 1) = false := by simpa using c0
    by_cases c1 : 21 < n
    · have d1 : decide (21 < n) = true := by simpa using c1
      go_enter Try.func7, Try.ntmps7
      go_wp2_with fail
      refine (uniform_no lo step n _ h).mono ?_
      rintro e w1 ⟨rfl, hb1⟩
      have hl := lit_below w1 (.cells #[.slice none 0 0, .slice none 0 0] 24)
      go_wp2_with fail
      refine (triangle_no lo step n _ h).mono ?_
      rintro e w2 ⟨rfl, hb2⟩
      have BB := (hb1.trans (hl.mono hb1.size)).trans (hb2.mono (Nat.le_trans hb1.size hl.size))
      clear h
      go_wp2_with fail
      go_ret
      exact ⟨rfl, BB.alloc BB.size _⟩
    · have d1 : decide (21 < n) = false := by simpa using c1
      by_cases c2 : step < 1
      · have d2 : decide (step < 1) = true := by simpa using c2
        go_enter Try.func7, Try.ntmps7
        go_wp2_with fail
        refine (uniform_no lo step n _ h).mono ?_
        rintro e w1 ⟨rfl, hb1⟩
        have hl := lit_below w1 (.cells #[.slice none 0 0, .slice none 0 0] 24)
        go_wp2_with fail
        refine (triangle_no lo step n _ h).mono ?_
        rintro e w2 ⟨rfl, hb2⟩
        have BB := (hb1.trans (hl.mono hb1.size)).trans (hb2.mono (Nat.le_trans hb1.size hl.size))
        clear h
        go_wp2_with fail
        go_ret
        exact ⟨rfl, BB.alloc BB.size _⟩
      · have d2 : decide (step < 1) = false := by simpa using c2
        by_cases c3 : 1000 < step
        · have d3 : decide (1000 < step) = true := by simpa using c3
          go_enter Try.func7, Try.ntmps7
          go_wp2_with fail
          refine (uniform_no lo step n _ h).mono ?_
          rintro e w1 ⟨rfl, hb1⟩
          have hl := lit_below w1 (.cells #[.slice none 0 0, .slice none 0 0] 24)
          go_wp2_with fail
          refine (triangle_no lo step n _ h).mono ?_
          rintro e w2 ⟨rfl, hb2⟩
          have BB := (hb1.trans (hl.mono hb1.size)).trans (hb2.mono (Nat.le_trans hb1.size hl.size))
          clear h
          go_wp2_with fail
          go_ret
          exact ⟨rfl, BB.alloc BB.size _⟩
        · have d3 : decide (1000 < step) = false := by simpa using c3
          by_cases c4 : lo < -1000
          · have d4 : decide (lo < -1000) = true := by simpa using c4
            go_enter Try.func7, Try.ntmps7
            go_wp2_with fail
            refine (uniform_no lo step n _ h).mono ?_
            rintro e w1 ⟨rfl, hb1⟩
            have hl := lit_below w1 (.cells #[.slice none 0 0, .slice none 0 0] 24)
            go_wp2_with fail
            refine (triangle_no lo step n _ h).mono ?_
            rintro e w2 ⟨rfl, hb2⟩
            have BB := (hb1.trans (hl.mono hb1.size)).trans (hb2.mono (Nat.le_trans hb1.size hl.size))
            clear h
            go_wp2_with fail
            go_ret
            exact ⟨rfl, BB.alloc BB.size _⟩
          · have d4 : decide (lo < -1000) = false := by simpa using c4
            have m1 : 0 ≤ (n - 1) * step := Int.mul_nonneg (by omega) (by omega)
            have m2 : (n - 1) * step ≤ 20 * 1000 := Int.mul_le_mul (by omega) (by omega) (by omega) (by omega)
            have d7 : decide (1000 - (n - 1) * step < lo) = true := by
              rw [decide_eq_true_eq]
              rcases Int.lt_or_le (1000 - (n - 1) * step) lo with hh | hh
              · exact hh
              · exact absurd ⟨by omega, by omega, by omega, by omega, by omega, by omega, by omega⟩ h.out
            go_enter Try.func7, Try.ntmps7
            go_wp2_with fail
            refine (uniform_no lo step n _ h).mono ?_
            rintro e w1 ⟨rfl, hb1⟩
            have hl := lit_below w1 (.cells #[.slice none 0 0, .slice none 0 0] 24)
            go_wp2_with fail
            refine (triangle_no lo step n _ h).mono ?_
            rintro e w2 ⟨rfl, hb2⟩
            have BB := (hb1.trans (hl.mono hb1.size)).trans (hb2.mono (Nat.le_trans hb1.size hl.size))
            clear h
            go_wp2_with fail
            go_ret
            exact ⟨rfl, BB.alloc BB.size _⟩

theorem below_of_drew {w w' : World} {d : Nat} (h : w' = w.drewN d) : Below w.heap.size w w' := by subst h; exact below_drewN (Below.refl _ _) d
theorem ints_sameB (pv qv : Value) (zs : List Int) (w : World) (h1 : Nums .i64 w pv zs) (h2 : Nums .i64 w qv zs) :
    Calls Try.prog 10 #[pv, qv] w fun e w' => e = .returned (.bool true) ∧ Below w.heap.size w w' :=
  (ints_same pv qv zs w h1 h2).mono fun e w' ⟨he, d, hd⟩ => ⟨he, below_of_drew hd⟩

theorem sumE_ok {ps rs : List Int} {ns : List Nat} (h1 : gridE ps rs = 0) (h2 : ns.length = ps.length) (h3 : wF0 ns ps.length ≠ 0) : sumE ps rs ns = 0 := by
  unfold sumE
  rw [if_neg (by simpa using h1), if_neg (by omega), if_neg h3]
theorem center_all {lo step : Int} {n : Nat} (f : Nat → Int) (hn : n ≤ 21) (hn0 : 0 < n) (hpos : ∀ i, i < n → 0 ≤ f i) (hc : 2 * mom (fun i : Nat => (i : Int) * f i) n = ((n : Int) - 1) * mom f n ∧ (0 < n → 0 < mom f n)) :
    wF0 (natsOf ((List.range n).map f)) (ptsL lo step n).length ≠ 0 ∧ redP (wF1 (natsOf ((List.range n).map f)) (ptsL lo step n) (ptsL lo step n).length) (wF0 (natsOf ((List.range n).map f)) (ptsL lo step n).length).natAbs = redP (lo + (lo + ((n : Int) - 1) * step)) 2 ∧ redQ (wF1 (natsOf ((List.range n).map f)) (ptsL lo step n) (ptsL lo step n).length) (wF0 (natsOf ((List.range n).map f)) (ptsL lo step n).length).natAbs = redQ (lo + (lo + ((n : Int) - 1) * step)) 2 := by
  obtain ⟨a, b⟩ := center_sums lo step n f hpos
  rw [ptsL_len, a, b]
  have h0 := hc.2 hn0
  have := center_red lo step n (mom f n) _ h0 hc.1
  exact ⟨by omega, this.1, this.2⟩
theorem nums_cell {w : World} {b o n c : Nat} {zs : List Int} (h : Nums .i64 w (.slice (some ⟨b, o, none⟩) n c) zs) {i : Nat} (hi : i < zs.length) : b < w.heap.size ∧ w.cell? ⟨b, o + i, none⟩ = some (.int .i64 (zs.getD i 0)) := by
  obtain ⟨A, c', e, _, _, hs⟩ := h
  injection e with e1 e2 e3
  subst e1
  obtain ⟨b', o', e4, hlt, hc⟩ := hs.num hi
  injection e4 with e4
  injection e4 with e5 e6 _
  subst e5 e6
  exact ⟨hlt, hc i hi⟩

set_option maxRecDepth 100000 in
set_option maxHeartbeats 16000000 in
theorem centers_yes (lo step : Int) (n : Nat) (w : World) (hf : Fits lo step n) :
    Calls Try.prog 7 #[.int .i64 lo, .int .i64 step, .int .i64 (n : Int)] w fun e w' => e = .returned (.bool true) ∧ Below w.heap.size w w' := by
  have f2 := hf.h2
  have f1 := hf.h1
  have HG1 : Hid (gridE (ptsL lo step n) (onesL n) = 0) := fits_grid hf (fun _ => 1) (fun i hi => ⟨by omega, by omega⟩)
  have HG2 : Hid (gridE (ptsL lo step n) (triL n) = 0) := fits_grid hf (fun i => triW n i) (fun i hi => tri_pos n (by omega) i hi)
  have HPL := Lib.hid (ptsL_len lo step n)
  have hl1 : (((ptsL lo step n).length : Int) != (n : Int)) = false := by rw [ptsL_len]; simp
  have m1 : 0 ≤ ((n : Int) - 1) * step := Int.mul_nonneg (by omega) (by have := hf.h3; omega)
  have f7 := hf.h7
  have f5 := hf.h5
  have f6 := hf.h6
  have C1 := center_all (lo := lo) (step := step) (fun _ => (1 : Int)) f2 (by omega) (fun i _ => by omega) (ones_cen n (by omega))
  have C2 := center_all (lo := lo) (step := step) (fun i => triW n i) f2 (by omega) (fun i hi => by have := tri_pos n (by omega) i hi; omega) (tri_cen n (by omega))
  have HM1 : Hid (redP (wF1 (natsOf (onesL n)) (ptsL lo step n) (ptsL lo step n).length) (wF0 (natsOf (onesL n)) (ptsL lo step n).length).natAbs = redP (lo + (lo + ((n : Int) - 1) * step)) 2 ∧ redQ (wF1 (natsOf (onesL n)) (ptsL lo step n) (ptsL lo step n).length) (wF0 (natsOf (onesL n)) (ptsL lo step n).length).natAbs = redQ (lo + (lo + ((n : Int) - 1) * step)) 2) := C1.2
  have HM2 : Hid (redP (wF1 (natsOf (triL n)) (ptsL lo step n) (ptsL lo step n).length) (wF0 (natsOf (triL n)) (ptsL lo step n).length).natAbs = redP (lo + (lo + ((n : Int) - 1) * step)) 2 ∧ redQ (wF1 (natsOf (triL n)) (ptsL lo step n) (ptsL lo step n).length) (wF0 (natsOf (triL n)) (ptsL lo step n).length).natAbs = redQ (lo + (lo + ((n : Int) - 1) * step)) 2) := C2.2
  have HS1 : Hid (sumE (ptsL lo step n) (onesL n) (natsOf (onesL n)) = 0) := sumE_ok HG1.out (by rw [natsOf_len]; simp [onesL, ptsL]) C1.1
  have HS2 : Hid (sumE (ptsL lo step n) (triL n) (natsOf (triL n)) = 0) := sumE_ok HG2.out (by rw [natsOf_len]; simp [triL, ptsL]) C2.1
  clear C1 C2
  have HV0 : Hid ((ptsL lo step n).getD 0 0 = lo) := by unfold Hid; rw [ptsL_get lo step n 0 (by omega)]; simp
  have HV1 : Hid ((ptsL lo step n).getD (n - 1) 0 = lo + ((n : Int) - 1) * step) := by
    unfold Hid; rw [ptsL_get lo step n (n - 1) (by omega)]
    rw [show ((n - 1 : Nat) : Int) = (n : Int) - 1 by omega]
  have HWS : Hid (IntKind.i64.wrap (lo + (lo + ((n : Int) - 1) * step)) = lo + (lo + ((n : Int) - 1) * step)) := by unfold Hid; rw [IntKind.wrap_i64]; omega
  have HB1 : Hid (-9223372036854775808 ≤ lo + (lo + ((n : Int) - 1) * step)) := by unfold Hid; omega
  have HB2 : Hid (lo + (lo + ((n : Int) - 1) * step) ≤ 9223372036854775807) := by unfold Hid; omega
  go_enter Try.func7, Try.ntmps7
  go_wp2_with fail
  have BB := Below.refl w.heap.size w
  refine (uniform_yes lo step n _ hf).mono ?_
  rintro e x1 ⟨pv, rv, rfl, hp1, hr1, _, _, hb⟩
  replace BB : Below w.heap.size w x1 := BB.trans (hb.mono BB.size)
  clear hb
  obtain ⟨PA, pc, rfl, hpc, hpm, hps⟩ := id hp1
  obtain ⟨pb, po, rfl, _, _⟩ := hps.num (i := 0) (by rw [ptsL_len]; exact f1)
  obtain ⟨RA, rc, rfl, _, _, _⟩ := id hr1
  obtain ⟨g7, hg7⟩ : ∃ g, x1.heap.size = g := ⟨_, rfl⟩
  have hr7 : Row (x1.alloc (.cells #[.slice (some ⟨pb, po, none⟩) (ptsL lo step n).length pc, .slice RA (onesL n).length rc] 24)) g7 24 [.slice (some ⟨pb, po, none⟩) (ptsL lo step n).length pc, .slice RA (onesL n).length rc] := row_at hg7
  have hl := lit_below x1 (.cells #[.slice (some ⟨pb, po, none⟩) (ptsL lo step n).length pc, .slice RA (onesL n).length rc] 24)
  have ob_7 : w.heap.size ≤ g7 := by have := BB.size; omega
  have e0 : (x1.alloc (.cells #[.slice (some ⟨pb, po, none⟩) (ptsL lo step n).length pc, .slice RA (onesL n).length rc] 24)).cell? ⟨g7, 0, none⟩ = some (.slice (some ⟨pb, po, none⟩) (ptsL lo step n).length pc) := hr7.cell 0
  have e1 : (x1.alloc (.cells #[.slice (some ⟨pb, po, none⟩) (ptsL lo step n).length pc, .slice RA (onesL n).length rc] 24)).cell? ⟨g7, 1, none⟩ = some (.slice RA (onesL n).length rc) := hr7.cell 1
  go_wp2_with fail
  clear e0 e1
  clear hg7
  generalize (x1.alloc (.cells #[.slice (some ⟨pb, po, none⟩) (ptsL lo step n).length pc, .slice RA (onesL n).length rc] 24)) = x2 at *
  replace hp1 := hp1.below hl
  replace hr1 := hr1.below hl
  replace BB : Below w.heap.size w x2 := BB.trans (hl.mono BB.size)
  clear hl
  refine (triangle_yes lo step n _ hf).mono ?_
  rintro e x3 ⟨pv, rv, rfl, hp2, hr2, _, _, hb⟩
  replace hp1 := hp1.below hb
  replace hr1 := hr1.below hb
  replace hr7 := hr7.keep hb
  replace BB : Below w.heap.size w x3 := BB.trans (hb.mono BB.size)
  clear hb
  obtain ⟨QA, qc, rfl, _, _, _⟩ := id hp2
  obtain ⟨SA, sc, rfl, _, _, _⟩ := id hr2
  obtain ⟨g9, hg9⟩ : ∃ g, x3.heap.size = g := ⟨_, rfl⟩
  have hr9 : Row (x3.alloc (.cells #[.slice QA (ptsL lo step n).length qc, .slice SA (triL n).length sc] 24)) g9 24 [.slice QA (ptsL lo step n).length qc, .slice SA (triL n).length sc] := row_at hg9
  have hl := lit_below x3 (.cells #[.slice QA (ptsL lo step n).length qc, .slice SA (triL n).length sc] 24)
  have o7_9 : g7 < g9 := by have := hr7.lt; omega
  have ob_9 : w.heap.size ≤ g9 := by have := BB.size; omega
  have c70 : x3.cell? ⟨g7, 0, none⟩ = some (.slice (some ⟨pb, po, none⟩) (ptsL lo step n).length pc) := hr7.cell 0
  have c71 : x3.cell? ⟨g7, 1, none⟩ = some (.slice RA (onesL n).length rc) := hr7.cell 1
  have d70 : (x3.alloc (.cells #[.slice QA (ptsL lo step n).length qc, .slice SA (triL n).length sc] 24)).cell? ⟨g7, 0, none⟩ = some (.slice (some ⟨pb, po, none⟩) (ptsL lo step n).length pc) := (hr7.alloc _).cell 0
  have d71 : (x3.alloc (.cells #[.slice QA (ptsL lo step n).length qc, .slice SA (triL n).length sc] 24)).cell? ⟨g7, 1, none⟩ = some (.slice RA (onesL n).length rc) := (hr7.alloc _).cell 1
  have e0 : (x3.alloc (.cells #[.slice QA (ptsL lo step n).length qc, .slice SA (triL n).length sc] 24)).cell? ⟨g9, 0, none⟩ = some (.slice QA (ptsL lo step n).length qc) := hr9.cell 0
  have e1 : (x3.alloc (.cells #[.slice QA (ptsL lo step n).length qc, .slice SA (triL n).length sc] 24)).cell? ⟨g9, 1, none⟩ = some (.slice SA (triL n).length sc) := hr9.cell 1
  go_wp2_with fail
  clear c70 c71 d70 d71 e0 e1
  clear hg9
  generalize (x3.alloc (.cells #[.slice QA (ptsL lo step n).length qc, .slice SA (triL n).length sc] 24)) = x4 at *
  replace hp1 := hp1.below hl
  replace hr1 := hr1.below hl
  replace hr7 := hr7.keep hl
  replace hp2 := hp2.below hl
  replace hr2 := hr2.below hl
  replace BB : Below w.heap.size w x4 := BB.trans (hl.mono BB.size)
  clear hl
  refine (ints_sameB _ _ _ _ hp1 hp2).mono ?_
  rintro e x5 ⟨rfl, hb⟩
  replace hp1 := hp1.below hb
  replace hr1 := hr1.below hb
  replace hr7 := hr7.keep hb
  replace hp2 := hp2.below hb
  replace hr2 := hr2.below hb
  replace hr9 := hr9.keep hb
  replace BB : Below w.heap.size w x5 := BB.trans (hb.mono BB.size)
  clear hb
  have c70 : x5.cell? ⟨g7, 0, none⟩ = some (.slice (some ⟨pb, po, none⟩) (ptsL lo step n).length pc) := hr7.cell 0
  have c71 : x5.cell? ⟨g7, 1, none⟩ = some (.slice RA (onesL n).length rc) := hr7.cell 1
  have c90 : x5.cell? ⟨g9, 0, none⟩ = some (.slice QA (ptsL lo step n).length qc) := hr9.cell 0
  have c91 : x5.cell? ⟨g9, 1, none⟩ = some (.slice SA (triL n).length sc) := hr9.cell 1
  have z7 := hr7.lt
  have z9 := hr9.lt
  go_wp2_with fail
  clear c70 c71 c90 c91 z7 z9
  refine (gvalid_any _ _ _ _ _ hp1 hr1).mono ?_
  rintro e x6 ⟨rfl, hb⟩
  replace hp1 := hp1.below hb
  replace hr1 := hr1.below hb
  replace hr7 := hr7.keep hb
  replace hp2 := hp2.below hb
  replace hr2 := hr2.below hb
  replace hr9 := hr9.keep hb
  replace BB : Below w.heap.size w x6 := BB.trans (hb.mono BB.size)
  clear hb
  rw [HG1.out]
  have c70 : x6.cell? ⟨g7, 0, none⟩ = some (.slice (some ⟨pb, po, none⟩) (ptsL lo step n).length pc) := hr7.cell 0
  have c71 : x6.cell? ⟨g7, 1, none⟩ = some (.slice RA (onesL n).length rc) := hr7.cell 1
  have c90 : x6.cell? ⟨g9, 0, none⟩ = some (.slice QA (ptsL lo step n).length qc) := hr9.cell 0
  have c91 : x6.cell? ⟨g9, 1, none⟩ = some (.slice SA (triL n).length sc) := hr9.cell 1
  have z7 := hr7.lt
  have z9 := hr9.lt
  go_wp2_with fail
  clear c70 c71 c90 c91 z7 z9
  refine (gvalid_any _ _ _ _ _ hp2 hr2).mono ?_
  rintro e x7 ⟨rfl, hb⟩
  replace hp1 := hp1.below hb
  replace hr1 := hr1.below hb
  replace hr7 := hr7.keep hb
  replace hp2 := hp2.below hb
  replace hr2 := hr2.below hb
  replace hr9 := hr9.keep hb
  replace BB : Below w.heap.size w x7 := BB.trans (hb.mono BB.size)
  clear hb
  rw [HG2.out]
  have v0 := HV0.out
  have v1 := HV1.out
  have wn1 : IntKind.i64.wrap ((n : Int) - 1) = (n : Int) - 1 := by rw [IntKind.wrap_i64]; omega
  have wn2 : 0 ≤ (n : Int) - 1 := by omega
  have wn3 : ((n : Int) - 1).toNat = n - 1 := by omega
  have wn4 : (n : Int) - 1 < ((ptsL lo step n).length : Int) := by rw [ptsL_len]; omega
  have wn5 : (0 : Int) < ((ptsL lo step n).length : Int) := by rw [ptsL_len]; omega
  have wn6 : 0 < (ptsL lo step n).length := by rw [ptsL_len]; omega
  have ws := HWS.out
  have c70 : x7.cell? ⟨g7, 0, none⟩ = some (.slice (some ⟨pb, po, none⟩) (ptsL lo step n).length pc) := hr7.cell 0
  have c71 : x7.cell? ⟨g7, 1, none⟩ = some (.slice RA (onesL n).length rc) := hr7.cell 1
  have c90 : x7.cell? ⟨g9, 0, none⟩ = some (.slice QA (ptsL lo step n).length qc) := hr9.cell 0
  have c91 : x7.cell? ⟨g9, 1, none⟩ = some (.slice SA (triL n).length sc) := hr9.cell 1
  have z7 := hr7.lt
  have z9 := hr9.lt
  go_wp2_with fail
  have qs0 : x7.cell? ⟨g7, 0, none⟩ = some (.slice (some ⟨pb, po, none⟩) (ptsL lo step n).length pc) := hr7.cell 0
  have qs1 : x7.cell? ⟨g7, 1, none⟩ = some (.slice RA (onesL n).length rc) := hr7.cell 1
  have zs0 := hr7.lt
  have qs2 : x7.cell? ⟨pb, po, none⟩ = some (.int .i64 lo) := by have := (nums_cell hp1 (i := 0) (by rw [ptsL_len]; omega)).2; rw [HV0.out] at this; exact this
  have zs1 := (nums_cell hp1 (i := 0) (by rw [ptsL_len]; omega)).1
  have qs3 : x7.cell? ⟨pb, po + (n - 1), none⟩ = some (.int .i64 (lo + ((n : Int) - 1) * step)) := by have := (nums_cell hp1 (i := n - 1) (by rw [ptsL_len]; omega)).2; rw [HV1.out] at this; exact this
  have zs2 := (nums_cell hp1 (i := 0) (by rw [ptsL_len]; omega)).1
  go_cut [11] (fun s0 wx => ∃ (g : Nat) (A11 : Option Addr) (k11 c11 : Nat) (D11 : Option Addr) (l11 b11 : Nat), s0 = .pointer (some ⟨g, 0, none⟩) ∧ x7.heap.size ≤ g ∧ Row wx g 42 [.bool (decide (redP (lo + (lo + ((n : Int) - 1) * step)) 2 < 0)), .slice A11 k11 c11, .slice D11 l11 b11] ∧ RatF x7.heap.size wx (.agg #[.bool (decide (redP (lo + (lo + ((n : Int) - 1) * step)) 2 < 0)), .slice A11 k11 c11, .slice D11 l11 b11]) (redP (lo + (lo + ((n : Int) - 1) * step)) 2) (redQ (lo + (lo + ((n : Int) - 1) * step)) 2) 2 ∧ Below x7.heap.size x7 wx)
  case first =>
    go_region_held3 (fun w' => w'.cell? ⟨g7, 0, none⟩ = some (.slice (some ⟨pb, po, none⟩) (ptsL lo step n).length pc) ∧ w'.cell? ⟨g7, 1, none⟩ = some (.slice RA (onesL n).length rc) ∧ w'.cell? ⟨pb, po, none⟩ = some (.int .i64 lo) ∧ w'.cell? ⟨pb, po + (n - 1), none⟩ = some (.int .i64 (lo + ((n : Int) - 1) * step)))
      ((refine keep4c zs0 zs0 zs1 zs2 qs0 qs1 qs2 qs3 ?_; (repeat (first | with_reducible exact Below.refl _ _ | ((with_reducible refine bl_set ?_ ?_ _); rotate_left; (first | exact Nat.le_refl _ | exact gz5)) | with_reducible refine bl_call h5 ?_ | with_reducible refine bl_alloc ?_ _ | with_reducible refine bl_drew ?_)); done))
      (first
        | (go_at_call 26; ((with_reducible refine (qof_any (lo + (lo + ((n : Int) - 1) * step)) 2 _ HB1.out HB2.out (by decide) (by decide)).mono ?_);  rintro e w5 ⟨v5, rfl, hR5, h5⟩; have gz5 : x7.heap.size ≤ w5.heap.size := (bl_call h5 (by (repeat (first | with_reducible exact Below.refl _ _ | ((with_reducible refine bl_set ?_ ?_ _); rotate_left; (first | exact Nat.le_refl _ | exact gz5)) | with_reducible refine bl_call h5 ?_ | with_reducible refine bl_alloc ?_ _ | with_reducible refine bl_drew ?_))) : Below x7.heap.size x7 w5).size; (first | (have zg := RR.lt; replace RR := RR.keep h5) | (have R0 := Row.drew (Row.new x7 42 [.bool false, .slice none 0 0, .slice none 0 0]); have zg := R0.lt; have RR := R0.keep h5) | (have R0 := Row.new x7.drew 42 [.bool false, .slice none 0 0, .slice none 0 0]; have zg := R0.lt; have RR := R0.keep h5) | (have R0 := Row.new x7 42 [.bool false, .slice none 0 0, .slice none 0 0]; have zg := R0.lt; have RR := R0.keep h5) | skip); have hR5' := hR5; obtain ⟨m5, d5, e5, hm5, hd5, _, _⟩ := hR5'; subst e5; obtain ⟨A11, k11, c11, rfl⟩ := lim_show hm5.lim1.choose_spec.1; obtain ⟨D11, l11, b11, rfl⟩ := lim_show hd5.lim1.choose_spec.1; clear hm5 hd5; (try (have e0 := RR.cell 0; have e1 := RR.cell 1; have e2 := RR.cell 2; simp only [List.getElem?_cons_zero, List.getElem?_cons_succ] at e0 e1 e2; have f0 := RR.frozen 0; have f1 := RR.frozen 1; have f2 := RR.frozen 2)))))
    all_goals go_wp2_with fail
    all_goals go_meet
    all_goals go_light
    all_goals
      refine ⟨_, A11, k11, c11, D11, l11, b11, rfl, ?_, ?_, ?_, ?_⟩
      · (first | exact Nat.le_refl _ | exact gz5)
      · (first | exact Row.new _ _ _ | exact (((RR.set_ 0 _).set_ 1 _).set_ 2 _))
      · (first | exact (hR5.below (lit_below _ _)).base (bl_sz (by (repeat (first | with_reducible exact Below.refl _ _ | ((with_reducible refine bl_set ?_ ?_ _); rotate_left; (first | exact Nat.le_refl _ | exact gz5)) | with_reducible refine bl_call h5 ?_ | with_reducible refine bl_alloc ?_ _ | with_reducible refine bl_drew ?_)))) | exact ((((hR5.set_ zg _).set_ zg _).set_ zg _)).base (bl_sz (by (repeat (first | with_reducible exact Below.refl _ _ | ((with_reducible refine bl_set ?_ ?_ _); rotate_left; (first | exact Nat.le_refl _ | exact gz5)) | with_reducible refine bl_call h5 ?_ | with_reducible refine bl_alloc ?_ _ | with_reducible refine bl_drew ?_)))))
      · (repeat (first | with_reducible exact Below.refl _ _ | ((with_reducible refine bl_set ?_ ?_ _); rotate_left; (first | exact Nat.le_refl _ | exact gz5)) | with_reducible refine bl_call h5 ?_ | with_reducible refine bl_alloc ?_ _ | with_reducible refine bl_drew ?_))
  case rest =>
  obtain ⟨g11, A11, k11, c11, D11, l11, b11, rfl, hg11, hr11, hv11, hbc⟩ := hcut
  clear qs0 qs1 qs2 qs3 zs0 zs1 zs2 c70 c71 c90 c91 z7 z9
  obtain ⟨x8, hx8⟩ : ∃ x, x = wc := ⟨_, rfl⟩
  rw [← hx8] at hr11 hv11 hbc ⊢
  clear hx8
  have o7_11 : g7 < g11 := by have := hr7.lt; omega
  have o9_11 : g9 < g11 := by have := hr9.lt; omega
  have ob_11 : w.heap.size ≤ g11 := by have := BB.size; omega
  replace hp1 := hp1.below hbc
  replace hr1 := hr1.below hbc
  replace hr7 := hr7.keep hbc
  replace hp2 := hp2.below hbc
  replace hr2 := hr2.below hbc
  replace hr9 := hr9.keep hbc
  replace BB : Below w.heap.size w x8 := BB.trans (hbc.mono BB.size)
  clear hbc
  skip
  have c70 : x8.cell? ⟨g7, 0, none⟩ = some (.slice (some ⟨pb, po, none⟩) (ptsL lo step n).length pc) := hr7.cell 0
  have c71 : x8.cell? ⟨g7, 1, none⟩ = some (.slice RA (onesL n).length rc) := hr7.cell 1
  have c90 : x8.cell? ⟨g9, 0, none⟩ = some (.slice QA (ptsL lo step n).length qc) := hr9.cell 0
  have c91 : x8.cell? ⟨g9, 1, none⟩ = some (.slice SA (triL n).length sc) := hr9.cell 1
  have c110 : x8.cell? ⟨g11, 0, none⟩ = some (.bool (decide (redP (lo + (lo + ((n : Int) - 1) * step)) 2 < 0))) := hr11.cell 0
  have c111 : x8.cell? ⟨g11, 1, none⟩ = some (.slice A11 k11 c11) := hr11.cell 1
  have c112 : x8.cell? ⟨g11, 2, none⟩ = some (.slice D11 l11 b11) := hr11.cell 2
  have z7 := hr7.lt
  have z9 := hr9.lt
  have z11 := hr11.lt
  go_wp2_with fail
  clear c70 c71 c90 c91 c110 c111 c112 z7 z9 z11
  refine (prior_yes _ _ _ _ _ hp1 hr1 HG1.out).mono ?_
  rintro e x9 ⟨wv1, rfl, hw1, _, hb⟩
  replace hp1 := hp1.below hb
  replace hr1 := hr1.below hb
  replace hr7 := hr7.keep hb
  replace hp2 := hp2.below hb
  replace hr2 := hr2.below hb
  replace hr9 := hr9.keep hb
  replace hr11 := hr11.keep hb
  replace hv11 := hv11.below hb
  replace BB : Below w.heap.size w x9 := BB.trans (hb.mono BB.size)
  clear hb
  obtain ⟨WA1, wc1, _, rfl, _⟩ := id hw1
  have c70 : x9.cell? ⟨g7, 0, none⟩ = some (.slice (some ⟨pb, po, none⟩) (ptsL lo step n).length pc) := hr7.cell 0
  have c71 : x9.cell? ⟨g7, 1, none⟩ = some (.slice RA (onesL n).length rc) := hr7.cell 1
  have c90 : x9.cell? ⟨g9, 0, none⟩ = some (.slice QA (ptsL lo step n).length qc) := hr9.cell 0
  have c91 : x9.cell? ⟨g9, 1, none⟩ = some (.slice SA (triL n).length sc) := hr9.cell 1
  have c110 : x9.cell? ⟨g11, 0, none⟩ = some (.bool (decide (redP (lo + (lo + ((n : Int) - 1) * step)) 2 < 0))) := hr11.cell 0
  have c111 : x9.cell? ⟨g11, 1, none⟩ = some (.slice A11 k11 c11) := hr11.cell 1
  have c112 : x9.cell? ⟨g11, 2, none⟩ = some (.slice D11 l11 b11) := hr11.cell 2
  have z7 := hr7.lt
  have z9 := hr9.lt
  have z11 := hr11.lt
  go_wp2_with fail
  clear c70 c71 c90 c91 c110 c111 c112 z7 z9 z11
  refine (prior_yes _ _ _ _ _ hp2 hr2 HG2.out).mono ?_
  rintro e x10 ⟨wv2, rfl, hw2, _, hb⟩
  replace hp1 := hp1.below hb
  replace hr1 := hr1.below hb
  replace hr7 := hr7.keep hb
  replace hp2 := hp2.below hb
  replace hr2 := hr2.below hb
  replace hr9 := hr9.keep hb
  replace hr11 := hr11.keep hb
  replace hv11 := hv11.below hb
  replace hw1 := hw1.below hb
  replace BB : Below w.heap.size w x10 := BB.trans (hb.mono BB.size)
  clear hb
  obtain ⟨WA2, wc2, _, rfl, _⟩ := id hw2
  have c70 : x10.cell? ⟨g7, 0, none⟩ = some (.slice (some ⟨pb, po, none⟩) (ptsL lo step n).length pc) := hr7.cell 0
  have c71 : x10.cell? ⟨g7, 1, none⟩ = some (.slice RA (onesL n).length rc) := hr7.cell 1
  have c90 : x10.cell? ⟨g9, 0, none⟩ = some (.slice QA (ptsL lo step n).length qc) := hr9.cell 0
  have c91 : x10.cell? ⟨g9, 1, none⟩ = some (.slice SA (triL n).length sc) := hr9.cell 1
  have c110 : x10.cell? ⟨g11, 0, none⟩ = some (.bool (decide (redP (lo + (lo + ((n : Int) - 1) * step)) 2 < 0))) := hr11.cell 0
  have c111 : x10.cell? ⟨g11, 1, none⟩ = some (.slice A11 k11 c11) := hr11.cell 1
  have c112 : x10.cell? ⟨g11, 2, none⟩ = some (.slice D11 l11 b11) := hr11.cell 2
  have z7 := hr7.lt
  have z9 := hr9.lt
  have z11 := hr11.lt
  go_wp2_with fail
  clear c70 c71 c90 c91 c110 c111 c112 z7 z9 z11
  refine (gmean_ok _ _ _ _ _ (natsOf (onesL n)) 2 _ hp1 hr1 hw1.wts (by omega) HS1.out).mono ?_
  rintro e x11 ⟨vm1, rfl, hv15, hb⟩
  replace hp1 := hp1.below hb
  replace hr1 := hr1.below hb
  replace hr7 := hr7.keep hb
  replace hp2 := hp2.below hb
  replace hr2 := hr2.below hb
  replace hr9 := hr9.keep hb
  replace hr11 := hr11.keep hb
  replace hv11 := hv11.below hb
  replace hw1 := hw1.below hb
  replace hw2 := hw2.below hb
  replace BB : Below w.heap.size w x11 := BB.trans (hb.mono BB.size)
  clear hb
  rw [HM1.out.1, HM1.out.2] at hv15
  have h15' := hv15
  obtain ⟨m15, d15, e15, hm15, hd15, _, _⟩ := h15'
  subst e15
  obtain ⟨A15, k15, c15, rfl⟩ := lim_show hm15.lim1.choose_spec.1
  obtain ⟨D15, l15, b15, rfl⟩ := lim_show hd15.lim1.choose_spec.1
  clear hm15 hd15
  obtain ⟨g15, hg15⟩ : ∃ g, x11.heap.size = g := ⟨_, rfl⟩
  have hr15 : Row (x11.alloc (.cells #[.bool (decide (redP (lo + (lo + ((n : Int) - 1) * step)) 2 < 0)), .slice A15 k15 c15, .slice D15 l15 b15] 42)) g15 42 [.bool (decide (redP (lo + (lo + ((n : Int) - 1) * step)) 2 < 0)), .slice A15 k15 c15, .slice D15 l15 b15] := row_at hg15
  have hl := lit_below x11 (.cells #[.bool (decide (redP (lo + (lo + ((n : Int) - 1) * step)) 2 < 0)), .slice A15 k15 c15, .slice D15 l15 b15] 42)
  have o7_15 : g7 < g15 := by have := hr7.lt; omega
  have o9_15 : g9 < g15 := by have := hr9.lt; omega
  have o11_15 : g11 < g15 := by have := hr11.lt; omega
  have ob_15 : w.heap.size ≤ g15 := by have := BB.size; omega
  have c70 : x11.cell? ⟨g7, 0, none⟩ = some (.slice (some ⟨pb, po, none⟩) (ptsL lo step n).length pc) := hr7.cell 0
  have c71 : x11.cell? ⟨g7, 1, none⟩ = some (.slice RA (onesL n).length rc) := hr7.cell 1
  have c90 : x11.cell? ⟨g9, 0, none⟩ = some (.slice QA (ptsL lo step n).length qc) := hr9.cell 0
  have c91 : x11.cell? ⟨g9, 1, none⟩ = some (.slice SA (triL n).length sc) := hr9.cell 1
  have c110 : x11.cell? ⟨g11, 0, none⟩ = some (.bool (decide (redP (lo + (lo + ((n : Int) - 1) * step)) 2 < 0))) := hr11.cell 0
  have c111 : x11.cell? ⟨g11, 1, none⟩ = some (.slice A11 k11 c11) := hr11.cell 1
  have c112 : x11.cell? ⟨g11, 2, none⟩ = some (.slice D11 l11 b11) := hr11.cell 2
  have d70 : (x11.alloc (.cells #[.bool (decide (redP (lo + (lo + ((n : Int) - 1) * step)) 2 < 0)), .slice A15 k15 c15, .slice D15 l15 b15] 42)).cell? ⟨g7, 0, none⟩ = some (.slice (some ⟨pb, po, none⟩) (ptsL lo step n).length pc) := (hr7.alloc _).cell 0
  have d71 : (x11.alloc (.cells #[.bool (decide (redP (lo + (lo + ((n : Int) - 1) * step)) 2 < 0)), .slice A15 k15 c15, .slice D15 l15 b15] 42)).cell? ⟨g7, 1, none⟩ = some (.slice RA (onesL n).length rc) := (hr7.alloc _).cell 1
  have d90 : (x11.alloc (.cells #[.bool (decide (redP (lo + (lo + ((n : Int) - 1) * step)) 2 < 0)), .slice A15 k15 c15, .slice D15 l15 b15] 42)).cell? ⟨g9, 0, none⟩ = some (.slice QA (ptsL lo step n).length qc) := (hr9.alloc _).cell 0
  have d91 : (x11.alloc (.cells #[.bool (decide (redP (lo + (lo + ((n : Int) - 1) * step)) 2 < 0)), .slice A15 k15 c15, .slice D15 l15 b15] 42)).cell? ⟨g9, 1, none⟩ = some (.slice SA (triL n).length sc) := (hr9.alloc _).cell 1
  have d110 : (x11.alloc (.cells #[.bool (decide (redP (lo + (lo + ((n : Int) - 1) * step)) 2 < 0)), .slice A15 k15 c15, .slice D15 l15 b15] 42)).cell? ⟨g11, 0, none⟩ = some (.bool (decide (redP (lo + (lo + ((n : Int) - 1) * step)) 2 < 0))) := (hr11.alloc _).cell 0
  have d111 : (x11.alloc (.cells #[.bool (decide (redP (lo + (lo + ((n : Int) - 1) * step)) 2 < 0)), .slice A15 k15 c15, .slice D15 l15 b15] 42)).cell? ⟨g11, 1, none⟩ = some (.slice A11 k11 c11) := (hr11.alloc _).cell 1
  have d112 : (x11.alloc (.cells #[.bool (decide (redP (lo + (lo + ((n : Int) - 1) * step)) 2 < 0)), .slice A15 k15 c15, .slice D15 l15 b15] 42)).cell? ⟨g11, 2, none⟩ = some (.slice D11 l11 b11) := (hr11.alloc _).cell 2
  have e0 : (x11.alloc (.cells #[.bool (decide (redP (lo + (lo + ((n : Int) - 1) * step)) 2 < 0)), .slice A15 k15 c15, .slice D15 l15 b15] 42)).cell? ⟨g15, 0, none⟩ = some (.bool (decide (redP (lo + (lo + ((n : Int) - 1) * step)) 2 < 0))) := hr15.cell 0
  have e1 : (x11.alloc (.cells #[.bool (decide (redP (lo + (lo + ((n : Int) - 1) * step)) 2 < 0)), .slice A15 k15 c15, .slice D15 l15 b15] 42)).cell? ⟨g15, 1, none⟩ = some (.slice A15 k15 c15) := hr15.cell 1
  have e2 : (x11.alloc (.cells #[.bool (decide (redP (lo + (lo + ((n : Int) - 1) * step)) 2 < 0)), .slice A15 k15 c15, .slice D15 l15 b15] 42)).cell? ⟨g15, 2, none⟩ = some (.slice D15 l15 b15) := hr15.cell 2
  go_wp2_with fail
  clear c70 c71 c90 c91 c110 c111 c112 d70 d71 d90 d91 d110 d111 d112 e0 e1 e2
  clear hg15
  generalize (x11.alloc (.cells #[.bool (decide (redP (lo + (lo + ((n : Int) - 1) * step)) 2 < 0)), .slice A15 k15 c15, .slice D15 l15 b15] 42)) = x12 at *
  replace hp1 := hp1.below hl
  replace hr1 := hr1.below hl
  replace hr7 := hr7.keep hl
  replace hp2 := hp2.below hl
  replace hr2 := hr2.below hl
  replace hr9 := hr9.keep hl
  replace hr11 := hr11.keep hl
  replace hv11 := hv11.below hl
  replace hw1 := hw1.below hl
  replace hw2 := hw2.below hl
  replace hv15 := hv15.below hl
  replace BB : Below w.heap.size w x12 := BB.trans (hl.mono BB.size)
  clear hl
  refine (gmean_ok _ _ _ _ _ (natsOf (triL n)) 2 _ hp2 hr2 hw2.wts (by omega) HS2.out).mono ?_
  rintro e x13 ⟨vm2, rfl, hv16, hb⟩
  replace hp1 := hp1.below hb
  replace hr1 := hr1.below hb
  replace hr7 := hr7.keep hb
  replace hp2 := hp2.below hb
  replace hr2 := hr2.below hb
  replace hr9 := hr9.keep hb
  replace hr11 := hr11.keep hb
  replace hv11 := hv11.below hb
  replace hw1 := hw1.below hb
  replace hw2 := hw2.below hb
  replace hv15 := hv15.below hb
  replace hr15 := hr15.keep hb
  replace BB : Below w.heap.size w x13 := BB.trans (hb.mono BB.size)
  clear hb
  rw [HM2.out.1, HM2.out.2] at hv16
  have h16' := hv16
  obtain ⟨m16, d16, e16, hm16, hd16, _, _⟩ := h16'
  subst e16
  obtain ⟨A16, k16, c16, rfl⟩ := lim_show hm16.lim1.choose_spec.1
  obtain ⟨D16, l16, b16, rfl⟩ := lim_show hd16.lim1.choose_spec.1
  clear hm16 hd16
  obtain ⟨g16, hg16⟩ : ∃ g, x13.heap.size = g := ⟨_, rfl⟩
  have hr16 : Row (x13.alloc (.cells #[.bool (decide (redP (lo + (lo + ((n : Int) - 1) * step)) 2 < 0)), .slice A16 k16 c16, .slice D16 l16 b16] 42)) g16 42 [.bool (decide (redP (lo + (lo + ((n : Int) - 1) * step)) 2 < 0)), .slice A16 k16 c16, .slice D16 l16 b16] := row_at hg16
  have hl := lit_below x13 (.cells #[.bool (decide (redP (lo + (lo + ((n : Int) - 1) * step)) 2 < 0)), .slice A16 k16 c16, .slice D16 l16 b16] 42)
  have o7_16 : g7 < g16 := by have := hr7.lt; omega
  have o9_16 : g9 < g16 := by have := hr9.lt; omega
  have o11_16 : g11 < g16 := by have := hr11.lt; omega
  have o15_16 : g15 < g16 := by have := hr15.lt; omega
  have ob_16 : w.heap.size ≤ g16 := by have := BB.size; omega
  have c70 : x13.cell? ⟨g7, 0, none⟩ = some (.slice (some ⟨pb, po, none⟩) (ptsL lo step n).length pc) := hr7.cell 0
  have c71 : x13.cell? ⟨g7, 1, none⟩ = some (.slice RA (onesL n).length rc) := hr7.cell 1
  have c90 : x13.cell? ⟨g9, 0, none⟩ = some (.slice QA (ptsL lo step n).length qc) := hr9.cell 0
  have c91 : x13.cell? ⟨g9, 1, none⟩ = some (.slice SA (triL n).length sc) := hr9.cell 1
  have c110 : x13.cell? ⟨g11, 0, none⟩ = some (.bool (decide (redP (lo + (lo + ((n : Int) - 1) * step)) 2 < 0))) := hr11.cell 0
  have c111 : x13.cell? ⟨g11, 1, none⟩ = some (.slice A11 k11 c11) := hr11.cell 1
  have c112 : x13.cell? ⟨g11, 2, none⟩ = some (.slice D11 l11 b11) := hr11.cell 2
  have c150 : x13.cell? ⟨g15, 0, none⟩ = some (.bool (decide (redP (lo + (lo + ((n : Int) - 1) * step)) 2 < 0))) := hr15.cell 0
  have c151 : x13.cell? ⟨g15, 1, none⟩ = some (.slice A15 k15 c15) := hr15.cell 1
  have c152 : x13.cell? ⟨g15, 2, none⟩ = some (.slice D15 l15 b15) := hr15.cell 2
  have d70 : (x13.alloc (.cells #[.bool (decide (redP (lo + (lo + ((n : Int) - 1) * step)) 2 < 0)), .slice A16 k16 c16, .slice D16 l16 b16] 42)).cell? ⟨g7, 0, none⟩ = some (.slice (some ⟨pb, po, none⟩) (ptsL lo step n).length pc) := (hr7.alloc _).cell 0
  have d71 : (x13.alloc (.cells #[.bool (decide (redP (lo + (lo + ((n : Int) - 1) * step)) 2 < 0)), .slice A16 k16 c16, .slice D16 l16 b16] 42)).cell? ⟨g7, 1, none⟩ = some (.slice RA (onesL n).length rc) := (hr7.alloc _).cell 1
  have d90 : (x13.alloc (.cells #[.bool (decide (redP (lo + (lo + ((n : Int) - 1) * step)) 2 < 0)), .slice A16 k16 c16, .slice D16 l16 b16] 42)).cell? ⟨g9, 0, none⟩ = some (.slice QA (ptsL lo step n).length qc) := (hr9.alloc _).cell 0
  have d91 : (x13.alloc (.cells #[.bool (decide (redP (lo + (lo + ((n : Int) - 1) * step)) 2 < 0)), .slice A16 k16 c16, .slice D16 l16 b16] 42)).cell? ⟨g9, 1, none⟩ = some (.slice SA (triL n).length sc) := (hr9.alloc _).cell 1
  have d110 : (x13.alloc (.cells #[.bool (decide (redP (lo + (lo + ((n : Int) - 1) * step)) 2 < 0)), .slice A16 k16 c16, .slice D16 l16 b16] 42)).cell? ⟨g11, 0, none⟩ = some (.bool (decide (redP (lo + (lo + ((n : Int) - 1) * step)) 2 < 0))) := (hr11.alloc _).cell 0
  have d111 : (x13.alloc (.cells #[.bool (decide (redP (lo + (lo + ((n : Int) - 1) * step)) 2 < 0)), .slice A16 k16 c16, .slice D16 l16 b16] 42)).cell? ⟨g11, 1, none⟩ = some (.slice A11 k11 c11) := (hr11.alloc _).cell 1
  have d112 : (x13.alloc (.cells #[.bool (decide (redP (lo + (lo + ((n : Int) - 1) * step)) 2 < 0)), .slice A16 k16 c16, .slice D16 l16 b16] 42)).cell? ⟨g11, 2, none⟩ = some (.slice D11 l11 b11) := (hr11.alloc _).cell 2
  have d150 : (x13.alloc (.cells #[.bool (decide (redP (lo + (lo + ((n : Int) - 1) * step)) 2 < 0)), .slice A16 k16 c16, .slice D16 l16 b16] 42)).cell? ⟨g15, 0, none⟩ = some (.bool (decide (redP (lo + (lo + ((n : Int) - 1) * step)) 2 < 0))) := (hr15.alloc _).cell 0
  have d151 : (x13.alloc (.cells #[.bool (decide (redP (lo + (lo + ((n : Int) - 1) * step)) 2 < 0)), .slice A16 k16 c16, .slice D16 l16 b16] 42)).cell? ⟨g15, 1, none⟩ = some (.slice A15 k15 c15) := (hr15.alloc _).cell 1
  have d152 : (x13.alloc (.cells #[.bool (decide (redP (lo + (lo + ((n : Int) - 1) * step)) 2 < 0)), .slice A16 k16 c16, .slice D16 l16 b16] 42)).cell? ⟨g15, 2, none⟩ = some (.slice D15 l15 b15) := (hr15.alloc _).cell 2
  have e0 : (x13.alloc (.cells #[.bool (decide (redP (lo + (lo + ((n : Int) - 1) * step)) 2 < 0)), .slice A16 k16 c16, .slice D16 l16 b16] 42)).cell? ⟨g16, 0, none⟩ = some (.bool (decide (redP (lo + (lo + ((n : Int) - 1) * step)) 2 < 0))) := hr16.cell 0
  have e1 : (x13.alloc (.cells #[.bool (decide (redP (lo + (lo + ((n : Int) - 1) * step)) 2 < 0)), .slice A16 k16 c16, .slice D16 l16 b16] 42)).cell? ⟨g16, 1, none⟩ = some (.slice A16 k16 c16) := hr16.cell 1
  have e2 : (x13.alloc (.cells #[.bool (decide (redP (lo + (lo + ((n : Int) - 1) * step)) 2 < 0)), .slice A16 k16 c16, .slice D16 l16 b16] 42)).cell? ⟨g16, 2, none⟩ = some (.slice D16 l16 b16) := hr16.cell 2
  go_wp2_with fail
  clear c70 c71 c90 c91 c110 c111 c112 c150 c151 c152 d70 d71 d90 d91 d110 d111 d112 d150 d151 d152 e0 e1 e2
  clear hg16
  generalize (x13.alloc (.cells #[.bool (decide (redP (lo + (lo + ((n : Int) - 1) * step)) 2 < 0)), .slice A16 k16 c16, .slice D16 l16 b16] 42)) = x14 at *
  replace hp1 := hp1.below hl
  replace hr1 := hr1.below hl
  replace hr7 := hr7.keep hl
  replace hp2 := hp2.below hl
  replace hr2 := hr2.below hl
  replace hr9 := hr9.keep hl
  replace hr11 := hr11.keep hl
  replace hv11 := hv11.below hl
  replace hw1 := hw1.below hl
  replace hw2 := hw2.below hl
  replace hv15 := hv15.below hl
  replace hr15 := hr15.keep hl
  replace hv16 := hv16.below hl
  replace BB : Below w.heap.size w x14 := BB.trans (hl.mono BB.size)
  clear hl
  refine (qsame_yes _ _ _ _ _ _ _ _ _ hv15 hv11).mono ?_
  rintro e x15 ⟨rfl, hb⟩
  replace hp1 := hp1.below hb
  replace hr1 := hr1.below hb
  replace hr7 := hr7.keep hb
  replace hp2 := hp2.below hb
  replace hr2 := hr2.below hb
  replace hr9 := hr9.keep hb
  replace hr11 := hr11.keep hb
  replace hv11 := hv11.below hb
  replace hw1 := hw1.below hb
  replace hw2 := hw2.below hb
  replace hv15 := hv15.below hb
  replace hr15 := hr15.keep hb
  replace hv16 := hv16.below hb
  replace hr16 := hr16.keep hb
  replace BB : Below w.heap.size w x15 := BB.trans (hb.mono BB.size)
  clear hb
  have c70 : x15.cell? ⟨g7, 0, none⟩ = some (.slice (some ⟨pb, po, none⟩) (ptsL lo step n).length pc) := hr7.cell 0
  have c71 : x15.cell? ⟨g7, 1, none⟩ = some (.slice RA (onesL n).length rc) := hr7.cell 1
  have c90 : x15.cell? ⟨g9, 0, none⟩ = some (.slice QA (ptsL lo step n).length qc) := hr9.cell 0
  have c91 : x15.cell? ⟨g9, 1, none⟩ = some (.slice SA (triL n).length sc) := hr9.cell 1
  have c110 : x15.cell? ⟨g11, 0, none⟩ = some (.bool (decide (redP (lo + (lo + ((n : Int) - 1) * step)) 2 < 0))) := hr11.cell 0
  have c111 : x15.cell? ⟨g11, 1, none⟩ = some (.slice A11 k11 c11) := hr11.cell 1
  have c112 : x15.cell? ⟨g11, 2, none⟩ = some (.slice D11 l11 b11) := hr11.cell 2
  have c150 : x15.cell? ⟨g15, 0, none⟩ = some (.bool (decide (redP (lo + (lo + ((n : Int) - 1) * step)) 2 < 0))) := hr15.cell 0
  have c151 : x15.cell? ⟨g15, 1, none⟩ = some (.slice A15 k15 c15) := hr15.cell 1
  have c152 : x15.cell? ⟨g15, 2, none⟩ = some (.slice D15 l15 b15) := hr15.cell 2
  have c160 : x15.cell? ⟨g16, 0, none⟩ = some (.bool (decide (redP (lo + (lo + ((n : Int) - 1) * step)) 2 < 0))) := hr16.cell 0
  have c161 : x15.cell? ⟨g16, 1, none⟩ = some (.slice A16 k16 c16) := hr16.cell 1
  have c162 : x15.cell? ⟨g16, 2, none⟩ = some (.slice D16 l16 b16) := hr16.cell 2
  have z7 := hr7.lt
  have z9 := hr9.lt
  have z11 := hr11.lt
  have z15 := hr15.lt
  have z16 := hr16.lt
  go_wp2_with fail
  clear c70 c71 c90 c91 c110 c111 c112 c150 c151 c152 c160 c161 c162 z7 z9 z11 z15 z16
  refine (qsame_yes _ _ _ _ _ _ _ _ _ hv16 hv11).mono ?_
  rintro e x16 ⟨rfl, hb⟩
  replace hp1 := hp1.below hb
  replace hr1 := hr1.below hb
  replace hr7 := hr7.keep hb
  replace hp2 := hp2.below hb
  replace hr2 := hr2.below hb
  replace hr9 := hr9.keep hb
  replace hr11 := hr11.keep hb
  replace hv11 := hv11.below hb
  replace hw1 := hw1.below hb
  replace hw2 := hw2.below hb
  replace hv15 := hv15.below hb
  replace hr15 := hr15.keep hb
  replace hv16 := hv16.below hb
  replace hr16 := hr16.keep hb
  replace BB : Below w.heap.size w x16 := BB.trans (hb.mono BB.size)
  clear hb
  have c70 : x16.cell? ⟨g7, 0, none⟩ = some (.slice (some ⟨pb, po, none⟩) (ptsL lo step n).length pc) := hr7.cell 0
  have c71 : x16.cell? ⟨g7, 1, none⟩ = some (.slice RA (onesL n).length rc) := hr7.cell 1
  have c90 : x16.cell? ⟨g9, 0, none⟩ = some (.slice QA (ptsL lo step n).length qc) := hr9.cell 0
  have c91 : x16.cell? ⟨g9, 1, none⟩ = some (.slice SA (triL n).length sc) := hr9.cell 1
  have c110 : x16.cell? ⟨g11, 0, none⟩ = some (.bool (decide (redP (lo + (lo + ((n : Int) - 1) * step)) 2 < 0))) := hr11.cell 0
  have c111 : x16.cell? ⟨g11, 1, none⟩ = some (.slice A11 k11 c11) := hr11.cell 1
  have c112 : x16.cell? ⟨g11, 2, none⟩ = some (.slice D11 l11 b11) := hr11.cell 2
  have c150 : x16.cell? ⟨g15, 0, none⟩ = some (.bool (decide (redP (lo + (lo + ((n : Int) - 1) * step)) 2 < 0))) := hr15.cell 0
  have c151 : x16.cell? ⟨g15, 1, none⟩ = some (.slice A15 k15 c15) := hr15.cell 1
  have c152 : x16.cell? ⟨g15, 2, none⟩ = some (.slice D15 l15 b15) := hr15.cell 2
  have c160 : x16.cell? ⟨g16, 0, none⟩ = some (.bool (decide (redP (lo + (lo + ((n : Int) - 1) * step)) 2 < 0))) := hr16.cell 0
  have c161 : x16.cell? ⟨g16, 1, none⟩ = some (.slice A16 k16 c16) := hr16.cell 1
  have c162 : x16.cell? ⟨g16, 2, none⟩ = some (.slice D16 l16 b16) := hr16.cell 2
  have z7 := hr7.lt
  have z9 := hr9.lt
  have z11 := hr11.lt
  have z15 := hr15.lt
  have z16 := hr16.lt
  go_wp2_with fail
  clear c70 c71 c90 c91 c110 c111 c112 c150 c151 c152 c160 c161 c162 z7 z9 z11 z15 z16
  go_ret
  exact ⟨rfl, BB⟩

theorem centers_all (lo step n : Int) (w : World) :
    Calls Try.prog 7 #[.int .i64 lo, .int .i64 step, .int .i64 n] w fun e w' => e = .returned (.bool true) ∧ Below w.heap.size w w' := by
  by_cases h : FitsI lo step n
  · obtain ⟨m, rfl⟩ := Int.eq_ofNat_of_zero_le (show 0 ≤ n by have := h.1; omega)
    exact centers_yes lo step m w (Fits.of h)
  · exact centers_no lo step n w h

namespace GridCenters
theorem own : ownKnob Try.prog.godebug = none := by kernel_rfl
theorem laidOut : laidOutB Try.prog = true := by kernel_rfl
theorem readable : ∀ t ∈ Try.f7.params.toList, Try.prog.readableRec t = true ∧ t < Try.prog.types.size := by
  intro t ht
  rw [Try.params7] at ht
  have ht' : t = 3 := by simp at ht; (try rcases ht with h | h | h); all_goals (subst_vars; simp)
  subst ht'
  exact ⟨by kernel_rfl, of_decide_eq_true (by kernel_rfl)⟩
theorem contract (H : Type) (enc : TypeId × Value → H) (W : World) (base : Nat) (args : Array Value) (ds gs : List (DataW H)) (before : List MemPlace)
    (hval : ∀ (j : Nat) t v, Try.f7.params[j]? = some t → args[j]? = some v → Value.okWide Try.prog W .any base t v)
    (hW : DataW.Whole enc Try.prog Try.f7.params.toList Rows.gridCentersSpec.vars false W args.toList ds gs before) :
    Calls Try.prog 7 args W fun e W' => ∃ v, e = .returned v ∧ Rows.gridCentersSpec.post enc Try.prog Try.f7 false true false false W args v W' := by
  have hW' := hW
  obtain ⟨p, q, hA0, hV, rfl, hfz, hnd⟩ := hW
  have hA : DataW.TrodAll enc Try.prog W 0 (fun _ => true) true Try.f7.params.toList args.toList ds p := hA0
  rw [Try.params7] at hA hval
  obtain ⟨v0, vs0, d0, ds0, p0, q0, hargs, rfl, rfl, h0, r0⟩ := trodAll_cons hA
  obtain ⟨v1, vs1, d1, ds1, p1, q1, rfl, rfl, rfl, h1, r1⟩ := trodAll_cons r0
  obtain ⟨v2, vs2, d2, ds2, p2, q2, rfl, rfl, rfl, h2, r2⟩ := trodAll_cons r1
  obtain ⟨rfl, rfl, rfl⟩ := trodAll_nil r2
  obtain rfl : args = #[v0, v1, v2] := by cases args; simp_all
  obtain ⟨rfl, rfl⟩ := trodVars_none hV
  obtain ⟨a0, rfl, rfl, rfl, w0⟩ := open_int Try.underlying3 (hval 0 3 v0 rfl rfl) h0
  obtain ⟨a1, rfl, rfl, rfl, w1⟩ := open_int Try.underlying3 (hval 1 3 v1 rfl rfl) h1
  obtain ⟨a2, rfl, rfl, rfl, w2⟩ := open_int Try.underlying3 (hval 2 3 v2 rfl rfl) h2
  refine (centers_all a0 a1 a2 W).mono fun e W' ⟨he, hb⟩ => ⟨_, he, ?_⟩
  exact law_post laidOut readable rfl rfl Try.underlying4 (ok_one (by kernel_rfl) rfl (okWide_bool_mk Try.underlying4 _)) ⟨rfl, rfl, rfl⟩ hW' hb
set_option maxRecDepth 100000 in
theorem lifted (os : Os) (started : os.Started) (H : Type) (enc : TypeId × Value → H) :
    ReturnsInHanded {} Try.checked os 7 .any (Rows.gridCentersSpec.pre6 enc Try.prog Try.f7 Rows.gridCentersRow.domain false) (Rows.gridCentersSpec.post enc Try.prog Try.f7 false true false false) := by
  refine returnsInHanded_of_change (C := Try.checked) own started (by kernel_rfl) Try.func7
    (ChangeSpec.witness6 (enc := enc) (C := Try.checked) false ⟨#[], #[.int .i64 0, .int .i64 0, .int .i64 0], []⟩ 8 (by kernel_rfl) (by kernel_rfl) (by kernel_rfl) (by kernel_rfl)) ?_
  intro W base args ds gs before hval hW _ _
  exact contract H enc W base args ds gs before hval hW
theorem proved : Rows.GridCentersSaid :=
  OpenClaim.holds_of_wide 7 Try.f7 rfl rfl rfl rfl rfl rfl rfl ⟨rfl, rfl, rfl, rfl, rfl⟩ rfl rfl rfl rfl rfl (by kernel_rfl) Try.func7 (by kernel_rfl)
    (of_decide_eq_true (by kernel_rfl)) (by unfold Func.isWrapper; first | (rw [if_pos (by decide +kernel)]; kernel_rfl) | (rw [if_neg (by decide +kernel)]; exact ⟨rfl, rfl⟩))
    (fun os started H enc _ => lifted os started H enc)
#print axioms proved
end GridCenters

end Go.Proofs.Ytdmjgildgjpmcaa
