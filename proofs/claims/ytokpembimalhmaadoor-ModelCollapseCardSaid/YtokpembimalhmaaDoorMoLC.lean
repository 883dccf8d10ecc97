/- The walk of ModelCollapse. -/
import Derived.Test.YtokpembimalhmaaDoorMoMg
namespace Go.Proofs.YtokpembimalhmaaDoor
open Go.RowKit
set_option linter.unusedVariables false

theorem keep4e {W w' : World} {p1 p2 p3 p4 : Addr} {x1 x2 x3 x4 : Value} (l1 : p1.block < W.heap.size) (l2 : p2.block < W.heap.size) (l3 : p3.block < W.heap.size) (l4 : p4.block < W.heap.size) (h1 : W.cell? p1 = some x1) (h2 : W.cell? p2 = some x2) (h3 : W.cell? p3 = some x3) (h4 : W.cell? p4 = some x4) (hb : Below W.heap.size W w') :
    w'.cell? p1 = some x1 ∧ w'.cell? p2 = some x2 ∧ w'.cell? p3 = some x3 ∧ w'.cell? p4 = some x4 := ⟨(hb.cell l1).trans h1, (hb.cell l2).trans h2, (hb.cell l3).trans h3, (hb.cell l4).trans h4⟩
theorem qcmp_same (v u : Value) (p : Int) (q L : Nat) (w : World) (ha : RatA w v p q L) (hb : RatA w u p q L) (hL : 2 ≤ L) (hM : L ≤ 40000000) :
    Calls Tryd.prog 25 #[v, u] w fun e w' => e = .returned (.int .i64 0) ∧ Below w.heap.size w w' :=
  (qcmp_any v u p p q q L w ha hb hL hM).mono fun e w' h => ⟨by rw [h.1]; unfold cmpZ; rw [if_neg (by omega), if_neg (by omega)], h.2⟩

set_option maxRecDepth 100000 in
set_option maxHeartbeats 8000000 in
theorem co_bad (rv tv sv : Value) (rows : List (List Int)) (tg : List Int) (q j : Nat) (sc : List Int) (w : World) (hm : IntsL w rv rows) (ht : Nums .i64 w tv tg) (hsc : Nums .i64 w sv sc) (hq8 : q ≤ 255) (hj8 : j ≤ 255) (h1 : colE (modE rows (rows.length : Int)) (catsOf rows) tg ≠ 0) :
    Calls Tryd.prog 8 #[.agg #[rv], tv, .int .u8 (q : Int), .int .u8 (j : Int), sv] w fun e w' => e = .returned (.bool true) ∧ Below w.heap.size w w' := by
  have hm0 := hm
  obtain ⟨A, c, _, rfl, hc, hmx, _, _⟩ := hm0
  have ht0 := ht
  obtain ⟨D, cD, rfl, hDc, hDm, hDs⟩ := ht0
  have hs0 := hsc
  obtain ⟨F, cF, rfl, hFc, hFm, hFs⟩ := hs0
  unfold maxLen at hmx hDm hFm
  obtain ⟨E, hE⟩ : ∃ E, colE (modE rows (rows.length : Int)) (catsOf rows) tg = E := ⟨_, rfl⟩
  rw [hE] at h1
  have HEE := Lib.hid hE
  have f : (E != 0) = true := by rw [bne_iff_ne]; exact h1
  clear hE
  go_enter Tryd.func8, Tryd.ntmps8
  go_wp2_with fail
  have hl : Below w.heap.size w (w.alloc (.cells #[.slice A rows.length c] 24)) := lit_below _ _
  have hr5 : Row (w.alloc (.cells #[.slice A rows.length c] 24)) (w.heap.size) 24 [.slice A rows.length c] := row_at (by simp)
  refine (mcol_any _ _ rows tg _ (hm.below hl) (ht.below hl)).mono ?_
  rintro e w1 ⟨vc, rfl, hC, hb⟩
  replace hr5 := hr5.keep hb
  replace hb : Below w.heap.size w w1 := hl.trans (hb.mono hl.size)
  clear hl
  replace hm := hm.below hb
  replace ht := ht.below hb
  replace hsc := hsc.below hb
  have BB : Below w.heap.size w w1 := hb
  clear hb
  obtain ⟨cA, cn, cc, rfl⟩ := ints_slice hC
  rw [HEE.out]
  clear hC
  have q00 : w1.cell? ⟨w.heap.size, 0, none⟩ = some (.slice A rows.length c) := hr5.cell 0
  have z0 := hr5.lt
  go_wp2_with fail
  clear q00 z0
  have hl : Below w1.heap.size w1 (w1.alloc (.cells #[.slice cA cn cc] 24)) := lit_below _ _
  have hr11 : Row (w1.alloc (.cells #[.slice cA cn cc] 24)) (w1.heap.size) 24 [.slice cA cn cc] := row_at (by simp)
  refine (awake_any _).mono ?_
  rintro e w2 ⟨rfl, hb⟩
  replace hr11 := hr11.keep hb
  replace hb : Below w1.heap.size w1 w2 := hl.trans (hb.mono hl.size)
  clear hl
  replace hm := hm.below hb
  replace ht := ht.below hb
  replace hsc := hsc.below hb
  replace hr5 := hr5.keep hb
  replace BB : Below w.heap.size w w2 := BB.trans (hb.mono BB.size)
  clear hb
  go_wp2_with fail
  go_ret
  exact ⟨rfl, BB⟩

set_option maxRecDepth 100000 in
set_option maxHeartbeats 8000000 in
theorem co_out (rv tv sv : Value) (rows : List (List Int)) (tg : List Int) (q j : Nat) (sc : List Int) (w : World) (hm : IntsL w rv rows) (ht : Nums .i64 w tv tg) (hsc : Nums .i64 w sv sc) (hq8 : q ≤ 255) (hj8 : j ≤ 255) (h1 : colE (modE rows (rows.length : Int)) (catsOf rows) tg = 0) (h2 : rows.length ≤ q) :
    Calls Tryd.prog 8 #[.agg #[rv], tv, .int .u8 (q : Int), .int .u8 (j : Int), sv] w fun e w' => e = .returned (.bool true) ∧ Below w.heap.size w w' := by
  have hm0 := hm
  obtain ⟨A, c, _, rfl, hc, hmx, _, _⟩ := hm0
  have ht0 := ht
  obtain ⟨D, cD, rfl, hDc, hDm, hDs⟩ := ht0
  have hs0 := hsc
  obtain ⟨F, cF, rfl, hFc, hFm, hFs⟩ := hs0
  unfold maxLen at hmx hDm hFm
  have H1 := Lib.hid h1
  clear h1
  go_enter Tryd.func8, Tryd.ntmps8
  go_wp2_with fail
  have hl : Below w.heap.size w (w.alloc (.cells #[.slice A rows.length c] 24)) := lit_below _ _
  have hr5 : Row (w.alloc (.cells #[.slice A rows.length c] 24)) (w.heap.size) 24 [.slice A rows.length c] := row_at (by simp)
  refine (mcol_any _ _ rows tg _ (hm.below hl) (ht.below hl)).mono ?_
  rintro e w1 ⟨vc, rfl, hC, hb⟩
  replace hr5 := hr5.keep hb
  replace hb : Below w.heap.size w w1 := hl.trans (hb.mono hl.size)
  clear hl
  replace hm := hm.below hb
  replace ht := ht.below hb
  replace hsc := hsc.below hb
  have BB : Below w.heap.size w w1 := hb
  clear hb
  obtain ⟨cA, cn, cc, rfl⟩ := ints_slice hC
  rw [H1.out]
  clear hC
  have q00 : w1.cell? ⟨w.heap.size, 0, none⟩ = some (.slice A rows.length c) := hr5.cell 0
  have z0 := hr5.lt
  go_wp2_with fail
  clear q00 z0
  have hl : Below w1.heap.size w1 (w1.alloc (.cells #[.slice cA cn cc] 24)) := lit_below _ _
  have hr11 : Row (w1.alloc (.cells #[.slice cA cn cc] 24)) (w1.heap.size) 24 [.slice cA cn cc] := row_at (by simp)
  refine (awake_any _).mono ?_
  rintro e w2 ⟨rfl, hb⟩
  replace hr11 := hr11.keep hb
  replace hb : Below w1.heap.size w1 w2 := hl.trans (hb.mono hl.size)
  clear hl
  replace hm := hm.below hb
  replace ht := ht.below hb
  replace hsc := hsc.below hb
  replace hr5 := hr5.keep hb
  replace BB : Below w.heap.size w w2 := BB.trans (hb.mono BB.size)
  clear hb
  go_wp2_with fail
  go_ret
  exact ⟨rfl, BB⟩

set_option maxRecDepth 100000 in
set_option maxHeartbeats 8000000 in
theorem co_out2 (rv tv sv : Value) (rows : List (List Int)) (tg : List Int) (q j : Nat) (sc : List Int) (w : World) (hm : IntsL w rv rows) (ht : Nums .i64 w tv tg) (hsc : Nums .i64 w sv sc) (hq8 : q ≤ 255) (hj8 : j ≤ 255) (h1 : colE (modE rows (rows.length : Int)) (catsOf rows) tg = 0) (h2 : q < rows.length) (h3 : (lastOf tg).toNat + 1 ≤ j) :
    Calls Tryd.prog 8 #[.agg #[rv], tv, .int .u8 (q : Int), .int .u8 (j : Int), sv] w fun e w' => e = .returned (.bool true) ∧ Below w.heap.size w w' := by
  have hm0 := hm
  obtain ⟨A, c, _, rfl, hc, hmx, _, _⟩ := hm0
  have ht0 := ht
  obtain ⟨D, cD, rfl, hDc, hDm, hDs⟩ := ht0
  have hs0 := hsc
  obtain ⟨F, cF, rfl, hFc, hFm, hFs⟩ := hs0
  unfold maxLen at hmx hDm hFm
  rw [show (lastOf tg).toNat + 1 = (lastOf tg).toNat + 1 from rfl] at h3
  have h10 := h1
  obtain ⟨v0, g1, g2, g3, g4⟩ := colE_zero h10
  obtain ⟨cv1, cv2⟩ := col_valid v0 h10
  have HV := Lib.hid cv1
  have HCAT := Lib.hid cv2
  obtain ⟨n, hn⟩ : ∃ n, (lastOf tg).toNat + 1 = n := ⟨_, rfl⟩
  rw [hn] at HCAT
  have HN := Lib.hid hn
  rw [hn] at h3
  have H1 := Lib.hid h1
  clear h1 h10 v0 g1 g2 g3 g4 cv1 cv2 hn
  have t9 : decide (rows.length ≤ q) = false := decide_eq_false (by omega)
  go_enter Tryd.func8, Tryd.ntmps8
  go_wp2_with fail
  have hl : Below w.heap.size w (w.alloc (.cells #[.slice A rows.length c] 24)) := lit_below _ _
  have hr5 : Row (w.alloc (.cells #[.slice A rows.length c] 24)) (w.heap.size) 24 [.slice A rows.length c] := row_at (by simp)
  refine (mcol_any _ _ rows tg _ (hm.below hl) (ht.below hl)).mono ?_
  rintro e w1 ⟨vc, rfl, hC, hb⟩
  replace hr5 := hr5.keep hb
  replace hb : Below w.heap.size w w1 := hl.trans (hb.mono hl.size)
  clear hl
  replace hm := hm.below hb
  replace ht := ht.below hb
  replace hsc := hsc.below hb
  have BB : Below w.heap.size w w1 := hb
  clear hb
  obtain ⟨cA, cn, cc, rfl⟩ := ints_slice hC
  rw [H1.out, onE_ok] at hC
  rw [H1.out]
  have q00 : w1.cell? ⟨w.heap.size, 0, none⟩ = some (.slice A rows.length c) := hr5.cell 0
  have z0 := hr5.lt
  go_wp2_with fail
  clear q00 z0
  have hl : Below w1.heap.size w1 (w1.alloc (.cells #[.slice cA cn cc] 24)) := lit_below _ _
  have hr11 : Row (w1.alloc (.cells #[.slice cA cn cc] 24)) (w1.heap.size) 24 [.slice cA cn cc] := row_at (by simp)
  refine (cats_any _ (colL rows tg) _ (hC.below hl)).mono ?_
  rintro e w2 ⟨rfl, hb⟩
  replace hr11 := hr11.keep hb
  replace hb : Below w1.heap.size w1 w2 := hl.trans (hb.mono hl.size)
  clear hl
  replace hm := hm.below hb
  replace ht := ht.below hb
  replace hsc := hsc.below hb
  replace hr5 := hr5.keep hb
  replace hC := hC.below hb
  replace BB : Below w.heap.size w w2 := BB.trans (hb.mono BB.size)
  clear hb
  rw [HCAT.out]
  have q00 : w2.cell? ⟨w.heap.size, 0, none⟩ = some (.slice A rows.length c) := hr5.cell 0
  have z0 := hr5.lt
  have q10 : w2.cell? ⟨w1.heap.size, 0, none⟩ = some (.slice cA cn cc) := hr11.cell 0
  have z1 := hr11.lt
  go_wp2_with fail
  clear q00 q10 z0 z1
  have hl : Below w2.heap.size w2 w2 := Below.refl _ _
  refine (awake_any _).mono ?_
  rintro e w3 ⟨rfl, hb⟩
  replace hb : Below w2.heap.size w2 w3 := hl.trans (hb.mono hl.size)
  clear hl
  replace hm := hm.below hb
  replace ht := ht.below hb
  replace hsc := hsc.below hb
  replace hr5 := hr5.keep hb
  replace hC := hC.below hb
  replace hr11 := hr11.keep hb
  replace BB : Below w.heap.size w w3 := BB.trans (hb.mono BB.size)
  clear hb
  go_wp2_with fail
  go_ret
  exact ⟨rfl, BB⟩

set_option maxRecDepth 100000 in
set_option maxHeartbeats 8000000 in
theorem co_main (rv tv sv : Value) (rows : List (List Int)) (tg : List Int) (q j : Nat) (sc : List Int) (w : World) (hm : IntsL w rv rows) (ht : Nums .i64 w tv tg) (hsc : Nums .i64 w sv sc) (hq8 : q ≤ 255) (hj8 : j ≤ 255) (h1 : colE (modE rows (rows.length : Int)) (catsOf rows) tg = 0) (h2 : q < rows.length) (h3 : j < (lastOf tg).toNat + 1) :
    Calls Tryd.prog 8 #[.agg #[rv], tv, .int .u8 (q : Int), .int .u8 (j : Int), sv] w fun e w' => e = .returned (.bool true) ∧ Below w.heap.size w w' := by
  have hm0 := hm
  obtain ⟨A, c, _, rfl, hc, hmx, _, _⟩ := hm0
  have ht0 := ht
  obtain ⟨D, cD, rfl, hDc, hDm, hDs⟩ := ht0
  have hs0 := hsc
  obtain ⟨F, cF, rfl, hFc, hFm, hFs⟩ := hs0
  unfold maxLen at hmx hDm hFm
  have h10 := h1
  obtain ⟨v0, g1, g2, g3, g4⟩ := colE_zero h10
  obtain ⟨cv1, cv2⟩ := col_valid v0 h10
  have HV := Lib.hid cv1
  have HCAT := Lib.hid cv2
  obtain ⟨n, hn⟩ : ∃ n, (lastOf tg).toNat + 1 = n := ⟨_, rfl⟩
  rw [hn] at HCAT
  have HN := Lib.hid hn
  rw [hn] at h3
  obtain ⟨_, m2, _, m4, m5, m6⟩ := modE_zero v0
  obtain ⟨hrl, hrx, _⟩ := m6 _ (mem_getD [] h2)
  have hc9 : rows.length ≤ 21 := by omega
  have H1 := Lib.hid h1
  have HV0 := Lib.hid v0
  have HLEN := Lib.hid g1
  have HG2 := Lib.hid g2
  have HG3 := Lib.hid g3
  have hTR := to_range g3 g2
  rw [hn] at hTR
  have HTR := Lib.hid hTR
  rw [← g1] at m4 m5
  have hCR := fun k => colR_get (row := rows.getD q []) g3 g2 k
  have HXS : Hid (((colL rows tg).getD q []).getD j 0 = mrg tg (rows.getD q []) (j : Int) tg.length) := by unfold Hid; rw [colL_get h2]; exact hCR j
  have hin := to_in g3 g2 (i := 0) (by omega)
  have hn6 : n ≤ 6 := by omega
  have HWE : Hid (sc.length = n → expE (catsOf rows) (wideL tg sc) = expE n sc) := fun hs => by rw [← hn] at hs ⊢; exact wide_E g3 g2 (by omega) hs g1
  have HWS : Hid (expS ((colL rows tg).getD q []) sc n = expS (rows.getD q []) (wideL tg sc) (catsOf rows)) := by unfold Hid; rw [colL_get h2, ← hn, ← g1]; exact col_exp g3 g2
  have h2' : q < (colL rows tg).length := by rw [colL_len]; exact h2
  clear h1 h10 v0 g1 g2 g3 g4 cv1 cv2 hn m6 m2 hTR hCR hin hrl hrx
  have t9 : decide (rows.length ≤ q) = false := decide_eq_false (by omega)
  have t8 : decide (n ≤ j) = false := decide_eq_false (by omega)
  go_enter Tryd.func8, Tryd.ntmps8
  go_wp2_with fail
  have hl : Below w.heap.size w (w.alloc (.cells #[.slice A rows.length c] 24)) := lit_below _ _
  have hr5 : Row (w.alloc (.cells #[.slice A rows.length c] 24)) (w.heap.size) 24 [.slice A rows.length c] := row_at (by simp)
  refine (mcol_any _ _ rows tg _ (hm.below hl) (ht.below hl)).mono ?_
  rintro e w1 ⟨vc, rfl, hC, hb⟩
  replace hr5 := hr5.keep hb
  replace hb : Below w.heap.size w w1 := hl.trans (hb.mono hl.size)
  clear hl
  replace hm := hm.below hb
  replace ht := ht.below hb
  replace hsc := hsc.below hb
  have BB : Below w.heap.size w w1 := hb
  clear hb
  obtain ⟨cA, cn, cc, rfl⟩ := ints_slice hC
  rw [H1.out, onE_ok] at hC
  rw [H1.out]
  have q00 : w1.cell? ⟨w.heap.size, 0, none⟩ = some (.slice A rows.length c) := hr5.cell 0
  have z0 := hr5.lt
  go_wp2_with fail
  clear q00 z0
  have hl : Below w1.heap.size w1 (w1.alloc (.cells #[.slice cA cn cc] 24)) := lit_below _ _
  have hr11 : Row (w1.alloc (.cells #[.slice cA cn cc] 24)) (w1.heap.size) 24 [.slice cA cn cc] := row_at (by simp)
  refine (cats_any _ (colL rows tg) _ (hC.below hl)).mono ?_
  rintro e w2 ⟨rfl, hb⟩
  replace hr11 := hr11.keep hb
  replace hb : Below w1.heap.size w1 w2 := hl.trans (hb.mono hl.size)
  clear hl
  replace hm := hm.below hb
  replace ht := ht.below hb
  replace hsc := hsc.below hb
  replace hr5 := hr5.keep hb
  replace hC := hC.below hb
  replace BB : Below w.heap.size w w2 := BB.trans (hb.mono BB.size)
  clear hb
  rw [HCAT.out]
  have q00 : w2.cell? ⟨w.heap.size, 0, none⟩ = some (.slice A rows.length c) := hr5.cell 0
  have z0 := hr5.lt
  have q10 : w2.cell? ⟨w1.heap.size, 0, none⟩ = some (.slice cA cn cc) := hr11.cell 0
  have z1 := hr11.lt
  go_wp2_with fail
  clear q00 q10 z0 z1
  have hl : Below w2.heap.size w2 w2 := Below.refl _ _
  refine (prob_ok _ (colL rows tg) q j (mrg tg (rows.getD q []) (j : Int) tg.length) _ (hC.below hl) HV.out h2' (by rw [HCAT.out]; exact h3) HXS.out).mono ?_
  rintro e w3 ⟨vp, rfl, hP, hb⟩
  replace hb : Below w2.heap.size w2 w3 := hl.trans (hb.mono hl.size)
  clear hl
  replace hm := hm.below hb
  replace ht := ht.below hb
  replace hsc := hsc.below hb
  replace hr5 := hr5.keep hb
  replace hC := hC.below hb
  replace hr11 := hr11.keep hb
  replace BB : Below w.heap.size w w3 := BB.trans (hb.mono BB.size)
  clear hb
  have hPA := hP.ratA (redQ_pos (by decide))
  clear hP
  obtain ⟨pN, pA, pn, pc, pB, pk, pd, rfl⟩ := hPA.show_
  have q00 : w3.cell? ⟨w.heap.size, 0, none⟩ = some (.slice A rows.length c) := hr5.cell 0
  have z0 := hr5.lt
  have q10 : w3.cell? ⟨w1.heap.size, 0, none⟩ = some (.slice cA cn cc) := hr11.cell 0
  have z1 := hr11.lt
  go_wp2_with fail
  clear q00 q10 z0 z1
  have hl : Below w3.heap.size w3 (w3.alloc (.cells #[.bool pN, .slice pA pn pc, .slice pB pk pd] 48)) := lit_below _ _
  have hr13 : Row (w3.alloc (.cells #[.bool pN, .slice pA pn pc, .slice pB pk pd] 48)) (w3.heap.size) 48 [.bool pN, .slice pA pn pc, .slice pB pk pd] := row_at (by simp)
  replace hm := hm.below hl
  replace ht := ht.below hl
  replace hsc := hsc.below hl
  replace hr5 := hr5.keep hl
  replace hC := hC.below hl
  replace hr11 := hr11.keep hl
  replace hPA := hPA.below hl
  replace BB : Below w.heap.size w (w3.alloc (.cells #[.bool pN, .slice pA pn pc, .slice pB pk pd] 48)) := BB.trans (hl.mono BB.size)
  clear hl
  generalize (w3.alloc (.cells #[.bool pN, .slice pA pn pc, .slice pB pk pd] 48)) = w4 at *
  have q00 : w4.cell? ⟨w.heap.size, 0, none⟩ = some (.slice A rows.length c) := hr5.cell 0
  have z0 := hr5.lt
  have q10 : w4.cell? ⟨w1.heap.size, 0, none⟩ = some (.slice cA cn cc) := hr11.cell 0
  have z1 := hr11.lt
  have q20 : w4.cell? ⟨w3.heap.size, 0, none⟩ = some (.bool pN) := hr13.cell 0
  have q21 : w4.cell? ⟨w3.heap.size, 1, none⟩ = some (.slice pA pn pc) := hr13.cell 1
  have q22 : w4.cell? ⟨w3.heap.size, 2, none⟩ = some (.slice pB pk pd) := hr13.cell 2
  have z2 := hr13.lt
  have cq : IntKind.i64.wrap (q : Int) = (q : Int) := by rw [IntKind.wrap_i64]; omega
  have cj : IntKind.i64.wrap (j : Int) = (j : Int) := by rw [IntKind.wrap_i64]; omega
  go_region_held3 (fun w' => w'.cell? ⟨w.heap.size, 0, none⟩ = some (.slice A rows.length c) ∧ w'.cell? ⟨w3.heap.size, 0, none⟩ = some (.bool pN) ∧ w'.cell? ⟨w3.heap.size, 1, none⟩ = some (.slice pA pn pc) ∧ w'.cell? ⟨w3.heap.size, 2, none⟩ = some (.slice pB pk pd))
    ((refine keep4e z0 z2 z2 z2 q00 q20 q21 q22 ?_; (repeat (first | with_reducible exact Below.refl _ _ | with_reducible refine bl_call hws ?_ | with_reducible refine bl_call hwm ?_ | with_reducible refine lit_more ?_ _ | with_reducible refine bl_drew ?_)); done))
    (first | (go_at_call 26; ((with_reducible refine (merged_any _ _ rows tg q j _ (hm.below ?_) (ht.below ?_) HV0.out h2 HLEN.out).mono ?_); ((repeat (first | with_reducible exact Below.refl _ _ | with_reducible refine bl_call hws ?_ | with_reducible refine bl_call hwm ?_ | with_reducible refine lit_more ?_ _ | with_reducible refine bl_drew ?_))); ((repeat (first | with_reducible exact Below.refl _ _ | with_reducible refine bl_call hws ?_ | with_reducible refine bl_call hwm ?_ | with_reducible refine lit_more ?_ _ | with_reducible refine bl_drew ?_))); rintro e wm ⟨vm, rfl, hM, hwm⟩)) | (go_at_call 25; ((with_reducible refine (qcmp_same _ _ (redP (mrg tg (rows.getD q []) (j : Int) tg.length) 1000) (redQ (mrg tg (rows.getD q []) (j : Int) tg.length) 1000) 2 _ (hPA.below ?_) (hM.below ?_) (by decide) (by decide)).mono ?_); ((repeat (first | with_reducible exact Below.refl _ _ | with_reducible refine bl_call hws ?_ | with_reducible refine bl_call hwm ?_ | with_reducible refine lit_more ?_ _ | with_reducible refine bl_drew ?_))); ((repeat (first | with_reducible exact Below.refl _ _ | with_reducible refine bl_call hws ?_ | with_reducible refine bl_call hwm ?_ | with_reducible refine lit_more ?_ _ | with_reducible refine bl_drew ?_))); rintro e ws ⟨rfl, hws⟩)))
  have hb : Below w4.heap.size w4 ws := by (repeat (first | with_reducible exact Below.refl _ _ | with_reducible refine bl_call hws ?_ | with_reducible refine bl_call hwm ?_ | with_reducible refine lit_more ?_ _ | with_reducible refine bl_drew ?_))
  clear q00 q10 q20 q21 q22 z0 z1 z2
  clear cq cj
  replace BB : Below w.heap.size w ws := BB.trans (hb.mono BB.size)
  replace hm := hm.below hb
  replace ht := ht.below hb
  replace hsc := hsc.below hb
  replace hr5 := hr5.keep hb
  replace hC := hC.below hb
  replace hr11 := hr11.keep hb
  replace hPA := hPA.below hb
  replace hr13 := hr13.keep hb
  clear hb
  clear hPA
  clear hr13
  have q00 : ws.cell? ⟨w.heap.size, 0, none⟩ = some (.slice A rows.length c) := hr5.cell 0
  have z0 := hr5.lt
  have q10 : ws.cell? ⟨w1.heap.size, 0, none⟩ = some (.slice cA cn cc) := hr11.cell 0
  have z1 := hr11.lt
  go_wp2_with fail
  clear q00 q10 z0 z1
  have hl : Below ws.heap.size ws ws := Below.refl _ _
  refine (cats_any _ (colL rows tg) _ (hC.below hl)).mono ?_
  rintro e w5 ⟨rfl, hb⟩
  replace hb : Below ws.heap.size ws w5 := hl.trans (hb.mono hl.size)
  clear hl
  replace hm := hm.below hb
  replace ht := ht.below hb
  replace hsc := hsc.below hb
  replace hr5 := hr5.keep hb
  replace hC := hC.below hb
  replace hr11 := hr11.keep hb
  replace BB : Below w.heap.size w w5 := BB.trans (hb.mono BB.size)
  clear hb
  rw [HCAT.out]
  by_cases hs : sc.length = n
  case neg =>
    have f : ((sc.length : Int) != (n : Int)) = true := by rw [bne_iff_ne]; omega
    have q00 : w5.cell? ⟨w.heap.size, 0, none⟩ = some (.slice A rows.length c) := hr5.cell 0
    have z0 := hr5.lt
    have q10 : w5.cell? ⟨w1.heap.size, 0, none⟩ = some (.slice cA cn cc) := hr11.cell 0
    have z1 := hr11.lt
    go_wp2_with fail
    clear q00 q10 z0 z1
    have hl : Below w5.heap.size w5 w5 := Below.refl _ _
    refine (awake_any _).mono ?_
    rintro e w6 ⟨rfl, hb⟩
    replace hb : Below w5.heap.size w5 w6 := hl.trans (hb.mono hl.size)
    clear hl
    replace hm := hm.below hb
    replace ht := ht.below hb
    replace hsc := hsc.below hb
    replace hr5 := hr5.keep hb
    replace hC := hC.below hb
    replace hr11 := hr11.keep hb
    replace BB : Below w.heap.size w w6 := BB.trans (hb.mono BB.size)
    clear hb
    go_wp2_with fail
    go_ret
    exact ⟨rfl, BB⟩
  have f : ((sc.length : Int) != (n : Int)) = false := by rw [bne_eq_false_iff_eq]; omega
  have HWE2 := Lib.hid (HWE.out hs)
  have hsn : n ≤ sc.length := by omega
  have HS := Lib.hid hs
  clear hs
  have hmk := run_mk (P := Tryd.prog) Tryd.underlying31 infoInt rfl tg.length (by omega) (by omega)
  have q00 : w5.cell? ⟨w.heap.size, 0, none⟩ = some (.slice A rows.length c) := hr5.cell 0
  have z0 := hr5.lt
  have q10 : w5.cell? ⟨w1.heap.size, 0, none⟩ = some (.slice cA cn cc) := hr11.cell 0
  have z1 := hr11.lt
  go_wp2_with fail
  clear q00 q10 z0 z1
  clear f hmk
  have hWL := Lib.hid (wideL_len tg sc)
  go_loopw [15] (fun i wr => ∃ k : Nat, k ≤ tg.length ∧ i = .int .i64 (k : Int) ∧ Row wr w5.heap.size 3 (((wideL tg sc).take k).map (Value.int .i64) ++ List.replicate (tg.length - k) (.int .i64 0)) ∧ Below w5.heap.size w5 wr) (fun i _ => tg.length - (intOf i).toNat)
  case atStart => exact ⟨0, by omega, rfl, by simpa using Row.newz w5 3 (.int .i64 0) tg.length, (Below.refl _ _).alloc (Nat.le_refl _) _⟩
  case round =>
    obtain ⟨k, hk, rfl, hrow, hbr⟩ := hrel
    have BBo : Below w.heap.size w wr := BB.trans (hbr.mono BB.size)
    by_cases hlt : k < tg.length
    case pos =>
      obtain ⟨bD, oD, rfl, hbD, hDc0⟩ := hDs.num hlt
      have gd := (BBo.cell (p := ⟨bD, oD + k, none⟩) hbD).trans (hDc0 k hlt)
      clear hDc0
      obtain ⟨u1, u2⟩ := HTR.out k hlt
      have HG := Lib.hid (wideL_get (sc := sc) hlt)
      generalize tg.getD k 0 = t at *
      obtain ⟨T, rfl⟩ := Int.eq_ofNat_of_zero_le u1
      rw [Int.toNat_natCast] at u2 HG
      obtain ⟨bF, oF, rfl, hbF, hFc0⟩ := hFs.num (show T < sc.length by omega)
      have gf := (BBo.cell (p := ⟨bF, oF + T, none⟩) hbF).trans (hFc0 T (by omega))
      clear hFc0
      have hc0 : wr.cell? ⟨w5.heap.size, k, none⟩ = some (.int .i64 0) := by rw [hrow.cell, padv_get _ _ _ _ (by rw [List.length_map, List.length_take, hWL.out]; omega) hlt]
      have hf0 : wr.frozen? ⟨w5.heap.size, k, none⟩ = false := hrow.frozen k
      have HP := Lib.hid (row_put hrow hWL.out hlt HG.out)
      generalize sc.getD T 0 = y at *
      have i1 : (T : Int) < (sc.length : Int) := by omega
      have i2 : (k : Int) < (tg.length : Int) := by omega
      go_wp2_with fail
      go_roundw
      case rel => exact ⟨k + 1, by omega, by go_num, HP.out, hbr.setCell (Nat.le_refl _) _⟩
      case measure => simp [intOf]; omega
    case neg =>
      have HK := Lib.hid (show k = tg.length by omega)
      have hge : tg.length ≤ k := by omega
      have hWd : Nums .i64 wr (.slice (some ⟨w5.heap.size, 0, none⟩) tg.length tg.length) (wideL tg sc) := by
        have h := hrow
        rw [HK.out] at h
        exact row_full h hWL.out (by unfold maxLen; omega)
      obtain ⟨wo, rfl⟩ : ∃ wo : World, wo = wr := ⟨_, rfl⟩
      have hmo := hm.below hbr
      have hto := ht.below hbr
      have hsco := hsc.below hbr
      have hr5o := hr5.keep hbr
      have hCo := hC.below hbr
      have hr11o := hr11.keep hbr
      have q00 : wo.cell? ⟨w.heap.size, 0, none⟩ = some (.slice A rows.length c) := hr5o.cell 0
      have z0 := hr5o.lt
      have q10 : wo.cell? ⟨w1.heap.size, 0, none⟩ = some (.slice cA cn cc) := hr11o.cell 0
      have z1 := hr11o.lt
      go_wp2_with fail
      clear q00 q10 z0 z1
      have hl : Below wo.heap.size wo wo := Below.refl _ _
      refine (mexp_any _ _ (colL rows tg) q sc _ (hCo.below hl) (hsco.below hl) HV.out h2').mono ?_
      rintro e w6 ⟨xN, xA, xn, xc, xB, xk, xd, rfl, hX, hb⟩
      replace hb : Below wo.heap.size wo w6 := hl.trans (hb.mono hl.size)
      clear hl
      replace hmo := hmo.below hb
      replace hto := hto.below hb
      replace hsco := hsco.below hb
      replace hr5o := hr5o.keep hb
      replace hCo := hCo.below hb
      replace hr11o := hr11o.keep hb
      replace hWd := hWd.below hb
      replace BBo : Below w.heap.size w w6 := BBo.trans (hb.mono BBo.size)
      clear hb
      rw [HCAT.out, HWS.out] at hX
      rw [HCAT.out]
      have q00 : w6.cell? ⟨w.heap.size, 0, none⟩ = some (.slice A rows.length c) := hr5o.cell 0
      have z0 := hr5o.lt
      have q10 : w6.cell? ⟨w1.heap.size, 0, none⟩ = some (.slice cA cn cc) := hr11o.cell 0
      have z1 := hr11o.lt
      go_wp2_with fail
      clear q00 q10 z0 z1
      have hl : Below w6.heap.size w6 (w6.alloc (.cells #[.bool xN, .slice xA xn xc, .slice xB xk xd] 48)) := lit_below _ _
      have hr16 : Row (w6.alloc (.cells #[.bool xN, .slice xA xn xc, .slice xB xk xd] 48)) (w6.heap.size) 48 [.bool xN, .slice xA xn xc, .slice xB xk xd] := row_at (by simp)
      have hX0 := hX
      refine (mexp_any _ _ rows q (wideL tg sc) _ (hmo.below hl) (hWd.below hl) HV0.out h2).mono ?_
      rintro e w7 ⟨yN, yA, yn, yc, yB, yk, yd, rfl, hY, hb⟩
      replace hr16 := hr16.keep hb
      replace hb : Below w6.heap.size w6 w7 := hl.trans (hb.mono hl.size)
      clear hl
      replace hmo := hmo.below hb
      replace hto := hto.below hb
      replace hsco := hsco.below hb
      replace hr5o := hr5o.keep hb
      replace hCo := hCo.below hb
      replace hr11o := hr11o.keep hb
      replace hWd := hWd.below hb
      replace BBo : Below w.heap.size w w7 := BBo.trans (hb.mono BBo.size)
      have HBX := Lib.hid hb
      clear hb
      rw [HWE2.out] at hY
      rw [HWE2.out]
      obtain ⟨E, hE⟩ : ∃ E, expE n sc = E := ⟨_, rfl⟩
      rw [hE] at hX0 hY ⊢
      clear hX hE
      by_cases he : E = 0
      case neg =>
        have f : (E != 0) = true := (by rw [bne_iff_ne]; exact he)
        clear hX0 hY he
        have q00 : w7.cell? ⟨w.heap.size, 0, none⟩ = some (.slice A rows.length c) := hr5o.cell 0
        have z0 := hr5o.lt
        have q10 : w7.cell? ⟨w1.heap.size, 0, none⟩ = some (.slice cA cn cc) := hr11o.cell 0
        have z1 := hr11o.lt
        have q20 : w7.cell? ⟨w6.heap.size, 0, none⟩ = some (.bool xN) := hr16.cell 0
        have q21 : w7.cell? ⟨w6.heap.size, 1, none⟩ = some (.slice xA xn xc) := hr16.cell 1
        have q22 : w7.cell? ⟨w6.heap.size, 2, none⟩ = some (.slice xB xk xd) := hr16.cell 2
        have z2 := hr16.lt
        go_wp2_with fail
        clear q00 q10 q20 q21 q22 z0 z1 z2
        have hl : Below w7.heap.size w7 (w7.alloc (.cells #[.bool yN, .slice yA yn yc, .slice yB yk yd] 48)) := lit_below _ _
        have hr17 : Row (w7.alloc (.cells #[.bool yN, .slice yA yn yc, .slice yB yk yd] 48)) (w7.heap.size) 48 [.bool yN, .slice yA yn yc, .slice yB yk yd] := row_at (by simp)
        refine (awake_any _).mono ?_
        rintro e w8 ⟨rfl, hb⟩
        replace hr17 := hr17.keep hb
        replace hb : Below w7.heap.size w7 w8 := hl.trans (hb.mono hl.size)
        clear hl
        replace hmo := hmo.below hb
        replace hto := hto.below hb
        replace hsco := hsco.below hb
        replace hr5o := hr5o.keep hb
        replace hCo := hCo.below hb
        replace hr11o := hr11o.keep hb
        replace hWd := hWd.below hb
        replace hr16 := hr16.keep hb
        replace BBo : Below w.heap.size w w8 := BBo.trans (hb.mono BBo.size)
        clear hb
        go_wp2_with fail
        go_ret
        exact ⟨rfl, BBo⟩
      case pos =>
        have hXA := (hX0 he).ratA (redQ_pos (by decide))
        have hYA := (hY he).ratA (redQ_pos (by decide))
        clear hX0 hY
        subst he
        replace hXA := hXA.below HBX.out
        have q00 : w7.cell? ⟨w.heap.size, 0, none⟩ = some (.slice A rows.length c) := hr5o.cell 0
        have z0 := hr5o.lt
        have q10 : w7.cell? ⟨w1.heap.size, 0, none⟩ = some (.slice cA cn cc) := hr11o.cell 0
        have z1 := hr11o.lt
        have q20 : w7.cell? ⟨w6.heap.size, 0, none⟩ = some (.bool xN) := hr16.cell 0
        have q21 : w7.cell? ⟨w6.heap.size, 1, none⟩ = some (.slice xA xn xc) := hr16.cell 1
        have q22 : w7.cell? ⟨w6.heap.size, 2, none⟩ = some (.slice xB xk xd) := hr16.cell 2
        have z2 := hr16.lt
        go_wp2_with fail
        clear q00 q10 q20 q21 q22 z0 z1 z2
        have hl : Below w7.heap.size w7 (w7.alloc (.cells #[.bool yN, .slice yA yn yc, .slice yB yk yd] 48)) := lit_below _ _
        have hr17 : Row (w7.alloc (.cells #[.bool yN, .slice yA yn yc, .slice yB yk yd] 48)) (w7.heap.size) 48 [.bool yN, .slice yA yn yc, .slice yB yk yd] := row_at (by simp)
        refine (qcmp_same _ _ (redP (expS (rows.getD q []) (wideL tg sc) (catsOf rows)) 1000) (redQ (expS (rows.getD q []) (wideL tg sc) (catsOf rows)) 1000) 2 _ (hXA.below hl) (hYA.below hl) (by decide) (by decide)).mono ?_
        rintro e w8 ⟨rfl, hb⟩
        replace hr17 := hr17.keep hb
        replace hb : Below w7.heap.size w7 w8 := hl.trans (hb.mono hl.size)
        clear hl
        replace hmo := hmo.below hb
        replace hto := hto.below hb
        replace hsco := hsco.below hb
        replace hr5o := hr5o.keep hb
        replace hCo := hCo.below hb
        replace hr11o := hr11o.keep hb
        replace hWd := hWd.below hb
        replace hr16 := hr16.keep hb
        replace hXA := hXA.below hb
        replace hYA := hYA.below hb
        replace BBo : Below w.heap.size w w8 := BBo.trans (hb.mono BBo.size)
        clear hb
        have q00 : w8.cell? ⟨w.heap.size, 0, none⟩ = some (.slice A rows.length c) := hr5o.cell 0
        have z0 := hr5o.lt
        have q10 : w8.cell? ⟨w1.heap.size, 0, none⟩ = some (.slice cA cn cc) := hr11o.cell 0
        have z1 := hr11o.lt
        have q20 : w8.cell? ⟨w6.heap.size, 0, none⟩ = some (.bool xN) := hr16.cell 0
        have q21 : w8.cell? ⟨w6.heap.size, 1, none⟩ = some (.slice xA xn xc) := hr16.cell 1
        have q22 : w8.cell? ⟨w6.heap.size, 2, none⟩ = some (.slice xB xk xd) := hr16.cell 2
        have z2 := hr16.lt
        have q30 : w8.cell? ⟨w7.heap.size, 0, none⟩ = some (.bool yN) := hr17.cell 0
        have q31 : w8.cell? ⟨w7.heap.size, 1, none⟩ = some (.slice yA yn yc) := hr17.cell 1
        have q32 : w8.cell? ⟨w7.heap.size, 2, none⟩ = some (.slice yB yk yd) := hr17.cell 2
        have z3 := hr17.lt
        go_wp2_with fail
        clear q00 q10 q20 q21 q22 q30 q31 q32 z0 z1 z2 z3
        have hl : Below w8.heap.size w8 w8 := Below.refl _ _
        refine (awake_any _).mono ?_
        rintro e w9 ⟨rfl, hb⟩
        replace hb : Below w8.heap.size w8 w9 := hl.trans (hb.mono hl.size)
        clear hl
        replace hmo := hmo.below hb
        replace hto := hto.below hb
        replace hsco := hsco.below hb
        replace hr5o := hr5o.keep hb
        replace hCo := hCo.below hb
        replace hr11o := hr11o.keep hb
        replace hWd := hWd.below hb
        replace hr16 := hr16.keep hb
        replace hXA := hXA.below hb
        replace hYA := hYA.below hb
        replace hr17 := hr17.keep hb
        replace BBo : Below w.heap.size w w9 := BBo.trans (hb.mono BBo.size)
        clear hb
        go_wp2_with fail
        go_ret
        exact ⟨rfl, BBo⟩
theorem collapse_all (rv tv sv : Value) (rows : List (List Int)) (tg : List Int) (q j : Nat) (sc : List Int) (w : World) (hm : IntsL w rv rows) (ht : Nums .i64 w tv tg) (hsc : Nums .i64 w sv sc) (hq8 : q ≤ 255) (hj8 : j ≤ 255) :
    Calls Tryd.prog 8 #[.agg #[rv], tv, .int .u8 (q : Int), .int .u8 (j : Int), sv] w fun e w' => e = .returned (.bool true) ∧ Below w.heap.size w w' := by
  by_cases h1 : colE (modE rows (rows.length : Int)) (catsOf rows) tg = 0
  · by_cases h2 : q < rows.length
    · by_cases h3 : j < (lastOf tg).toNat + 1
      · exact co_main rv tv sv rows tg q j sc w hm ht hsc hq8 hj8 h1 h2 h3
      · exact co_out2 rv tv sv rows tg q j sc w hm ht hsc hq8 hj8 h1 h2 (by omega)
    · exact co_out rv tv sv rows tg q j sc w hm ht hsc hq8 hj8 h1 (by omega)
  · exact co_bad rv tv sv rows tg q j sc w hm ht hsc hq8 hj8 h1
end Go.Proofs.YtokpembimalhmaaDoor
