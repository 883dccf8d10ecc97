/- The walk of ModelWhole. -/
import Derived.Test.YtokpembimalhmaaDoorMoAd
namespace Go.Proofs.YtokpembimalhmaaDoor
open Go.RowKit
set_option linter.unusedVariables false

set_option maxRecDepth 100000 in
set_option maxHeartbeats 8000000 in
theorem whole_bad (rv sv : Value) (rows : List (List Int)) (q : Nat) (sc : List Int) (w : World) (hm : IntsL w rv rows) (hsc : Nums .i64 w sv sc) (hq : q ≤ 255) (h1 : modE rows (rows.length : Int) ≠ 0) :
    Calls Tryd.prog 9 #[.agg #[rv], .int .u8 (q : Int), sv] w fun e w' => e = .returned (.bool true) ∧ Below w.heap.size w w' := by
  have hm0 := hm
  obtain ⟨A, c, _, rfl, hc, hmx, _, _⟩ := hm0
  have hs0 := hsc
  obtain ⟨D, cD, rfl, hDc, hDm, hDs⟩ := hs0
  unfold maxLen at hmx hDm
  obtain ⟨E, hE⟩ : ∃ E, modE rows (rows.length : Int) = E := ⟨_, rfl⟩
  rw [hE] at h1
  have HEE := Lib.hid hE
  have f : (E != 0) = true := by rw [bne_iff_ne]; exact h1
  go_enter Tryd.func9, Tryd.ntmps9
  go_wp2_with fail
  have hl : Below w.heap.size w (w.alloc (.cells #[.slice A rows.length c] 24)) := lit_below _ _
  have hr1 : Row (w.alloc (.cells #[.slice A rows.length c] 24)) (w.heap.size) 24 [.slice A rows.length c] := row_at (by simp)
  refine (mvalid_any _ rows _ _ (hm.below hl)).mono ?_
  rintro e w1 ⟨rfl, hb⟩
  replace hr1 := hr1.keep hb
  replace hb : Below w.heap.size w w1 := hl.trans (hb.mono hl.size)
  clear hl
  replace hm := hm.below hb
  replace hsc := hsc.below hb
  have BB : Below w.heap.size w w1 := hb
  clear hb
  rw [HEE.out]
  have q00 : w1.cell? ⟨w.heap.size, 0, none⟩ = some (.slice A rows.length c) := hr1.cell 0
  have z0 := hr1.lt
  go_wp2_with fail
  clear q00 z0
  have hl : Below w1.heap.size w1 w1 := Below.refl _ _
  refine (awake_any _).mono ?_
  rintro e w2 ⟨rfl, hb⟩
  replace hb : Below w1.heap.size w1 w2 := hl.trans (hb.mono hl.size)
  clear hl
  replace hm := hm.below hb
  replace hsc := hsc.below hb
  replace hr1 := hr1.keep hb
  replace BB : Below w.heap.size w w2 := BB.trans (hb.mono BB.size)
  clear hb
  go_wp2_with fail
  go_ret
  exact ⟨rfl, BB⟩

set_option maxRecDepth 100000 in
set_option maxHeartbeats 8000000 in
theorem whole_out (rv sv : Value) (rows : List (List Int)) (q : Nat) (sc : List Int) (w : World) (hm : IntsL w rv rows) (hsc : Nums .i64 w sv sc) (hq : q ≤ 255) (h1 : modE rows (rows.length : Int) = 0) (h2 : rows.length ≤ q) :
    Calls Tryd.prog 9 #[.agg #[rv], .int .u8 (q : Int), sv] w fun e w' => e = .returned (.bool true) ∧ Below w.heap.size w w' := by
  have hm0 := hm
  obtain ⟨A, c, _, rfl, hc, hmx, _, _⟩ := hm0
  have hs0 := hsc
  obtain ⟨D, cD, rfl, hDc, hDm, hDs⟩ := hs0
  unfold maxLen at hmx hDm
  have H1 := Lib.hid h1
  clear h1
  go_enter Tryd.func9, Tryd.ntmps9
  go_wp2_with fail
  have hl : Below w.heap.size w (w.alloc (.cells #[.slice A rows.length c] 24)) := lit_below _ _
  have hr1 : Row (w.alloc (.cells #[.slice A rows.length c] 24)) (w.heap.size) 24 [.slice A rows.length c] := row_at (by simp)
  refine (mvalid_any _ rows _ _ (hm.below hl)).mono ?_
  rintro e w1 ⟨rfl, hb⟩
  replace hr1 := hr1.keep hb
  replace hb : Below w.heap.size w w1 := hl.trans (hb.mono hl.size)
  clear hl
  replace hm := hm.below hb
  replace hsc := hsc.below hb
  have BB : Below w.heap.size w w1 := hb
  clear hb
  rw [H1.out]
  have q00 : w1.cell? ⟨w.heap.size, 0, none⟩ = some (.slice A rows.length c) := hr1.cell 0
  have z0 := hr1.lt
  go_wp2_with fail
  clear q00 z0
  have hl : Below w1.heap.size w1 w1 := Below.refl _ _
  refine (awake_any _).mono ?_
  rintro e w2 ⟨rfl, hb⟩
  replace hb : Below w1.heap.size w1 w2 := hl.trans (hb.mono hl.size)
  clear hl
  replace hm := hm.below hb
  replace hsc := hsc.below hb
  replace hr1 := hr1.keep hb
  replace BB : Below w.heap.size w w2 := BB.trans (hb.mono BB.size)
  clear hb
  go_wp2_with fail
  go_ret
  exact ⟨rfl, BB⟩

set_option maxRecDepth 100000 in
set_option maxHeartbeats 8000000 in
theorem whole_main (rv sv : Value) (rows : List (List Int)) (q : Nat) (sc : List Int) (w : World) (hm : IntsL w rv rows) (hsc : Nums .i64 w sv sc) (hq : q ≤ 255) (h1 : modE rows (rows.length : Int) = 0) (h2 : q < rows.length) :
    Calls Tryd.prog 9 #[.agg #[rv], .int .u8 (q : Int), sv] w fun e w' => e = .returned (.bool true) ∧ Below w.heap.size w w' := by
  have hm0 := hm
  obtain ⟨A, c, _, rfl, hc, hmx, _, _⟩ := hm0
  have hs0 := hsc
  obtain ⟨D, cD, rfl, hDc, hDm, hDs⟩ := hs0
  unfold maxLen at hmx hDm
  have h10 := h1
  obtain ⟨_, m2, _, m4, m5, m6⟩ := modE_zero h10
  obtain ⟨hrl, hrx, hrs⟩ := m6 _ (mem_getD [] h2)
  have H1 := Lib.hid h1
  have HRX := Lib.hid hrx
  have hc9 : rows.length ≤ 21 := by omega
  clear h1 h10 m6 m2 hrx
  obtain ⟨r, hrr⟩ : ∃ r, rows.getD q [] = r := ⟨_, rfl⟩
  have HRR := Lib.hid hrr
  rw [hrr] at hrl hrs HRX
  clear hrr
  have HSUM := Lib.hid (sumTo_all hrl)
  rw [hrs] at HSUM
  have HRL := Lib.hid hrl
  clear hrl hrs
  have t9 : decide (rows.length ≤ q) = false := decide_eq_false (by omega)
  obtain ⟨m, hcm⟩ : ∃ m, catsOf rows = m := ⟨_, rfl⟩
  have HM := Lib.hid hcm
  rw [hcm] at m4 m5 HSUM HRL
  clear hcm
  go_enter Tryd.func9, Tryd.ntmps9
  go_wp2_with fail
  have hl : Below w.heap.size w (w.alloc (.cells #[.slice A rows.length c] 24)) := lit_below _ _
  have hr1 : Row (w.alloc (.cells #[.slice A rows.length c] 24)) (w.heap.size) 24 [.slice A rows.length c] := row_at (by simp)
  refine (mvalid_any _ rows _ _ (hm.below hl)).mono ?_
  rintro e w1 ⟨rfl, hb⟩
  replace hr1 := hr1.keep hb
  replace hb : Below w.heap.size w w1 := hl.trans (hb.mono hl.size)
  clear hl
  replace hm := hm.below hb
  replace hsc := hsc.below hb
  have BB : Below w.heap.size w w1 := hb
  clear hb
  rw [H1.out]
  have q00 : w1.cell? ⟨w.heap.size, 0, none⟩ = some (.slice A rows.length c) := hr1.cell 0
  have z0 := hr1.lt
  go_wp2_with fail
  clear q00 z0
  have hl : Below w1.heap.size w1 ((w1.alloc (.cells #[.int .u32 1] 55)).alloc (.cells #[.bool false, .slice none 0 0, .slice (some ⟨w1.heap.size, 0, none⟩) 1 1] 48)) := lit_more (lit_below _ _) _
  have hr7 : Row ((w1.alloc (.cells #[.int .u32 1] 55)).alloc (.cells #[.bool false, .slice none 0 0, .slice (some ⟨w1.heap.size, 0, none⟩) 1 1] 48)) (w1.heap.size + 1) 48 [.bool false, .slice none 0 0, .slice (some ⟨w1.heap.size, 0, none⟩) 1 1] := row_at (by simp)
  have hS : RatA ((w1.alloc (.cells #[.int .u32 1] 55)).alloc (.cells #[.bool false, .slice none 0 0, .slice (some ⟨w1.heap.size, 0, none⟩) 1 1] 48)) (.agg #[.bool false, .slice none 0 0, .slice (some ⟨w1.heap.size, 0, none⟩) 1 1]) (redP (sumTo r 0) 1000) (redQ (sumTo r 0) 1000) 2 := (ratA_one (row_at rfl)).below (lit_below _ _)
  go_loopw [8] (fun i wr => ∃ (k : Nat) (N : Bool) (A' : Option Addr) (n' c' : Nat) (B' : Option Addr) (k' d' : Nat), k ≤ m ∧ i = .int .i64 (k : Int) ∧ Row wr (w1.heap.size + 1) 48 [.bool N, .slice A' n' c', .slice B' k' d'] ∧ RatA wr (.agg #[.bool N, .slice A' n' c', .slice B' k' d']) (redP (sumTo r k) 1000) (redQ (sumTo r k) 1000) 2 ∧ Below w1.heap.size w1 wr) (fun i _ => m - (intOf i).toNat)
  case atStart => exact ⟨0, _, _, _, _, _, _, _, by omega, rfl, hr7, hS, hl⟩
  case round =>
    clear hl hr7 hS
    obtain ⟨k, N, A', n', c', B', k', d', hk, rfl, hr7, hS, hbr⟩ := hrel
    obtain ⟨wo, rfl⟩ : ∃ wo : World, wo = wr := ⟨_, rfl⟩
    have hbW := hbr
    have hmo := hm.below hbr
    have hsco := hsc.below hbr
    have hr1o := hr1.keep hbr
    have BBo : Below w.heap.size w wo := BB.trans (hbr.mono BB.size)
    have q00 : wo.cell? ⟨w.heap.size, 0, none⟩ = some (.slice A rows.length c) := hr1o.cell 0
    have z0 := hr1o.lt
    have q10 : wo.cell? ⟨w1.heap.size + 1, 0, none⟩ = some (.bool N) := hr7.cell 0
    have q11 : wo.cell? ⟨w1.heap.size + 1, 1, none⟩ = some (.slice A' n' c') := hr7.cell 1
    have q12 : wo.cell? ⟨w1.heap.size + 1, 2, none⟩ = some (.slice B' k' d') := hr7.cell 2
    have z1 := hr7.lt
    go_wp2_with fail
    clear q00 q10 q11 q12 z0 z1
    have hl : Below wo.heap.size wo wo := Below.refl _ _
    refine (cats_any _ rows _ (hmo.below hl)).mono ?_
    rintro e w2 ⟨rfl, hb⟩
    replace hb : Below wo.heap.size wo w2 := hl.trans (hb.mono hl.size)
    clear hl
    replace hmo := hmo.below hb
    replace hsco := hsco.below hb
    replace hr1o := hr1o.keep hb
    replace hr7 := hr7.keep hb
    replace hS := hS.below hb
    replace BBo : Below w.heap.size w w2 := BBo.trans (hb.mono BBo.size)
    replace hbW := hbW.trans (hb.mono hbW.size)
    clear hb
    rw [HM.out]
    by_cases hlt : k < m
    case pos =>
      have hx := HRX.out _ (mem_getD 0 (show k < r.length by rw [HRL.out]; exact hlt))
      have hsb := sumTo_bd HRX.out k (by rw [HRL.out]; omega)
      have HST : Hid (sumTo r (k + 1) = sumTo r k + r.getD k 0) := rfl
      have q00 : w2.cell? ⟨w.heap.size, 0, none⟩ = some (.slice A rows.length c) := hr1o.cell 0
      have z0 := hr1o.lt
      have q10 : w2.cell? ⟨w1.heap.size + 1, 0, none⟩ = some (.bool N) := hr7.cell 0
      have q11 : w2.cell? ⟨w1.heap.size + 1, 1, none⟩ = some (.slice A' n' c') := hr7.cell 1
      have q12 : w2.cell? ⟨w1.heap.size + 1, 2, none⟩ = some (.slice B' k' d') := hr7.cell 2
      have z1 := hr7.lt
      go_wp2_with fail
      clear q00 q10 q11 q12 z0 z1
      have hl : Below w2.heap.size w2 w2 := Below.refl _ _
      refine (prob_ok _ rows q k (r.getD k 0) _ (hmo.below hl) H1.out h2 (by rw [HM.out]; exact hlt) (by rw [HRR.out])).mono ?_
      rintro e w3 ⟨vp, rfl, hP, hb⟩
      replace hb : Below w2.heap.size w2 w3 := hl.trans (hb.mono hl.size)
      clear hl
      replace hmo := hmo.below hb
      replace hsco := hsco.below hb
      replace hr1o := hr1o.keep hb
      replace hr7 := hr7.keep hb
      replace hS := hS.below hb
      replace BBo : Below w.heap.size w w3 := BBo.trans (hb.mono BBo.size)
      replace hbW := hbW.trans (hb.mono hbW.size)
      clear hb
      have hPA := hP.ratA (redQ_pos (by decide))
      clear hP
      obtain ⟨pN, pA, pn, pc, pB, pk, pd, rfl⟩ := hPA.show_
      obtain ⟨x, hxx⟩ : ∃ x, r.getD k 0 = x := ⟨_, rfl⟩
      rw [hxx] at hx hPA HST
      clear hxx
      have q00 : w3.cell? ⟨w.heap.size, 0, none⟩ = some (.slice A rows.length c) := hr1o.cell 0
      have z0 := hr1o.lt
      have q10 : w3.cell? ⟨w1.heap.size + 1, 0, none⟩ = some (.bool N) := hr7.cell 0
      have q11 : w3.cell? ⟨w1.heap.size + 1, 1, none⟩ = some (.slice A' n' c') := hr7.cell 1
      have q12 : w3.cell? ⟨w1.heap.size + 1, 2, none⟩ = some (.slice B' k' d') := hr7.cell 2
      have z1 := hr7.lt
      go_wp2_with fail
      clear q00 q10 q11 q12 z0 z1
      have hl : Below w3.heap.size w3 (w3.alloc (.cells #[.bool pN, .slice pA pn pc, .slice pB pk pd] 48)) := lit_below _ _
      have hr9 : Row (w3.alloc (.cells #[.bool pN, .slice pA pn pc, .slice pB pk pd] 48)) (w3.heap.size) 48 [.bool pN, .slice pA pn pc, .slice pB pk pd] := row_at (by simp)
      refine (qsign_any _ _ _ 2 _ (hPA.below hl) (by decide)).mono ?_
      rintro e w4 ⟨rfl, hb⟩
      replace hr9 := hr9.keep hb
      replace hb : Below w3.heap.size w3 w4 := hl.trans (hb.mono hl.size)
      clear hl
      replace hmo := hmo.below hb
      replace hsco := hsco.below hb
      replace hr1o := hr1o.keep hb
      replace hr7 := hr7.keep hb
      replace hS := hS.below hb
      replace hPA := hPA.below hb
      replace BBo : Below w.heap.size w w4 := BBo.trans (hb.mono BBo.size)
      replace hbW := hbW.trans (hb.mono hbW.size)
      clear hb
      rw [sgn_one hx.1]
      have zg4 := hr7.lt
      have q00 : w4.cell? ⟨w.heap.size, 0, none⟩ = some (.slice A rows.length c) := hr1o.cell 0
      have z0 := hr1o.lt
      have q10 : w4.cell? ⟨w1.heap.size + 1, 0, none⟩ = some (.bool N) := hr7.cell 0
      have q11 : w4.cell? ⟨w1.heap.size + 1, 1, none⟩ = some (.slice A' n' c') := hr7.cell 1
      have q12 : w4.cell? ⟨w1.heap.size + 1, 2, none⟩ = some (.slice B' k' d') := hr7.cell 2
      have z1 := hr7.lt
      have q20 : w4.cell? ⟨w3.heap.size, 0, none⟩ = some (.bool pN) := hr9.cell 0
      have q21 : w4.cell? ⟨w3.heap.size, 1, none⟩ = some (.slice pA pn pc) := hr9.cell 1
      have q22 : w4.cell? ⟨w3.heap.size, 2, none⟩ = some (.slice pB pk pd) := hr9.cell 2
      have z2 := hr9.lt
      go_wp2_with fail
      clear q00 q10 q11 q12 q20 q21 q22 z0 z1 z2
      have hl : Below w4.heap.size w4 w4 := Below.refl _ _
      refine (add1000 _ _ (sumTo r k) x _ (hS.below hl) (hPA.below hl) (by omega) (by omega)).mono ?_
      rintro e w5 ⟨vs, rfl, hF, hb⟩
      replace hb : Below w4.heap.size w4 w5 := hl.trans (hb.mono hl.size)
      clear hl
      replace hmo := hmo.below hb
      replace hsco := hsco.below hb
      replace hr1o := hr1o.keep hb
      replace hr7 := hr7.keep hb
      replace hS := hS.below hb
      replace hPA := hPA.below hb
      replace hr9 := hr9.keep hb
      replace BBo : Below w.heap.size w w5 := BBo.trans (hb.mono BBo.size)
      replace hbW := hbW.trans (hb.mono hbW.size)
      clear hb
      have hFA := hF.ratA (redQ_pos (by decide))
      obtain ⟨sN, sA, sn, scc, sB, sk, sd, rfl⟩ := hFA.show_
      rw [← HST.out] at hF
      clear hFA
      have q00 : w5.cell? ⟨w.heap.size, 0, none⟩ = some (.slice A rows.length c) := hr1o.cell 0
      have z0 := hr1o.lt
      have q10 : w5.cell? ⟨w1.heap.size + 1, 0, none⟩ = some (.bool N) := hr7.cell 0
      have q11 : w5.cell? ⟨w1.heap.size + 1, 1, none⟩ = some (.slice A' n' c') := hr7.cell 1
      have q12 : w5.cell? ⟨w1.heap.size + 1, 2, none⟩ = some (.slice B' k' d') := hr7.cell 2
      have z1 := hr7.lt
      have q20 : w5.cell? ⟨w3.heap.size, 0, none⟩ = some (.bool pN) := hr9.cell 0
      have q21 : w5.cell? ⟨w3.heap.size, 1, none⟩ = some (.slice pA pn pc) := hr9.cell 1
      have q22 : w5.cell? ⟨w3.heap.size, 2, none⟩ = some (.slice pB pk pd) := hr9.cell 2
      have z2 := hr9.lt
      have s0 := hr7.frozen 0
      have s1 := hr7.frozen 1
      have s2 := hr7.frozen 2
      have zg : w1.heap.size + 1 < w1.heap.size + 2 := by omega
      go_wp2_with fail
      go_roundw
      case rel =>
        refine ⟨k + 1, _, _, _, _, _, _, _, by omega, by go_num, ((hr7.set_ 0 _).set_ 1 _).set_ 2 _, ((hF.set_ (by simp; omega) _).set_ (by simp; omega) _ |>.set_ (by simp; omega) _).ratA (redQ_pos (by decide)), ?_⟩
        exact (((hbW).setCell (by simp) _).setCell (by simp) _).setCell (by simp) _
      case measure => simp [intOf]; omega
    case neg =>
      have hge : m ≤ k := by omega
      have HKM := Lib.hid (show k = m by omega)
      rw [HKM.out, HSUM.out] at hS
      have q00 : w2.cell? ⟨w.heap.size, 0, none⟩ = some (.slice A rows.length c) := hr1o.cell 0
      have z0 := hr1o.lt
      have q10 : w2.cell? ⟨w1.heap.size + 1, 0, none⟩ = some (.bool N) := hr7.cell 0
      have q11 : w2.cell? ⟨w1.heap.size + 1, 1, none⟩ = some (.slice A' n' c') := hr7.cell 1
      have q12 : w2.cell? ⟨w1.heap.size + 1, 2, none⟩ = some (.slice B' k' d') := hr7.cell 2
      have z1 := hr7.lt
      go_wp2_with fail
      clear q00 q10 q11 q12 z0 z1
      have hl : Below w2.heap.size w2 w2 := Below.refl _ _
      refine (qprint_any _ (redP 1000 1000) (redQ 1000 1000) 1 1 2 _ (hS.below hl) (by decide) (by decide) (by decide +kernel) (by decide +kernel) (by decide +kernel) (by decide) (by decide) (by decide)).mono ?_
      rintro e w3 ⟨rfl, hb⟩
      replace hb : Below w2.heap.size w2 w3 := hl.trans (hb.mono hl.size)
      clear hl
      replace hmo := hmo.below hb
      replace hsco := hsco.below hb
      replace hr1o := hr1o.keep hb
      replace hr7 := hr7.keep hb
      replace hS := hS.below hb
      replace BBo : Below w.heap.size w w3 := BBo.trans (hb.mono BBo.size)
      clear hb
      rw [show fracText 1 1 = [49] by decide +kernel]
      clear hS
      clear hr7
      have q00 : w3.cell? ⟨w.heap.size, 0, none⟩ = some (.slice A rows.length c) := hr1o.cell 0
      have z0 := hr1o.lt
      go_wp2_with fail
      clear q00 z0
      have hl : Below w3.heap.size w3 w3 := Below.refl _ _
      refine (mexp_any _ _ rows q sc _ (hmo.below hl) (hsco.below hl) H1.out h2).mono ?_
      rintro e w4 ⟨xN, xA, xn, xc, xB, xk, xd, rfl, hX, hb⟩
      replace hb : Below w3.heap.size w3 w4 := hl.trans (hb.mono hl.size)
      clear hl
      replace hmo := hmo.below hb
      replace hsco := hsco.below hb
      replace hr1o := hr1o.keep hb
      replace BBo : Below w.heap.size w w4 := BBo.trans (hb.mono BBo.size)
      clear hb
      rw [HRR.out, HM.out] at hX
      rw [HM.out]
      obtain ⟨E, hE⟩ : ∃ E, expE m sc = E := ⟨_, rfl⟩
      rw [hE] at hX ⊢
      have HE := Lib.hid hE
      clear hE
      by_cases he : E = 0
      case neg =>
        have f := (show (E != 0) = true by rw [bne_iff_ne]; exact he)
        clear hX he
        have q00 : w4.cell? ⟨w.heap.size, 0, none⟩ = some (.slice A rows.length c) := hr1o.cell 0
        have z0 := hr1o.lt
        go_wp2_with fail
        clear q00 z0
        have hl : Below w4.heap.size w4 (w4.alloc (.cells #[.bool xN, .slice xA xn xc, .slice xB xk xd] 48)) := lit_below _ _
        have hr11 : Row (w4.alloc (.cells #[.bool xN, .slice xA xn xc, .slice xB xk xd] 48)) (w4.heap.size) 48 [.bool xN, .slice xA xn xc, .slice xB xk xd] := row_at (by simp)
        refine (awake_any _).mono ?_
        rintro e w5 ⟨rfl, hb⟩
        replace hr11 := hr11.keep hb
        replace hb : Below w4.heap.size w4 w5 := hl.trans (hb.mono hl.size)
        clear hl
        replace hmo := hmo.below hb
        replace hsco := hsco.below hb
        replace hr1o := hr1o.keep hb
        replace BBo : Below w.heap.size w w5 := BBo.trans (hb.mono BBo.size)
        clear hb
        go_wp2_with fail
        go_ret
        exact ⟨rfl, BBo⟩
      case pos =>
        have hXA := (hX he).ratA (redQ_pos (by decide))
        subst he
        clear hX
        obtain ⟨l1, l2⟩ := expE_zero HE.out
        have hin := fun j (hj : j < sc.length) => scOk_at l2 hj
        have hn0 : 0 < sc.length := by omega
        have HMN := Lib.hid (fun k hk => minTo_in hn0 hin k hk)
        have HMX := Lib.hid (fun k hk => maxTo_in hn0 hin k hk)
        have HLO : Hid (minTo sc sc.length * 1000 ≤ expS r sc m) := (by have := expS_lo (r := r) (sc := sc) (lo := minTo sc sc.length) HRX.out (fun j hj => minTo_le sc _ j hj) m (by rw [HRL.out]; exact Nat.le_refl _) (by omega); rwa [HSUM.out] at this)
        have HHI : Hid (expS r sc m ≤ maxTo sc sc.length * 1000) := (by have := expS_hi (r := r) (sc := sc) (hi := maxTo sc sc.length) HRX.out (fun j hj => le_maxTo sc _ j hj) m (by rw [HRL.out]; exact Nat.le_refl _) (by omega); rwa [HSUM.out] at this)
        clear hin l2
        have L1 := Lib.hid l1
        clear l1
        have HDC := Lib.hid hDs
        obtain ⟨bD, oD, rfl, hbD, hDc0⟩ := hDs.num hn0
        have HD := Lib.hid hDc0
        clear hDc0 HDC hDs
        have q00 : w4.cell? ⟨w.heap.size, 0, none⟩ = some (.slice A rows.length c) := hr1o.cell 0
        have z0 := hr1o.lt
        go_wp2_with fail
        clear q00 z0
        have hl : Below w4.heap.size w4 (w4.alloc (.cells #[.bool xN, .slice xA xn xc, .slice xB xk xd] 48)) := lit_below _ _
        have hr11 : Row (w4.alloc (.cells #[.bool xN, .slice xA xn xc, .slice xB xk xd] 48)) (w4.heap.size) 48 [.bool xN, .slice xA xn xc, .slice xB xk xd] := row_at (by simp)
        replace hmo := hmo.below hl
        replace hsco := hsco.below hl
        replace hr1o := hr1o.keep hl
        replace hXA := hXA.below hl
        replace BBo : Below w.heap.size w (w4.alloc (.cells #[.bool xN, .slice xA xn xc, .slice xB xk xd] 48)) := BBo.trans (hl.mono BBo.size)
        clear hl
        generalize (w4.alloc (.cells #[.bool xN, .slice xA xn xc, .slice xB xk xd] 48)) = w5 at *
        have gd0 : w5.cell? ⟨bD, oD, none⟩ = some (.int .i64 (sc.getD 0 0)) := (BBo.cell (p := ⟨bD, oD, none⟩) hbD).trans (by have := HD.out 0 hn0; rwa [Nat.add_zero] at this)
        have HM0 : Hid (minTo sc 0 = sc.getD 0 0 ∧ maxTo sc 0 = sc.getD 0 0) := ⟨rfl, rfl⟩
        generalize sc.getD 0 0 = z0' at *
        go_quiet (fail)
        clear gd0
        rename_i nq
        have hbq : Below w5.heap.size w5 (w5.drewN nq) := below_drewN (Below.refl _ _) nq
        replace hmo := hmo.below hbq
        replace hsco := hsco.below hbq
        replace hr1o := hr1o.keep hbq
        replace hXA := hXA.below hbq
        replace hr11 := hr11.keep hbq
        replace BBo := BBo.trans (hbq.mono BBo.size)
        clear hbq
        generalize w5.drewN nq = wq at *
        have q00 : wq.cell? ⟨w.heap.size, 0, none⟩ = some (.slice A rows.length c) := hr1o.cell 0
        have z0 := hr1o.lt
        have q10 : wq.cell? ⟨w4.heap.size, 0, none⟩ = some (.bool xN) := hr11.cell 0
        have q11 : wq.cell? ⟨w4.heap.size, 1, none⟩ = some (.slice xA xn xc) := hr11.cell 1
        have q12 : wq.cell? ⟨w4.heap.size, 2, none⟩ = some (.slice xB xk xd) := hr11.cell 2
        have z1 := hr11.lt
        go_wp2_with fail
        clear q00 q10 q11 q12 z0 z1
        go_loopw [13, 14, 15] (fun a b i wr => ∃ j : Nat, j ≤ sc.length ∧ i = .int .i64 (j : Int) ∧ a = .int .i64 (minTo sc j) ∧ b = .int .i64 (maxTo sc j) ∧ ∃ d, wr = wq.drewN d) (fun _ _ i _ => sc.length - (intOf i).toNat)
        case atStart => exact ⟨0, by omega, rfl, by rw [HM0.out.1], by rw [HM0.out.2], 0, rfl⟩
        case round =>
          obtain ⟨j, hj, rfl, rfl, rfl, d, rfl⟩ := hrel
          by_cases hltj : j < sc.length
          case pos =>
            have gd := (BBo.cell (p := ⟨bD, oD + j, none⟩) hbD).trans (HD.out j hltj)
            have HN1 : Hid (minTo sc (j + 1) = if sc.getD j 0 < minTo sc j then sc.getD j 0 else minTo sc j) := rfl
            have HX1 : Hid (maxTo sc (j + 1) = if maxTo sc j < sc.getD j 0 then sc.getD j 0 else maxTo sc j) := rfl
            generalize sc.getD j 0 = x at *
            generalize minTo sc j = lo at *
            generalize maxTo sc j = hi at *
            have ij1 : 0 ≤ (j : Int) := by omega
            have ij2 : (j : Int) < (sc.length : Int) := by omega
            go_wp2_with fail
            go_quiet (fail)
            go_wp2_with fail
            go_roundw
            case rel => exact ⟨j + 1, by omega, by go_num, by rw [HN1.out]; congr 1; split <;> omega, by rw [HX1.out]; congr 1; split <;> omega, _, rfl⟩
            case measure => simp [intOf]; omega
          case neg =>
            have hge2 : sc.length ≤ j := by omega
            have HJS := Lib.hid (show j = sc.length by omega)
            obtain ⟨lo, hlo⟩ : ∃ x, minTo sc j = x := ⟨_, rfl⟩
            obtain ⟨hi, hhi⟩ : ∃ x, maxTo sc j = x := ⟨_, rfl⟩
            have b1 := HMN.out j hj
            have b2 := HMX.out j hj
            rw [hlo] at b1 ⊢
            rw [hhi] at b2 ⊢
            rw [← HJS.out, hlo] at HLO
            rw [← HJS.out, hhi] at HHI
            clear hlo hhi
            have hbq : Below wq.heap.size wq (wq.drewN d) := below_drewN (Below.refl _ _) d
            replace hmo := hmo.below hbq
            replace hsco := hsco.below hbq
            replace hr1o := hr1o.keep hbq
            replace hXA := hXA.below hbq
            replace hr11 := hr11.keep hbq
            replace BBo := BBo.trans (hbq.mono BBo.size)
            clear hbq
            generalize wq.drewN d = wz at *
            have q00 : wz.cell? ⟨w.heap.size, 0, none⟩ = some (.slice A rows.length c) := hr1o.cell 0
            have z0 := hr1o.lt
            have q10 : wz.cell? ⟨w4.heap.size, 0, none⟩ = some (.bool xN) := hr11.cell 0
            have q11 : wz.cell? ⟨w4.heap.size, 1, none⟩ = some (.slice xA xn xc) := hr11.cell 1
            have q12 : wz.cell? ⟨w4.heap.size, 2, none⟩ = some (.slice xB xk xd) := hr11.cell 2
            have z1 := hr11.lt
            go_wp2_with fail
            clear q00 q10 q11 q12 z0 z1
            have hl : Below wz.heap.size wz wz := Below.refl _ _
            refine (qof_any lo 1 _ (by omega) (by omega) (by omega) (by omega)).mono ?_
            rintro e w6 ⟨vRa, rfl, hFRa, hb⟩
            replace hb : Below wz.heap.size wz w6 := hl.trans (hb.mono hl.size)
            clear hl
            replace hmo := hmo.below hb
            replace hsco := hsco.below hb
            replace hr1o := hr1o.keep hb
            replace hXA := hXA.below hb
            replace hr11 := hr11.keep hb
            replace BBo : Below w.heap.size w w6 := BBo.trans (hb.mono BBo.size)
            clear hb
            rw [show Int.toNat 1 = 1 from rfl, (redQ_one lo).1, (redQ_one lo).2] at hFRa
            have hRa := hFRa.ratA (by decide)
            clear hFRa
            obtain ⟨RaN, RaA, Ran, Rac, RaB, Rak, Rad, rfl⟩ := hRa.show_
            have q00 : w6.cell? ⟨w.heap.size, 0, none⟩ = some (.slice A rows.length c) := hr1o.cell 0
            have z0 := hr1o.lt
            have q10 : w6.cell? ⟨w4.heap.size, 0, none⟩ = some (.bool xN) := hr11.cell 0
            have q11 : w6.cell? ⟨w4.heap.size, 1, none⟩ = some (.slice xA xn xc) := hr11.cell 1
            have q12 : w6.cell? ⟨w4.heap.size, 2, none⟩ = some (.slice xB xk xd) := hr11.cell 2
            have z1 := hr11.lt
            go_wp2_with fail
            clear q00 q10 q11 q12 z0 z1
            have hl : Below w6.heap.size w6 (w6.alloc (.cells #[.bool RaN, .slice RaA Ran Rac, .slice RaB Rak Rad] 48)) := lit_below _ _
            have hr16 : Row (w6.alloc (.cells #[.bool RaN, .slice RaA Ran Rac, .slice RaB Rak Rad] 48)) (w6.heap.size) 48 [.bool RaN, .slice RaA Ran Rac, .slice RaB Rak Rad] := row_at (by simp)
            refine (qof_any hi 1 _ (by omega) (by omega) (by omega) (by omega)).mono ?_
            rintro e w7 ⟨vRb, rfl, hFRb, hb⟩
            replace hr16 := hr16.keep hb
            replace hb : Below w6.heap.size w6 w7 := hl.trans (hb.mono hl.size)
            clear hl
            replace hmo := hmo.below hb
            replace hsco := hsco.below hb
            replace hr1o := hr1o.keep hb
            replace hXA := hXA.below hb
            replace hr11 := hr11.keep hb
            replace hRa := hRa.below hb
            replace BBo : Below w.heap.size w w7 := BBo.trans (hb.mono BBo.size)
            clear hb
            rw [show Int.toNat 1 = 1 from rfl, (redQ_one hi).1, (redQ_one hi).2] at hFRb
            have hRb := hFRb.ratA (by decide)
            clear hFRb
            obtain ⟨RbN, RbA, Rbn, Rbc, RbB, Rbk, Rbd, rfl⟩ := hRb.show_
            have HC1 := Lib.hid (cmp_le (a := lo * (redQ (expS r sc m) 1000 : Int)) (b := redP (expS r sc m) 1000 * ((1 : Nat) : Int)) (by have := cmp_lo (q := 1000) (by decide) HLO.out; omega))
            have HC2 := Lib.hid (cmp_le (a := redP (expS r sc m) 1000 * ((1 : Nat) : Int)) (b := hi * (redQ (expS r sc m) 1000 : Int)) (by have := cmp_hi (q := 1000) (by decide) HHI.out; omega))
            have q00 : w7.cell? ⟨w.heap.size, 0, none⟩ = some (.slice A rows.length c) := hr1o.cell 0
            have z0 := hr1o.lt
            have q10 : w7.cell? ⟨w4.heap.size, 0, none⟩ = some (.bool xN) := hr11.cell 0
            have q11 : w7.cell? ⟨w4.heap.size, 1, none⟩ = some (.slice xA xn xc) := hr11.cell 1
            have q12 : w7.cell? ⟨w4.heap.size, 2, none⟩ = some (.slice xB xk xd) := hr11.cell 2
            have z1 := hr11.lt
            have q20 : w7.cell? ⟨w6.heap.size, 0, none⟩ = some (.bool RaN) := hr16.cell 0
            have q21 : w7.cell? ⟨w6.heap.size, 1, none⟩ = some (.slice RaA Ran Rac) := hr16.cell 1
            have q22 : w7.cell? ⟨w6.heap.size, 2, none⟩ = some (.slice RaB Rak Rad) := hr16.cell 2
            have z2 := hr16.lt
            go_wp2_with fail
            clear q00 q10 q11 q12 q20 q21 q22 z0 z1 z2
            have hl : Below w7.heap.size w7 (w7.alloc (.cells #[.bool RbN, .slice RbA Rbn Rbc, .slice RbB Rbk Rbd] 48)) := lit_below _ _
            have hr18 : Row (w7.alloc (.cells #[.bool RbN, .slice RbA Rbn Rbc, .slice RbB Rbk Rbd] 48)) (w7.heap.size) 48 [.bool RbN, .slice RbA Rbn Rbc, .slice RbB Rbk Rbd] := row_at (by simp)
            refine (qcmp_any _ _ lo (redP (expS r sc m) 1000) 1 (redQ (expS r sc m) 1000) 2 _ (hRa.below hl) (hXA.below hl) (by decide) (by decide)).mono ?_
            rintro e w8 ⟨rfl, hb⟩
            replace hr18 := hr18.keep hb
            replace hb : Below w7.heap.size w7 w8 := hl.trans (hb.mono hl.size)
            clear hl
            replace hmo := hmo.below hb
            replace hsco := hsco.below hb
            replace hr1o := hr1o.keep hb
            replace hXA := hXA.below hb
            replace hr11 := hr11.keep hb
            replace hRa := hRa.below hb
            replace hr16 := hr16.keep hb
            replace hRb := hRb.below hb
            replace BBo : Below w.heap.size w w8 := BBo.trans (hb.mono BBo.size)
            clear hb
            have c1 := HC1.out
            generalize cmpZ (lo * (redQ (expS r sc m) 1000 : Int)) (redP (expS r sc m) 1000 * ((1 : Nat) : Int)) = y1 at *
            have c1' : decide (y1 ≤ 0) = true := decide_eq_true c1
            have q00 : w8.cell? ⟨w.heap.size, 0, none⟩ = some (.slice A rows.length c) := hr1o.cell 0
            have z0 := hr1o.lt
            have q10 : w8.cell? ⟨w4.heap.size, 0, none⟩ = some (.bool xN) := hr11.cell 0
            have q11 : w8.cell? ⟨w4.heap.size, 1, none⟩ = some (.slice xA xn xc) := hr11.cell 1
            have q12 : w8.cell? ⟨w4.heap.size, 2, none⟩ = some (.slice xB xk xd) := hr11.cell 2
            have z1 := hr11.lt
            have q20 : w8.cell? ⟨w6.heap.size, 0, none⟩ = some (.bool RaN) := hr16.cell 0
            have q21 : w8.cell? ⟨w6.heap.size, 1, none⟩ = some (.slice RaA Ran Rac) := hr16.cell 1
            have q22 : w8.cell? ⟨w6.heap.size, 2, none⟩ = some (.slice RaB Rak Rad) := hr16.cell 2
            have z2 := hr16.lt
            have q30 : w8.cell? ⟨w7.heap.size, 0, none⟩ = some (.bool RbN) := hr18.cell 0
            have q31 : w8.cell? ⟨w7.heap.size, 1, none⟩ = some (.slice RbA Rbn Rbc) := hr18.cell 1
            have q32 : w8.cell? ⟨w7.heap.size, 2, none⟩ = some (.slice RbB Rbk Rbd) := hr18.cell 2
            have z3 := hr18.lt
            go_wp2_with fail
            clear q00 q10 q11 q12 q20 q21 q22 q30 q31 q32 z0 z1 z2 z3
            have hl : Below w8.heap.size w8 w8 := Below.refl _ _
            refine (qcmp_any _ _ (redP (expS r sc m) 1000) hi (redQ (expS r sc m) 1000) 1 2 _ (hXA.below hl) (hRb.below hl) (by decide) (by decide)).mono ?_
            rintro e w9 ⟨rfl, hb⟩
            replace hb : Below w8.heap.size w8 w9 := hl.trans (hb.mono hl.size)
            clear hl
            replace hmo := hmo.below hb
            replace hsco := hsco.below hb
            replace hr1o := hr1o.keep hb
            replace hXA := hXA.below hb
            replace hr11 := hr11.keep hb
            replace hRa := hRa.below hb
            replace hr16 := hr16.keep hb
            replace hRb := hRb.below hb
            replace hr18 := hr18.keep hb
            replace BBo : Below w.heap.size w w9 := BBo.trans (hb.mono BBo.size)
            clear hb
            have c2 := HC2.out
            generalize cmpZ (redP (expS r sc m) 1000 * ((1 : Nat) : Int)) (hi * (redQ (expS r sc m) 1000 : Int)) = y2 at *
            have c2' : decide (y2 ≤ 0) = true := decide_eq_true c2
            have q00 : w9.cell? ⟨w.heap.size, 0, none⟩ = some (.slice A rows.length c) := hr1o.cell 0
            have z0 := hr1o.lt
            have q10 : w9.cell? ⟨w4.heap.size, 0, none⟩ = some (.bool xN) := hr11.cell 0
            have q11 : w9.cell? ⟨w4.heap.size, 1, none⟩ = some (.slice xA xn xc) := hr11.cell 1
            have q12 : w9.cell? ⟨w4.heap.size, 2, none⟩ = some (.slice xB xk xd) := hr11.cell 2
            have z1 := hr11.lt
            have q20 : w9.cell? ⟨w6.heap.size, 0, none⟩ = some (.bool RaN) := hr16.cell 0
            have q21 : w9.cell? ⟨w6.heap.size, 1, none⟩ = some (.slice RaA Ran Rac) := hr16.cell 1
            have q22 : w9.cell? ⟨w6.heap.size, 2, none⟩ = some (.slice RaB Rak Rad) := hr16.cell 2
            have z2 := hr16.lt
            have q30 : w9.cell? ⟨w7.heap.size, 0, none⟩ = some (.bool RbN) := hr18.cell 0
            have q31 : w9.cell? ⟨w7.heap.size, 1, none⟩ = some (.slice RbA Rbn Rbc) := hr18.cell 1
            have q32 : w9.cell? ⟨w7.heap.size, 2, none⟩ = some (.slice RbB Rbk Rbd) := hr18.cell 2
            have z3 := hr18.lt
            go_wp2_with fail
            clear q00 q10 q11 q12 q20 q21 q22 q30 q31 q32 z0 z1 z2 z3
            have hl : Below w9.heap.size w9 w9 := Below.refl _ _
            refine (awake_any _).mono ?_
            rintro e w10 ⟨rfl, hb⟩
            replace hb : Below w9.heap.size w9 w10 := hl.trans (hb.mono hl.size)
            clear hl
            replace hmo := hmo.below hb
            replace hsco := hsco.below hb
            replace hr1o := hr1o.keep hb
            replace hXA := hXA.below hb
            replace hr11 := hr11.keep hb
            replace hRa := hRa.below hb
            replace hr16 := hr16.keep hb
            replace hRb := hRb.below hb
            replace hr18 := hr18.keep hb
            replace BBo : Below w.heap.size w w10 := BBo.trans (hb.mono BBo.size)
            clear hb
            go_wp2_with fail
            go_ret
            exact ⟨rfl, BBo⟩
theorem whole_all (rv sv : Value) (rows : List (List Int)) (q : Nat) (sc : List Int) (w : World) (hm : IntsL w rv rows) (hsc : Nums .i64 w sv sc) (hq : q ≤ 255) :
    Calls Tryd.prog 9 #[.agg #[rv], .int .u8 (q : Int), sv] w fun e w' => e = .returned (.bool true) ∧ Below w.heap.size w w' := by
  by_cases h1 : modE rows (rows.length : Int) = 0
  · by_cases h2 : q < rows.length
    · exact whole_main rv sv rows q sc w hm hsc hq h1 h2
    · exact whole_out rv sv rows q sc w hm hsc hq h1 (by omega)
  · exact whole_bad rv sv rows q sc w hm hsc hq h1
end Go.Proofs.YtokpembimalhmaaDoor
