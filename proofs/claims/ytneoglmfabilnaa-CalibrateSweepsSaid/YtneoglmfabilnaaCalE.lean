/- The walk of the reference's Weights. -/
import Derived.Test.YtneoglmfabilnaaCalD
namespace Go.Proofs.Ytneoglmfabilnaa
open Go.RowKit
set_option linter.unusedVariables false

set_option maxHeartbeats 4000000 in
theorem rcweights_yes (pv rv mv xv : Value) (ps rs row : List Int) (ms : List (List (List Int))) (skip : Int) (w : World) (hp : Nums .i64 w pv ps) (hr : Nums .i64 w rv rs) (hm : ModL w mv ms) (hx : Nums .i64 w xv row) (hE : wtE ps rs row ms skip = 0) :
    Calls Try.prog 11 #[.agg #[pv, rv], mv, xv, .int .i64 skip] w fun e w' => ∃ v, e = .returned (.tuple #[v, .int .i64 0]) ∧ CanL w' v (wL rs ms row skip rs.length) 122 ∧ Below w.heap.size w w' := by
  have hbox : Below w.heap.size w (w.alloc (.cells #[pv, rv] 24)) := (Below.refl _ _).alloc (Nat.le_refl _) _
  have hp0 := hp
  have hr0 := hr
  have hm0 := hm
  have hx0 := hx
  obtain ⟨A, c, rfl, hc, hm1, hsp⟩ := hp
  obtain ⟨B, c', rfl, hc', hm2, hsr⟩ := hr
  obtain ⟨M, cM, us, rfl, k1, k2, hs, hu⟩ := hm
  obtain ⟨X, cX, rfl, x1, x2, hsx⟩ := hx
  have hrb := Row.new w 24 [.slice A ps.length c, .slice B rs.length c']
  have HU := Lib.hid hu
  have HE := Lib.hid hE
  unfold maxLen at k2 x2 hm1 hm2
  clear hu hsp hsr hE
  obtain ⟨a1, a2, a3, a4, a5, a6, a7⟩ := wtE_zero HE.out
  have g0 : (gridE ps rs != 0) = false := by rw [bne_eq_false_iff_eq]; exact a1
  have g1 : decide (60 < (ms.length : Int)) = false := by simp; omega
  have g2 : ((row.length : Int) != (ms.length : Int)) = false := by rw [bne_eq_false_iff_eq]; omega
  have g3 : (chkFrom (ps.length : Int) (-1) 0 ms != 0) = false := by rw [bne_eq_false_iff_eq]; exact a4
  have g4 : decide (skip < -1) = false := by simp; omega
  have g5 : decide ((ms.length : Int) ≤ skip) = false := by simp; omega
  have HPS := Lib.hid (show ps.length = rs.length by have := (gridE_zero a1).2.2.1; omega)
  have H21 := Lib.hid (show rs.length ≤ 21 by have h := gridE_zero a1; omega)
  have HPOK := Lib.hid (pok_of a1)
  have HWOK := Lib.hid (wok_of (ps := ps) (rs := rs) (skip := skip) a3 a4 a5 skip)
  have A2 := Lib.hid a2
  have A3 := Lib.hid a3
  have A5 := Lib.hid a5
  clear a1 a2 a3 a4 a5
  go_enter Try.func11, Try.ntmps11
  go_wp2_with fail
  refine (rgvalid_any _ _ ps rs _ (hp0.below hbox) (hr0.below hbox)).mono ?_
  rintro e w1 ⟨rfl, hb1⟩
  replace hrb := hrb.keep hb1
  have B1 : Below w.heap.size w w1 := hbox.trans (hb1.mono hbox.size)
  have q0 : w1.cell? ⟨w.heap.size, 0, none⟩ = some (.slice A ps.length c) := hrb.cell 0
  have q1 : w1.cell? ⟨w.heap.size, 1, none⟩ = some (.slice B rs.length c') := hrb.cell 1
  clear hb1
  generalize gridE ps rs = G at *
  go_wp2_with fail
  refine (rchkm_any _ ms (ps.length : Int) (-1) _ (hm0.below B1)).mono ?_
  rintro e w2 ⟨rfl, hb2⟩
  replace hrb := hrb.keep hb2
  have B2 : Below w.heap.size w w2 := B1.trans (hb2.mono B1.size)
  clear hb2 q0 q1 B1
  have q0 : w2.cell? ⟨w.heap.size, 0, none⟩ = some (.slice A ps.length c) := hrb.cell 0
  have q1 : w2.cell? ⟨w.heap.size, 1, none⟩ = some (.slice B rs.length c') := hrb.cell 1
  obtain ⟨m, hm'⟩ : ∃ m, row.length = m := ⟨_, rfl⟩
  have HM := Lib.hid hm'
  have hmm : ms.length = m := by rw [← A3.out]; exact hm'
  have HMM := Lib.hid hmm
  have hm60 : m ≤ 60 := by have := A2.out; omega
  rw [hm'] at hsx
  rw [hmm] at hs
  rw [hmm] at g1 g2 g5 a7
  rw [hm'] at g2
  rw [hm', hmm]
  clear hm' hmm
  generalize chkFrom (ps.length : Int) (-1) 0 ms = G2 at *
  go_wp2_with fail
  clear q0 q1
  go_loopw [11] (fun i wr => ∃ k : Nat, k ≤ m ∧ i = .int .i64 (k : Int) ∧ Hid (∀ i, i < k → -2 ≤ row.getD i 0 ∧ row.getD i 0 < ((catsOf (ms.getD i []) : Nat) : Int)) ∧ Row wr w.heap.size 24 [.slice A ps.length c, .slice B rs.length c'] ∧ Below w.heap.size w wr) (fun i _ => m - (intOf i).toNat)
  case atStart => exact ⟨0, by omega, rfl, by unfold Hid; intro i hi; omega, hrb, B2⟩
  case round =>
    obtain ⟨k, hk, rfl, hall, hg, hb⟩ := hrel
    clear hrb B2
    by_cases hlt : k < m
    · obtain ⟨b3, o3, rfl, hb3, hcell⟩ := hsx.num hlt
      have g6 : wr.cell? ⟨b3, o3 + k, none⟩ = some (.int .i64 (row.getD k 0)) := (hb.cell (p := ⟨b3, o3 + k, none⟩) hb3).trans (hcell k hlt)
      obtain ⟨b4, o4, u4, rfl, hb4, g7, hI⟩ := lst_at hs HU.out hlt
      have g8 : wr.cell? ⟨b4, o4 + k, none⟩ = some u4 := (hb.cell (p := ⟨b4, o4 + k, none⟩) hb4).trans g7
      have hI2 := hI.below hb
      have hI' := hI2
      obtain ⟨R, cR, vs, rfl, _, _, _, _⟩ := hI'
      clear hcell g7 hI
      have hkr : Hid (k < row.length) := by unfold Hid; rw [HM.out]; exact hlt
      have HNo := Lib.hid (fun h => rowOK_no (ms := ms) (row := row) hkr.out h)
      obtain ⟨j1, j2⟩ := rowOK_at A5.out hkr.out
      have HST : Hid (∀ i, i < k + 1 → -2 ≤ row.getD i 0 ∧ row.getD i 0 < ((catsOf (ms.getD i []) : Nat) : Int)) := by
        unfold Hid; intro i hi
        rcases Nat.lt_succ_iff_lt_or_eq.1 hi with h | h
        · exact hall.out i h
        · subst h; exact ⟨j1, j2⟩
      have i1 : 0 ≤ (k : Int) := by omega
      have i2 : (k : Int) < (m : Int) := by omega
      clear hall
      generalize hxe : row.getD k 0 = x at *
      clear hxe
      generalize hce : ms.getD k [] = rows at *
      clear hce
      have f1 : decide (x < -2) = false := by simp; omega
      have f4 : decide (((catsOf rows : Nat) : Int) ≤ x) = false := by simp; omega
      go_wp2_with fail
      go_region_held3 (fun w' => w'.cell? ⟨b3, o3 + k, none⟩ = some (.int .i64 x) ∧ w'.cell? ⟨b4, o4 + k, none⟩ = some (.slice R rows.length cR) ∧ Below wr.heap.size wr w')
        (first
          | exact ⟨g6, g8, Below.refl _ _⟩
          | exact ⟨g6, g8, (Below.refl _ _).drew⟩
          | exact ⟨(hb5.cell (p := ⟨b3, o3 + k, none⟩) (Nat.lt_of_lt_of_le hb3 hb.size)).trans g6, (hb5.cell (p := ⟨b4, o4 + k, none⟩) (Nat.lt_of_lt_of_le hb4 hb.size)).trans g8, undrew1 hb5⟩)
        ((go_at_call 34; refine (rcats_any _ rows _ ?_).mono ?_; exact hI2; rintro e w5 ⟨rfl, hb5⟩))
      have hb5a := undrew1 hb5
      have hg5 := hg.keep hb5a
      have hb5' : Below w.heap.size w w5 := hb.trans (hb5a.mono hb.size)
      clear hb5 hb5a
      generalize catsOf rows = cq at *
      go_wp2
      go_roundw
      case rel => exact ⟨k + 1, by omega, by go_num, HST, hg5, hb5'⟩
      case measure => simp [intOf]; omega
    · obtain rfl : k = m := by omega
      have q0 : wr.cell? ⟨w.heap.size, 0, none⟩ = some (.slice A ps.length c) := hg.cell 0
      have q1 : wr.cell? ⟨w.heap.size, 1, none⟩ = some (.slice B rs.length c') := hg.cell 1
      have hwf := rweights_any _ _ _ _ ps rs row ms skip _ (hp0.below hb) (hr0.below hb) (hm0.below hb) (hx0.below hb) H21.out HPS.out (by rw [A3.out]; exact A2.out) A3.out (by rw [← HPS.out]; exact HWOK.out) HPOK.out
      rw [HMM.out, HM.out] at hwf
      replace hwf := Lib.hid hwf
      go_wp2_with fail
      refine hwf.out.mono ?_
      rintro e w5 ⟨v5, rfl, hv5, hb5⟩
      go_wp2_with fail
      go_ret2
      exact ⟨v5, rfl, hv5, hb.trans (hb5.mono hb.size)⟩

set_option maxHeartbeats 4000000 in
theorem rcweights_no (pv rv mv xv : Value) (ps rs row : List Int) (ms : List (List (List Int))) (skip : Int) (w : World) (hp : Nums .i64 w pv ps) (hr : Nums .i64 w rv rs) (hm : ModL w mv ms) (hx : Nums .i64 w xv row) (hE : wtE ps rs row ms skip ≠ 0) :
    Calls Try.prog 11 #[.agg #[pv, rv], mv, xv, .int .i64 skip] w fun e w' => e = .returned (.tuple #[.slice none 0 0, .int .i64 (wtE ps rs row ms skip)]) ∧ Below w.heap.size w w' := by
  have hbox : Below w.heap.size w (w.alloc (.cells #[pv, rv] 24)) := (Below.refl _ _).alloc (Nat.le_refl _) _
  have hp0 := hp
  have hr0 := hr
  have hm0 := hm
  have hx0 := hx
  obtain ⟨A, c, rfl, hc, hm1, hsp⟩ := hp
  obtain ⟨B, c', rfl, hc', hm2, hsr⟩ := hr
  obtain ⟨M, cM, us, rfl, k1, k2, hs, hu⟩ := hm
  obtain ⟨X, cX, rfl, x1, x2, hsx⟩ := hx
  have hrb := Row.new w 24 [.slice A ps.length c, .slice B rs.length c']
  have HU := Lib.hid hu
  have HE := Lib.hid hE
  unfold maxLen at k2 x2 hm1 hm2
  clear hu hsp hsr hE
  go_enter Try.func11, Try.ntmps11
  go_wp2_with fail
  refine (rgvalid_any _ _ ps rs _ (hp0.below hbox) (hr0.below hbox)).mono ?_
  rintro e w1 ⟨rfl, hb1⟩
  replace hrb := hrb.keep hb1
  have B1 : Below w.heap.size w w1 := hbox.trans (hb1.mono hbox.size)
  have q0 : w1.cell? ⟨w.heap.size, 0, none⟩ = some (.slice A ps.length c) := hrb.cell 0
  have q1 : w1.cell? ⟨w.heap.size, 1, none⟩ = some (.slice B rs.length c') := hrb.cell 1
  clear hb1
  by_cases a1 : gridE ps rs = 0
  case neg =>
    have g0 : (gridE ps rs != 0) = true := by rw [bne_iff_ne]; exact a1
    have HW := Lib.hid (show wtE ps rs row ms skip = gridE ps rs by unfold wtE; rw [if_pos a1])
    clear a1
    generalize gridE ps rs = G at *
    go_wp2_with fail
    go_ret2
    exact ⟨by rw [HW.out]; rfl, B1⟩
  have g0 : (gridE ps rs != 0) = false := by rw [bne_eq_false_iff_eq]; exact a1
  by_cases a2 : 60 < ms.length
  · have g1 : decide (60 < (ms.length : Int)) = true := by simp; omega
    have HW := Lib.hid (show wtE ps rs row ms skip = 5 by unfold wtE; rw [if_neg (by simpa using a1), if_pos a2])
    clear a1
    generalize gridE ps rs = G at *
    go_wp2_with fail
    go_ret2
    exact ⟨by rw [HW.out]; rfl, B1⟩
  have g1 : decide (60 < (ms.length : Int)) = false := by simp; omega
  by_cases a3 : row.length = ms.length
  case neg =>
    have g2 : ((row.length : Int) != (ms.length : Int)) = true := by rw [bne_iff_ne]; omega
    have HW := Lib.hid (show wtE ps rs row ms skip = 1 by unfold wtE; rw [if_neg (by simpa using a1), if_neg a2, if_pos a3])
    clear a1 a3
    generalize gridE ps rs = G at *
    go_wp2_with fail
    go_ret2
    exact ⟨by rw [HW.out]; rfl, B1⟩
  have g2 : ((row.length : Int) != (ms.length : Int)) = false := by rw [bne_eq_false_iff_eq]; omega
  have A1 := Lib.hid a1
  have A2 := Lib.hid a2
  have A3 := Lib.hid a3
  clear a1 a3
  go_wp2_with fail
  refine (rchkm_any _ ms (ps.length : Int) (-1) _ (hm0.below B1)).mono ?_
  rintro e w2 ⟨rfl, hb2⟩
  replace hrb := hrb.keep hb2
  have B2 : Below w.heap.size w w2 := B1.trans (hb2.mono B1.size)
  clear hb2 q0 q1 B1
  have q0 : w2.cell? ⟨w.heap.size, 0, none⟩ = some (.slice A ps.length c) := hrb.cell 0
  have q1 : w2.cell? ⟨w.heap.size, 1, none⟩ = some (.slice B rs.length c') := hrb.cell 1
  by_cases a4 : chkFrom (ps.length : Int) (-1) 0 ms = 0
  case neg =>
    have g3 : (chkFrom (ps.length : Int) (-1) 0 ms != 0) = true := by rw [bne_iff_ne]; exact a4
    have HW := Lib.hid (show wtE ps rs row ms skip = chkFrom (ps.length : Int) (-1) 0 ms by unfold wtE; rw [if_neg (by simpa using A1.out), if_neg A2.out, if_neg (by simpa using A3.out), if_pos a4])
    clear a4 A1
    generalize chkFrom (ps.length : Int) (-1) 0 ms = G2 at *
    go_wp2_with fail
    go_ret2
    exact ⟨by rw [HW.out]; rfl, B2⟩
  have g3 : (chkFrom (ps.length : Int) (-1) 0 ms != 0) = false := by rw [bne_eq_false_iff_eq]; exact a4
  have A4 := Lib.hid a4
  clear a4
  obtain ⟨m, hm'⟩ : ∃ m, row.length = m := ⟨_, rfl⟩
  have HM := Lib.hid hm'
  have hmm : ms.length = m := by rw [← A3.out]; exact hm'
  have HMM := Lib.hid hmm
  have hm60 : m ≤ 60 := by have := A2.out; omega
  rw [hm'] at hsx
  rw [hmm] at hs
  rw [hmm] at g1 g2 a2
  rw [hm'] at g2
  rw [hm', hmm]
  clear hm' hmm
  go_wp2_with fail
  clear q0 q1
  go_loopw [11] (fun i wr => ∃ k : Nat, k ≤ m ∧ i = .int .i64 (k : Int) ∧ Hid (∀ i, i < k → -2 ≤ row.getD i 0 ∧ row.getD i 0 < ((catsOf (ms.getD i []) : Nat) : Int)) ∧ Row wr w.heap.size 24 [.slice A ps.length c, .slice B rs.length c'] ∧ Below w.heap.size w wr) (fun i _ => m - (intOf i).toNat)
  case atStart => exact ⟨0, by omega, rfl, by unfold Hid; intro i hi; omega, hrb, B2⟩
  case round =>
    obtain ⟨k, hk, rfl, hall, hg, hb⟩ := hrel
    clear hrb B2
    by_cases hlt : k < m
    · obtain ⟨b3, o3, rfl, hb3, hcell⟩ := hsx.num hlt
      have g6 : wr.cell? ⟨b3, o3 + k, none⟩ = some (.int .i64 (row.getD k 0)) := (hb.cell (p := ⟨b3, o3 + k, none⟩) hb3).trans (hcell k hlt)
      obtain ⟨b4, o4, u4, rfl, hb4, g7, hI⟩ := lst_at hs HU.out hlt
      have g8 : wr.cell? ⟨b4, o4 + k, none⟩ = some u4 := (hb.cell (p := ⟨b4, o4 + k, none⟩) hb4).trans g7
      have hI2 := hI.below hb
      have hI' := hI2
      obtain ⟨R, cR, vs, rfl, _, _, _, _⟩ := hI'
      clear hcell g7 hI
      have hkr : Hid (k < row.length) := by unfold Hid; rw [HM.out]; exact hlt
      have HNo := Lib.hid (fun h => rowOK_no (ms := ms) (row := row) hkr.out h)
      have HST : Hid (-2 ≤ row.getD k 0 → row.getD k 0 < ((catsOf (ms.getD k []) : Nat) : Int) → ∀ i, i < k + 1 → -2 ≤ row.getD i 0 ∧ row.getD i 0 < ((catsOf (ms.getD i []) : Nat) : Int)) := by
        unfold Hid; intro h1 h2 i hi
        rcases Nat.lt_succ_iff_lt_or_eq.1 hi with h | h
        · exact hall.out i h
        · subst h; exact ⟨h1, h2⟩
      have i1 : 0 ≤ (k : Int) := by omega
      have i2 : (k : Int) < (m : Int) := by omega
      clear hall
      generalize hxe : row.getD k 0 = x at *
      clear hxe
      generalize hce : ms.getD k [] = rows at *
      clear hce
      by_cases e1 : x < -2
      · have f1 : decide (x < -2) = true := by simpa using e1
        have HW := Lib.hid (show wtE ps rs row ms skip = 3 by unfold wtE; rw [if_neg (by simpa using A1.out), if_neg A2.out, if_neg (by simpa using A3.out), if_neg (by simpa using A4.out), if_pos (HNo.out (by omega))])
        go_wp2_with fail
        go_quiet (fail)
        go_wp2
        go_ret2
        exact ⟨by rw [HW.out]; rfl, below_drewN hb _⟩
      have f1 : decide (x < -2) = false := by simpa using e1
      by_cases e4 : ((catsOf rows : Nat) : Int) ≤ x
      · have f4 : decide (((catsOf rows : Nat) : Int) ≤ x) = true := by simpa using e4
        have HW := Lib.hid (show wtE ps rs row ms skip = 3 by unfold wtE; rw [if_neg (by simpa using A1.out), if_neg A2.out, if_neg (by simpa using A3.out), if_neg (by simpa using A4.out), if_pos (HNo.out (by omega))])
        go_wp2_with fail
        go_region_held3 (fun w' => w'.cell? ⟨b3, o3 + k, none⟩ = some (.int .i64 x) ∧ w'.cell? ⟨b4, o4 + k, none⟩ = some (.slice R rows.length cR) ∧ Below wr.heap.size wr w')
          (first
            | exact ⟨g6, g8, Below.refl _ _⟩
            | exact ⟨g6, g8, (Below.refl _ _).drew⟩
            | exact ⟨(hb5.cell (p := ⟨b3, o3 + k, none⟩) (Nat.lt_of_lt_of_le hb3 hb.size)).trans g6, (hb5.cell (p := ⟨b4, o4 + k, none⟩) (Nat.lt_of_lt_of_le hb4 hb.size)).trans g8, undrew1 hb5⟩)
          ((go_at_call 34; refine (rcats_any _ rows _ ?_).mono ?_; exact hI2; rintro e w5 ⟨rfl, hb5⟩))
        have hb5a := undrew1 hb5
        have hg5 := hg.keep hb5a
        have hb5' : Below w.heap.size w w5 := hb.trans (hb5a.mono hb.size)
        clear hb5 hb5a
        generalize catsOf rows = cq at *
        go_wp2
        go_ret2
        exact ⟨by rw [HW.out]; rfl, hb5'⟩
      have f4 : decide (((catsOf rows : Nat) : Int) ≤ x) = false := by simpa using e4
      have HZ' := Lib.hid (HST.out (by omega) (by omega))
      go_wp2_with fail
      go_region_held3 (fun w' => w'.cell? ⟨b3, o3 + k, none⟩ = some (.int .i64 x) ∧ w'.cell? ⟨b4, o4 + k, none⟩ = some (.slice R rows.length cR) ∧ Below wr.heap.size wr w')
        (first
          | exact ⟨g6, g8, Below.refl _ _⟩
          | exact ⟨g6, g8, (Below.refl _ _).drew⟩
          | exact ⟨(hb5.cell (p := ⟨b3, o3 + k, none⟩) (Nat.lt_of_lt_of_le hb3 hb.size)).trans g6, (hb5.cell (p := ⟨b4, o4 + k, none⟩) (Nat.lt_of_lt_of_le hb4 hb.size)).trans g8, undrew1 hb5⟩)
        ((go_at_call 34; refine (rcats_any _ rows _ ?_).mono ?_; exact hI2; rintro e w5 ⟨rfl, hb5⟩))
      have hb5a := undrew1 hb5
      have hg5 := hg.keep hb5a
      have hb5' : Below w.heap.size w w5 := hb.trans (hb5a.mono hb.size)
      clear hb5 hb5a
      generalize catsOf rows = cq at *
      go_wp2
      go_roundw
      case rel => exact ⟨k + 1, by omega, by go_num, HZ', hg5, hb5'⟩
      case measure => simp [intOf]; omega
    · obtain rfl : k = m := by omega
      have q0 : wr.cell? ⟨w.heap.size, 0, none⟩ = some (.slice A ps.length c) := hg.cell 0
      have q1 : wr.cell? ⟨w.heap.size, 1, none⟩ = some (.slice B rs.length c') := hg.cell 1
      have HRO := Lib.hid (rowOK_yes (ms := ms) (row := row) (fun i hi => hall.out i (by rw [HM.out] at hi; exact hi)))
      have HS3 : Hid (skip < -1 ∨ (k : Int) ≤ skip) := by
        unfold Hid
        rcases Int.lt_or_le skip (-1) with h | h
        · exact .inl h
        · rcases Int.lt_or_le skip (k : Int) with h' | h'
          · refine absurd ?_ HE.out
            unfold wtE
            rw [if_neg (by simpa using A1.out), if_neg A2.out, if_neg (by simpa using A3.out), if_neg (by simpa using A4.out), if_neg (by simp [HRO.out]), if_neg (by rw [HMM.out]; omega)]
          · exact .inr h'
      have HW := Lib.hid (show wtE ps rs row ms skip = 3 by
        unfold wtE
        rw [if_neg (by simpa using A1.out), if_neg A2.out, if_neg (by simpa using A3.out), if_neg (by simpa using A4.out), if_neg (by simp [HRO.out]), if_pos (by rw [HMM.out]; exact HS3.out)])
      clear hall
      by_cases e5 : skip < -1
      · have f5 : decide (skip < -1) = true := by simpa using e5
        go_wp2_with fail
        go_ret2
        exact ⟨by rw [HW.out]; rfl, hb⟩
      · have f5 : decide (skip < -1) = false := by simpa using e5
        have e6 : (k : Int) ≤ skip := by have := HS3.out; omega
        have f6 : decide ((k : Int) ≤ skip) = true := by simpa using e6
        go_wp2_with fail
        go_ret2
        exact ⟨by rw [HW.out]; rfl, hb⟩
end Go.Proofs.Ytneoglmfabilnaa
