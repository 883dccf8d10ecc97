/- The walk of calibrate.Choose. -/
import Derived.Test.YtneoglmfabilnaaChoP
import Derived.Test.YtneoglmfabilnaaOwn
namespace Go.Proofs.Ytneoglmfabilnaa
open Go.RowKit
set_option linter.unusedVariables false

set_option maxHeartbeats 8000000 in
theorem choose_any (pv rv mv qv iv cv : Value) (ps rs : List Int) (ms : List (List (List Int))) (qs is : List Int) (cs : List (List Int)) (i : Int) (fv : Value) (fam : List (List (List Int))) (w : World) (hp : Nums .i64 w pv ps) (hr : Nums .i64 w rv rs) (hm : ModL w mv ms) (hq : Nums .i64 w qv qs) (hi : Nums .i64 w iv is) (hc : IntsL w cv cs) (hf : ModL w fv fam) :
    Calls Try.prog 18 #[.agg #[pv, rv], mv, .agg #[qv, iv, cv], .int .i64 i, fv] w fun e w' => e = .returned (.tuple #[.int .i64 ((chV ps rs ms qs is cs i fam : Nat) : Int), .int .i64 (chE ps rs ms qs is cs i fam)]) ∧ Below w.heap.size w w' := by
  have hp0 := hp
  have hr0 := hr
  have hm0 := hm
  have hq0 := hq
  have hi0 := hi
  have hc0 := hc
  have hf0 := hf
  obtain ⟨A, c, rfl, hc1, hm1, hsp⟩ := hp
  obtain ⟨B, c', rfl, hc', hm2, hsr⟩ := hr
  obtain ⟨M, cM, us, rfl, k1, k2, hs, hu⟩ := hm
  obtain ⟨X, cX, rfl, x1, x2, x3⟩ := hq
  obtain ⟨Y, cY, rfl, y1, y2, y3⟩ := hi
  obtain ⟨Z, cZ, vs, rfl, z1, z2, hsc, hcu⟩ := hc
  obtain ⟨Q, cQ, fs, rfl, fq1, fq2, hsf, hfu⟩ := hf
  have HC := Lib.hid hcu
  have HF := Lib.hid hfu
  unfold maxLen at fq2 k2 x2 y2 z2 hm1 hm2
  clear hfu hu hs hsp hsr x3 y3 hcu
  have hgb := (Row.new w 24 [.slice A ps.length c, .slice B rs.length c']).alloc (.cells #[.slice X qs.length cX, .slice Y is.length cY, .slice Z cs.length cZ] 36)
  have hmb := Row.new (w.alloc (.cells #[.slice A ps.length c, .slice B rs.length c'] 24)) 36 [.slice X qs.length cX, .slice Y is.length cY, .slice Z cs.length cZ]
  have B0 : Below w.heap.size w ((w.alloc (.cells #[.slice A ps.length c, .slice B rs.length c'] 24)).alloc (.cells #[.slice X qs.length cX, .slice Y is.length cY, .slice Z cs.length cZ] 36)) := ((Below.refl _ _).alloc (Nat.le_refl _) _).alloc (by simp) _
  rw [show (w.alloc (.cells #[.slice A ps.length c, .slice B rs.length c'] 24)).heap.size = w.heap.size + 1 by simp] at hmb
  go_enter Try.func18, Try.ntmps18
  go_wp2_with fail
  refine (gvalid_any _ _ ps rs _ (hp0.below B0) (hr0.below B0)).mono ?_
  rintro e w1 ⟨rfl, hb1⟩
  have B1 : Below w.heap.size w w1 := B0.trans (hb1.mono B0.size)
  replace hgb := hgb.keep hb1
  replace hmb := hmb.keep hb1
  clear hb1 B0
  have qg0 : w1.cell? ⟨w.heap.size, 0, none⟩ = some (.slice A ps.length c) := hgb.cell 0
  have qg1 : w1.cell? ⟨w.heap.size, 1, none⟩ = some (.slice B rs.length c') := hgb.cell 1
  have q0 : w1.cell? ⟨w.heap.size + 1, 0, none⟩ = some (.slice X qs.length cX) := hmb.cell 0
  have q1 : w1.cell? ⟨w.heap.size + 1, 1, none⟩ = some (.slice Y is.length cY) := hmb.cell 1
  have q2 : w1.cell? ⟨w.heap.size + 1, 2, none⟩ = some (.slice Z cs.length cZ) := hmb.cell 2
  by_cases e1 : gridE ps rs = 0
  case neg =>
    have HE := Lib.hid (chE_1 (ms := ms) (qs := qs) (is := is) (cs := cs) (i := i) (fam := fam) e1)
    have f1 : (gridE ps rs != 0) = true := by rw [bne_iff_ne]; exact e1
    have HV := Lib.hid (chV_bad HE.out e1)
    clear e1
    generalize gridE ps rs = E at *
    go_wp2_with fail
    go_ret2
    exact ⟨by rw [HE.out, HV.out]; rfl, B1⟩
  have f1 : (gridE ps rs != 0) = false := by rw [bne_eq_false_iff_eq]; exact e1
  have E1 := Lib.hid e1
  clear e1
  generalize gridE ps rs = E at f1 ⊢
  by_cases e2 : 60 < ms.length
  case pos =>
    have HE := Lib.hid (chE_2 (qs := qs) (is := is) (cs := cs) (i := i) (fam := fam) E1.out (.inl e2))
    have f2 : decide (60 < (ms.length : Int)) = true := by simp; omega
    have HV := Lib.hid (chV_bad HE.out (by omega))
    go_wp2_with fail
    go_ret2
    exact ⟨by rw [HE.out, HV.out]; rfl, B1⟩
  have f2 : decide (60 < (ms.length : Int)) = false := by simp; omega
  by_cases e2' : 24 < fam.length
  case pos =>
    have HE := Lib.hid (chE_2 (ms := ms) (qs := qs) (is := is) (cs := cs) (i := i) E1.out (.inr e2'))
    have f3 : decide (24 < (fam.length : Int)) = true := by simp; omega
    have HV := Lib.hid (chV_bad HE.out (by omega))
    go_wp2_with fail
    go_ret2
    exact ⟨by rw [HE.out, HV.out]; rfl, B1⟩
  have f3 : decide (24 < (fam.length : Int)) = false := by simp; omega
  by_cases e3 : ms.length = is.length
  case neg =>
    have HE := Lib.hid (chE_3 (qs := qs) (cs := cs) (i := i) E1.out (by omega) (show fam.length ≤ 24 by omega) e3)
    have f4 : ((ms.length : Int) != (is.length : Int)) = true := by rw [bne_iff_ne]; omega
    have HV := Lib.hid (chV_bad HE.out (by omega))
    go_wp2_with fail
    go_ret2
    exact ⟨by rw [HE.out, HV.out]; rfl, B1⟩
  have f4 : ((ms.length : Int) != (is.length : Int)) = false := by rw [bne_eq_false_iff_eq]; omega
  have E3 := Lib.hid e3
  have h60 : ms.length ≤ 60 := by omega
  have h24 : fam.length ≤ 24 := by omega
  clear e2 e2' e3
  go_wp2_with fail
  clear f1 f2 f3 f4
  refine (chkm_any _ _ _ ps rs ms i _ (hp0.below B1) (hr0.below B1) (hm0.below B1)).mono ?_
  rintro e w2 ⟨rfl, hb2⟩
  have B2 : Below w.heap.size w w2 := B1.trans (hb2.mono B1.size)
  replace hgb := hgb.keep hb2
  replace hmb := hmb.keep hb2
  clear hb2 B1 qg0 qg1 q0 q1 q2
  have qg0 : w2.cell? ⟨w.heap.size, 0, none⟩ = some (.slice A ps.length c) := hgb.cell 0
  have qg1 : w2.cell? ⟨w.heap.size, 1, none⟩ = some (.slice B rs.length c') := hgb.cell 1
  have q0 : w2.cell? ⟨w.heap.size + 1, 0, none⟩ = some (.slice X qs.length cX) := hmb.cell 0
  have q1 : w2.cell? ⟨w.heap.size + 1, 1, none⟩ = some (.slice Y is.length cY) := hmb.cell 1
  have q2 : w2.cell? ⟨w.heap.size + 1, 2, none⟩ = some (.slice Z cs.length cZ) := hmb.cell 2
  by_cases e1 : chkFrom (ps.length : Int) i 0 ms = 0
  case neg =>
    have HE := Lib.hid (chE_4 (qs := qs) (cs := cs) (fam := fam) E1.out h60 h24 E3.out e1)
    have f1 : (chkFrom (ps.length : Int) i 0 ms != 0) = true := by rw [bne_iff_ne]; exact e1
    have HV := Lib.hid (chV_bad HE.out e1)
    clear e1
    generalize chkFrom (ps.length : Int) i 0 ms = E at *
    go_wp2_with fail
    go_ret2
    exact ⟨by rw [HE.out, HV.out]; rfl, B2⟩
  have f1 : (chkFrom (ps.length : Int) i 0 ms != 0) = false := by rw [bne_eq_false_iff_eq]; exact e1
  have E4 := Lib.hid e1
  clear e1
  generalize chkFrom (ps.length : Int) i 0 ms = E at f1 ⊢
  go_wp2_with fail
  clear f1
  refine (chkf_any _ _ _ ps rs fam _ (hp0.below B2) (hr0.below B2) (hf0.below B2)).mono ?_
  rintro e w3 ⟨rfl, hb3⟩
  have B3 : Below w.heap.size w w3 := B2.trans (hb3.mono B2.size)
  replace hgb := hgb.keep hb3
  replace hmb := hmb.keep hb3
  clear hb3 B2 qg0 qg1 q0 q1 q2
  have qg0 : w3.cell? ⟨w.heap.size, 0, none⟩ = some (.slice A ps.length c) := hgb.cell 0
  have qg1 : w3.cell? ⟨w.heap.size, 1, none⟩ = some (.slice B rs.length c') := hgb.cell 1
  have q0 : w3.cell? ⟨w.heap.size + 1, 0, none⟩ = some (.slice X qs.length cX) := hmb.cell 0
  have q1 : w3.cell? ⟨w.heap.size + 1, 1, none⟩ = some (.slice Y is.length cY) := hmb.cell 1
  have q2 : w3.cell? ⟨w.heap.size + 1, 2, none⟩ = some (.slice Z cs.length cZ) := hmb.cell 2
  by_cases e1 : famE (ps.length : Int) fam = 0
  case neg =>
    have HE := Lib.hid (chE_5 (qs := qs) (cs := cs) (i := i) E1.out h60 h24 E3.out E4.out e1)
    have f1 : (famE (ps.length : Int) fam != 0) = true := by rw [bne_iff_ne]; exact e1
    have HV := Lib.hid (chV_bad HE.out e1)
    clear e1
    generalize famE (ps.length : Int) fam = E at *
    go_wp2_with fail
    go_ret2
    exact ⟨by rw [HE.out, HV.out]; rfl, B3⟩
  have f1 : (famE (ps.length : Int) fam != 0) = false := by rw [bne_eq_false_iff_eq]; exact e1
  have E5 := Lib.hid e1
  clear e1
  generalize famE (ps.length : Int) fam = E at f1 ⊢
  go_wp2_with fail
  clear f1
  have hml3 := hmb.lt
  refine (pcatsR_any _ ms _ (hm0.below B3) h60).mono ?_
  rintro e w4 ⟨v4, rfl, hv4, hf4, hb4, gc, hvg, hgc, hrc⟩
  have B4 : Below w.heap.size w w4 := B3.trans (hb4.mono B3.size)
  replace hgb := hgb.keep hb4
  replace hmb := hmb.keep hb4
  have hgc' : w.heap.size + 2 ≤ gc := Nat.le_trans hml3 hgc
  clear B3 qg0 qg1 q0 q1 q2
  subst hvg
  have qg0 : w4.cell? ⟨w.heap.size, 0, none⟩ = some (.slice A ps.length c) := hgb.cell 0
  have qg1 : w4.cell? ⟨w.heap.size, 1, none⟩ = some (.slice B rs.length c') := hgb.cell 1
  have q0 : w4.cell? ⟨w.heap.size + 1, 0, none⟩ = some (.slice X qs.length cX) := hmb.cell 0
  have q1 : w4.cell? ⟨w.heap.size + 1, 1, none⟩ = some (.slice Y is.length cY) := hmb.cell 1
  have q2 : w4.cell? ⟨w.heap.size + 1, 2, none⟩ = some (.slice Z cs.length cZ) := hmb.cell 2
  by_cases hin : 0 ≤ i ∧ i < (ms.length : Int)
  · obtain ⟨hi1, hi2⟩ := hin
    obtain ⟨it, rfl⟩ := Int.eq_ofNat_of_zero_le hi1
    have hit : it < ms.length := by omega
    have HCA : Hid (catsAt ms (it : Int) fam = (catsL ms).set it ((catsOf (fam.getD 0 []) : Nat) : Int)) := by unfold Hid catsAt; rw [if_pos ⟨hi1, hi2⟩, Int.toNat_natCast]
    obtain ⟨f1', _, _⟩ := famE_zero E5.out
    obtain ⟨b1, o1, u1, rfl, hb1, g1, hI⟩ := lst_at hsf HF.out f1'
    rw [Nat.add_zero] at g1
    have g2 : w4.cell? ⟨b1, o1, none⟩ = some u1 := (B4.cell (p := ⟨b1, o1, none⟩) hb1).trans g1
    have hI2 := hI.below B4
    have hI' := hI2
    obtain ⟨R, cR, ss, rfl, _, _, _, _⟩ := hI'
    clear g1 hI
    have d1 : decide (0 ≤ (it : Int)) = true := by simp
    have d2 : decide (it < is.length) = true := decide_eq_true (by have := E3.out; omega)
    have i0 : (0 : Int) < (fam.length : Int) := by omega
    have HFM := Lib.hid (rfl : fam.getD 0 [] = fam.getD 0 [])
    generalize hfm : fam.getD 0 [] = x at *
    clear HFM hfm
    go_wp2_with fail
    clear d1 d2 g2 qg0 qg1 q0 q1 q2
    refine (cats_any _ x _ hI2).mono ?_
    rintro e w5 ⟨rfl, hb5⟩
    have B5 : Below w.heap.size w w5 := B4.trans (hb5.mono B4.size)
    replace hgb := hgb.keep hb5
    replace hmb := hmb.keep hb5
    have hrc5 := hrc.keep hb5
    have hzl := hrc5.lt
    obtain ⟨y, hy⟩ : ∃ y, w5.cell? ⟨gc, it, none⟩ = some y := by
      rw [hrc5.cell, List.getElem?_map, List.getElem?_eq_getElem (by rw [catsL_len]; exact hit)]
      exact ⟨_, rfl⟩
    have hfz : w5.frozen? ⟨gc, it, none⟩ = false := hrc5.frozen it
    have hrc6 := hrc5.set_ it (.int .i64 ((catsOf x : Nat) : Int))
    rw [← List.map_set] at hrc6
    have hnc := Nums.of_row hrc6 (by rw [List.length_set, catsL_len]; unfold maxLen; omega)
    rw [List.length_set, catsL_len, ← HCA.out] at hnc
    have B6 : Below w.heap.size w (w5.setCell ⟨gc, it, none⟩ (.int .i64 ((catsOf x : Nat) : Int))) := B5.setCell (by simp; omega) _
    have hgb6 := hgb.far (p := ⟨gc, it, none⟩) (by simp; omega) (.int .i64 ((catsOf x : Nat) : Int))
    have hmb6 := hmb.far (p := ⟨gc, it, none⟩) (by simp; omega) (.int .i64 ((catsOf x : Nat) : Int))
    have q0 : (w5.setCell ⟨gc, it, none⟩ (.int .i64 ((catsOf x : Nat) : Int))).cell? ⟨w.heap.size + 1, 0, none⟩ = some (.slice X qs.length cX) := hmb6.cell 0
    have q1 : (w5.setCell ⟨gc, it, none⟩ (.int .i64 ((catsOf x : Nat) : Int))).cell? ⟨w.heap.size + 1, 1, none⟩ = some (.slice Y is.length cY) := hmb6.cell 1
    have q2 : (w5.setCell ⟨gc, it, none⟩ (.int .i64 ((catsOf x : Nat) : Int))).cell? ⟨w.heap.size + 1, 2, none⟩ = some (.slice Z cs.length cZ) := hmb6.cell 2
    have i1 : (0 : Int) ≤ (it : Int) := by omega
    have i2 : (it : Int) < (ms.length : Int) := by omega
    go_wp2_with fail
    clear q0 q1 q2 hy hfz i1 i2
    generalize w5.setCell ⟨gc, it, none⟩ (.int .i64 ((catsOf x : Nat) : Int)) = w6 at *
    refine (matv_any _ _ _ _ qs is (catsAt ms (it : Int) fam) cs _ (hq0.below B6) (hi0.below B6) (hc0.below B6) hnc).mono ?_
    rintro e w7 ⟨rfl, hb7⟩
    have B7 : Below w.heap.size w w7 := B6.trans (hb7.mono B6.size)
    have hgb7 := hgb6.keep hb7
    have hmb7 := hmb6.keep hb7
    by_cases e6 : matE qs is cs (catsAt ms (it : Int) fam) = 0
    case neg =>
      have HE := Lib.hid (chE_6 E1.out h60 h24 E3.out E4.out E5.out e6)
      have HV := Lib.hid (chV_bad HE.out e6)
      have f6 : (matE qs is cs (catsAt ms (it : Int) fam) != 0) = true := by rw [bne_iff_ne]; exact e6
      clear e6
      generalize matE qs is cs (catsAt ms (it : Int) fam) = E6 at *
      go_wp2_with fail
      go_ret2
      exact ⟨by rw [HE.out, HV.out]; rfl, B7⟩
    have f6 : (matE qs is cs (catsAt ms (it : Int) fam) != 0) = false := by rw [bne_eq_false_iff_eq]; exact e6
    have HE : Hid (chE ps rs ms qs is cs (it : Int) fam = 0) := by unfold Hid; rw [chE_7 E1.out h60 h24 E3.out E4.out E5.out e6, if_pos ⟨hi1, hi2⟩]
    have HV := Lib.hid (chV_ok HE.out)
    have HLO := Lib.hid (fun k (hk : k < cs.length) => like_ok E1.out h60 E3.out E4.out E5.out hit e6 (k := k) hk)
    have hcs200 : cs.length ≤ 200 := by obtain ⟨h1, _, _, _, h5, _⟩ := matE_zero e6; omega
    obtain ⟨gn21, _, grp, _, _⟩ := gridE_zero E1.out
    have HRP := Lib.hid grp.symm
    have H21 := Lib.hid (show rs.length ≤ 21 by omega)
    have HPK := Lib.hid (pok_of E1.out)
    have qg0 : w7.cell? ⟨w.heap.size, 0, none⟩ = some (.slice A ps.length c) := hgb7.cell 0
    have qg1 : w7.cell? ⟨w.heap.size, 1, none⟩ = some (.slice B rs.length c') := hgb7.cell 1
    have q0 : w7.cell? ⟨w.heap.size + 1, 0, none⟩ = some (.slice X qs.length cX) := hmb7.cell 0
    have q1 : w7.cell? ⟨w.heap.size + 1, 1, none⟩ = some (.slice Y is.length cY) := hmb7.cell 1
    have q2 : w7.cell? ⟨w.heap.size + 1, 2, none⟩ = some (.slice Z cs.length cZ) := hmb7.cell 2
    clear e6 gn21 grp
    generalize matE qs is cs (catsAt ms (it : Int) fam) = E6 at f6 ⊢
    go_wp2_with fail
    refine (like_any _ _ _ _ _ _ _ ps rs ms qs is cs it fam _ (hp0.below B7) (hr0.below B7) (hm0.below B7) (hq0.below B7) (hi0.below B7) (hc0.below B7) (hf0.below B7) H21.out HRP.out hit h60 hcs200 h24 HPK.out HLO.out).mono ?_
    rintro e w8 ⟨v8, rfl, hv8, hb8⟩
    have B8 : Below w.heap.size w w8 := B7.trans (hb8.mono B7.size)
    have hcan := hv8.can
    have hcan' := hcan
    obtain ⟨V8, c8, us8, rfl, _, _, _, _⟩ := hcan'
    clear f6 qg0 qg1 q0 q1 q2
    go_wp2_with fail
    refine (greatest_any _ _ _ _ hcan (by rw [likeL_len]; exact f1')).mono ?_
    rintro e w9 ⟨rfl, d, rfl⟩
    rw [likeL_len]
    rw [Int.toNat_natCast] at HV
    go_wp2_with fail
    go_ret2
    exact ⟨by rw [HE.out, HV.out]; rfl, below_drewN B8 _⟩
  · have HCA : Hid (catsAt ms i fam = catsL ms) := if_neg hin
    have hv5 : Nums .i64 w4 (.slice (some ⟨gc, 0, none⟩) ms.length ms.length) (catsAt ms i fam) := by rw [HCA.out]; exact hv4
    by_cases hi1 : 0 ≤ i
    · have d1 : decide (0 ≤ i) = true := by simpa using hi1
      have d2 : decide (i < (is.length : Int)) = false := by have := E3.out; simp; omega
      go_wp2_with fail
      refine (matv_any _ _ _ _ qs is (catsAt ms i fam) cs _ (hq0.below B4) (hi0.below B4) (hc0.below B4) hv5).mono ?_
      rintro e w7 ⟨rfl, hb7⟩
      have B7 : Below w.heap.size w w7 := B4.trans (hb7.mono B4.size)
      by_cases e6 : matE qs is cs (catsAt ms i fam) = 0
      case neg =>
        have HE := Lib.hid (chE_6 E1.out h60 h24 E3.out E4.out E5.out e6)
        have HV := Lib.hid (chV_bad HE.out e6)
        have f6 : (matE qs is cs (catsAt ms i fam) != 0) = true := by rw [bne_iff_ne]; exact e6
        clear e6
        generalize matE qs is cs (catsAt ms i fam) = E6 at *
        go_wp2_with fail
        go_ret2
        exact ⟨by rw [HE.out, HV.out]; rfl, B7⟩
      have f6 : (matE qs is cs (catsAt ms i fam) != 0) = false := by rw [bne_eq_false_iff_eq]; exact e6
      have HE : Hid (chE ps rs ms qs is cs i fam = 3) := by unfold Hid; rw [chE_7 E1.out h60 h24 E3.out E4.out E5.out e6, if_neg hin]
      have HV := Lib.hid (chV_bad HE.out (by omega))
      clear e6
      generalize matE qs is cs (catsAt ms i fam) = E6 at f6 ⊢
      go_wp2_with fail
      go_ret2
      exact ⟨by rw [HE.out, HV.out]; rfl, B7⟩
    · have d1 : decide (0 ≤ i) = false := by simpa using hi1
      go_wp2_with fail
      refine (matv_any _ _ _ _ qs is (catsAt ms i fam) cs _ (hq0.below B4) (hi0.below B4) (hc0.below B4) hv5).mono ?_
      rintro e w7 ⟨rfl, hb7⟩
      have B7 : Below w.heap.size w w7 := B4.trans (hb7.mono B4.size)
      by_cases e6 : matE qs is cs (catsAt ms i fam) = 0
      case neg =>
        have HE := Lib.hid (chE_6 E1.out h60 h24 E3.out E4.out E5.out e6)
        have HV := Lib.hid (chV_bad HE.out e6)
        have f6 : (matE qs is cs (catsAt ms i fam) != 0) = true := by rw [bne_iff_ne]; exact e6
        clear e6
        generalize matE qs is cs (catsAt ms i fam) = E6 at *
        go_wp2_with fail
        go_ret2
        exact ⟨by rw [HE.out, HV.out]; rfl, B7⟩
      have f6 : (matE qs is cs (catsAt ms i fam) != 0) = false := by rw [bne_eq_false_iff_eq]; exact e6
      have HE : Hid (chE ps rs ms qs is cs i fam = 3) := by unfold Hid; rw [chE_7 E1.out h60 h24 E3.out E4.out E5.out e6, if_neg hin]
      have HV := Lib.hid (chV_bad HE.out (by omega))
      clear e6
      generalize matE qs is cs (catsAt ms i fam) = E6 at f6 ⊢
      go_wp2_with fail
      go_ret2
      exact ⟨by rw [HE.out, HV.out]; rfl, B7⟩
end Go.Proofs.Ytneoglmfabilnaa
