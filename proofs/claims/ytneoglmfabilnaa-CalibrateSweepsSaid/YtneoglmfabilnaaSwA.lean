/- The walk of calibrate.checkSweep. -/
import Derived.Test.YtneoglmfabilnaaSwP
namespace Go.Proofs.Ytneoglmfabilnaa
open Go.RowKit
set_option linter.unusedVariables false

set_option maxHeartbeats 8000000 in
theorem chks_any (pv rv qv iv cv fv xv : Value) (ps rs qs is : List Int) (cs : List (List Int)) (fs : List (List Mod)) (ch : List Int) (w : World) (hp : Nums .i64 w pv ps) (hr : Nums .i64 w rv rs) (hq : Nums .i64 w qv qs) (hi : Nums .i64 w iv is) (hc : IntsL w cv cs) (hf : FamL w fv fs) (hx : Nums .i64 w xv ch) :
    Calls Try.prog 49 #[.agg #[pv, rv], .agg #[qv, iv, cv], fv, xv] w fun e w' => e = .returned (.int .i64 (swE ps rs qs is cs fs ch)) ∧ Below w.heap.size w w' := by
  have hp0 := hp
  have hr0 := hr
  have hq0 := hq
  have hi0 := hi
  have hc0 := hc
  have hf0 := hf
  have hx0 := hx
  obtain ⟨A, c, rfl, hc1, hm1, hsp⟩ := hp
  obtain ⟨B, c', rfl, hc', hm2, hsr⟩ := hr
  obtain ⟨X, cX, rfl, x1, x2, x3⟩ := hq
  obtain ⟨Y, cY, rfl, y1, y2, y3⟩ := hi
  obtain ⟨Z, cZ, vs, rfl, z1, z2, hsc, hcu⟩ := hc
  obtain ⟨Q, cQ, us, rfl, fq1, fq2, hsf, hfu⟩ := hf
  obtain ⟨D, cD, rfl, d1, d2, hsd⟩ := hx
  have HF := Lib.hid hfu
  unfold maxLen at x2 y2 z2 hm1 hm2 fq2 d2
  clear hsp hsr x3 y3 hcu hsc hfu
  have hgb := (Row.new w 24 [.slice A ps.length c, .slice B rs.length c']).alloc (.cells #[.slice X qs.length cX, .slice Y is.length cY, .slice Z cs.length cZ] 36)
  have hmb := Row.new (w.alloc (.cells #[.slice A ps.length c, .slice B rs.length c'] 24)) 36 [.slice X qs.length cX, .slice Y is.length cY, .slice Z cs.length cZ]
  have B0 : Below w.heap.size w ((w.alloc (.cells #[.slice A ps.length c, .slice B rs.length c'] 24)).alloc (.cells #[.slice X qs.length cX, .slice Y is.length cY, .slice Z cs.length cZ] 36)) := ((Below.refl _ _).alloc (Nat.le_refl _) _).alloc (by simp) _
  rw [show (w.alloc (.cells #[.slice A ps.length c, .slice B rs.length c'] 24)).heap.size = w.heap.size + 1 by simp] at hmb
  go_enter Try.func49, Try.ntmps49
  go_wp2_with fail
  refine (gvalid_any _ _ ps rs _ (hp0.below B0) (hr0.below B0)).mono ?_
  rintro e w1 ⟨rfl, hb1⟩
  have B1 : Below w.heap.size w w1 := B0.trans (hb1.mono B0.size)
  replace hgb := hgb.keep hb1
  replace hmb := hmb.keep hb1
  clear hb1 B0
  by_cases e1 : gridE ps rs = 0
  case neg =>
    have HE := Lib.hid (swE_1 (qs := qs) (is := is) (cs := cs) (fs := fs) (ch := ch) e1)
    have f1 : (gridE ps rs != 0) = true := by rw [bne_iff_ne]; exact e1
    clear e1
    generalize gridE ps rs = E at *
    go_wp2_with fail
    go_ret
    exact ⟨by rw [HE.out]; rfl, B1⟩
  have f1 : (gridE ps rs != 0) = false := by rw [bne_eq_false_iff_eq]; exact e1
  have E1 := Lib.hid e1
  clear e1
  generalize gridE ps rs = E at f1 ⊢
  by_cases e2 : 60 < fs.length
  case pos =>
    have HE := Lib.hid (swE_2 (qs := qs) (is := is) (cs := cs) (ch := ch) E1.out e2)
    have f2 : decide (60 < (fs.length : Int)) = true := by simp; omega
    go_wp2_with fail
    go_ret
    exact ⟨by rw [HE.out]; rfl, B1⟩
  have f2 : decide (60 < (fs.length : Int)) = false := by simp; omega
  have h60 : fs.length ≤ 60 := by omega
  clear e2
  go_wp2_with fail
  clear f1 f2
  go_loop [29] (fun i => ∃ k : Nat, k ≤ fs.length ∧ i = .int .i64 (k : Int) ∧ Hid (∀ i, i < k → (fs.getD i []).length ≤ 24)) (fun i => fs.length - (intOf i).toNat)
  case atStart => exact ⟨0, by omega, rfl, fun i hi => by omega⟩
  case round =>
    obtain ⟨k, hk, rfl, hinv⟩ := hrel
    by_cases hlt : k < fs.length
    · obtain ⟨b1, o1, u1, rfl, hb1, g1, hI⟩ := lst_at hsf HF.out hlt
      have g2 : w1.cell? ⟨b1, o1 + k, none⟩ = some u1 := (B1.cell (p := ⟨b1, o1 + k, none⟩) hb1).trans g1
      obtain ⟨R, cR, ss, rfl, _, _, _, _⟩ := hI
      clear g1
      by_cases h24 : (fs.getD k []).length ≤ 24
      · have HO := Lib.hid (all_snoc hinv.out h24)
        have f3 : decide (24 < ((fs.getD k []).length : Int)) = false := decide_eq_false (by omega)
        generalize (fs.getD k []).length = lk at *
        go_wp2_with fail
        go_round
        case rel => exact ⟨k + 1, by omega, by go_num, HO.out⟩
        case measure => simp [intOf]; omega
      · have HE := Lib.hid (swE_3 (qs := qs) (is := is) (cs := cs) (ch := ch) E1.out h60 hlt (show 24 < (fs.getD k []).length by omega))
        have f3 : decide (24 < ((fs.getD k []).length : Int)) = true := decide_eq_true (by omega)
        generalize (fs.getD k []).length = lk at *
        go_wp2_with fail
        go_ret
        exact ⟨by rw [HE.out]; rfl, B1⟩
    · obtain rfl : k = fs.length := by omega
      have HL := Lib.hid (longF_yes hinv.out)
      have q1 : w1.cell? ⟨w.heap.size + 1, 1, none⟩ = some (.slice Y is.length cY) := hmb.cell 1
      by_cases e3 : fs.length = is.length
      case neg =>
        have HE := Lib.hid (swE_4 (qs := qs) (cs := cs) (ch := ch) E1.out h60 HL.out (.inl e3))
        have f3 : ((fs.length : Int) != (is.length : Int)) = true := by rw [bne_iff_ne]; omega
        clear e3
        go_wp2_with fail
        go_ret
        exact ⟨by rw [HE.out]; rfl, B1⟩
      have f3 : ((fs.length : Int) != (is.length : Int)) = false := by rw [bne_eq_false_iff_eq]; omega
      by_cases e4 : ch.length = is.length
      case neg =>
        have HE := Lib.hid (swE_4 (qs := qs) (cs := cs) E1.out h60 HL.out (.inr e4))
        have f4 : ((ch.length : Int) != (is.length : Int)) = true := by rw [bne_iff_ne]; omega
        clear e3 e4
        go_wp2_with fail
        go_ret
        exact ⟨by rw [HE.out]; rfl, B1⟩
      have f4 : ((ch.length : Int) != (is.length : Int)) = false := by rw [bne_eq_false_iff_eq]; omega
      have E3 := Lib.hid e3
      have E4 := Lib.hid e4
      clear e3 e4 hinv
      have hmk := run_mk (P := Try.prog) Try.underlying22 infoInt rfl fs.length (by omega) (by omega)
      obtain ⟨g, hg⟩ : ∃ g, w1.heap.size = g := ⟨_, rfl⟩
      obtain ⟨W2, hW2⟩ : ∃ W2 : World, W2 = w1.alloc (.cells (zrow (.int .i64 0) fs.length) 3) := ⟨_, rfl⟩
      have hr2 : Row W2 g 3 (((catsF fs).take 0).map (Value.int .i64) ++ List.replicate (fs.length - 0) (.int .i64 0)) := by
        rw [hW2, ← hg]
        have := Row.newz w1 3 (.int .i64 0) fs.length
        simpa using this
      have hb2 : Below g w1 W2 := by rw [hW2, ← hg]; exact (Below.refl _ _).alloc (Nat.le_refl _) _
      go_wp2_with fail
      try rw [hg]
      rw [← hW2]
      clear f3 f4 q1 hmk hW2
      go_loopw [56] (fun i wr => ∃ k : Nat, k ≤ fs.length ∧ i = .int .i64 (k : Int) ∧ Hid (famsE (ps.length : Int) fs = famsE (ps.length : Int) (fs.drop k)) ∧ Row wr g 3 (((catsF fs).take k).map (Value.int .i64) ++ List.replicate (fs.length - k) (.int .i64 0)) ∧ Below g w1 wr) (fun i _ => fs.length - (intOf i).toNat)
      case atStart => exact ⟨0, by omega, rfl, rfl, hr2, hb2⟩
      case round =>
        clear hr2 hb2
        obtain ⟨k, hk, rfl, hinv, hrow, hb⟩ := hrel
        have hgw := hgb.below hb (by have := hgb.lt; omega)
        have hmw := hmb.below hb (by have := hmb.lt; omega)
        have BW : Below w.heap.size w wr := B1.trans (hb.mono (by rw [← hg]; exact B1.size))
        have HL2 := Lib.hid (show (((catsF fs).take k).map (Value.int .i64)).length = k by rw [List.length_map, List.length_take, catsF_len]; omega)
        by_cases hlt : k < fs.length
        · obtain ⟨b1, o1, u1, rfl, hb1, g1, hI⟩ := lst_at hsf HF.out hlt
          have g2 : wr.cell? ⟨b1, o1 + k, none⟩ = some u1 := (BW.cell (p := ⟨b1, o1 + k, none⟩) hb1).trans g1
          have hI2 := hI.below BW
          have hI' := hI2
          obtain ⟨R, cR, ss, rfl, r1, r2, hsm, hmu⟩ := hI'
          have HMU := Lib.hid hmu
          unfold maxLen at r2
          clear g1 hI hmu
          have HOK := Lib.hid (fun h => hinv.out.trans (famsE_ok (pn := (ps.length : Int)) hlt h))
          have HBAD := Lib.hid (fun h => hinv.out.trans (famsE_bad (pn := (ps.length : Int)) hlt h))
          have HT := Lib.hid (take_snoc (catsF fs) 0 (show k < (catsF fs).length by rw [catsF_len]; exact hlt))
          have HG := Lib.hid (catsF_get fs hlt)
          generalize fs.getD k [] = fam at *
          have qg0 : wr.cell? ⟨w.heap.size, 0, none⟩ = some (.slice A ps.length c) := hgw.cell 0
          have qg1 : wr.cell? ⟨w.heap.size, 1, none⟩ = some (.slice B rs.length c') := hgw.cell 1
          obtain ⟨wo, rfl⟩ : ∃ wo : World, wo = wr := ⟨_, rfl⟩
          go_wp2_with fail
          refine (chkf_any _ _ _ ps rs fam _ (hp0.below BW) (hr0.below BW) hI2).mono ?_
          rintro e w3 ⟨rfl, hb3⟩
          have B3 : Below w.heap.size w w3 := BW.trans (hb3.mono BW.size)
          have hrow3 := hrow.keep hb3
          have zg := hrow.lt
          clear qg0 qg1 g2
          by_cases e5 : famE (ps.length : Int) fam = 0
          case neg =>
            have HE := Lib.hid (swE_5 (qs := qs) (cs := cs) (ch := ch) E1.out h60 HL.out E3.out E4.out (by rw [HBAD.out e5]; exact e5))
            have HE2 := Lib.hid (HE.out.trans (HBAD.out e5))
            have f5 : (famE (ps.length : Int) fam != 0) = true := by rw [bne_iff_ne]; exact e5
            clear e5 HE HOK HBAD
            generalize famE (ps.length : Int) fam = E5 at *
            go_wp2_with fail
            go_ret
            exact ⟨by rw [HE2.out]; rfl, B3⟩
          have f5 : (famE (ps.length : Int) fam != 0) = false := by rw [bne_eq_false_iff_eq]; exact e5
          have HOK' := Lib.hid (HOK.out e5)
          obtain ⟨hfp, _, _⟩ := famE_zero e5
          obtain ⟨b2, o2, u2, rfl, hb2, g3, hJ⟩ := lst_at hsm HMU.out hfp
          rw [Nat.add_zero] at g3
          have g4 : w3.cell? ⟨b2, o2, none⟩ = some u2 := (hb3.cell (p := ⟨b2, o2, none⟩) hb2).trans g3
          have hJ2 := hJ.below hb3
          have hJ' := hJ2
          obtain ⟨S, cS, ss2, rfl, _, _, _, _⟩ := hJ'
          clear g3 hJ e5 HOK HBAD
          generalize famE (ps.length : Int) fam = E5 at f5 ⊢
          generalize fam.getD 0 [] = m0 at *
          have i0 : (0 : Int) < (fam.length : Int) := by omega
          go_wp2_with fail
          refine (cats_any _ m0 _ hJ2).mono ?_
          rintro e w4 ⟨rfl, hb4⟩
          have hrow4 := hrow3.keep hb4
          have B4 : Below g w1 w4 := hb.trans ((hb3.trans (hb4.mono hb3.size)).mono (by omega))
          have hc0' : w4.cell? ⟨g, k, none⟩ = some (.int .i64 0) := by rw [hrow4.cell, padv_get _ _ _ _ HL2.out hlt]
          have hf0' : w4.frozen? ⟨g, k, none⟩ = false := hrow4.frozen k
          have i3 : (0 : Int) ≤ (k : Int) := by omega
          have i4 : (k : Int) < (fs.length : Int) := by omega
          clear g4 f5
          go_wp2_with fail
          go_roundw
          case rel =>
            refine ⟨k + 1, by omega, by go_num, HOK'.out, ?_, B4.setCell (by simp) _⟩
            rw [HT.out, HG.out, List.map_append, List.map_cons, List.map_nil, ← padv_set _ _ _ _ _ HL2.out hlt]
            exact hrow4.set_ k _
          case measure => simp [intOf]; omega
        · obtain rfl : k = fs.length := by omega
          have HFE : Hid (famsE (ps.length : Int) fs = 0) := hinv.out.trans (famsE_end (Nat.le_refl _))
          have HW : Hid ((catsF fs).take fs.length = catsF fs) := by unfold Hid; apply List.take_of_length_le; rw [catsF_len]; exact Nat.le_refl _
          rw [Nat.sub_self, List.replicate_zero, List.append_nil, HW.out] at hrow
          have hnc := Nums.of_row hrow (by rw [catsF_len]; unfold maxLen; omega)
          rw [catsF_len] at hnc
          have q0 : wr.cell? ⟨w.heap.size + 1, 0, none⟩ = some (.slice X qs.length cX) := hmw.cell 0
          have q1 : wr.cell? ⟨w.heap.size + 1, 1, none⟩ = some (.slice Y is.length cY) := hmw.cell 1
          have q2 : wr.cell? ⟨w.heap.size + 1, 2, none⟩ = some (.slice Z cs.length cZ) := hmw.cell 2
          go_wp2_with fail
          refine (matv_any _ _ _ _ qs is (catsF fs) cs _ (hq0.below BW) (hi0.below BW) (hc0.below BW) hnc).mono ?_
          rintro e w5 ⟨rfl, hb5⟩
          have B5 : Below w.heap.size w w5 := BW.trans (hb5.mono BW.size)
          clear q0 q1 q2
          by_cases e6 : matE qs is cs (catsF fs) = 0
          case neg =>
            have HE := Lib.hid (swE_6 (ch := ch) E1.out h60 HL.out E3.out E4.out HFE.out e6)
            have f6 : (matE qs is cs (catsF fs) != 0) = true := by rw [bne_iff_ne]; exact e6
            clear e6
            generalize matE qs is cs (catsF fs) = E6 at *
            go_wp2_with fail
            go_ret
            exact ⟨by rw [HE.out]; rfl, B5⟩
          have f6 : (matE qs is cs (catsF fs) != 0) = false := by rw [bne_eq_false_iff_eq]; exact e6
          have HE := Lib.hid (swE_7 (ch := ch) E1.out h60 HL.out E3.out E4.out HFE.out e6)
          have hcl : ch.length = fs.length := by have h1 := E3.out; have h2 := E4.out; omega
          have HCL := Lib.hid hcl
          have hcl2 : ch.length ≤ fs.length := by omega
          clear e6 hcl
          generalize matE qs is cs (catsF fs) = E6 at f6 ⊢
          go_wp2_with fail
          clear f6
          go_loop [83] (fun i => ∃ k : Nat, k ≤ ch.length ∧ i = .int .i64 (k : Int) ∧ Hid (∀ i, i < k → 0 ≤ ch.getD i 0 ∧ ch.getD i 0 < ((fs.getD i []).length : Int))) (fun i => ch.length - (intOf i).toNat)
          case atStart => exact ⟨0, by omega, rfl, fun i hi => by omega⟩
          case round =>
            obtain ⟨k, hk, rfl, hinv⟩ := hrel
            by_cases hlt : k < ch.length
            · obtain ⟨b1, o1, u1, rfl, hb1, g1, hI⟩ := lst_at hsf HF.out (show k < fs.length by omega)
              obtain ⟨b2, o2, rfl, hb2, hcell⟩ := hsd.num hlt
              have g2 : w5.cell? ⟨b1, o1 + k, none⟩ = some u1 := (B5.cell (p := ⟨b1, o1 + k, none⟩) hb1).trans g1
              have g3 : w5.cell? ⟨b2, o2 + k, none⟩ = some (.int .i64 (ch.getD k 0)) := (B5.cell (p := ⟨b2, o2 + k, none⟩) hb2).trans (hcell k hlt)
              obtain ⟨R, cR, ss, rfl, _, _, _, _⟩ := hI
              clear g1 hcell
              have i5 : (k : Int) < (fs.length : Int) := by omega
              have HO : Hid ((0 ≤ ch.getD k 0 ∧ ch.getD k 0 < ((fs.getD k []).length : Int)) → ∀ i, i < k + 1 → 0 ≤ ch.getD i 0 ∧ ch.getD i 0 < ((fs.getD i []).length : Int)) := fun h => all_snoc hinv.out h
              have HB : Hid (¬ (0 ≤ ch.getD k 0 ∧ ch.getD k 0 < ((fs.getD k []).length : Int)) → swE ps rs qs is cs fs ch = 3) := fun h => HE.out.trans (if_pos (show chOK fs ch = false from dec_no hlt h))
              generalize ch.getD k 0 = x at *
              generalize (fs.getD k []).length = lk at *
              by_cases c1 : x < 0
              · have HR := Lib.hid (HB.out (by omega))
                have f7 : decide (x < 0) = true := decide_eq_true c1
                go_wp2_with fail
                go_ret
                exact ⟨by rw [HR.out]; rfl, B5⟩
              · have f7 : decide (x < 0) = false := decide_eq_false c1
                by_cases c2 : (lk : Int) ≤ x
                · have HR := Lib.hid (HB.out (by omega))
                  have f8 : decide ((lk : Int) ≤ x) = true := decide_eq_true c2
                  go_wp2_with fail
                  go_ret
                  exact ⟨by rw [HR.out]; rfl, B5⟩
                · have HR := Lib.hid (HO.out ⟨by omega, by omega⟩)
                  have f8 : decide ((lk : Int) ≤ x) = false := decide_eq_false c2
                  go_wp2_with fail
                  go_round
                  case rel => exact ⟨k + 1, by omega, by go_num, HR.out⟩
                  case measure => simp [intOf]; omega
            · obtain rfl : k = ch.length := by omega
              have HR : Hid (swE ps rs qs is cs fs ch = 0) := by
                unfold Hid
                rw [HE.out, if_neg]
                unfold chOK
                rw [decide_eq_true hinv.out]
                simp
              go_wp2_with fail
              go_ret
              exact ⟨by rw [HR.out]; rfl, B5⟩
end Go.Proofs.Ytneoglmfabilnaa
