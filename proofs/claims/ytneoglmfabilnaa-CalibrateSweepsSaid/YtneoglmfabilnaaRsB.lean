/- The walk of the reference's check. -/
import Derived.Test.YtneoglmfabilnaaRsA
import Derived.Test.YtneoglmfabilnaaSwB
namespace Go.Proofs.Ytneoglmfabilnaa
open Go.RowKit
set_option linter.unusedVariables false

/-- The families' first models. -/
def firsts (fs : List (List Mod)) : List Mod := fs.map fun f => f.getD 0 []
theorem firsts_len (fs : List (List Mod)) : (firsts fs).length = fs.length := by simp [firsts]
theorem firsts_get (fs : List (List Mod)) {k : Nat} (h : k < fs.length) : (firsts fs).getD k [] = (fs.getD k []).getD 0 [] := by
  unfold firsts
  rw [List.getD_eq_getElem?_getD, List.getElem?_map, List.getD_eq_getElem?_getD (l := fs), List.getElem?_eq_getElem h]
  rfl
theorem firsts_cats (fs : List (List Mod)) : catsL (firsts fs) = catsF fs := by
  refine getD_ext 0 (by rw [catsL_len, firsts_len, catsF_len]) fun i hi => ?_
  rw [catsL_len, firsts_len] at hi
  rw [catsL_get _ (by rw [firsts_len]; exact hi), catsF_get _ hi, firsts_get _ hi]
theorem keep4b {W w' : World} {p1 p2 p3 : Addr} {x1 x2 x3 : Value} (l1 : p1.block < W.heap.size) (l2 : p2.block < W.heap.size) (l3 : p3.block < W.heap.size) (h1 : W.cell? p1 = some x1) (h2 : W.cell? p2 = some x2) (h3 : W.cell? p3 = some x3) (hb : Below W.heap.size W w') :
    w'.cell? p1 = some x1 ∧ w'.cell? p2 = some x2 ∧ w'.cell? p3 = some x3 ∧ Below W.heap.size W w' := ⟨(hb.cell l1).trans h1, (hb.cell l2).trans h2, (hb.cell l3).trans h3, hb⟩

set_option maxHeartbeats 8000000 in
theorem rchk_any (pv rv qv iv cv fv xv : Value) (ps rs qs is : List Int) (cs : List (List Int)) (fs : List (List Mod)) (ch : List Int) (w : World) (hp : Nums .i64 w pv ps) (hr : Nums .i64 w rv rs) (hq : Nums .i64 w qv qs) (hi : Nums .i64 w iv is) (hc : IntsL w cv cs) (hf : FamL w fv fs) (hx : Nums .i64 w xv ch) :
    Calls Try.prog 51 #[.agg #[pv, rv], .agg #[qv, iv, cv], fv, xv] w fun e w' => e = .returned (.int .i64 (swE ps rs qs is cs fs ch)) ∧ Below w.heap.size w w' := by
  have hp0 := hp
  have hr0 := hr
  have hq0 := hq
  have hi0 := hi
  have hc0 := hc
  have hf0 := hf
  have hx0 := hx
  obtain ⟨A, c, rfl, hc1, hm1, hsp⟩ := hp
  obtain ⟨B, c', rfl, hc', hm2, hsr⟩ := hr
  obtain ⟨X, cX, rfl, x1, x2, x3⟩ := hq
  obtain ⟨Y, cY, rfl, y1, y2, y3⟩ := hi
  obtain ⟨Z, cZ, vs, rfl, z1, z2, hsc, hcu⟩ := hc
  obtain ⟨Q, cQ, us, rfl, fq1, fq2, hsf, hfu⟩ := hf
  obtain ⟨D, cD, rfl, d1, d2, hsd⟩ := hx
  have HF := Lib.hid hfu
  unfold maxLen at x2 y2 z2 hm1 hm2 fq2 d2
  clear hsp hsr x3 y3 hcu hsc hfu
  have hgb := (Row.new w 24 [.slice A ps.length c, .slice B rs.length c']).alloc (.cells #[.slice X qs.length cX, .slice Y is.length cY, .slice Z cs.length cZ] 36)
  have hmb := Row.new (w.alloc (.cells #[.slice A ps.length c, .slice B rs.length c'] 24)) 36 [.slice X qs.length cX, .slice Y is.length cY, .slice Z cs.length cZ]
  have B0 : Below w.heap.size w ((w.alloc (.cells #[.slice A ps.length c, .slice B rs.length c'] 24)).alloc (.cells #[.slice X qs.length cX, .slice Y is.length cY, .slice Z cs.length cZ] 36)) := ((Below.refl _ _).alloc (Nat.le_refl _) _).alloc (by simp) _
  rw [show (w.alloc (.cells #[.slice A ps.length c, .slice B rs.length c'] 24)).heap.size = w.heap.size + 1 by simp] at hmb
  go_enter Try.func51, Try.ntmps51
  go_wp2_with fail
  refine (rgvalid_any _ _ ps rs _ (hp0.below B0) (hr0.below B0)).mono ?_
  rintro e w1 ⟨rfl, hb1⟩
  have B1 : Below w.heap.size w w1 := B0.trans (hb1.mono B0.size)
  replace hgb := hgb.keep hb1
  replace hmb := hmb.keep hb1
  clear hb1 B0
  by_cases e1 : gridE ps rs = 0
  case neg =>
    have HE := Lib.hid (swE_1 (qs := qs) (is := is) (cs := cs) (fs := fs) (ch := ch) e1)
    have f1 : (gridE ps rs != 0) = true := by rw [bne_iff_ne]; exact e1
    clear e1
    generalize gridE ps rs = E at *
    go_wp2_with fail
    go_ret
    exact ⟨by rw [HE.out]; rfl, B1⟩
  have f1 : (gridE ps rs != 0) = false := by rw [bne_eq_false_iff_eq]; exact e1
  have E1 := Lib.hid e1
  clear e1
  generalize gridE ps rs = E at f1 ⊢
  by_cases e2 : 60 < fs.length
  case pos =>
    have HE := Lib.hid (swE_2 (qs := qs) (is := is) (cs := cs) (ch := ch) E1.out e2)
    have f2 : decide (60 < (fs.length : Int)) = true := by simp; omega
    go_wp2_with fail
    go_ret
    exact ⟨by rw [HE.out]; rfl, B1⟩
  have f2 : decide (60 < (fs.length : Int)) = false := by simp; omega
  have h60 : fs.length ≤ 60 := by omega
  clear e2
  go_wp2_with fail
  clear f1 f2
  go_loop [10] (fun i => ∃ k : Nat, k ≤ fs.length ∧ i = .int .i64 (k : Int) ∧ Hid (∀ i, i < k → (fs.getD i []).length ≤ 24)) (fun i => fs.length - (intOf i).toNat)
  case atStart => exact ⟨0, by omega, rfl, fun i hi => by omega⟩
  case round =>
    obtain ⟨k, hk, rfl, hinv⟩ := hrel
    by_cases hlt : k < fs.length
    · obtain ⟨b1, o1, u1, rfl, hb1, g1, hI⟩ := lst_at hsf HF.out hlt
      have g2 : w1.cell? ⟨b1, o1 + k, none⟩ = some u1 := (B1.cell (p := ⟨b1, o1 + k, none⟩) hb1).trans g1
      obtain ⟨R, cR, ss, rfl, _, _, _, _⟩ := hI
      clear g1
      by_cases h24 : (fs.getD k []).length ≤ 24
      · have HO := Lib.hid (all_snoc hinv.out h24)
        have f3 : decide (24 < ((fs.getD k []).length : Int)) = false := decide_eq_false (by omega)
        generalize (fs.getD k []).length = lk at *
        go_wp2_with fail
        go_round
        case rel => exact ⟨k + 1, by omega, by go_num, HO.out⟩
        case measure => simp [intOf]; omega
      · have HE := Lib.hid (swE_3 (qs := qs) (is := is) (cs := cs) (ch := ch) E1.out h60 hlt (show 24 < (fs.getD k []).length by omega))
        have f3 : decide (24 < ((fs.getD k []).length : Int)) = true := decide_eq_true (by omega)
        generalize (fs.getD k []).length = lk at *
        go_wp2_with fail
        go_ret
        exact ⟨by rw [HE.out]; rfl, B1⟩
    · obtain rfl : k = fs.length := by omega
      have HL := Lib.hid (longF_yes hinv.out)
      have q1 : w1.cell? ⟨w.heap.size + 1, 1, none⟩ = some (.slice Y is.length cY) := hmb.cell 1
      by_cases e3 : fs.length = is.length
      case neg =>
        have HE := Lib.hid (swE_4 (qs := qs) (cs := cs) (ch := ch) E1.out h60 HL.out (.inl e3))
        have f3 : ((fs.length : Int) != (is.length : Int)) = true := by rw [bne_iff_ne]; omega
        clear e3
        go_wp2_with fail
        go_ret
        exact ⟨by rw [HE.out]; rfl, B1⟩
      have f3 : ((fs.length : Int) != (is.length : Int)) = false := by rw [bne_eq_false_iff_eq]; omega
      by_cases e4 : ch.length = is.length
      case neg =>
        have HE := Lib.hid (swE_4 (qs := qs) (cs := cs) E1.out h60 HL.out (.inr e4))
        have f4 : ((ch.length : Int) != (is.length : Int)) = true := by rw [bne_iff_ne]; omega
        clear e3 e4
        go_wp2_with fail
        go_ret
        exact ⟨by rw [HE.out]; rfl, B1⟩
      have f4 : ((ch.length : Int) != (is.length : Int)) = false := by rw [bne_eq_false_iff_eq]; omega
      have E3 := Lib.hid e3
      have E4 := Lib.hid e4
      clear e3 e4 hinv
      go_wp2_with fail
      clear f3 f4 q1
      go_loopw [9, 11, 12] (fun ev v i wr => ∃ (k : Nat) (V : Option Addr) (cv : Nat) (ws : List Value) (E0 : Int), k ≤ fs.length ∧ i = .int .i64 (k : Int) ∧ ev = .int .i64 E0 ∧ v = .slice V k cv ∧ wr.ownsRow w1.heap.size 48 1 (.slice V k cv) k ws ∧ Hid (∀ i u, ws[i]? = some u → IntsL w u ((firsts fs).getD i [])) ∧ Hid (famsE (ps.length : Int) fs = famsE (ps.length : Int) (fs.drop k)) ∧ Below w1.heap.size w1 wr) (fun _ _ i _ => fs.length - (intOf i).toNat)
      case atStart => exact ⟨0, none, 0, [], _, by omega, rfl, rfl, rfl, World.ownsRow_nil _ _ _ _, fun i u h => by simp at h, rfl, Below.refl _ _⟩
      case round =>
        obtain ⟨k, V, cv, ws, E0, hk, rfl, rfl, rfl, hown, hel, hinv, hb⟩ := hrel
        have hgw := hgb.keep hb
        have hmw := hmb.keep hb
        have BW : Below w.heap.size w wr := B1.trans (hb.mono B1.size)
        have hwl : ws.length = k := by have := hown.1; omega
        have HWL := Lib.hid hwl
        clear hwl
        by_cases hlt : k < fs.length
        · obtain ⟨b1, o1, u1, rfl, hb1, g1, hI⟩ := lst_at hsf HF.out hlt
          have g2 : wr.cell? ⟨b1, o1 + k, none⟩ = some u1 := (BW.cell (p := ⟨b1, o1 + k, none⟩) hb1).trans g1
          have hI2 := hI.below BW
          have hI' := hI
          obtain ⟨R, cR, ss, rfl, r1, r2, hsm, hmu⟩ := hI'
          have HMU := Lib.hid hmu
          unfold maxLen at r2
          clear g1 hI hmu
          have HOK := Lib.hid (fun h => hinv.out.trans (famsE_ok (pn := (ps.length : Int)) hlt h))
          have HBAD := Lib.hid (fun h => hinv.out.trans (famsE_bad (pn := (ps.length : Int)) hlt h))
          have HFG := Lib.hid (firsts_get fs hlt)
          generalize fs.getD k [] = fam at *
          have qg0 : wr.cell? ⟨w.heap.size, 0, none⟩ = some (.slice A ps.length c) := hgw.cell 0
          have zg := hgw.lt
          have zb1 : b1 < wr.heap.size := Nat.lt_of_lt_of_le hb1 BW.size
          have i1 : (k : Int) < (fs.length : Int) := by omega
          obtain ⟨wo, rfl⟩ : ∃ wo : World, wo = wr := ⟨_, rfl⟩
          go_wp2_with fail
          go_region_held3 (fun w' => w'.cell? ⟨b1, o1 + k, none⟩ = some (.slice R fam.length cR) ∧ w'.cell? ⟨w.heap.size, 0, none⟩ = some (.slice A ps.length c) ∧ Below wo.heap.size wo w')
            ((refine keep2 zb1 zg g2 qg0 ?_; (repeat (first | with_reducible exact Below.refl _ _ | with_reducible refine bl_call h5 ?_ | with_reducible refine bl_call h6 ?_ | with_reducible refine bl_drew ?_))))
            (first
              | (go_at_call 64; ((with_reducible refine (rfam_any _ (ps.length : Int) fam _ (hI2.below ?_)).mono ?_); ((repeat (first | with_reducible exact Below.refl _ _ | with_reducible refine bl_call h5 ?_ | with_reducible refine bl_call h6 ?_ | with_reducible refine bl_drew ?_))); rintro e w5 ⟨rfl, h5⟩)))
          have B3' : Below wo.heap.size wo w5 := bl_call h5 (bl_drew (Below.refl _ _))
          have B3 : Below w.heap.size w w5 := BW.trans (B3'.mono BW.size)
          clear qg0 h5
          by_cases e5 : famE (ps.length : Int) fam = 0
          case neg =>
            have HE := Lib.hid (swE_5 (qs := qs) (cs := cs) (ch := ch) E1.out h60 HL.out E3.out E4.out (by rw [HBAD.out e5]; exact e5))
            have HE2 := Lib.hid (HE.out.trans (HBAD.out e5))
            have f5 : (famE (ps.length : Int) fam != 0) = true := by rw [bne_iff_ne]; exact e5
            clear e5 HE HOK HBAD
            generalize famE (ps.length : Int) fam = E5 at *
            go_wp2_with fail
            go_ret
            exact ⟨by rw [HE2.out]; rfl, B3⟩
          have f5 : (famE (ps.length : Int) fam != 0) = false := by rw [bne_eq_false_iff_eq]; exact e5
          have HOK' := Lib.hid (HOK.out e5)
          obtain ⟨hfp, _, _⟩ := famE_zero e5
          obtain ⟨b2, o2, u2, rfl, hb2, g3, hJ⟩ := lst_at hsm HMU.out hfp
          rw [Nat.add_zero] at g3
          have g4 : w5.cell? ⟨b2, o2, none⟩ = some u2 := (B3.cell (p := ⟨b2, o2, none⟩) hb2).trans g3
          have g5 : w5.cell? ⟨b1, o1 + k, none⟩ = some (.slice (some ⟨b2, o2, none⟩) fam.length cR) := (B3'.cell (p := ⟨b1, o1 + k, none⟩) zb1).trans g2
          have HJ : Hid (IntsL w u2 ((firsts fs).getD k [])) := by unfold Hid; rw [HFG.out]; exact hJ
          have hJ' := hJ
          obtain ⟨S, cS, ss2, rfl, _, _, _, _⟩ := hJ'
          have HEL : Hid (∀ i u, (ws ++ [.slice S (fam.getD 0 []).length cS])[i]? = some u → IntsL w u ((firsts fs).getD i [])) := snoc_get (P := fun i u => IntsL w u ((firsts fs).getD i [])) HWL.out hel.out HJ.out
          have hown5 := own_keep hown B3'
          have hbs : w1.heap.size ≤ w5.heap.size := Nat.le_trans hb.size B3'.size
          clear g3 hJ e5 HOK HBAD HJ g2
          generalize famE (ps.length : Int) fam = E5 at f5 ⊢
          generalize (fam.getD 0 []).length = lm at *
          have i0 : (0 : Int) < (fam.length : Int) := by omega
          go_wp2_with (at_builtin; refine wpList_append_one w5 rfl (.tmp 65) (.tmp 72) 25 rfl w1.heap.size 48 (.agg #[.slice none 0 0]) 24 Try.underlying25 infoModel rfl (.slice V k cv) k _ (.slice S lm cS) rfl rfl hown5 rfl (by unfold maxLen; omega) (by omega) hbs ?_; intro A' c3 w6 hown6 hb6)
          go_roundw
          case rel => exact ⟨k + 1, A', c3, _, _, by omega, by go_num, rfl, rfl, hown6, HEL.out, HOK'.out, (hb.trans (B3'.mono hb.size)).trans hb6⟩
          case measure => simp [intOf]; omega
        · obtain rfl : k = fs.length := by omega
          have HFE : Hid (famsE (ps.length : Int) fs = 0) := hinv.out.trans (famsE_end (Nat.le_refl _))
          have hml := modL_own hown (firsts_len fs) hel.out BW
          have q0 : wr.cell? ⟨w.heap.size + 1, 0, none⟩ = some (.slice X qs.length cX) := hmw.cell 0
          have q1 : wr.cell? ⟨w.heap.size + 1, 1, none⟩ = some (.slice Y is.length cY) := hmw.cell 1
          have q2 : wr.cell? ⟨w.heap.size + 1, 2, none⟩ = some (.slice Z cs.length cZ) := hmw.cell 2
          have zm := hmw.lt
          have hf60 : (firsts fs).length ≤ 60 := by rw [firsts_len]; exact h60
          obtain ⟨wo, rfl⟩ : ∃ wo : World, wo = wr := ⟨_, rfl⟩
          go_wp2_with fail
          go_region_held3 (fun w' => w'.cell? ⟨w.heap.size + 1, 0, none⟩ = some (.slice X qs.length cX) ∧ w'.cell? ⟨w.heap.size + 1, 1, none⟩ = some (.slice Y is.length cY) ∧ w'.cell? ⟨w.heap.size + 1, 2, none⟩ = some (.slice Z cs.length cZ) ∧ Below wo.heap.size wo w')
            ((refine keep4b zm zm zm q0 q1 q2 ?_; (repeat (first | with_reducible exact Below.refl _ _ | with_reducible refine bl_call h5 ?_ | with_reducible refine bl_call h6 ?_ | with_reducible refine bl_drew ?_))))
            (first
              | (go_at_call 42; ((with_reducible refine (rpcats_any _ (firsts fs) _ (hml.below ?_) hf60).mono ?_); ((repeat (first | with_reducible exact Below.refl _ _ | with_reducible refine bl_call h5 ?_ | with_reducible refine bl_call h6 ?_ | with_reducible refine bl_drew ?_))); rintro e w5 ⟨v5, rfl, hv5, h5⟩; rw [firsts_cats] at hv5))
              | (go_at_call 41; ((with_reducible refine (rmatv_any _ _ _ _ qs is (catsF fs) cs _ (hq0.below ?_) (hi0.below ?_) (hc0.below ?_) hv5).mono ?_); (exact BW.trans ((undrew1 h5).mono BW.size)); (exact BW.trans ((undrew1 h5).mono BW.size)); (exact BW.trans ((undrew1 h5).mono BW.size)); rintro e w6 ⟨rfl, h6⟩)))
          have B5' : Below wo.heap.size wo w6 := bl_call h6 (bl_call h5 (bl_drew (Below.refl _ _)))
          have B5 : Below w.heap.size w w6 := BW.trans (B5'.mono BW.size)
          clear q0 q1 q2 h5 h6 B5' hv5
          by_cases e6 : matE qs is cs (catsF fs) = 0
          case neg =>
            have HE := Lib.hid (swE_6 (ch := ch) E1.out h60 HL.out E3.out E4.out HFE.out e6)
            have f6 : (matE qs is cs (catsF fs) != 0) = true := by rw [bne_iff_ne]; exact e6
            clear e6
            generalize matE qs is cs (catsF fs) = E6 at *
            go_wp2_with fail
            go_ret
            exact ⟨by rw [HE.out]; rfl, B5⟩
          have f6 : (matE qs is cs (catsF fs) != 0) = false := by rw [bne_eq_false_iff_eq]; exact e6
          have HE := Lib.hid (swE_7 (ch := ch) E1.out h60 HL.out E3.out E4.out HFE.out e6)
          have hcl : ch.length = fs.length := by have h1 := E3.out; have h2 := E4.out; omega
          have HCL := Lib.hid hcl
          have hcl2 : ch.length ≤ fs.length := by omega
          clear e6 hcl
          generalize matE qs is cs (catsF fs) = E6 at f6 ⊢
          go_wp2_with fail
          clear f6
          go_loopw [13] (fun i wr => ∃ k : Nat, k ≤ ch.length ∧ i = .int .i64 (k : Int) ∧ Hid (∀ i, i < k → 0 ≤ ch.getD i 0 ∧ ch.getD i 0 < ((fs.getD i []).length : Int)) ∧ Below w.heap.size w wr) (fun i _ => ch.length - (intOf i).toNat)
          case atStart => exact ⟨0, by omega, rfl, fun i hi => by omega, B5⟩
          case round =>
            clear B5
            obtain ⟨k, hk, rfl, hinv, hb⟩ := hrel
            by_cases hlt : k < ch.length
            · obtain ⟨b1, o1, u1, rfl, hb1, g1, hI⟩ := lst_at hsf HF.out (show k < fs.length by omega)
              obtain ⟨b2, o2, rfl, hb2, hcell⟩ := hsd.num hlt
              have g2 : wr.cell? ⟨b1, o1 + k, none⟩ = some u1 := (hb.cell (p := ⟨b1, o1 + k, none⟩) hb1).trans g1
              have g3 : wr.cell? ⟨b2, o2 + k, none⟩ = some (.int .i64 (ch.getD k 0)) := (hb.cell (p := ⟨b2, o2 + k, none⟩) hb2).trans (hcell k hlt)
              obtain ⟨R, cR, ss, rfl, _, _, _, _⟩ := hI
              clear g1 hcell
              have i5 : (k : Int) < (fs.length : Int) := by omega
              have HO : Hid ((0 ≤ ch.getD k 0 ∧ ch.getD k 0 < ((fs.getD k []).length : Int)) → ∀ i, i < k + 1 → 0 ≤ ch.getD i 0 ∧ ch.getD i 0 < ((fs.getD i []).length : Int)) := fun h => all_snoc hinv.out h
              have HB : Hid (¬ (0 ≤ ch.getD k 0 ∧ ch.getD k 0 < ((fs.getD k []).length : Int)) → swE ps rs qs is cs fs ch = 3) := fun h => HE.out.trans (if_pos (show chOK fs ch = false from dec_no hlt h))
              generalize ch.getD k 0 = x at *
              generalize (fs.getD k []).length = lk at *
              by_cases c1 : x < 0
              · have HR := Lib.hid (HB.out (by omega))
                have f7 : decide (x < 0) = true := decide_eq_true c1
                go_wp2_with fail
                go_quiet (fail)
                go_wp2_with fail
                go_ret
                exact ⟨by rw [HR.out]; rfl, below_drewN hb _⟩
              · have f7 : decide (x < 0) = false := decide_eq_false c1
                by_cases c2 : (lk : Int) ≤ x
                · have HR := Lib.hid (HB.out (by omega))
                  have f8 : decide ((lk : Int) ≤ x) = true := decide_eq_true c2
                  go_wp2_with fail
                  go_quiet (fail)
                  go_wp2_with fail
                  go_ret
                  exact ⟨by rw [HR.out]; rfl, below_drewN hb _⟩
                · have HR := Lib.hid (HO.out ⟨by omega, by omega⟩)
                  have f8 : decide ((lk : Int) ≤ x) = false := decide_eq_false c2
                  go_wp2_with fail
                  go_quiet (fail)
                  go_wp2_with fail
                  go_roundw
                  case rel => exact ⟨k + 1, by omega, by go_num, HR.out, below_drewN hb _⟩
                  case measure => simp [intOf]; omega
            · obtain rfl : k = ch.length := by omega
              have HR : Hid (swE ps rs qs is cs fs ch = 0) := by
                unfold Hid
                rw [HE.out, if_neg]
                unfold chOK
                rw [decide_eq_true hinv.out]
                simp
              go_wp2_with fail
              go_ret
              exact ⟨by rw [HR.out]; rfl, hb⟩
end Go.Proofs.Ytneoglmfabilnaa
