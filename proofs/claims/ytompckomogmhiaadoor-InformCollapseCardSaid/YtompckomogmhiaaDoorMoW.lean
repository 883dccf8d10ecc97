/- The walk of model.Collapse. -/
import Derived.Test.YtompckomogmhiaaDoorMoPl
import Derived.Test.YtompckomogmhiaaDoorMoR
import Derived.Deep.QuietTactic
import Derived.BigQuiet
import Derived.RegionTactic
import Derived.BigRegion
namespace Go.Proofs.YtompckomogmhiaaDoor
open Go.RowKit
set_option linter.unusedVariables false

theorem steps_bd {to : List Int} (h0 : to.getD 0 0 = 0) : ∀ j, (∀ i, i < j → to.getD (i + 1) 0 = to.getD i 0 ∨ to.getD (i + 1) 0 = to.getD i 0 + 1) → 0 ≤ to.getD j 0 ∧ to.getD j 0 ≤ (j : Int)
  | 0, _ => by omega
  | j + 1, h => by
    have a := steps_bd h0 j (fun i hi => h i (by omega))
    have b := h j (by omega)
    omega
set_option maxRecDepth 100000 in
set_option maxHeartbeats 8000000 in
theorem mcol_any (rv tv : Value) (rows : List (List Int)) (to : List Int) (w : World) (h : IntsL w rv rows) (ht : Nums .i64 w tv to) :
    Calls Tryd.prog 19 #[.agg #[rv], tv] w (MdPost (colE (modE rows (rows.length : Int)) (catsOf rows) to) (colL rows to) w) := by
  have h0 := h
  have ht0 := ht
  obtain ⟨A, c, us0, rfl, hc, hm, hs, hu⟩ := h
  have HU := Lib.hid hu
  obtain ⟨D, cD, rfl, e1, e2, e3⟩ := ht
  unfold maxLen at hm e2
  clear hu
  have hrb := (Row.new w 40 [.slice A rows.length c]).alloc (.cells #[.slice none 0 0] 40)
  have hre := Row.new (w.alloc (.cells #[.slice A rows.length c] 40)) 40 [.slice none 0 0]
  rw [show (w.alloc (.cells #[.slice A rows.length c] 40)).heap.size = w.heap.size + 1 by simp] at hre
  have B0 : Below w.heap.size w ((w.alloc (.cells #[.slice A rows.length c] 40)).alloc (.cells #[.slice none 0 0] 40)) := ((Below.refl _ _).alloc (Nat.le_refl _) _).alloc (by simp) _
  go_enter Tryd.func19, Tryd.ntmps19
  go_wp2_with fail
  refine (mvalid1_any _ rows _ (h0.below B0)).mono ?_
  rintro e w1 ⟨rfl, hb⟩
  have B1 : Below w.heap.size w w1 := B0.trans (hb.mono B0.size)
  replace hrb := hrb.keep hb
  replace hre := hre.keep hb
  clear hb B0
  have a0 : w1.cell? ⟨w.heap.size, 0, none⟩ = some (.slice A rows.length c) := hrb.cell 0
  have r0 : w1.cell? ⟨w.heap.size + 1, 0, none⟩ = some (.slice none 0 0) := hre.cell 0
  have f0 : w1.frozen? ⟨w.heap.size + 1, 0, none⟩ = false := hre.frozen 0
  by_cases v1 : modE rows (rows.length : Int) = 0
  case neg =>
    have HE := Lib.hid (colE_v (cats := catsOf rows) (to := to) v1)
    have HZ := Lib.hid v1
    have f : (modE rows (rows.length : Int) != 0) = true := by rw [bne_iff_ne]; exact v1
    clear v1
    generalize modE rows (rows.length : Int) = E at *
    go_wp2_with fail
    exact bodyPost_ret (v := .tuple #[.agg #[.slice none 0 0], .int .i64 (E)]) (by simp [results, Tryd.results19, go_sem, r0]) rfl (MdPost.bad HE.out HZ.out (B1.setCell (by simp) _))
  have f : (modE rows (rows.length : Int) != 0) = false := by rw [bne_eq_false_iff_eq]; exact v1
  obtain ⟨z1, z2, z3, z4, z5, z6⟩ := modE_zero v1
  have H1 := Lib.hid (colE_1 (cats := catsOf rows) (to := to) v1)
  have H2 := Lib.hid (colE_2 (cats := catsOf rows) (to := to) v1)
  have H3 := Lib.hid (colE_3 (cats := catsOf rows) (to := to) v1)
  have H4 := Lib.hid (colE_ok (cats := catsOf rows) (to := to) v1)
  have HG := Lib.hid z6
  have z2' : rows.length ≤ 21 := by omega
  have z1' : 1 ≤ rows.length := by omega
  clear z3 z6 v1 z1 z2
  generalize modE rows (rows.length : Int) = E at *
  have HCt := Lib.hid (cats_any _ rows w1 (h0.below B1))
  go_wp2_with fail
  refine HCt.out.mono ?_
  clear HCt
  rintro e w2 ⟨rfl, hb⟩
  have B2 : Below w.heap.size w w2 := B1.trans (hb.mono B1.size)
  replace hrb := hrb.keep hb
  replace hre := hre.keep hb
  clear hb B1 a0 r0 f0
  have a0 : w2.cell? ⟨w.heap.size, 0, none⟩ = some (.slice A rows.length c) := hrb.cell 0
  have r0 : w2.cell? ⟨w.heap.size + 1, 0, none⟩ = some (.slice none 0 0) := hre.cell 0
  have f0 : w2.frozen? ⟨w.heap.size + 1, 0, none⟩ = false := hre.frozen 0
  have zl := hre.lt
  have zl0 := hrb.lt
  have hds := e3.below B2
  by_cases l1 : to.length = catsOf rows
  case neg =>
    have HE := Lib.hid (H1.out (.inl l1))
    have f2 : ((to.length : Int) != (catsOf rows : Int)) = true := by rw [bne_iff_ne]; omega
    clear l1
    generalize catsOf rows = cats at *
    generalize to.length = m at *
    go_wp2_with fail
    exact bodyPost_ret (v := .tuple #[.agg #[.slice none 0 0], .int .i64 (1)]) (by simp [results, Tryd.results19, go_sem, r0]) rfl (MdPost.bad HE.out (by omega) (B2.setCell (by simp) _))
  have LE := Lib.hid l1
  rw [← l1] at z4 z5 HG ⊢
  clear l1
  obtain ⟨m, hmm⟩ : ∃ m, to.length = m := ⟨_, rfl⟩
  have HM := Lib.hid hmm
  rw [hmm] at e1 e3 hds z4 z5 ⊢
  clear hmm
  have f2 : ((m : Int) != (m : Int)) = false := by simp
  obtain ⟨bt, ot, rfl, hbt, hcW⟩ := e3.num (show 0 < m by omega)
  have hcell := fun j hj => (B2.cell (p := ⟨bt, ot + j, none⟩) hbt).trans (hcW j hj)
  have HCW := Lib.hid hcW
  clear hcW
  have g0 := hcell 0 (by omega)
  rw [Nat.add_zero] at g0
  by_cases l2 : to.getD 0 0 = 0
  case neg =>
    have HE := Lib.hid (H1.out (.inr l2))
    have f3 : (to.getD 0 0 != 0) = true := by rw [bne_iff_ne]; exact l2
    clear l2 hcell
    generalize to.getD 0 0 = t at *
    go_wp2_with fail
    exact bodyPost_ret (v := .tuple #[.agg #[.slice none 0 0], .int .i64 (1)]) (by simp [results, Tryd.results19, go_sem, r0]) rfl (MdPost.bad HE.out (by omega) (B2.setCell (by simp) _))
  have HT0 := Lib.hid l2
  rw [l2] at g0
  clear l2
  go_wp2_with fail
  clear f2 g0 f
  have HC := Lib.hid hcell
  clear hcell
  go_loopw [7] (fun i wr => ∃ j : Nat, j + 1 ≤ m ∧ i = .int .i64 ((j : Int) + 1) ∧ Hid (∀ i, i < j → to.getD (i + 1) 0 = to.getD i 0 ∨ to.getD (i + 1) 0 = to.getD i 0 + 1) ∧ ∃ d, wr = w2.drewN d) (fun i _ => m - (intOf i).toNat)
  case atStart => exact ⟨0, by omega, rfl, fun i hi => by omega, 0, rfl⟩
  case round =>
    obtain ⟨j, hj, rfl, hinv, d, rfl⟩ := hrel
    by_cases hlt : j + 1 < m
    · have g1 := HC.out j (by omega)
      have g2 := HC.out (j + 1) hlt
      have hkl : Hid (j + 1 < to.length) := by unfold Hid; rw [HM.out]; exact hlt
      obtain ⟨b1, b2⟩ := steps_bd HT0.out j hinv.out
      have HI := Lib.hid (fun h => all_up (p := fun i => to.getD (i + 1) 0 = to.getD i 0 ∨ to.getD (i + 1) 0 = to.getD i 0 + 1) (k := j) hinv.out h)
      have HN := Lib.hid (fun h1 h2 => H2.out (by have := LE.out; have := HT0.out; omega) (toOk_no hkl.out h1 h2))
      clear hinv
      generalize to.getD j 0 = x at *
      generalize to.getD (j + 1) 0 = y at *
      have t1 : IntKind.i64.wrap ((j : Int) + 1 - 1) = (j : Int) := by rw [IntKind.wrap_i64]; omega
      have t2 : ((j : Int) + 1).toNat = j + 1 := by omega
      have t3 : (j : Int) + 1 - 1 = (j : Int) := by omega
      have t4 : IntKind.i64.wrap (x + 1) = x + 1 := by rw [IntKind.wrap_i64]; omega
      have t7 : IntKind.i64.wrap (j : Int) = (j : Int) := by rw [IntKind.wrap_i64]; omega
      have i1 : 0 ≤ (j : Int) + 1 := by omega
      have i2 : (j : Int) + 1 < (m : Int) := by omega
      by_cases c1 : y = x
      · have HJ := Lib.hid (HI.out (.inl c1))
        have f1 : (y != x) = false := by rw [bne_eq_false_iff_eq]; exact c1
        clear c1 HI HN
        go_wp2_with fail
        go_quiet (fail)
        clear t1 t2 t3 t4 t7
        go_wp2_with fail
        go_roundw
        case rel => exact ⟨j + 1, by omega, by go_num, HJ.out, _, rfl⟩
        case measure => simp [intOf]; omega
      · have f1 : (y != x) = true := by rw [bne_iff_ne]; exact c1
        by_cases c2 : y = x + 1
        · have HJ := Lib.hid (HI.out (.inr c2))
          have f2 : (y != x + 1) = false := by rw [bne_eq_false_iff_eq]; exact c2
          clear c1 c2 HI HN
          go_wp2_with fail
          go_quiet (fail)
          clear t1 t2 t3 t4 t7
          go_wp2_with fail
          go_roundw
          case rel => exact ⟨j + 1, by omega, by go_num, HJ.out, _, rfl⟩
          case measure => simp [intOf]; omega
        · have HE := Lib.hid (HN.out c1 c2)
          have f2 : (y != x + 1) = true := by rw [bne_iff_ne]; exact c2
          clear c1 c2 HI HN
          go_wp2_with fail
          go_quiet (fail)
          clear t1 t2 t3 t4 t7
          go_wp2_with fail
          exact bodyPost_ret (v := .tuple #[.agg #[.slice none 0 0], .int .i64 (1)]) (by simp [results, Tryd.results19, go_sem, r0]) rfl (MdPost.bad HE.out (by omega) ((below_drewN B2 _).setCell (by simp) _))
    · have hge : m ≤ j + 1 := by omega
      have HOK := Lib.hid (toOk_yes (to := to) fun i hi => hinv.out i (by rw [HM.out] at hi; omega))
      obtain ⟨_, b3, b4⟩ := to_in HOK.out HT0.out (i := 0) (by rw [HM.out]; omega)
      rw [HT0.out] at b3
      rw [HM.out] at b4
      have gl := HC.out (m - 1) (by omega)
      have HL : Hid (lastOf to = to.getD (m - 1) 0) := by unfold Hid lastOf; rw [HM.out]
      rw [← HL.out] at gl
      replace H3 := Lib.hid (H3.out (by have := LE.out; have := HT0.out; omega) HOK.out)
      replace H4 := Lib.hid (H4.out (by have := LE.out; have := HT0.out; omega) HOK.out)
      have HTI := Lib.hid (fun i (hi : i < to.length) => to_in HOK.out HT0.out hi)
      have HCR : Hid (∀ r, colR to r = accC to r ((lastOf to).toNat + 1) to.length) := fun r => rfl
      clear hinv HL H1 H2
      have BD := below_drewN B2 d
      replace hrb := hrb.drewN d
      replace hre := hre.drewN d
      have zl' : w.heap.size + 1 < (w2.drewN d).heap.size := hre.lt
      have zl0' : w.heap.size < (w2.drewN d).heap.size := hrb.lt
      replace gl : (w2.drewN d).cell? ⟨bt, ot + (m - 1), none⟩ = some (.int .i64 (lastOf to)) := gl
      clear a0 r0 f0
      have a0 : (w2.drewN d).cell? ⟨w.heap.size, 0, none⟩ = some (.slice A rows.length c) := hrb.cell 0
      have r0 : (w2.drewN d).cell? ⟨w.heap.size + 1, 0, none⟩ = some (.slice none 0 0) := hre.cell 0
      have f0 : (w2.drewN d).frozen? ⟨w.heap.size + 1, 0, none⟩ = false := hre.frozen 0
      have HX := Lib.hid (⟨a0, r0, f0, gl⟩ : _ ∧ _ ∧ _ ∧ _)
      clear a0 r0 f0 gl
      generalize w2.drewN d = w3 at *
      obtain ⟨a0, r0, f0, gl⟩ := HX.out
      have t1 : ((m : Int) - 1).toNat = m - 1 := by omega
      have i1 : 0 ≤ (m : Int) - 1 := by omega
      by_cases l3 : lastOf to = 0
      · have HE := Lib.hid (H3.out l3)
        have f3 : (lastOf to == 0) = true := by rw [beq_iff_eq]; exact l3
        clear l3
        generalize lastOf to = L at *
        go_wp2_with fail
        exact bodyPost_ret (v := .tuple #[.agg #[.slice none 0 0], .int .i64 (19)]) (by simp [results, Tryd.results19, go_sem, r0]) rfl (MdPost.bad HE.out (by omega) (BD.setCell (by simp) _))
      · have HE := Lib.hid (H4.out l3)
        have f3 : (lastOf to == 0) = false := by rw [beq_eq_false_iff_ne]; exact l3
        clear l3
        generalize hL : lastOf to = L at *
        clear hL
        obtain ⟨n, hn⟩ : ∃ n, L.toNat + 1 = n := ⟨_, rfl⟩
        have hn1 : (L + 1 : Int) = (n : Int) := by omega
        have hn6 : n ≤ 6 := by omega
        have HN1 := Lib.hid hn1
        rw [hn] at HCR
        clear hn
        have hmk2 := run_mkI (P := Tryd.prog) Tryd.underlying22 infoInt rfl (L + 1) n hn1 (by omega) (by omega)
        clear hn1
        have HMK2 := Lib.hid hmk2
        clear hmk2
        have hmk := run_mk (P := Tryd.prog) Tryd.underlying38 infoInts rfl rows.length (by omega) (by omega)
        go_wp2_with fail
        clear hmk f3 gl t1
        have HGL : Hid (∀ r ∈ rows, r.length = m ∧ ∀ x ∈ r, 1 ≤ x ∧ x ≤ 1000) := fun r hr => by
          have := HG.out r hr
          rw [HM.out] at this
          exact ⟨this.1, this.2.1⟩
        go_loopw [78] (fun i wr => ∃ (q : Nat) (us : List Value), q ≤ rows.length ∧ i = .int .i64 (q : Int) ∧ CollI wr us (colL rows to) q (w3.heap.size + 1) none ∧ Row wr w3.heap.size 22 (us ++ List.replicate (rows.length - q) (.slice none 0 0)) ∧ Below w3.heap.size w3 wr) (fun i _ => rows.length - (intOf i).toNat)
        case atStart => exact ⟨0, [], by omega, rfl, CollI.zero _ _ _ _, by rw [List.nil_append]; exact Row.newz _ _ _ _, (Below.refl _ _).alloc (Nat.le_refl _) _⟩
        case round =>
          obtain ⟨q, us, hq, rfl, hco, hrow, hbo⟩ := hrel
          obtain ⟨wo, rfl⟩ : ∃ wo : World, wo = wr := ⟨_, rfl⟩
          have BW : Below w.heap.size w wo := BD.trans (hbo.mono BD.size)
          by_cases hltq : q < rows.length
          · obtain ⟨b1, o1, u1, rfl, hb1, g1, hI⟩ := lst_at hs HU.out hltq
            have g2 : wo.cell? ⟨b1, o1 + q, none⟩ = some u1 := (BW.cell (p := ⟨b1, o1 + q, none⟩) hb1).trans g1
            have HRm := HGL.out _ (mem_getD [] hltq)
            have HGET := Lib.hid (colL_get (to := to) hltq)
            rw [HCR.out] at HGET
            clear g1
            generalize rows.getD q [] = r at *
            obtain ⟨hrl, hrx⟩ := HRm
            have HRX := Lib.hid hrx
            clear hrx
            obtain ⟨R, cR, rfl, r1, r2, r3⟩ := hI
            unfold maxLen at r2
            rw [hrl] at r1 r3 g2
            have HRL := Lib.hid hrl
            clear hrl
            have zr := hrow.lt
            have hc0 : wo.cell? ⟨w3.heap.size, q, none⟩ = some (.slice none 0 0) := by rw [hrow.cell, padv_get _ _ _ _ hco.1 hltq]
            have hf0 : wo.frozen? ⟨w3.heap.size, q, none⟩ = false := hrow.frozen q
            have hmk2 := HMK2.out
            have i2 : L + 1 ≤ 6 := by omega
            obtain ⟨ws, hws⟩ : ∃ ws, ws = wo.setCell ⟨w3.heap.size, q, none⟩ (.slice (some ⟨wo.heap.size, 0, none⟩) n n) := ⟨_, rfl⟩
            have hsz : Hid (ws.heap.size = wo.heap.size) := by unfold Hid; rw [hws]; simp
            have Bs : Below w.heap.size w ws := by rw [hws]; exact BW.setCell (by simp; omega) _
            have B3s : Below w3.heap.size w3 ws := by rw [hws]; exact hbo.setCell (Nat.le_refl _) _
            have hcoS : CollI ws us (colL rows to) q (w3.heap.size + 1) none := by rw [hws]; exact hco.set_ (p := ⟨w3.heap.size, q, none⟩) (by simp) _
            have hrowS : Row ws w3.heap.size 22 ((us ++ [.slice (some ⟨wo.heap.size, 0, none⟩) n n]) ++ List.replicate (rows.length - (q + 1)) (.slice none 0 0)) := by
              rw [hws, ← padv_set _ _ _ _ _ hco.1 hltq]
              exact hrow.set_ q _
            have hnew : Row (ws.alloc (.cells (zrow (.int .i64 0) n) 3)) wo.heap.size 3 ((accC to r n 0).map (Value.int .i64)) := by
              have := Row.newz ws 3 (.int .i64 0) n
              rw [hsz.out] at this
              simpa [accC] using this
            have hnb : Below wo.heap.size ws (ws.alloc (.cells (zrow (.int .i64 0) n) 3)) := (Below.refl _ _).alloc (by rw [hsz.out]; exact Nat.le_refl _) _
            have HWS := Lib.hid hws
            clear hws
            have hw5 : w3.heap.size < wo.heap.size := zr
            go_wp2_with fail
            rw [← HWS.out]
            clear hmk2 hc0 hf0
            go_loopw [91] (fun i wr => ∃ j : Nat, j ≤ m ∧ i = .int .i64 (j : Int) ∧ Row wr wo.heap.size 3 ((accC to r n j).map (Value.int .i64)) ∧ Below wo.heap.size ws wr) (fun i _ => m - (intOf i).toNat)
            case atStart => exact ⟨0, by omega, rfl, hnew, hnb⟩
            case round =>
              clear hnew hnb
              obtain ⟨j, hj, rfl, hacc, hbr⟩ := hrel
              have zg2 := hacc.lt
              by_cases hltj : j < m
              · obtain ⟨b3, o3, rfl, hb3, hc3⟩ := r3.num hltj
                have Br : Below w.heap.size w wr := Bs.trans (hbr.mono (Nat.le_trans BW.size (Nat.le_refl _)))
                have g3 := (Br.cell (p := ⟨b3, o3 + j, none⟩) hb3).trans (hc3 j hltj)
                have g4 := (Br.cell (p := ⟨bt, ot + j, none⟩) hbt).trans (HCW.out j hltj)
                have hkt : Hid (j < to.length) := by unfold Hid; rw [HM.out]; exact hltj
                obtain ⟨t1, t2, _⟩ := HTI.out j hkt.out
                have ht6 : (to.getD j 0).toNat < n := by have := HN1.out; omega
                have hall : ∀ i, i < to.length → (to.getD i 0).toNat < n := fun i hi => by have := HN1.out; have := HTI.out i hi; omega
                obtain ⟨y1, y2⟩ := accC_bd (to := to) (row := r) (n := n) HRX.out hall j (by rw [HM.out]; omega) (by rw [HRL.out]; omega) (to.getD j 0).toNat
                obtain ⟨y3, y4⟩ := HRX.out _ (mem_getD 0 (by rw [HRL.out]; exact hltj : j < r.length))
                have g5 : wr.cell? ⟨w3.heap.size, q, none⟩ = some (.slice (some ⟨wo.heap.size, 0, none⟩) n n) := ((hrowS.below hbr hw5).cell q).trans (mid_get hco.1)
                have g6 : wr.cell? ⟨wo.heap.size, (to.getD j 0).toNat, none⟩ = some (.int .i64 ((accC to r n j).getD (to.getD j 0).toNat 0)) := (hacc.cell _).trans (map_get (by rw [accC_len]; exact ht6))
                have g7 : wr.frozen? ⟨wo.heap.size, (to.getD j 0).toNat, none⟩ = false := hacc.frozen _
                have HST : Hid (accC to r n (j + 1) = (accC to r n j).set (to.getD j 0).toNat ((accC to r n j).getD (to.getD j 0).toNat 0 + r.getD j 0)) := rfl
                clear hall
                generalize ht : to.getD j 0 = t at *
                generalize hT : t.toNat = T at *
                generalize hx : r.getD j 0 = x at *
                generalize ha : (accC to r n j).getD T 0 = a at *
                have hTt : t = (T : Int) := by omega
                clear ht hx ha hT
                obtain rfl := hTt
                have s1 : IntKind.i64.wrap (a + x) = a + x := by rw [IntKind.wrap_i64]; omega
                have HP := Lib.hid (row_add (i := T) (x := a + x) hacc)
                rw [← HST.out] at HP
                have jm : (j : Int) < (m : Int) := by omega
                have qn : (q : Int) < (rows.length : Int) := by omega
                have Tn : (T : Int) < (n : Int) := by omega
                have zq : w3.heap.size < wr.heap.size := by omega
                go_wp2_with fail
                go_region
                all_goals
                  clear s1
                  go_wp2_with fail
                  go_roundw
                  case rel => exact ⟨j + 1, by omega, by go_num, HP.out, (hbr.setCell (Nat.le_refl _) _).drew⟩
                  case measure => simp [intOf]; omega
              · have hge2 : m ≤ j := by omega
                have HJM := Lib.hid (show j = m by omega)
                have hbr' : Below ws.heap.size ws wr := by rw [hsz.out]; exact hbr
                have hn : Nums .i64 wr (.slice (some ⟨wo.heap.size, 0, none⟩) n n) ((colL rows to).getD q []) := by
                  rw [HGET.out, HM.out, ← HJM.out]
                  have := Nums.of_row hacc (by rw [accC_len]; unfold maxLen; omega)
                  rwa [accC_len] at this
                have hco2 := (hcoS.below hbr').snoc hn (Off.none_ _) (show Fresh (w3.heap.size + 1) (.slice (some ⟨wo.heap.size, 0, none⟩) n n) from zr)
                have hrow2 := hrowS.below hbr hw5
                have hbb : Below w3.heap.size w3 wr := B3s.trans (hbr.mono (Nat.le_of_lt hw5))
                clear hn hbr'
                go_wp2_with fail
                go_roundw
                case rel => exact ⟨q + 1, _, by omega, by go_num, hco2, hrow2, hbb⟩
                case measure => simp [intOf]; omega
          · obtain rfl : q = rows.length := by omega
            replace hre := hre.below hbo zl'
            have r0 : wo.cell? ⟨w.heap.size + 1, 0, none⟩ = some (.slice none 0 0) := hre.cell 0
            have f0 : wo.frozen? ⟨w.heap.size + 1, 0, none⟩ = false := hre.frozen 0
            go_wp2_with fail
            exact bodyPost_ret (v := .tuple #[.agg #[.slice (some ⟨w3.heap.size, 0, none⟩) rows.length rows.length], .int .i64 0]) (by simp [results, Tryd.results19, go_sem, r0]) rfl (MdPost.ok HE.out (coll_done hco hrow (colL_len _ _) (by unfold maxLen; omega) zl') (BW.setCell (by simp) _))
end Go.Proofs.YtompckomogmhiaaDoor
