/- The walk of matrix.Select. -/
import Derived.Test.YtgdngopemlajjaaMtC
import Derived.Test.YtgdngopemlajjaaColl
namespace Go.Proofs.Ytgdngopemlajjaa
open Go.RowKit
set_option linter.unusedVariables false

/-- A matrix in memory. -/
def Mat (w : World) (pv iv cv : Value) (ps is : List Int) (cs : List (List Int)) : Prop := Nums .i64 w pv ps ∧ Nums .i64 w iv is ∧ IntsL w cv cs
theorem Mat.below {w w' : World} {pv iv cv : Value} {ps is : List Int} {cs : List (List Int)} (h : Mat w pv iv cv ps is cs) (hb : Below w.heap.size w w') : Mat w' pv iv cv ps is cs := ⟨h.1.below hb, h.2.1.below hb, h.2.2.below hb⟩
theorem mat_nil (w : World) : Mat w (.slice none 0 0) (.slice none 0 0) (.slice none 0 0) [] [] [] := ⟨Nums.nil _ _, Nums.nil _ _, intsL_nil w⟩
/-- What Select returns. -/
def SelPost (w : World) (ps is : List Int) (cs : List (List Int)) (P I : List Int) (e : Ending) (w' : World) : Prop :=
  ∃ pv iv cv, e = .returned (.tuple #[.agg #[pv, iv, cv], .int .i64 (selE ps is cs P I)]) ∧
    Mat w' pv iv cv (onZ (selE ps is cs P I) P) (onZ (selE ps is cs P I) I) (onZ (selE ps is cs P I) (selC ps is cs P I)) ∧ Below w.heap.size w w'
theorem SelPost.bad {w w' : World} {ps is : List Int} {cs : List (List Int)} {P I : List Int} {E : Int} (hE : selE ps is cs P I = E) (h0 : E ≠ 0) (hb : Below w.heap.size w w') :
    SelPost w ps is cs P I (.returned (.tuple #[.agg #[.slice none 0 0, .slice none 0 0, .slice none 0 0], .int .i64 E])) w' := by
  refine ⟨_, _, _, by rw [hE], ?_, hb⟩
  rw [hE, onZ_bad h0, onZ_bad h0, onZ_bad h0]
  exact mat_nil w'

set_option maxHeartbeats 4000000 in
theorem select_any (pv iv cv xv yv : Value) (ps is : List Int) (cs : List (List Int)) (P I : List Int) (w : World) (hM : Mat w pv iv cv ps is cs) (hx : Nums .i64 w xv P) (hy : Nums .i64 w yv I)
    (wp : I64 ps) (wi : I64 is) (wP : I64 P) (wI : I64 I) (l1 : ps.length * 8 ≤ 140737488351232) (l2 : is.length * 8 ≤ 140737488351232) (l3 : cs.length * 24 ≤ 140737488351232) (l4 : P.length * 8 ≤ 140737488351232) (l5 : I.length * 8 ≤ 140737488351232) :
    Calls Try.prog 14 #[.agg #[pv, iv, cv], xv, yv] w (SelPost w ps is cs P I) := by
  obtain ⟨hp, hi, hc⟩ := hM
  have hp0 := hp
  have hi0 := hi
  have hc0 := hc
  have hx0 := hx
  have hy0 := hy
  obtain ⟨X, cX, rfl, x1, x2, x3⟩ := hp
  obtain ⟨Y, cY, rfl, y1, y2, y3⟩ := hi
  obtain ⟨Z, cZ, us, rfl, z1, z2, hs, hu⟩ := hc
  obtain ⟨XP, cP, rfl, p1, p2, p3⟩ := hx
  obtain ⟨XI, cI, rfl, q1, q2, q3⟩ := hy
  have HU := Lib.hid hu
  unfold maxLen at x2 y2 z2 p2 q2
  clear x3 y3 hu p3 q3
  have hrb := (Row.new w 25 [.slice X ps.length cX, .slice Y is.length cY, .slice Z cs.length cZ]).alloc (.cells #[.slice none 0 0, .slice none 0 0, .slice none 0 0] 25)
  have hre := Row.new (w.alloc (.cells #[.slice X ps.length cX, .slice Y is.length cY, .slice Z cs.length cZ] 25)) 25 [.slice none 0 0, .slice none 0 0, .slice none 0 0]
  rw [show (w.alloc (.cells #[.slice X ps.length cX, .slice Y is.length cY, .slice Z cs.length cZ] 25)).heap.size = w.heap.size + 1 by simp] at hre
  have B0 : Below w.heap.size w ((w.alloc (.cells #[.slice X ps.length cX, .slice Y is.length cY, .slice Z cs.length cZ] 25)).alloc (.cells #[.slice none 0 0, .slice none 0 0, .slice none 0 0] 25)) := ((Below.refl _ _).alloc (Nat.le_refl _) _).alloc (by simp) _
  go_enter Try.func14, Try.ntmps14
  go_wp2_with fail
  refine (mshp_any _ _ _ ps is cs _ (hp0.below B0) (hi0.below B0) (hc0.below B0)).mono ?_
  rintro e w1 ⟨rfl, hb⟩
  have B1 : Below w.heap.size w w1 := B0.trans (hb.mono B0.size)
  replace hrb := hrb.keep hb
  replace hre := hre.keep hb
  clear hb B0
  have a0 : w1.cell? ⟨w.heap.size, 0, none⟩ = some (.slice X ps.length cX) := hrb.cell 0
  have a1 : w1.cell? ⟨w.heap.size, 1, none⟩ = some (.slice Y is.length cY) := hrb.cell 1
  have a2 : w1.cell? ⟨w.heap.size, 2, none⟩ = some (.slice Z cs.length cZ) := hrb.cell 2
  have r0 : w1.cell? ⟨w.heap.size + 1, 0, none⟩ = some (.slice none 0 0) := hre.cell 0
  have r1 : w1.cell? ⟨w.heap.size + 1, 1, none⟩ = some (.slice none 0 0) := hre.cell 1
  have r2 : w1.cell? ⟨w.heap.size + 1, 2, none⟩ = some (.slice none 0 0) := hre.cell 2
  have f0 : w1.frozen? ⟨w.heap.size + 1, 0, none⟩ = false := hre.frozen 0
  have f1 : w1.frozen? ⟨w.heap.size + 1, 1, none⟩ = false := hre.frozen 1
  have f2 : w1.frozen? ⟨w.heap.size + 1, 2, none⟩ = false := hre.frozen 2
  cases hsh : shp ps is cs with
  | false =>
    have HE := Lib.hid (selE_1 (P := P) (I := I) hsh)
    go_wp2_with fail
    exact bodyPost_ret (v := .tuple #[.agg #[.slice none 0 0, .slice none 0 0, .slice none 0 0], .int .i64 (1)]) (by simp [results, Try.results14, go_sem, r0, r1, r2]) rfl (SelPost.bad HE.out (by omega) ((((B1).setCell (by simp) _).setCell (by simp) _).setCell (by simp) _))
  | true =>
  have HSH := Lib.hid hsh
  clear hsh
  go_wp2_with fail
  refine (indexes_any _ _ P ps _ (hx0.below B1) (hp0.below B1) wP wp l4 l1).mono ?_
  rintro e w2 ⟨rv, rfl, hrv, hb⟩
  have B2 : Below w.heap.size w w2 := B1.trans (hb.mono B1.size)
  replace hrb := hrb.keep hb
  replace hre := hre.keep hb
  clear hb B1
  clear a0 a1 a2 r0 r1 r2 f0 f1 f2
  have a0 : w2.cell? ⟨w.heap.size, 0, none⟩ = some (.slice X ps.length cX) := hrb.cell 0
  have a1 : w2.cell? ⟨w.heap.size, 1, none⟩ = some (.slice Y is.length cY) := hrb.cell 1
  have a2 : w2.cell? ⟨w.heap.size, 2, none⟩ = some (.slice Z cs.length cZ) := hrb.cell 2
  have r0 : w2.cell? ⟨w.heap.size + 1, 0, none⟩ = some (.slice none 0 0) := hre.cell 0
  have r1 : w2.cell? ⟨w.heap.size + 1, 1, none⟩ = some (.slice none 0 0) := hre.cell 1
  have r2 : w2.cell? ⟨w.heap.size + 1, 2, none⟩ = some (.slice none 0 0) := hre.cell 2
  have f0 : w2.frozen? ⟨w.heap.size + 1, 0, none⟩ = false := hre.frozen 0
  have f1 : w2.frozen? ⟨w.heap.size + 1, 1, none⟩ = false := hre.frozen 1
  have f2 : w2.frozen? ⟨w.heap.size + 1, 2, none⟩ = false := hre.frozen 2
  by_cases e1 : idxE P ps = 0
  case neg =>
    have HE := Lib.hid (selE_2 (I := I) HSH.out e1)
    have HZ := Lib.hid e1
    have f : (idxE P ps != 0) = true := by rw [bne_iff_ne]; exact e1
    clear e1
    generalize idxE P ps = E at *
    obtain ⟨RA, rc, rfl, _, _, _⟩ := hrv
    go_wp2_with fail
    exact bodyPost_ret (v := .tuple #[.agg #[.slice none 0 0, .slice none 0 0, .slice none 0 0], .int .i64 (E)]) (by simp [results, Try.results14, go_sem, r0, r1, r2]) rfl (SelPost.bad HE.out HZ.out ((((B2).setCell (by simp) _).setCell (by simp) _).setCell (by simp) _))
  have H1 := Lib.hid e1
  have f : (idxE P ps != 0) = false := by rw [bne_eq_false_iff_eq]; exact e1
  rw [onZ_zero e1] at hrv
  clear e1
  have hrv0 := hrv
  obtain ⟨RA, rc, rfl, rr1, rr2, rr3⟩ := hrv
  rw [idxL_len] at rr1 rr3 ⊢
  generalize hE1 : idxE P ps = E1 at f ⊢
  clear hE1
  go_wp2_with fail
  refine (indexes_any _ _ I is _ (hy0.below B2) (hi0.below B2) wI wi l5 l2).mono ?_
  rintro e w3 ⟨sv, rfl, hsv, hb⟩
  have hrv3 := hrv0.below hb
  have B3 : Below w.heap.size w w3 := B2.trans (hb.mono B2.size)
  replace hrb := hrb.keep hb
  replace hre := hre.keep hb
  clear hb B2
  clear a0 a1 a2 r0 r1 r2 f0 f1 f2
  have a0 : w3.cell? ⟨w.heap.size, 0, none⟩ = some (.slice X ps.length cX) := hrb.cell 0
  have a1 : w3.cell? ⟨w.heap.size, 1, none⟩ = some (.slice Y is.length cY) := hrb.cell 1
  have a2 : w3.cell? ⟨w.heap.size, 2, none⟩ = some (.slice Z cs.length cZ) := hrb.cell 2
  have r0 : w3.cell? ⟨w.heap.size + 1, 0, none⟩ = some (.slice none 0 0) := hre.cell 0
  have r1 : w3.cell? ⟨w.heap.size + 1, 1, none⟩ = some (.slice none 0 0) := hre.cell 1
  have r2 : w3.cell? ⟨w.heap.size + 1, 2, none⟩ = some (.slice none 0 0) := hre.cell 2
  have f0 : w3.frozen? ⟨w.heap.size + 1, 0, none⟩ = false := hre.frozen 0
  have f1 : w3.frozen? ⟨w.heap.size + 1, 1, none⟩ = false := hre.frozen 1
  have f2 : w3.frozen? ⟨w.heap.size + 1, 2, none⟩ = false := hre.frozen 2
  by_cases e2 : idxE I is = 0
  case neg =>
    have HE := Lib.hid (selE_3 (I := I) HSH.out H1.out)
    have HZ := Lib.hid e2
    have f2 : (idxE I is != 0) = true := by rw [bne_iff_ne]; exact e2
    clear e2
    generalize idxE I is = E at *
    obtain ⟨SA, sc, rfl, _, _, _⟩ := hsv
    go_wp2_with fail
    exact bodyPost_ret (v := .tuple #[.agg #[.slice none 0 0, .slice none 0 0, .slice none 0 0], .int .i64 (E)]) (by simp [results, Try.results14, go_sem, r0, r1, r2]) rfl (SelPost.bad HE.out HZ.out ((((B3).setCell (by simp) _).setCell (by simp) _).setCell (by simp) _))
  have H2 := Lib.hid e2
  have f2 : (idxE I is != 0) = false := by rw [bne_eq_false_iff_eq]; exact e2
  rw [onZ_zero e2] at hsv
  clear e2
  have hsv0 := hsv
  obtain ⟨SA, sc, rfl, ss1, ss2, ss3⟩ := hsv
  rw [idxL_len] at ss1 ss3 ⊢
  have HE : Hid (selE ps is cs P I = 0) := by unfold Hid; rw [selE_3 HSH.out H1.out]; exact H2.out
  generalize hE2 : idxE I is = E2 at f2 ⊢
  clear hE2
  go_wp2_with fail
  refine (clone_any _ P _ (hx0.below B3) l4).mono ?_
  rintro e w4 ⟨CA, cc, rfl, hcp, hb⟩
  have hfp : Fresh (w.heap.size + 2) (.slice CA P.length cc) := (fresh_own hcp).mono (by have := hre.lt; omega)
  have hrv4 := hrv3.below hb
  have hsv4 := hsv0.below hb
  have B4 : Below w.heap.size w w4 := B3.trans (hb.mono B3.size)
  replace hrb := hrb.keep hb
  replace hre := hre.keep hb
  clear hb B3
  clear a0 a1 a2 r0 r1 r2 f0 f1 f2
  have a0 : w4.cell? ⟨w.heap.size, 0, none⟩ = some (.slice X ps.length cX) := hrb.cell 0
  have a1 : w4.cell? ⟨w.heap.size, 1, none⟩ = some (.slice Y is.length cY) := hrb.cell 1
  have a2 : w4.cell? ⟨w.heap.size, 2, none⟩ = some (.slice Z cs.length cZ) := hrb.cell 2
  have r0 : w4.cell? ⟨w.heap.size + 1, 0, none⟩ = some (.slice none 0 0) := hre.cell 0
  have r1 : w4.cell? ⟨w.heap.size + 1, 1, none⟩ = some (.slice none 0 0) := hre.cell 1
  have r2 : w4.cell? ⟨w.heap.size + 1, 2, none⟩ = some (.slice none 0 0) := hre.cell 2
  have f0 : w4.frozen? ⟨w.heap.size + 1, 0, none⟩ = false := hre.frozen 0
  have f1 : w4.frozen? ⟨w.heap.size + 1, 1, none⟩ = false := hre.frozen 1
  have f2 : w4.frozen? ⟨w.heap.size + 1, 2, none⟩ = false := hre.frozen 2
  go_wp2_with fail
  refine (clone_any _ I _ (hy0.below B4) l5).mono ?_
  rintro e w5 ⟨DA, dc, rfl, hci, hb⟩
  have hfi : Fresh (w.heap.size + 2) (.slice DA I.length dc) := (fresh_own hci).mono (by have := hre.lt; omega)
  have hrv5 := hrv4.below hb
  have hsv5 := hsv4.below hb
  have hcp5 := (Nums.of_own hcp).below hb
  have hci5 := Nums.of_own hci
  have B5 : Below w.heap.size w w5 := B4.trans (hb.mono B4.size)
  replace hrb := hrb.keep hb
  replace hre := hre.keep hb
  clear hb B4
  clear a0 a1 a2 r0 r1 r2 f0 f1 f2
  have a0 : w5.cell? ⟨w.heap.size, 0, none⟩ = some (.slice X ps.length cX) := hrb.cell 0
  have a1 : w5.cell? ⟨w.heap.size, 1, none⟩ = some (.slice Y is.length cY) := hrb.cell 1
  have a2 : w5.cell? ⟨w.heap.size, 2, none⟩ = some (.slice Z cs.length cZ) := hrb.cell 2
  have r0 : w5.cell? ⟨w.heap.size + 1, 0, none⟩ = some (.slice none 0 0) := hre.cell 0
  have r1 : w5.cell? ⟨w.heap.size + 1, 1, none⟩ = some (.slice none 0 0) := hre.cell 1
  have r2 : w5.cell? ⟨w.heap.size + 1, 2, none⟩ = some (.slice none 0 0) := hre.cell 2
  have f0 : w5.frozen? ⟨w.heap.size + 1, 0, none⟩ = false := hre.frozen 0
  have f1 : w5.frozen? ⟨w.heap.size + 1, 1, none⟩ = false := hre.frozen 1
  have f2 : w5.frozen? ⟨w.heap.size + 1, 2, none⟩ = false := hre.frozen 2
  clear hcp hci hrv0 hrv3 hrv4 hsv0 hsv4 rr3 ss3 hx0 hy0 hp0 hi0 hc0
  go_wp2_with fail
  have hns := B5.size
  have hg1 := hrb.lt
  have hg2 := hre.lt
  have hbp := Row.new w5 25 [.slice CA P.length cc, .slice DA I.length dc, .slice none 0 0]
  have B6 : Below w5.heap.size w5 (w5.alloc (.cells #[.slice CA P.length cc, .slice DA I.length dc, .slice none 0 0] 25)) := (Below.refl _ _).alloc (Nat.le_refl _) _
  obtain ⟨hr1, hr2⟩ := idxE_zero H1.out
  obtain ⟨hi1, hi2⟩ := idxE_zero H2.out
  have HPL : P.length ≤ ps.length := ris_len hr1 (inAll_mem hr2)
  have HCL : Hid (cs.length = ps.length) := (shp_at HSH.out).1
  have HPC : P.length ≤ cs.length := by rw [HCL.out]; exact HPL
  have HIN1 := Lib.hid hr2
  have HIN2 := Lib.hid hi2
  clear hr1 hr2 hi1 hi2 HPL a0 a1 a2 r0 r1 r2 f0 f1 f2
  obtain ⟨g, hg⟩ : ∃ g, w5.heap.size = g := ⟨_, rfl⟩
  have HG := Lib.hid hg
  rw [hg] at hbp hns hg1 hg2 ⊢
  clear hg
  obtain ⟨np, hnp⟩ : ∃ n, P.length = n := ⟨_, rfl⟩
  have HNP := Lib.hid hnp
  rw [hnp] at hbp l4 p1 rr1 HPC B6 ⊢
  clear hnp
  obtain ⟨ni, hni⟩ : ∃ n, I.length = n := ⟨_, rfl⟩
  have HNI := Lib.hid hni
  rw [hni] at hbp l5 q1 ss1 B6 ⊢
  clear hni
  have hmk := run_mk0 (P := Try.prog) Try.underlying22 mInfoInt rfl ni (by omega) (by omega)
  go_loopw [50] (fun i wr => ∃ (k : Nat) (V : Option Addr) (cv : Nat) (ws : List Value), k ≤ np ∧ i = .int .i64 (k : Int) ∧ Row wr g 25 [.slice CA np cc, .slice DA ni dc, .slice V k cv] ∧ wr.ownsRow (g + 1) 22 1 (.slice V k cv) k ws ∧ CollI wr ws (selC ps is cs P I) k (g + 1) (Value.slice V k cv).ownBlock ∧ Below g w5 wr) (fun i _ => np - (intOf i).toNat)
  case atStart => exact ⟨0, none, 0, [], by omega, rfl, hbp, World.ownsRow_nil _ _ _ _, CollI.zero _ _ _ _, by have := HG.out; subst this; exact B6⟩
  case round =>
    obtain ⟨k, V, cv, ws, hk, rfl, hrow, hown, hcol, hb⟩ := hrel
    obtain ⟨wo, rfl⟩ : ∃ wo : World, wo = wr := ⟨_, rfl⟩
    have hg5 : Hid (Below w5.heap.size w5 wo) := by unfold Hid; rw [HG.out]; exact hb
    have BW : Below w.heap.size w wo := B5.trans (hg5.out.mono B5.size)
    have hrbo := hrb.keep hg5.out
    have hreo := hre.keep hg5.out
    have go_ := hrow.lt
    by_cases hlt : k < np
    · obtain ⟨b1, o1, hRA, hb1, hc1⟩ := (by have := hrv5.below hg5.out; obtain ⟨A', c', e, _, _, s⟩ := this; rw [idxL_len, HNP.out] at e s; injection e with e1 e2 e3; subst e1; exact s.num hlt : ∃ b o, RA = some ⟨b, o, none⟩ ∧ b < wo.heap.size ∧ ∀ j, j < np → wo.cell? ⟨b, o + j, none⟩ = some (.int .i64 ((idxL P ps).getD j 0)))
      subst hRA
      have g1 := hc1 k hlt
      have hkP : Hid (k < P.length) := by unfold Hid; rw [HNP.out]; exact hlt
      rw [idxL_get P ps hkP.out] at g1
      obtain ⟨t1, t2⟩ := at_lt HIN1.out hkP.out
      clear hc1 t2
      have HSG := Lib.hid (selC_get (ps := ps) (is := is) (cs := cs) (I := I) hkP.out)
      generalize hpa : at_ ps (P.getD k 0) = pa at g1 t1 HSG
      clear hpa
      have t1' : pa < cs.length := by rw [HCL.out]; exact t1
      obtain ⟨b2, o2, u2, rfl, hb2, g2, hI⟩ := lst_at hs HU.out t1'
      have hlen : Hid ((cs.getD pa []).length = is.length) := (shp_at HSH.out).2 pa t1'
      obtain ⟨R, cR, rfl, rq1, rq2, rq3⟩ := hI
      rw [hlen.out] at rq1 rq3
      unfold maxLen at rq2
      have zo : w5.heap.size ≤ wo.heap.size := hg5.out.size
      go_wp2_with fail
      go_loopw [14, 59] (fun v i wr => ∃ (j : Nat) (C : Option Addr) (cc' : Nat), j ≤ ni ∧ i = .int .i64 (j : Int) ∧ v = .slice C j cc' ∧ wr.ownsRow wo.heap.size 3 1 (.slice C j cc') j ((((selC ps is cs P I).getD k []).take j).map (Value.int .i64)) ∧ Below wo.heap.size wo wr) (fun _ i _ => ni - (intOf i).toNat)
      case atStart => exact ⟨0, _, ni, by omega, rfl, rfl, own_zero wo (.int .i64 0) 3 ni (by unfold maxLen; omega), (Below.refl _ _).alloc (Nat.le_refl _) _⟩
      case round =>
        obtain ⟨j, C, cc', hj, rfl, rfl, howr, hbr⟩ := hrel
        have BR : Below w.heap.size w wr := BW.trans (hbr.mono BW.size)
        by_cases hlt2 : j < ni
        · obtain ⟨b3, o3, hSA, hb3, hc3⟩ := (by have := (hsv5.below hg5.out).below hbr; obtain ⟨A', c', e, _, _, s⟩ := this; rw [idxL_len, HNI.out] at e s; injection e with e1 e2 e3; subst e1; exact s.num hlt2 : ∃ b o, SA = some ⟨b, o, none⟩ ∧ b < wr.heap.size ∧ ∀ j, j < ni → wr.cell? ⟨b, o + j, none⟩ = some (.int .i64 ((idxL I is).getD j 0)))
          subst hSA
          have g3 := hc3 j hlt2
          have hjI : Hid (j < I.length) := by unfold Hid; rw [HNI.out]; exact hlt2
          rw [idxL_get I is hjI.out] at g3
          obtain ⟨s1, s2⟩ := at_lt HIN2.out hjI.out
          clear hc3 s2
          have HT : Hid (((selC ps is cs P I).getD k []).take (j + 1) = ((selC ps is cs P I).getD k []).take j ++ [(cs.getD pa []).getD (at_ is (I.getD j 0)) 0]) := by
            unfold Hid
            rw [take_succ_getD _ 0 (by rw [HSG.out, List.length_map]; exact hjI.out), HSG.out, getD_map I _ 0 0 hjI.out]
          generalize hqa : at_ is (I.getD j 0) = qa at g3 s1 HT
          clear hqa
          obtain ⟨b4, o4, rfl, hb4, hc4⟩ := rq3.num s1
          have g4 : wr.cell? ⟨b4, o4 + qa, none⟩ = some (.int .i64 ((cs.getD pa []).getD qa 0)) := (BR.cell (p := ⟨b4, o4 + qa, none⟩) hb4).trans (hc4 qa s1)
          have g5 : wr.cell? ⟨b2, o2 + pa, none⟩ = some (.slice (some ⟨b4, o4, none⟩) (cs.getD pa []).length cR) := (BR.cell (p := ⟨b2, o2 + pa, none⟩) hb2).trans g2
          have g6 : wr.cell? ⟨w.heap.size, 2, none⟩ = some (.slice (some ⟨b2, o2, none⟩) cs.length cZ) := (hrbo.keep hbr).cell 2
          rw [hlen.out] at g5
          clear hc4 g2
          generalize (cs.getD pa []).getD qa 0 = z at *
          have zb : wo.heap.size ≤ wr.heap.size := hbr.size
          go_wp2_with (at_builtin; refine wpList_append_one wr rfl (.tmp 63) (.tmp 72) 22 rfl wo.heap.size 3 (.int .i64 0) 8 Try.underlying22 mInfoInt rfl (.slice C j cc') j _ (.int .i64 z) rfl rfl howr rfl (by unfold maxLen; omega) (by omega) zb ?_; intro A' c4 w7 hown3 hb7)
          go_roundw
          case rel =>
            refine ⟨j + 1, A', c4, by omega, by go_num, rfl, ?_, hbr.trans hb7⟩
            rw [HT.out, List.map_append, List.map_cons, List.map_nil]
            exact hown3
          case measure => simp [intOf]; omega
        · obtain rfl : j = ni := by omega
          have HL2 : Hid (((selC ps is cs P I).getD k []).length = j) := by unfold Hid; rw [HSG.out, List.length_map, HNI.out]
          have HW : Hid (((selC ps is cs P I).getD k []).take j = (selC ps is cs P I).getD k []) := by unfold Hid; apply List.take_of_length_le; rw [HL2.out]; exact Nat.le_refl _
          rw [HW.out] at howr
          have hrow2 := hrow.keep hbr
          have hown2 := own_keep hown hbr
          have hcol2 := hcol.below hbr
          have c0 : wr.cell? ⟨g, 2, none⟩ = some (.slice V k cv) := hrow2.cell 2
          have zb : g + 1 ≤ wr.heap.size := by have := hbr.size; omega
          have hnu := Nums.of_own howr
          have hfr : Fresh wo.heap.size (.slice C j cc') := fresh_own howr
          have hof : Off (Value.slice V k cv).ownBlock (.slice C j cc') := by
            rcases hq : (Value.slice V k cv).ownBlock with _ | q
            · exact Off.none_ _
            · exact Off.of_fresh hfr ((hown.lt q hq).2)
          go_wp2_with (at_builtin; refine wpList_append_oneG wr rfl (.tmp 76) (.tmp 78) 23 rfl (g + 1) 22 (.slice none 0 0) 24 Try.underlying23 mInfoInts rfl (.slice V k cv) k _ (.slice C j cc') rfl rfl hown2 rfl (by unfold maxLen; omega) (by omega) zb ?_; intro A' c4 w7 hown3 hb7 hgr hloc; have hrow3 := hrow2.below hb7 (show g < g + 1 by omega); have d0 : w7.cell? ⟨g, 2, none⟩ = some (.slice V k cv) := hrow3.cell 2; have d1 : w7.frozen? ⟨g, 2, none⟩ = false := hrow3.frozen 2)
          have hco3 := (hcol2.snoc hnu hof (hfr.mono (by omega))).grown hgr hloc
          go_roundw
          case rel =>
            refine ⟨k + 1, A', c4, _, by omega, by go_num, hrow3.set_ 2 _, own_far hown3 (p := ⟨g, 2, none⟩) (by simp) _, hco3.set_ (p := ⟨g, 2, none⟩) (by simp) _, ?_⟩
            exact ((hb.trans (hbr.mono (by omega))).trans (hb7.mono (by omega))).setCell (by simp) _
          case measure => simp [intOf]; omega
    · obtain rfl : k = np := by omega
      have HLc : Hid ((selC ps is cs P I).length = k) := by unfold Hid; rw [selC_len, HNP.out]
      have a0 : wo.cell? ⟨g, 0, none⟩ = some (.slice CA k cc) := hrow.cell 0
      have a1 : wo.cell? ⟨g, 1, none⟩ = some (.slice DA ni dc) := hrow.cell 1
      have a2 : wo.cell? ⟨g, 2, none⟩ = some (.slice V k cv) := hrow.cell 2
      have r0 : wo.cell? ⟨w.heap.size + 1, 0, none⟩ = some (.slice none 0 0) := hreo.cell 0
      have r1 : wo.cell? ⟨w.heap.size + 1, 1, none⟩ = some (.slice none 0 0) := hreo.cell 1
      have r2 : wo.cell? ⟨w.heap.size + 1, 2, none⟩ = some (.slice none 0 0) := hreo.cell 2
      have f0 : wo.frozen? ⟨w.heap.size + 1, 0, none⟩ = false := hreo.frozen 0
      have f1 : wo.frozen? ⟨w.heap.size + 1, 1, none⟩ = false := hreo.frozen 1
      have f2 : wo.frozen? ⟨w.heap.size + 1, 2, none⟩ = false := hreo.frozen 2
      have n1 := hcp5.below hg5.out
      have n2 := hci5.below hg5.out
      rw [HNP.out] at n1
      rw [HNI.out] at n2
      go_wp2_with fail
      refine bodyPost_ret (v := .tuple #[.agg #[.slice CA k cc, .slice DA ni dc, .slice V k cv], .int .i64 0]) (by simp [results, Try.results14, go_sem, r0, r1, r2]) rfl ⟨_, _, _, by rw [HE.out], ?_, ?_⟩
      · rw [HE.out, onZ_zero rfl, onZ_zero rfl, onZ_zero rfl]
        rw [HNP.out] at hfp
        rw [HNI.out] at hfi
        refine ⟨set3 n1 hfp (by omega) _ _ _, set3 n2 hfi (by omega) _ _ _, ?_⟩
        exact (((hcol.set_ (p := ⟨w.heap.size + 1, 0, none⟩) (by simp; omega) _).set_ (p := ⟨w.heap.size + 1, 1, none⟩) (by simp; omega) _).set_ (p := ⟨w.heap.size + 1, 2, none⟩) (by simp; omega) _).intsL HLc.out (own_far (own_far (own_far hown (p := ⟨w.heap.size + 1, 0, none⟩) (by simp; omega) _) (p := ⟨w.heap.size + 1, 1, none⟩) (by simp; omega) _) (p := ⟨w.heap.size + 1, 2, none⟩) (by simp; omega) _)
      · exact ((BW.setCell (by simp) _).setCell (by simp) _).setCell (by simp) _
end Go.Proofs.Ytgdngopemlajjaa
