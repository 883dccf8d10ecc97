/- The walk of model.Steps. -/
import Derived.Test.YtokpembimalhmaaDoorMoS
import Derived.Test.YtokpembimalhmaaDoorMoT
import Derived.Deep.QuietTactic
import Derived.BigQuiet
namespace Go.Proofs.YtokpembimalhmaaDoor
open Go.RowKit
set_option linter.unusedVariables false

theorem rangeS {m : Nat} {s : Int} (h : m < 1 ∨ 5 < m ∨ s < 0 ∨ 2000 < s) :
    decide ((m : Int) < 1) = true ∨ (decide ((m : Int) < 1) = false ∧ decide (5 < (m : Int)) = true) ∨ (decide ((m : Int) < 1) = false ∧ decide (5 < (m : Int)) = false ∧ decide (s < 0) = true) ∨
    (decide ((m : Int) < 1) = false ∧ decide (5 < (m : Int)) = false ∧ decide (s < 0) = false ∧ decide (2000 < s) = true) := by
  simp only [decide_eq_true_eq, decide_eq_false_iff_not]; omega

set_option maxHeartbeats 4000000 in
theorem msteps_anyF (pv rv dv : Value) (ps rs ds : List Int) (s : Int) (w : World) (hp : Nums .i64 w pv ps) (hr : Nums .i64 w rv rs) (hd : Nums .i64 w dv ds) :
    Calls Tryd.prog 20 #[.agg #[pv, rv], dv, .int .i64 s] w (MdPostF (stepsE (gridE ps rs) ds s) (stepsL ps ds s) w) := by
  have hp0 := hp
  have hr0 := hr
  have hd0 := hd
  obtain ⟨X, cX, rfl, x1, x2, x3⟩ := hp
  obtain ⟨Y, cY, rfl, y1, y2, y3⟩ := hr
  obtain ⟨D, cD, rfl, e1, e2, e3⟩ := hd
  unfold maxLen at x2 y2 e2
  clear y3
  have hrb := (Row.new w 33 [.slice X ps.length cX, .slice Y rs.length cY]).alloc (.cells #[.slice none 0 0] 24)
  have hre := Row.new (w.alloc (.cells #[.slice X ps.length cX, .slice Y rs.length cY] 33)) 24 [.slice none 0 0]
  rw [show (w.alloc (.cells #[.slice X ps.length cX, .slice Y rs.length cY] 33)).heap.size = w.heap.size + 1 by simp] at hre
  have B0 : Below w.heap.size w ((w.alloc (.cells #[.slice X ps.length cX, .slice Y rs.length cY] 33)).alloc (.cells #[.slice none 0 0] 24)) := ((Below.refl _ _).alloc (Nat.le_refl _) _).alloc (by simp) _
  go_enter Tryd.func20, Tryd.ntmps20
  go_wp2_with fail
  refine (gvalid_any _ _ ps rs _ (hp0.below B0) (hr0.below B0)).mono ?_
  rintro e w1 ⟨rfl, hb⟩
  have B1 : Below w.heap.size w w1 := B0.trans (hb.mono B0.size)
  replace hrb := hrb.keep hb
  replace hre := hre.keep hb
  clear hb B0
  have a0 : w1.cell? ⟨w.heap.size, 0, none⟩ = some (.slice X ps.length cX) := hrb.cell 0
  have a1 : w1.cell? ⟨w.heap.size, 1, none⟩ = some (.slice Y rs.length cY) := hrb.cell 1
  have r0 : w1.cell? ⟨w.heap.size + 1, 0, none⟩ = some (.slice none 0 0) := hre.cell 0
  have f0 : w1.frozen? ⟨w.heap.size + 1, 0, none⟩ = false := hre.frozen 0
  by_cases f1 : gridE ps rs = 0
  case neg =>
    have HE := Lib.hid (stepsE_g (ds := ds) (s := s) f1)
    have HZ := Lib.hid f1
    have f : (gridE ps rs != 0) = true := by rw [bne_iff_ne]; exact f1
    clear f1
    generalize gridE ps rs = E at *
    go_wp2_with fail
    exact bodyPost_ret (v := .tuple #[.agg #[.slice none 0 0], .int .i64 (E)]) (by simp [results, Tryd.results20, go_sem, r0]) rfl (MdPostF.bad HE.out HZ.out (B1.setCell (by simp) _))
  have f : (gridE ps rs != 0) = false := by rw [bne_eq_false_iff_eq]; exact f1
  obtain ⟨z1, z2, z3, z4, z5⟩ := gridE_zero f1
  have HG := Lib.hid z4
  clear z3 z4 z5
  have zl := hre.lt
  have zl0 := hrb.lt
  by_cases f2 : ds.length < 1 ∨ 5 < ds.length ∨ s < 0 ∨ 2000 < s
  case pos =>
    have HE := Lib.hid (stepsE_3 f1 f2)
    have h := rangeS f2
    clear f1 f2 e1 e3
    generalize gridE ps rs = E at *
    generalize ds.length = m at *
    rcases h with h1 | ⟨h1, h2⟩ | ⟨h1, h2, h3⟩ | ⟨h1, h2, h3, h4⟩
    all_goals
      go_wp2_with fail
      exact bodyPost_ret (v := .tuple #[.agg #[.slice none 0 0], .int .i64 (3)]) (by simp [results, Tryd.results20, go_sem, r0]) rfl (MdPostF.bad HE.out (by omega) (B1.setCell (by simp) _))
  have H4 := Lib.hid (stepsE_4 f1 f2)
  have H23 := Lib.hid (stepsE_23 f1 f2)
  have HOK := Lib.hid (stepsE_ok f1 f2)
  have f3 : 1 ≤ ds.length ∧ ds.length ≤ 5 ∧ 0 ≤ s ∧ s ≤ 2000 := by omega
  obtain ⟨l1, l5, s1, s2⟩ := f3
  clear f1 f2
  generalize gridE ps rs = E at *
  obtain ⟨m, hm⟩ : ∃ m, ds.length = m := ⟨_, rfl⟩
  have HM := Lib.hid hm
  rw [hm] at e1 e3 l1 l5 ⊢
  clear hm
  have hds := e3.below B1
  go_wp2_with fail
  go_loop [40] (fun i => ∃ k : Nat, k ≤ m ∧ i = .int .i64 (k : Int) ∧ Hid (∀ j, j < k → -1000 ≤ ds.getD j 0 ∧ ds.getD j 0 ≤ 1000)) (fun i => m - (intOf i).toNat)
  case atStart => exact ⟨0, by omega, rfl, fun j h => by omega⟩
  case round =>
    obtain ⟨k, hk, rfl, hinv⟩ := hrel
    by_cases hlt : k < m
    · obtain ⟨b2, o2, rfl, hb2, hcell⟩ := hds.num hlt
      have g1 := hcell k hlt
      have hkd : Hid (k < ds.length) := by unfold Hid; rw [HM.out]; exact hlt
      by_cases hbad : ds.getD k 0 < -1000 ∨ 1000 < ds.getD k 0
      · have HE := Lib.hid (H4.out (inD_no hkd.out hbad))
        clear hcell hinv
        generalize ds.getD k 0 = d at *
        have h : decide (d < -1000) = true ∨ (decide (d < -1000) = false ∧ decide (1000 < d) = true) := by simp only [decide_eq_true_eq, decide_eq_false_iff_not]; omega
        clear hbad
        rcases h with h1 | ⟨h1, h2⟩
        all_goals
          go_wp2_with fail
          exact bodyPost_ret (v := .tuple #[.agg #[.slice none 0 0], .int .i64 (3)]) (by simp [results, Tryd.results20, go_sem, r0]) rfl (MdPostF.bad HE.out (by omega) (B1.setCell (by simp) _))
      · have HI := Lib.hid (all_up (p := fun j => -1000 ≤ ds.getD j 0 ∧ ds.getD j 0 ≤ 1000) hinv.out (by omega : -1000 ≤ ds.getD k 0 ∧ ds.getD k 0 ≤ 1000))
        clear hcell hinv
        generalize ds.getD k 0 = d at *
        have h1 : decide (d < -1000) = false := decide_eq_false (by omega)
        have h2 : decide (1000 < d) = false := decide_eq_false (by omega)
        clear hbad
        go_wp2_with fail
        go_round
        case rel => exact ⟨k + 1, by omega, by go_num, HI.out⟩
        case measure => simp [intOf]; omega
    · obtain rfl : k = m := by omega
      have HIN := Lib.hid (inD_yes (ds := ds) fun j hj => hinv.out j (by rw [HM.out] at hj; exact hj))
      clear hinv
      replace H23 := Lib.hid (H23.out HIN.out)
      replace HOK := Lib.hid (HOK.out HIN.out)
      clear H4
      go_wp2_with fail
      go_loopw [11] (fun i wr => ∃ j : Nat, j + 1 ≤ k ∧ i = .int .i64 ((j : Int) + 1) ∧ Hid (∀ q, q < j → ds.getD q 0 < ds.getD (q + 1) 0) ∧ ∃ d, wr = w1.drewN d) (fun i _ => k - (intOf i).toNat)
      case atStart => exact ⟨0, by omega, rfl, fun q hq => by omega, 0, rfl⟩
      case round =>
        obtain ⟨j, hj, rfl, hris, d, rfl⟩ := hrel
        by_cases hlt2 : j + 1 < k
        · obtain ⟨b3, o3, rfl, hb3, hcell⟩ := hds.num hlt2
          have g1 := hcell j (by omega)
          have g2 := hcell (j + 1) hlt2
          have hkl : Hid (j + 1 < ds.length) := by unfold Hid; rw [HM.out]; exact hlt2
          have t1 : IntKind.i64.wrap ((j : Int) + 1 - 1) = (j : Int) := by rw [IntKind.wrap_i64]; omega
          have t2 : ((j : Int) + 1).toNat = j + 1 := by omega
          have t3 : (j : Int) + 1 - 1 = (j : Int) := by omega
          have i1 : 0 ≤ (j : Int) + 1 := by omega
          have i2 : (j : Int) + 1 < (k : Int) := by omega
          clear hcell
          by_cases hle : ds.getD (j + 1) 0 ≤ ds.getD j 0
          · have HE := Lib.hid (H23.out (riseOk_no hkl.out hle))
            clear hris
            generalize ds.getD j 0 = x at *
            generalize ds.getD (j + 1) 0 = y at *
            have t4 : decide (y ≤ x) = true := decide_eq_true hle
            go_wp2_with fail
            go_quiet (fail)
            clear t1 t2 t3
            go_wp2_with fail
            exact bodyPost_ret (v := .tuple #[.agg #[.slice none 0 0], .int .i64 (23)]) (by simp [results, Tryd.results20, go_sem, r0]) rfl (MdPostF.bad HE.out (by omega) ((below_drewN B1 _).setCell (by simp) _))
          · have HI := Lib.hid (all_up (p := fun q => ds.getD q 0 < ds.getD (q + 1) 0) hris.out (by omega : ds.getD j 0 < ds.getD (j + 1) 0))
            clear hris
            generalize ds.getD j 0 = x at *
            generalize ds.getD (j + 1) 0 = y at *
            have t4 : decide (y ≤ x) = false := decide_eq_false hle
            go_wp2_with fail
            go_quiet (fail)
            clear t1 t2 t3
            go_wp2_with fail
            go_roundw
            case rel => exact ⟨j + 1, by omega, by go_num, HI.out, _, rfl⟩
            case measure => simp [intOf]; omega
        · have hge : k ≤ j + 1 := by omega
          have HE := Lib.hid (HOK.out (riseOk_yes fun q hq => hris.out q (by rw [HM.out] at hq; omega)))
          clear hris HOK H23
          have BD := below_drewN B1 d
          replace hrb := hrb.drewN d
          replace hre := hre.drewN d
          have hb1d : Below w1.heap.size w1 (w1.drewN d) := below_drewN (Below.refl _ _) d
          have zl' : w.heap.size + 1 < (w1.drewN d).heap.size := hre.lt
          have zl0' : w.heap.size < (w1.drewN d).heap.size := hrb.lt
          clear a0 a1 r0 f0
          have a0 : (w1.drewN d).cell? ⟨w.heap.size, 0, none⟩ = some (.slice X ps.length cX) := hrb.cell 0
          replace a0 := Lib.hid a0
          generalize w1.drewN d = w2 at *
          replace a0 := a0.out
          have hmk := run_mk (P := Tryd.prog) Tryd.underlying22 infoInts rfl ps.length (by omega) (by omega)
          go_wp2_with fail
          clear hmk f
          have hsp := x3.below BD
          have hdd := hd0.below BD
          go_loopw [76] (fun i wr => ∃ (k : Nat) (us : List Value), k ≤ ps.length ∧ i = .int .i64 (k : Int) ∧ CollI wr us (stepsL ps ds s) k (w2.heap.size + 1) none ∧ Row wr w2.heap.size 31 (us ++ List.replicate (ps.length - k) (.slice none 0 0)) ∧ Below w2.heap.size w2 wr) (fun i _ => ps.length - (intOf i).toNat)
          case atStart => exact ⟨0, [], by omega, rfl, CollI.zero _ _ _ _, by rw [List.nil_append]; exact Row.newz _ _ _ _, (Below.refl _ _).alloc (Nat.le_refl _) _⟩
          case round =>
            obtain ⟨k, us, hk, rfl, hco, hrow, hbr⟩ := hrel
            by_cases hlt : k < ps.length
            · obtain ⟨b2, o2, rfl, hb2, hcell⟩ := hsp.num hlt
              have g1 := (hbr.cell (p := ⟨b2, o2 + k, none⟩) hb2).trans (hcell k hlt)
              obtain ⟨y3, y4, _, _⟩ := HG.out k hlt
              have HR := Lib.hid (stepsL_get (ds := ds) (s := s) hlt)
              clear hcell
              generalize ps.getD k 0 = p at *
              have zr := hrow.lt
              have HSR := Lib.hid (stepRow_any p s _ ds wr (hdd.below hbr) (by rw [HM.out]; exact l1) (by rw [HM.out]; exact l5) HIN.out s1 s2 y3 y4)
              rw [HM.out] at HSR
              go_wp2_with fail
              refine HSR.out.mono ?_
              rintro e w3 ⟨v, rfl, hv, hf, hbe⟩
              rw [← HM.out, ← HR.out] at hv
              have P1 := Lib.hid (coll_put hco hrow hbr hlt hbe hv (hf.mono zr))
              have hrow2 := hrow.keep hbe
              have hc0 : w3.cell? ⟨w2.heap.size, k, none⟩ = some (.slice none 0 0) := by rw [hrow2.cell, padv_get _ _ _ _ hco.1 hlt]
              have hf0 : w3.frozen? ⟨w2.heap.size, k, none⟩ = false := hrow2.frozen k
              obtain ⟨A7, c7, rfl, _, _, _⟩ := hv
              generalize ((stepsL ps ds s).getD k []).length = n7 at P1 ⊢
              clear HR
              go_wp2_with fail
              go_roundw
              case rel => exact ⟨k + 1, _, by omega, by go_num, P1.out⟩
              case measure => simp [intOf]; omega
            · obtain rfl : k = ps.length := by omega
              replace hre := hre.below hbr zl'
              have r0 : wr.cell? ⟨w.heap.size + 1, 0, none⟩ = some (.slice none 0 0) := hre.cell 0
              have f0 : wr.frozen? ⟨w.heap.size + 1, 0, none⟩ = false := hre.frozen 0
              have BW : Below w.heap.size w wr := BD.trans (hbr.mono BD.size)
              go_wp2_with fail
              exact bodyPost_ret (v := .tuple #[.agg #[.slice (some ⟨w2.heap.size, 0, none⟩) ps.length ps.length], .int .i64 0]) (by simp [results, Tryd.results20, go_sem, r0]) rfl (MdPostF.ok HE.out (coll_doneF hco hrow (stepsL_len _ _ _) (by unfold maxLen; omega) zl' (by omega)) (BW.setCell (by simp) _))
theorem msteps_any (pv rv dv : Value) (ps rs ds : List Int) (s : Int) (w : World) (hp : Nums .i64 w pv ps) (hr : Nums .i64 w rv rs) (hd : Nums .i64 w dv ds) :
    Calls Tryd.prog 20 #[.agg #[pv, rv], dv, .int .i64 s] w (MdPost (stepsE (gridE ps rs) ds s) (stepsL ps ds s) w) :=
  (msteps_anyF pv rv dv ps rs ds s w hp hr hd).mono fun _ _ h => h.weak
end Go.Proofs.YtokpembimalhmaaDoor
