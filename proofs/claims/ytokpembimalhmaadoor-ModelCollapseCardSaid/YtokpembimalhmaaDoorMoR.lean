/- The walk of model.Ramp. -/
import Derived.Test.YtokpembimalhmaaDoorMoP
import Derived.WalkLawsBesides
namespace Go.Proofs.YtokpembimalhmaaDoor
open Go.RowKit
set_option linter.unusedVariables false

theorem infoInts : (Tryd.prog.info? 31).map (fun i => (i.zero, i.size, i.bytes)) = some (some (.slice none 0 0), 1, 24) := by kernel_rfl
theorem range6 {d s lo hi : Int} (h : d < -1000 ∨ 1000 < d ∨ s < 0 ∨ 2000 < s ∨ lo < 1 ∨ hi < lo ∨ 999 < hi) :
    decide (d < -1000) = true ∨ (decide (d < -1000) = false ∧ decide (1000 < d) = true) ∨ (decide (d < -1000) = false ∧ decide (1000 < d) = false ∧ decide (s < 0) = true) ∨
    (decide (d < -1000) = false ∧ decide (1000 < d) = false ∧ decide (s < 0) = false ∧ decide (2000 < s) = true) ∨
    (decide (d < -1000) = false ∧ decide (1000 < d) = false ∧ decide (s < 0) = false ∧ decide (2000 < s) = false ∧ decide (lo < 1) = true) ∨
    (decide (d < -1000) = false ∧ decide (1000 < d) = false ∧ decide (s < 0) = false ∧ decide (2000 < s) = false ∧ decide (lo < 1) = false ∧ decide (hi < lo) = true) ∨
    (decide (d < -1000) = false ∧ decide (1000 < d) = false ∧ decide (s < 0) = false ∧ decide (2000 < s) = false ∧ decide (lo < 1) = false ∧ decide (hi < lo) = false ∧ decide (999 < hi) = true) := by
  simp only [decide_eq_true_eq, decide_eq_false_iff_not]; omega

set_option maxHeartbeats 4000000 in
theorem ramp_anyF (pv rv : Value) (ps rs : List Int) (d s lo hi : Int) (w : World) (hp : Nums .i64 w pv ps) (hr : Nums .i64 w rv rs) :
    Calls Tryd.prog 17 #[.agg #[pv, rv], .int .i64 d, .int .i64 s, .int .i64 lo, .int .i64 hi] w (MdPostF (rampE (gridE ps rs) d s lo hi) (rampL ps d s lo hi) w) := by
  have hp0 := hp
  have hr0 := hr
  obtain ⟨X, cX, rfl, x1, x2, x3⟩ := hp
  obtain ⟨Y, cY, rfl, y1, y2, y3⟩ := hr
  unfold maxLen at x2 y2
  clear y3
  have hrb := (Row.new w 33 [.slice X ps.length cX, .slice Y rs.length cY]).alloc (.cells #[.slice none 0 0] 24)
  have hre := Row.new (w.alloc (.cells #[.slice X ps.length cX, .slice Y rs.length cY] 33)) 24 [.slice none 0 0]
  rw [show (w.alloc (.cells #[.slice X ps.length cX, .slice Y rs.length cY] 33)).heap.size = w.heap.size + 1 by simp] at hre
  have B0 : Below w.heap.size w ((w.alloc (.cells #[.slice X ps.length cX, .slice Y rs.length cY] 33)).alloc (.cells #[.slice none 0 0] 24)) := ((Below.refl _ _).alloc (Nat.le_refl _) _).alloc (by simp) _
  go_enter Tryd.func17, Tryd.ntmps17
  go_wp2_with fail
  refine (gvalid_any _ _ ps rs _ (hp0.below B0) (hr0.below B0)).mono ?_
  rintro e w1 ⟨rfl, hb⟩
  have B1 : Below w.heap.size w w1 := B0.trans (hb.mono B0.size)
  replace hrb := hrb.keep hb
  replace hre := hre.keep hb
  clear hb B0
  have a0 : w1.cell? ⟨w.heap.size, 0, none⟩ = some (.slice X ps.length cX) := hrb.cell 0
  have a1 : w1.cell? ⟨w.heap.size, 1, none⟩ = some (.slice Y rs.length cY) := hrb.cell 1
  have r0 : w1.cell? ⟨w.heap.size + 1, 0, none⟩ = some (.slice none 0 0) := hre.cell 0
  have f0 : w1.frozen? ⟨w.heap.size + 1, 0, none⟩ = false := hre.frozen 0
  by_cases e1 : gridE ps rs = 0
  case neg =>
    have HE := Lib.hid (rampE_g (d := d) (s := s) (lo := lo) (hi := hi) e1)
    have HZ := Lib.hid e1
    have f : (gridE ps rs != 0) = true := by rw [bne_iff_ne]; exact e1
    clear e1
    generalize gridE ps rs = E at *
    go_wp2_with fail
    exact bodyPost_ret (v := .tuple #[.agg #[.slice none 0 0], .int .i64 (E)]) (by simp [results, Tryd.results17, go_sem, r0]) rfl (MdPostF.bad HE.out HZ.out (B1.setCell (by simp) _))
  have f : (gridE ps rs != 0) = false := by rw [bne_eq_false_iff_eq]; exact e1
  obtain ⟨z1, z2, z3, z4, z5⟩ := gridE_zero e1
  have HG := Lib.hid z4
  clear z3 z4 z5
  have zl := hre.lt
  have zl0 := hrb.lt
  by_cases e2 : d < -1000 ∨ 1000 < d ∨ s < 0 ∨ 2000 < s ∨ lo < 1 ∨ hi < lo ∨ 999 < hi
  case pos =>
    have HE := Lib.hid (rampE_3 e1 e2)
    have h := range6 e2
    clear e1 e2
    generalize gridE ps rs = E at *
    rcases h with h1 | ⟨h1, h2⟩ | ⟨h1, h2, h3⟩ | ⟨h1, h2, h3, h4⟩ | ⟨h1, h2, h3, h4, h5⟩ | ⟨h1, h2, h3, h4, h5, h6⟩ | ⟨h1, h2, h3, h4, h5, h6, h7⟩
    all_goals
      go_wp2_with fail
      exact bodyPost_ret (v := .tuple #[.agg #[.slice none 0 0], .int .i64 (3)]) (by simp [results, Tryd.results17, go_sem, r0]) rfl (MdPostF.bad HE.out (by omega) (B1.setCell (by simp) _))
  have HE := Lib.hid (rampE_ok e1 e2)
  have e3 : -1000 ≤ d ∧ d ≤ 1000 ∧ 0 ≤ s ∧ s ≤ 2000 ∧ 1 ≤ lo ∧ lo ≤ hi ∧ hi ≤ 999 := by omega
  obtain ⟨d1, d2, s1, s2, l1, l2, l3⟩ := e3
  clear e1 e2
  generalize gridE ps rs = E at *
  have hmk := run_mk (P := Tryd.prog) Tryd.underlying22 infoInts rfl ps.length (by omega) (by omega)
  go_wp2_with fail
  clear hmk f
  have hsp := x3.below B1
  go_loopw [58] (fun i wr => ∃ (k : Nat) (us : List Value), k ≤ ps.length ∧ i = .int .i64 (k : Int) ∧ CollI wr us (rampL ps d s lo hi) k (w1.heap.size + 1) none ∧ Row wr w1.heap.size 31 (us ++ List.replicate (ps.length - k) (.slice none 0 0)) ∧ Below w1.heap.size w1 wr) (fun i _ => ps.length - (intOf i).toNat)
  case atStart => exact ⟨0, [], by omega, rfl, CollI.zero _ _ _ _, by rw [List.nil_append]; exact Row.newz _ _ _ _, (Below.refl _ _).alloc (Nat.le_refl _) _⟩
  case round =>
    obtain ⟨k, us, hk, rfl, hco, hrow, hbr⟩ := hrel
    by_cases hlt : k < ps.length
    · obtain ⟨b2, o2, rfl, hb2, hcell⟩ := hsp.num hlt
      have g1 := (hbr.cell (p := ⟨b2, o2 + k, none⟩) hb2).trans (hcell k hlt)
      obtain ⟨y3, y4, _, _⟩ := HG.out k hlt
      have HR := Lib.hid (rampL_get (d := d) (s := s) (lo := lo) (hi := hi) hlt)
      clear hcell
      generalize ps.getD k 0 = p at *
      obtain ⟨m1, m2⟩ := mul_bd s1 s2 (show -2000 ≤ p - d by omega) (show p - d ≤ 2000 by omega)
      have zr := hrow.lt
      go_wp2_with fail
      refine (percent_any _ _ (by omega) (by omega)).mono ?_
      rintro e w2 ⟨rfl, rfl⟩
      have q1 : -40000 ≤ s * (p - d) / 100 := by omega
      have q2 : s * (p - d) / 100 ≤ 40000 := by omega
      have hc0 : wr.cell? ⟨w1.heap.size, k, none⟩ = some (.slice none 0 0) := by rw [hrow.cell, padv_get _ _ _ _ hco.1 hlt]
      have hf0 : wr.frozen? ⟨w1.heap.size, k, none⟩ = false := hrow.frozen k
      have P1 := fun (a b : Int) (h : (rampL ps d s lo hi).getD k [] = [a, b]) => coll_put hco hrow hbr hlt ((Below.refl _ _).alloc (Nat.le_refl _) (.cells #[.int .i64 a, .int .i64 b] 3)) (by rw [h]; exact Nums.of_row (zs := [a, b]) (Row.new wr 3 [.int .i64 a, .int .i64 b]) (by simp [maxLen])) (show Fresh (w1.heap.size + 1) (.slice (some ⟨wr.heap.size, 0, none⟩) 2 2) from zr)
      rcases (by omega : 500 + s * (p - d) / 100 < lo ∨ hi < 500 + s * (p - d) / 100 ∨ (lo ≤ 500 + s * (p - d) / 100 ∧ 500 + s * (p - d) / 100 ≤ hi)) with t1 | t1 | ⟨t1, t2⟩
      case inl =>
        rw [rampW_lo l2 t1] at HR
        replace P1 := P1 _ _ HR.out
        rw [World.setCell_alloc_past _ _ _ _ zr] at P1
        replace P1 := Lib.hid P1
        go_wp2_with fail
        go_roundw
        case rel => exact ⟨k + 1, _, by omega, by go_num, P1.out⟩
        case measure => simp [intOf]; omega
      case inr.inl =>
        rw [rampW_hi l2 t1] at HR
        replace P1 := P1 _ _ HR.out
        rw [World.setCell_alloc_past _ _ _ _ zr] at P1
        replace P1 := Lib.hid P1
        have t2 : lo ≤ 500 + s * (p - d) / 100 := by omega
        go_wp2_with fail
        go_roundw
        case rel => exact ⟨k + 1, _, by omega, by go_num, P1.out⟩
        case measure => simp [intOf]; omega
      case inr.inr =>
        rw [rampW_mid t1 t2] at HR
        replace P1 := P1 _ _ HR.out
        rw [World.setCell_alloc_past _ _ _ _ zr] at P1
        replace P1 := Lib.hid P1
        go_wp2_with fail
        go_roundw
        case rel => exact ⟨k + 1, _, by omega, by go_num, P1.out⟩
        case measure => simp [intOf]; omega
    · obtain rfl : k = ps.length := by omega
      replace hre := hre.below hbr zl
      have r0 : wr.cell? ⟨w.heap.size + 1, 0, none⟩ = some (.slice none 0 0) := hre.cell 0
      have f0 : wr.frozen? ⟨w.heap.size + 1, 0, none⟩ = false := hre.frozen 0
      have BW : Below w.heap.size w wr := B1.trans (hbr.mono B1.size)
      go_wp2_with fail
      exact bodyPost_ret (v := .tuple #[.agg #[.slice (some ⟨w1.heap.size, 0, none⟩) ps.length ps.length], .int .i64 0]) (by simp [results, Tryd.results17, go_sem, r0]) rfl (MdPostF.ok HE.out (coll_doneF hco hrow (rampL_len _ _ _ _ _) (by unfold maxLen; omega) zl (by omega)) (BW.setCell (by simp) _))
theorem ramp_any (pv rv : Value) (ps rs : List Int) (d s lo hi : Int) (w : World) (hp : Nums .i64 w pv ps) (hr : Nums .i64 w rv rs) :
    Calls Tryd.prog 17 #[.agg #[pv, rv], .int .i64 d, .int .i64 s, .int .i64 lo, .int .i64 hi] w (MdPost (rampE (gridE ps rs) d s lo hi) (rampL ps d s lo hi) w) :=
  (ramp_anyF pv rv ps rs d s lo hi w hp hr).mono fun _ _ h => h.weak
end Go.Proofs.YtokpembimalhmaaDoor
