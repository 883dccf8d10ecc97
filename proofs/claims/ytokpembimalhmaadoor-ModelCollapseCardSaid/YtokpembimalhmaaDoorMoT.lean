/- The walk of model.stepRow. -/
import Derived.Test.YtokpembimalhmaaDoorMoQ
import Derived.WalkLawsBesides
namespace Go.Proofs.YtokpembimalhmaaDoor
open Go.RowKit
set_option linter.unusedVariables false

set_option maxHeartbeats 4000000 in
theorem stepRow_any (p s : Int) (dv : Value) (ds : List Int) (w : World) (hd : Nums .i64 w dv ds) (h1 : 1 ≤ ds.length) (h5 : ds.length ≤ 5) (hin : inD ds = true) (s1 : 0 ≤ s) (s2 : s ≤ 2000) (y3 : -1000 ≤ p) (y4 : p ≤ 1000) :
    Calls Tryd.prog 41 #[.int .i64 p, dv, .int .i64 s] w fun e w' => ∃ v, e = .returned v ∧ Nums .i64 w' v (stepsR ds.length s p 1 1000 ds) ∧ Fresh w.heap.size v ∧ Below w.heap.size w w' := by
  obtain ⟨D, cD, rfl, x1, x2, x3⟩ := hd
  unfold maxLen at x2
  have HIN := Lib.hid hin
  clear hin
  have HRL := Lib.hid (stepsR_len ds.length s p ds 1 1000)
  have HR0 : Hid ((stepsR ds.length s p 1 1000 ds).drop 0 = stepsR ds.length s p (0 + 1) 1000 (ds.drop 0)) := rfl
  generalize hRR : stepsR ds.length s p 1 1000 ds = R at *
  clear hRR
  obtain ⟨m, hm⟩ : ∃ m, ds.length = m := ⟨_, rfl⟩
  have HM := Lib.hid hm
  rw [hm] at x1 x3 h1 h5 HRL HR0 ⊢
  clear hm
  have hmk := run_mkI (P := Tryd.prog) Tryd.underlying31 infoInt rfl ((m : Int) + 1) (m + 1) (by omega) (by omega) (by omega)
  go_enter Tryd.func41, Tryd.ntmps41
  go_wp2_with fail
  clear hmk
  go_loopw [9, 10] (fun ab i wr => ∃ (j : Nat) (above : Int), j ≤ m ∧ i = .int .i64 ((j : Int) + 1) ∧ ab = .int .i64 above ∧ 1 ≤ above ∧ above ≤ 1000 ∧ Hid (R.drop j = stepsR m s p (j + 1) above (ds.drop j)) ∧ Row wr w.heap.size 3 ((R.take j).map (Value.int .i64) ++ List.replicate (m + 1 - j) (.int .i64 0)) ∧ Below w.heap.size w wr) (fun _ i _ => m + 1 - (intOf i).toNat)
  case atStart => exact ⟨0, 1000, by omega, rfl, rfl, by omega, by omega, HR0, by simpa using Row.newz w 3 (.int .i64 0) (m + 1), (Below.refl _ _).alloc (Nat.le_refl _) _⟩
  case round =>
    obtain ⟨j, above, hj, rfl, rfl, ab1, ab2, hinv, hrow, hbr⟩ := hrel
    by_cases hlt : j < m
    · obtain ⟨b2, o2, rfl, hb2, hcell⟩ := x3.num hlt
      have g1 := (hbr.cell (p := ⟨b2, o2 + j, none⟩) hb2).trans (hcell j hlt)
      have hjd : Hid (j < ds.length) := by unfold Hid; rw [HM.out]; exact hlt
      obtain ⟨d1, d2⟩ := inD_at HIN.out hjd.out
      have HS := Lib.hid (stepsR_at hinv.out hjd.out)
      clear hcell
      generalize ds.getD j 0 = d at *
      obtain ⟨m1, m2⟩ := mul_bd s1 s2 (show -2000 ≤ p - d by omega) (show p - d ≤ 2000 by omega)
      obtain ⟨w1, w2⟩ := stepsW_in (m := (m : Int)) (k := (j : Int) + 1) (d := d) (s := s) (p := p) (above := above) (by omega) (by omega) (by omega) ab2
      have hc0 : wr.cell? ⟨w.heap.size, j, none⟩ = some (.int .i64 0) := by rw [hrow.cell, padv_get _ _ _ _ (by rw [List.length_map, List.length_take, HRL.out]; omega) (by omega)]
      have hf0 : wr.frozen? ⟨w.heap.size, j, none⟩ = false := hrow.frozen j
      have HP := Lib.hid (row_put hrow HRL.out (by omega) HS.out.1)
      go_wp2_with fail
      refine (percent_any _ _ (by omega) (by omega)).mono ?_
      rintro e w2 ⟨rfl, rfl⟩
      have q1 : -40000 ≤ s * (p - d) / 100 := by omega
      have q2 : s * (p - d) / 100 ≤ 40000 := by omega
      have HW : Hid (stepsW (m : Int) ((j : Int) + 1) d s p above = max ((m : Int) - ((j : Int) + 1) + 1) (min (500 + s * (p - d) / 100) (min (1000 - ((j : Int) + 1)) (above - 1)))) := rfl
      generalize hWW : stepsW (m : Int) ((j : Int) + 1) d s p above = W at *
      clear hWW
      generalize s * (p - d) / 100 = x at *
      generalize s * (p - d) = y at *
      rcases Int.lt_or_le (1000 - ((j : Int) + 1)) (500 + x) with t1 | t1
      · rcases Int.lt_or_le (above - 1) (1000 - ((j : Int) + 1)) with t2 | t2
        · rcases Int.lt_or_le (above - 1) ((m : Int) - ((j : Int) + 1) + 1) with t3 | t3
          · first
              | (exfalso; omega)
              | (have HV : W = (m : Int) - ((j : Int) + 1) + 1 := by (rw [HW.out]; omega)
                 rw [HV] at HS HP w1 w2
                 clear HV HW
                 go_wp2_with fail
                 go_roundw
                 case rel => exact ⟨j + 1, (m : Int) - ((j : Int) + 1) + 1, by omega, by go_num, rfl, w1, by omega, HS.out.2, HP.out, (hbr.setCell (Nat.le_refl _) _)⟩
                 case measure => (simp [intOf]; omega))
          · first
              | (exfalso; omega)
              | (have HV : W = above - 1 := by (rw [HW.out]; omega)
                 rw [HV] at HS HP w1 w2
                 clear HV HW
                 go_wp2_with fail
                 go_roundw
                 case rel => exact ⟨j + 1, above - 1, by omega, by go_num, rfl, w1, by omega, HS.out.2, HP.out, (hbr.setCell (Nat.le_refl _) _)⟩
                 case measure => (simp [intOf]; omega))
        · rcases Int.lt_or_le (1000 - ((j : Int) + 1)) ((m : Int) - ((j : Int) + 1) + 1) with t3 | t3
          · first
              | (exfalso; omega)
              | (have HV : W = (m : Int) - ((j : Int) + 1) + 1 := by (rw [HW.out]; omega)
                 rw [HV] at HS HP w1 w2
                 clear HV HW
                 go_wp2_with fail
                 go_roundw
                 case rel => exact ⟨j + 1, (m : Int) - ((j : Int) + 1) + 1, by omega, by go_num, rfl, w1, by omega, HS.out.2, HP.out, (hbr.setCell (Nat.le_refl _) _)⟩
                 case measure => (simp [intOf]; omega))
          · first
              | (exfalso; omega)
              | (have HV : W = 1000 - ((j : Int) + 1) := by (rw [HW.out]; omega)
                 rw [HV] at HS HP w1 w2
                 clear HV HW
                 go_wp2_with fail
                 go_roundw
                 case rel => exact ⟨j + 1, 1000 - ((j : Int) + 1), by omega, by go_num, rfl, w1, by omega, HS.out.2, HP.out, (hbr.setCell (Nat.le_refl _) _)⟩
                 case measure => (simp [intOf]; omega))
      · rcases Int.lt_or_le (above - 1) (500 + x) with t2 | t2
        · rcases Int.lt_or_le (above - 1) ((m : Int) - ((j : Int) + 1) + 1) with t3 | t3
          · first
              | (exfalso; omega)
              | (have HV : W = (m : Int) - ((j : Int) + 1) + 1 := by (rw [HW.out]; omega)
                 rw [HV] at HS HP w1 w2
                 clear HV HW
                 go_wp2_with fail
                 go_roundw
                 case rel => exact ⟨j + 1, (m : Int) - ((j : Int) + 1) + 1, by omega, by go_num, rfl, w1, by omega, HS.out.2, HP.out, (hbr.setCell (Nat.le_refl _) _)⟩
                 case measure => (simp [intOf]; omega))
          · first
              | (exfalso; omega)
              | (have HV : W = above - 1 := by (rw [HW.out]; omega)
                 rw [HV] at HS HP w1 w2
                 clear HV HW
                 go_wp2_with fail
                 go_roundw
                 case rel => exact ⟨j + 1, above - 1, by omega, by go_num, rfl, w1, by omega, HS.out.2, HP.out, (hbr.setCell (Nat.le_refl _) _)⟩
                 case measure => (simp [intOf]; omega))
        · rcases Int.lt_or_le (500 + x) ((m : Int) - ((j : Int) + 1) + 1) with t3 | t3
          · first
              | (exfalso; omega)
              | (have HV : W = (m : Int) - ((j : Int) + 1) + 1 := by (rw [HW.out]; omega)
                 rw [HV] at HS HP w1 w2
                 clear HV HW
                 go_wp2_with fail
                 go_roundw
                 case rel => exact ⟨j + 1, (m : Int) - ((j : Int) + 1) + 1, by omega, by go_num, rfl, w1, by omega, HS.out.2, HP.out, (hbr.setCell (Nat.le_refl _) _)⟩
                 case measure => (simp [intOf]; omega))
          · first
              | (exfalso; omega)
              | (have HV : W = 500 + x := by (rw [HW.out]; omega)
                 rw [HV] at HS HP w1 w2
                 clear HV HW
                 go_wp2_with fail
                 go_roundw
                 case rel => exact ⟨j + 1, 500 + x, by omega, by go_num, rfl, w1, by omega, HS.out.2, HP.out, (hbr.setCell (Nat.le_refl _) _)⟩
                 case measure => (simp [intOf]; omega))
    · obtain rfl : j = m := by omega
      rw [← HM.out] at hinv
      obtain ⟨E1, _⟩ := stepsR_end hinv.out
      rw [HM.out] at E1
      have HP := Lib.hid (row_put hrow HRL.out (by omega) E1)
      have hc0 : wr.cell? ⟨w.heap.size, j, none⟩ = some (.int .i64 0) := by rw [hrow.cell, padv_get _ _ _ _ (by rw [List.length_map, List.length_take, HRL.out]; omega) (by omega)]
      have hf0 : wr.frozen? ⟨w.heap.size, j, none⟩ = false := hrow.frozen j
      clear E1 hinv
      go_wp2_with fail
      go_ret
      exact ⟨_, rfl, row_full HP.out HRL.out (by unfold maxLen; omega), Nat.le_refl _, hbr.setCell (Nat.le_refl _) _⟩
end Go.Proofs.YtokpembimalhmaaDoor
