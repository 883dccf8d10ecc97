/- The walk of model.Expected at a valid model. -/
import Derived.Test.YtokpembimalhmaaDoorMoH
import Derived.Test.YtokpembimalhmaaDoorMoB
namespace Go.Proofs.YtokpembimalhmaaDoor
open Go.RowKit
set_option linter.unusedVariables false

def ExpPost (E S : Int) (w : World) (e : Ending) (w' : World) : Prop :=
  ∃ N A n c B m d, e = .returned (.tuple #[.agg #[.bool N, .slice A n c, .slice B m d], .int .i64 E]) ∧ (E = 0 → RatF w.heap.size w' (.agg #[.bool N, .slice A n c, .slice B m d]) (redP S 1000) (redQ S 1000) 2) ∧ Below w.heap.size w w'
theorem ExpPost.bad {E E' S : Int} {w w' : World} (hE : E = E') (h0 : E' ≠ 0) (hb : Below w.heap.size w w') : ExpPost E S w (.returned (.tuple #[.agg #[.bool false, .slice none 0 0, .slice none 0 0], .int .i64 E'])) w' := by
  subst hE
  exact ⟨_, _, _, _, _, _, _, rfl, fun h => absurd h h0, hb⟩

set_option maxHeartbeats 4000000 in
theorem mexp_any (rv sv : Value) (rows : List (List Int)) (q : Nat) (sc : List Int) (w : World) (h : IntsL w rv rows) (hsc : Nums .i64 w sv sc) (hv : modE rows (rows.length : Int) = 0) (hq : q < rows.length) :
    Calls Tryd.prog 27 #[.agg #[rv], .int .i64 (q : Int), sv] w (ExpPost (expE (catsOf rows) sc) (expS (rows.getD q []) sc (catsOf rows)) w) := by
  obtain ⟨_, m2, _, m4, m5, m6⟩ := modE_zero hv
  obtain ⟨rl, rx, _⟩ := m6 _ (mem_getD [] hq)
  have h0 := h
  have hs0 := hsc
  obtain ⟨A, c, us, rfl, hc, hm, hs, hu⟩ := h0
  obtain ⟨D, cD, rfl, e1, e2, e3⟩ := hsc
  unfold maxLen at hm e2
  have HU := Lib.hid hu
  have HV := Lib.hid hv
  have HRX := Lib.hid rx
  clear hu m6 hv rx
  obtain ⟨b, o, u, rfl, hb, g1, hr⟩ := lst_at hs HU.out hq
  have hc9 : rows.length ≤ 21 := by omega
  clear m2 HU
  obtain ⟨X, cX, rfl, x1, x2, x3⟩ := hr
  unfold maxLen at x2
  have H1 := Lib.hid (expE_1 (cats := catsOf rows) (sc := sc))
  have H3 := Lib.hid (expE_3 (cats := catsOf rows) (sc := sc))
  have H0 := Lib.hid (expE_ok (cats := catsOf rows) (sc := sc))
  have hct := fun w' (hb : Below w.heap.size w w') => cats_any _ rows w' (h.below hb)
  have HCT := Lib.hid hct
  clear hct
  rw [rl] at x1 x3 g1
  have HRL := Lib.hid rl
  clear rl
  generalize rows.getD q [] = r at *
  obtain ⟨W0, hW0⟩ : ∃ W0 : World, W0 = (w.alloc (.cells #[.slice (some ⟨b, o, none⟩) rows.length c] 24)).alloc (.cells #[.bool false, .slice none 0 0, .slice none 0 0] 48) := ⟨_, rfl⟩
  have r0 : Row W0 w.heap.size 24 [.slice (some ⟨b, o, none⟩) rows.length c] := by rw [hW0]; exact (Row.new w 24 [.slice (some ⟨b, o, none⟩) rows.length c]).alloc _
  have r1 : Row W0 (w.heap.size + 1) 48 [.bool false, .slice none 0 0, .slice none 0 0] := by
    rw [hW0]
    have := Row.new (w.alloc (.cells #[.slice (some ⟨b, o, none⟩) rows.length c] 24)) 48 [.bool false, .slice none 0 0, .slice none 0 0]
    simpa using this
  have B0 : Below w.heap.size w W0 := by rw [hW0]; exact ((Below.refl _ _).alloc (Nat.le_refl _) _).alloc (by simp) _
  have HVm := Lib.hid (mvalid1_any _ rows W0 (h.below B0))
  rw [HV.out] at HVm
  go_enter Tryd.func27, Tryd.ntmps27
  go_wp2_with fail
  rw [← hW0]
  clear hW0
  have a0 : W0.cell? ⟨w.heap.size, 0, none⟩ = some (.slice (some ⟨b, o, none⟩) rows.length c) := r0.cell 0
  have d0 : W0.cell? ⟨w.heap.size + 1, 0, none⟩ = some (.bool false) := r1.cell 0
  have d1 : W0.cell? ⟨w.heap.size + 1, 1, none⟩ = some (.slice none 0 0) := r1.cell 1
  have d2 : W0.cell? ⟨w.heap.size + 1, 2, none⟩ = some (.slice none 0 0) := r1.cell 2
  have f0 := r1.frozen 0
  have f1 := r1.frozen 1
  have f2 := r1.frozen 2
  go_wp2_with fail
  refine HVm.out.mono ?_
  clear a0 d0 d1 d2 f0 f1 f2 HVm
  rintro e w1 ⟨rfl, hb1⟩
  have B1 := B0.trans (hb1.mono B0.size)
  replace r0 := r0.keep hb1
  replace r1 := r1.keep hb1
  clear hb1 B0
  have a0 : w1.cell? ⟨w.heap.size, 0, none⟩ = some (.slice (some ⟨b, o, none⟩) rows.length c) := r0.cell 0
  have d0 : w1.cell? ⟨w.heap.size + 1, 0, none⟩ = some (.bool false) := r1.cell 0
  have d1 : w1.cell? ⟨w.heap.size + 1, 1, none⟩ = some (.slice none 0 0) := r1.cell 1
  have d2 : w1.cell? ⟨w.heap.size + 1, 2, none⟩ = some (.slice none 0 0) := r1.cell 2
  have f0 := r1.frozen 0
  have f1 := r1.frozen 1
  have f2 := r1.frozen 2
  go_wp2_with fail
  refine (HCT.out _ B1).mono ?_
  clear a0 d0 d1 d2 f0 f1 f2
  rintro e w2 ⟨rfl, hb2⟩
  have B2 := B1.trans (hb2.mono B1.size)
  replace r0 := r0.keep hb2
  replace r1 := r1.keep hb2
  clear hb2 B1 HCT
  have a0 : w2.cell? ⟨w.heap.size, 0, none⟩ = some (.slice (some ⟨b, o, none⟩) rows.length c) := r0.cell 0
  have d0 : w2.cell? ⟨w.heap.size + 1, 0, none⟩ = some (.bool false) := r1.cell 0
  have d1 : w2.cell? ⟨w.heap.size + 1, 1, none⟩ = some (.slice none 0 0) := r1.cell 1
  have d2 : w2.cell? ⟨w.heap.size + 1, 2, none⟩ = some (.slice none 0 0) := r1.cell 2
  have f0 := r1.frozen 0
  have f1 := r1.frozen 1
  have f2 := r1.frozen 2
  have zl := r1.lt
  have zl0 := r0.lt
  have g1' := (B2.cell (p := ⟨b, o + q, none⟩) hb).trans g1
  have x3' := x3.below B2
  have hds := e3.below B2
  by_cases l1 : sc.length = catsOf rows
  case neg =>
    have HE := Lib.hid (H1.out l1)
    have f : ((sc.length : Int) != (catsOf rows : Int)) = true := by rw [bne_iff_ne]; omega
    clear l1
    generalize catsOf rows = cats at *
    generalize sc.length = m at *
    go_wp2_with fail
    exact bodyPost_ret (v := .tuple #[.agg #[.bool false, .slice none 0 0, .slice none 0 0], .int .i64 1]) (by simp [results, Tryd.results27, go_sem, d0, d1, d2]) rfl (ExpPost.bad HE.out (by omega) (((B2.setCell (by simp) _).setCell (by simp) _).setCell (by simp) _))
  replace H3 := Lib.hid (H3.out l1)
  replace H0 := Lib.hid (H0.out l1)
  obtain ⟨m, hmm⟩ : ∃ m, catsOf rows = m := ⟨_, rfl⟩
  rw [hmm] at l1 m4 m5 x1 x3' g1' HRL H3 H0 ⊢
  have HM := Lib.hid hmm
  rw [l1] at e1 hds ⊢
  have HL := Lib.hid l1
  clear l1 hmm H1
  have f : ((m : Int) != (m : Int)) = false := by simp
  go_wp2_with fail
  clear f
  go_loop [9, 38] (fun s i => ∃ k : Nat, k ≤ m ∧ i = .int .i64 (k : Int) ∧ s = .int .i64 (expS r sc k) ∧ Hid (∀ j, j < k → -1000000 ≤ sc.getD j 0 ∧ sc.getD j 0 ≤ 1000000)) (fun _ i => m - (intOf i).toNat)
  case atStart => exact ⟨0, by omega, rfl, rfl, fun j hj => by omega⟩
  case round =>
    obtain ⟨k, hk, rfl, rfl, hin⟩ := hrel
    have HBD : Hid (-1000000000 * (k : Int) ≤ expS r sc k ∧ expS r sc k ≤ 1000000000 * (k : Int)) := by
      exact expS_bd' HRX.out hin.out k (Nat.le_refl _) (by rw [HRL.out]; exact hk)
    by_cases hlt : k < m
    · obtain ⟨b3, o3, rfl, hb3, hc3⟩ := hds.num hlt
      obtain ⟨b4, o4, rfl, hb4, hc4⟩ := x3'.num hlt
      have g3 := hc3 k hlt
      have g4 := hc4 k hlt
      have hkd : Hid (k < sc.length) := by unfold Hid; rw [HL.out]; exact hlt
      clear hc3 hc4
      by_cases hbad : sc.getD k 0 < -1000000 ∨ 1000000 < sc.getD k 0
      · have HE := Lib.hid (H3.out (scOk_no hkd.out hbad))
        rw [← HM.out] at HE
        clear hin
        generalize sc.getD k 0 = y at *
        have hh : decide (y < -1000000) = true ∨ (decide (y < -1000000) = false ∧ decide (1000000 < y) = true) := by simp only [decide_eq_true_eq, decide_eq_false_iff_not]; omega
        clear hbad
        rcases hh with h1 | ⟨h1, h2⟩
        all_goals
          go_wp2_with fail
          exact bodyPost_ret (v := .tuple #[.agg #[.bool false, .slice none 0 0, .slice none 0 0], .int .i64 3]) (by simp [results, Tryd.results27, go_sem, d0, d1, d2]) rfl (ExpPost.bad HE.out (by omega) (((B2.setCell (by simp) _).setCell (by simp) _).setCell (by simp) _))
      · have HI := Lib.hid (all_up (p := fun j => -1000000 ≤ sc.getD j 0 ∧ sc.getD j 0 ≤ 1000000) hin.out (by omega : -1000000 ≤ sc.getD k 0 ∧ sc.getD k 0 ≤ 1000000))
        have HS : Hid (expS r sc (k + 1) = expS r sc k + r.getD k 0 * sc.getD k 0) := rfl
        obtain ⟨x5, x6⟩ := HRX.out _ (mem_getD 0 (show k < r.length by rw [HRL.out]; exact hlt))
        obtain ⟨y5, y6⟩ := prod_bd (x := r.getD k 0) (y := sc.getD k 0) (by omega) x6 (by omega) (by omega)
        obtain ⟨y7, y8⟩ := HBD.out
        have y9 : -6000000000 ≤ expS r sc k := by omega
        have y10 : expS r sc k ≤ 6000000000 := by omega
        clear y7 y8 hin
        generalize expS r sc k = s at *
        generalize r.getD k 0 = x at *
        generalize sc.getD k 0 = y at *
        have h1 : decide (y < -1000000) = false := decide_eq_false (by omega)
        have h2 : decide (1000000 < y) = false := decide_eq_false (by omega)
        clear hbad
        go_wp2_with fail
        go_round
        case rel => exact ⟨k + 1, by omega, by go_num, by rw [HS.out], HI.out⟩
        case measure => simp [intOf]; omega
    · obtain rfl : k = m := by omega
      have HE := Lib.hid (H0.out (scOk_yes (sc := sc) fun j hj => hin.out j (by rw [HL.out] at hj; exact hj)))
      rw [← HM.out] at HE
      obtain ⟨y7, y8⟩ := HBD.out
      have y9 : -6000000000 ≤ expS r sc k := by omega
      have y10 : expS r sc k ≤ 6000000000 := by omega
      have HSM : Hid (expS r sc (catsOf rows) = expS r sc k) := by unfold Hid; rw [HM.out]
      clear y7 y8 hin HBD H3 H0
      generalize expS r sc k = s at *
      go_wp2_with fail
      have HQ := Lib.hid (qof_any s 1000 w2 (by omega) (by omega) (by omega) (by omega))
      rw [show Int.toNat 1000 = 1000 from rfl] at HQ
      refine HQ.out.mono ?_
      rintro e w3 ⟨v3, rfl, ⟨mv, dv, rfl, hmv, hdv, fm, fd⟩, hb3⟩
      obtain ⟨A6, n6, c6, rfl⟩ := hmv.lim1.choose_spec.1.show_
      obtain ⟨A7, n7, c7, rfl⟩ := hdv.lim1.choose_spec.1.show_
      have B3 := B2.trans (hb3.mono B2.size)
      obtain ⟨N, hN⟩ : ∃ N, N = decide (redP s 1000 < 0) := ⟨_, rfl⟩
      rw [← hN]
      have HNN := Lib.hid hN
      clear hN
      obtain ⟨W4, hW4⟩ : ∃ W4 : World, W4 = w3.alloc (.cells #[.bool N, .slice A6 n6 c6, .slice A7 n7 c7] 48) := ⟨_, rfl⟩
      have B34 : Below w3.heap.size w3 W4 := by rw [hW4]; exact (Below.refl _ _).alloc (Nat.le_refl _) _
      have r4 : Row W4 w3.heap.size 48 [.bool N, .slice A6 n6 c6, .slice A7 n7 c7] := by rw [hW4]; exact Row.new w3 48 [.bool N, .slice A6 n6 c6, .slice A7 n7 c7]
      have t0 : W4.cell? ⟨w3.heap.size, 0, none⟩ = some (.bool N) := r4.cell 0
      have t1 : W4.cell? ⟨w3.heap.size, 1, none⟩ = some (.slice A6 n6 c6) := r4.cell 1
      have t2 : W4.cell? ⟨w3.heap.size, 2, none⟩ = some (.slice A7 n7 c7) := r4.cell 2
      have s4 := (r1.keep hb3).keep B34
      clear d0 d1 d2 f0 f1 f2 a0 g1'
      have d0 : W4.cell? ⟨w.heap.size + 1, 0, none⟩ = some (.bool false) := s4.cell 0
      have d1 : W4.cell? ⟨w.heap.size + 1, 1, none⟩ = some (.slice none 0 0) := s4.cell 1
      have d2 : W4.cell? ⟨w.heap.size + 1, 2, none⟩ = some (.slice none 0 0) := s4.cell 2
      have f0 := s4.frozen 0
      have f1 := s4.frozen 1
      have f2 := s4.frozen 2
      have hz : w.heap.size + 2 ≤ w2.heap.size := zl
      have hfm : Fresh (w.heap.size + 2) (.slice A6 n6 c6) := fm.mono hz
      have hfd : Fresh (w.heap.size + 2) (.slice A7 n7 c7) := fd.mono hz
      have hm4 := hmv.below B34
      have hd4 := hdv.below B34
      have B4 := B3.trans (B34.mono B3.size)
      have d0' := d0
      have d1' := d1
      have d2' := d2
      have f0' := f0
      have f1' := f1
      have f2' := f2
      rw [hW4] at d0' d1' d2' f0' f1' f2'
      go_wp2_with fail
      rw [← hW4]
      clear d0' d1' d2' f0' f1' f2' hW4
      refine bodyPost_ret (v := .tuple #[.agg #[.bool N, .slice A6 n6 c6, .slice A7 n7 c7], .int .i64 0]) (by simp [results, Tryd.results27, go_sem, d0, d1, d2]) rfl ⟨N, A6, n6, c6, A7, n7, c7, by rw [HE.out], fun _ => ?_, ((B4.setCell (by simp) _).setCell (by simp) _).setCell (by simp) _⟩
      rw [HSM.out]
      refine ⟨_, _, by rw [HNN.out], ?_, ?_, hfm.mono (by omega), hfd.mono (by omega)⟩
      · exact ((hm4.set_ hfm (by simp) _).set_ hfm (by simp) _).set_ hfm (by simp) _
      · exact ((hd4.set_ hfd (by simp) _).set_ hfd (by simp) _).set_ hfd (by simp) _
end Go.Proofs.YtokpembimalhmaaDoor
