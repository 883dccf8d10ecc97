/- posterior.All. -/
import Derived.Test.YtoihjclkocffhaaDoorPoA
import Derived.Test.YtoihjclkocffhaaDoorPrg
import Derived.Deep.RegionLaw
namespace Go.Proofs.YtoihjclkocffhaaDoor
open Go.RowKit
set_option linter.unusedVariables false

theorem zip_drop (ms : List Mdl) (ks : List Int) (i : Nat) (h1 : i < ms.length) (h2 : i < ks.length) : (ms.zip ks).drop i = (ms.getD i [], ks.getD i 0) :: (ms.zip ks).drop (i + 1) := by
  have hz : i < (ms.zip ks).length := by rw [List.length_zip]; omega
  rw [List.drop_eq_getElem_cons hz, List.getElem_zip, List.getD_eq_getElem?_getD, List.getD_eq_getElem?_getD, List.getElem?_eq_getElem h1, List.getElem?_eq_getElem h2]
  rfl
/-- What All returns: weights, or the first error. -/
def AllR (w w' : World) (e : Ending) (E : Int) (F : List Nat) (L : Nat) : Prop :=
  (E = 0 ∧ ∃ v, e = .returned (.tuple #[v, .int .i64 0]) ∧ CanL w' v F L ∧ Below w.heap.size w w') ∨ (E ≠ 0 ∧ e = .returned (.tuple #[.slice none 0 0, .int .i64 E]) ∧ Below w.heap.size w w')

set_option maxRecDepth 100000 in
set_option maxHeartbeats 8000000 in
theorem all_any (pv rv mv kv : Value) (ps rs : List Int) (ms : List Mdl) (ks : List Int) (w : World) (hp : Nums .i64 w pv ps) (hr : Nums .i64 w rv rs) (hm : ModL w mv ms) (hk : Nums .i64 w kv ks) :
    Calls Tryd.prog 15 #[.agg #[pv, rv], mv, kv] w fun e w' => AllR w w' e (postE ps rs ms ks) (allF (natsOf rs) (ms.zip ks)) (2 + 2 * ms.length) := by
  have HSN : Hid (gridE ps rs ≠ 0 → ∀ W : World, Below w.heap.size w W → Calls Tryd.prog 13 #[.agg #[pv, rv]] W fun e w' => e = .returned (.tuple #[.slice none 0 0, .int .i64 (gridE ps rs)]) ∧ Below W.heap.size W w') := fun hE W h => start_no pv rv ps rs W (hp.below h) (hr.below h) hE
  have HSY : Hid (gridE ps rs = 0 → ∀ W : World, Below w.heap.size w W → Calls Tryd.prog 13 #[.agg #[pv, rv]] W fun e w' => ∃ v, e = .returned (.tuple #[v, .int .i64 0]) ∧ CanL w' v (natsOf rs) 2 ∧ Below W.heap.size W w') := fun hE W h => start_yes pv rv ps rs W (hp.below h) (hr.below h) hE
  obtain ⟨PA, pc, rfl, hpc, hpm, hps⟩ := hp
  obtain ⟨RV, vc, rfl, hvc, hvm, hvs⟩ := hr
  obtain ⟨MA, mc, mus, rfl, hmc, hmm, hms, hmu⟩ := hm
  obtain ⟨KA, kc, rfl, hkc, hkm, hks⟩ := hk
  have HMU := Lib.hid hmu
  unfold maxLen at hmm hkm
  clear hmu hpc hpm hps hvc hvm hvs
  by_cases hg : gridE ps rs = 0
  · have HSYg := HSY.out hg
    replace HSY := Lib.hid HSYg
    clear HSYg HSN
    by_cases hl : ks.length = ms.length
    · have t2 : ((ks.length : Int) != (ms.length : Int)) = false := by rw [hl]; simp
      by_cases h60 : 60 < ms.length
      · have t3 : decide (60 < (ms.length : Int)) = true := decide_eq_true (by omega)
        rw [show postE ps rs ms ks = 5 by unfold postE; rw [if_neg (by simpa using hg), if_neg (by simpa using hl), if_pos h60]]
        clear hg hl
        obtain ⟨W0, hW0⟩ : ∃ W0 : World, W0 = w.alloc (.cells #[.slice PA ps.length pc, .slice RV rs.length vc] 34) := ⟨_, rfl⟩
        have r0 : Row W0 w.heap.size 34 [.slice PA ps.length pc, .slice RV rs.length vc] := by
          rw [hW0]
          have := Row.new w 34 [.slice PA ps.length pc, .slice RV rs.length vc]
          simpa using this
        have B0 : Below w.heap.size w W0 := by rw [hW0]; exact ((Below.refl _ _).alloc (Nat.le_refl _) _)
        go_enter Tryd.func15, Tryd.ntmps15
        go_wp2_with fail
        rw [← hW0]
        clear hW0
        have BB := B0
        have hr3 := r0
        clear B0 r0
        refine (HSY.out _ BB).mono ?_
        rintro e x1 ⟨v8, rfl, hv8, hb⟩
        replace hr3 := hr3.keep hb
        replace BB : Below w.heap.size w x1 := BB.trans (hb.mono BB.size)
        clear hb
        obtain ⟨VA, vvc, vus, rfl, _⟩ := id hv8
        have c30 : x1.cell? ⟨w.heap.size, 0, none⟩ = some (.slice PA ps.length pc) := hr3.cell 0
        have c31 : x1.cell? ⟨w.heap.size, 1, none⟩ = some (.slice RV rs.length vc) := hr3.cell 1
        have z3 := hr3.lt
        go_wp2_with fail
        clear c30 c31 z3
        go_ret2
        exact .inr ⟨by decide, rfl, BB⟩
      · have t3 : decide (60 < (ms.length : Int)) = false := decide_eq_false (by omega)
        rw [show postE ps rs ms ks = allE (natsOf rs) (ms.zip ks) by unfold postE; rw [if_neg (by simpa using hg), if_neg (by simpa using hl), if_neg h60]]
        clear hg
        obtain ⟨n, hn⟩ : ∃ n, ms.length = n := ⟨_, rfl⟩
        have HN := Lib.hid hn
        have HK : Hid (ks.length = n) := Lib.hid (hl.trans hn)
        have HN60 : Hid (n ≤ 60) := by unfold Hid; omega
        clear hl h60 hn
        obtain ⟨W0, hW0⟩ : ∃ W0 : World, W0 = w.alloc (.cells #[.slice PA ps.length pc, .slice RV rs.length vc] 34) := ⟨_, rfl⟩
        have r0 : Row W0 w.heap.size 34 [.slice PA ps.length pc, .slice RV rs.length vc] := by
          rw [hW0]
          have := Row.new w 34 [.slice PA ps.length pc, .slice RV rs.length vc]
          simpa using this
        have B0 : Below w.heap.size w W0 := by rw [hW0]; exact ((Below.refl _ _).alloc (Nat.le_refl _) _)
        go_enter Tryd.func15, Tryd.ntmps15
        go_wp2_with fail
        rw [← hW0]
        clear hW0
        have BB := B0
        have hr3 := r0
        clear B0 r0
        refine (HSY.out _ BB).mono ?_
        rintro e x1 ⟨v8, rfl, hv8, hb⟩
        replace hr3 := hr3.keep hb
        replace BB : Below w.heap.size w x1 := BB.trans (hb.mono BB.size)
        clear hb
        have c30 : x1.cell? ⟨w.heap.size, 0, none⟩ = some (.slice PA ps.length pc) := hr3.cell 0
        have c31 : x1.cell? ⟨w.heap.size, 1, none⟩ = some (.slice RV rs.length vc) := hr3.cell 1
        have z3 := hr3.lt
        go_wp2_with fail
        clear c30 c31 z3
        have hv8' : CanL x1 v8 (natsOf rs) 2 := hv8
        clear hv8
        go_loopw [8, 30] (fun v iv wr => ∃ (i : Nat) (nsi : List Nat), i ≤ n ∧ iv = .int .i64 (i : Int) ∧ CanL wr v nsi (2 + 2 * i) ∧ Hid (allE (natsOf rs) (ms.zip ks) = allE nsi ((ms.zip ks).drop i) ∧ allF (natsOf rs) (ms.zip ks) = allF nsi ((ms.zip ks).drop i)) ∧ Below x1.heap.size x1 wr) (fun _ iv _ => n - (intOf iv).toNat)
        case atStart => exact ⟨0, _, by omega, rfl, hv8', ⟨rfl, rfl⟩, Below.refl _ _⟩
        case round =>
          obtain ⟨i, nsi, hi, rfl, hcan, hinv, BQ⟩ := hrel
          have BW := BB.trans (BQ.mono BB.size)
          by_cases hlt : i < n
          · obtain ⟨b, o, u, rfl, hbl, g1, hI⟩ := lst_at (R := IntsL) (d := []) (xs := ms) hms HMU.out (by rw [HN.out]; exact hlt)
            obtain ⟨b2, o2, rfl, hb2, hc2⟩ := hks.num (i := i) (by rw [HK.out]; exact hlt)
            have g2 := hc2 i (by rw [HK.out]; exact hlt)
            clear hc2
            have HZIP := Lib.hid (zip_drop ms ks i (by rw [HN.out]; exact hlt) (by rw [HK.out]; exact hlt))
            skip
            generalize ms.getD i [] = mi at *
            generalize ks.getD i 0 = x at *
            have hI2 := hI.below BW
            obtain ⟨RA, rc, rus, rfl, _, _, _⟩ := id hI
            have g1' := (BW.cell (p := ⟨b, o + i, none⟩) hbl).trans g1
            have g2' := (BW.cell (p := ⟨b2, o2 + i, none⟩) hb2).trans g2
            have zb1 : b < wr.heap.size := Nat.lt_of_lt_of_le hbl BW.size
            have zb2 : b2 < wr.heap.size := Nat.lt_of_lt_of_le hb2 BW.size
            have hiI : (i : Int) < (n : Int) := by omega
            have hiM : (i : Int) < (ms.length : Int) := by rw [HN.out]; exact hiI
            have hiK : (i : Int) < (ks.length : Int) := by rw [HK.out]; exact hiI
            clear g1 g2 hI
            have hn60 := HN60.out
            obtain ⟨VI, vic, vius, rfl, _⟩ := id hcan
            have e0 : (wr.alloc (.cells #[.slice RA mi.length rc] 25)).cell? ⟨wr.heap.size, 0, none⟩ = some (.slice RA mi.length rc) := (row_at (w := wr) (t := 25) (xs := [.slice RA mi.length rc]) rfl).cell 0
            have g2x : (wr.alloc (.cells #[.slice RA mi.length rc] 25)).cell? ⟨b2, o2 + i, none⟩ = some (.int .i64 x) := ((lit_below wr _).cell (p := ⟨b2, o2 + i, none⟩) zb2).trans g2'
            by_cases hu : updE nsi.length mi x = 0
            · have HU := Lib.hid hu
              clear hu
              go_wp2_with fail
              go_region_law (first | (go_simp; go_at_call 9; ((with_reducible refine (update_yes (.slice VI nsi.length vic) (.slice RA mi.length rc) nsi (2 + 2 * i) mi x _ (hcan.wts.below ?_) (hI2.below ?_) (by omega) HU.out).mono ?_); (repeat (first | with_reducible exact Below.refl _ _ | with_reducible refine bl_call h5 ?_ | with_reducible refine bl_alloc ?_ _ | with_reducible refine bl_drew ?_)); (repeat (first | with_reducible exact Below.refl _ _ | with_reducible refine bl_call h5 ?_ | with_reducible refine bl_alloc ?_ _ | with_reducible refine bl_drew ?_)); rintro e w5 ⟨v5, rfl, hv5, hf5, h5⟩; obtain ⟨V5, vc5, vus5, rfl, _⟩ := id hv5)))
              all_goals
                have hb5 : Below wr.heap.size wr w5 := bl_call h5 (by (repeat (first | with_reducible exact Below.refl _ _ | with_reducible refine bl_call h5 ?_ | with_reducible refine bl_alloc ?_ _ | with_reducible refine bl_drew ?_)))
                go_wp2_with fail
                go_roundw
                case rel =>
                  refine ⟨i + 1, updF mi x nsi, by omega, by go_num, ?_, ?_, BQ.trans (hb5.mono BQ.size)⟩
                  · have := hv5
                    rwa [show 2 + 2 * i + 2 = 2 + 2 * (i + 1) by omega] at this
                  · obtain ⟨q1, q2⟩ := hinv.out
                    rw [HZIP.out] at q1 q2
                    refine ⟨q1.trans ?_, q2⟩
                    show (if updE nsi.length mi x = 0 then _ else _) = _
                    rw [if_pos HU.out]
                case measure => simp [intOf]; omega
            · have HU := Lib.hid hu
              obtain ⟨E5, hE5⟩ : ∃ e, updE nsi.length mi x = e := ⟨_, rfl⟩
              have HE5 := Lib.hid hE5
              have t5 : (E5 != 0) = true := by rw [bne_iff_ne, ← hE5]; exact hu
              clear hu hE5
              go_wp2_with fail
              go_region_law (first | (go_simp; go_at_call 9; ((with_reducible refine (update_no (.slice VI nsi.length vic) (.slice RA mi.length rc) nsi (2 + 2 * i) mi x _ (hcan.wts.below ?_) (hI2.below ?_) HU.out).mono ?_); (repeat (first | with_reducible exact Below.refl _ _ | with_reducible refine bl_call h5 ?_ | with_reducible refine bl_alloc ?_ _ | with_reducible refine bl_drew ?_)); (repeat (first | with_reducible exact Below.refl _ _ | with_reducible refine bl_call h5 ?_ | with_reducible refine bl_alloc ?_ _ | with_reducible refine bl_drew ?_)); rintro e w5 ⟨rfl, h5⟩; rw [HE5.out])))
              all_goals
                have hb5 : Below wr.heap.size wr w5 := bl_call h5 (by (repeat (first | with_reducible exact Below.refl _ _ | with_reducible refine bl_call h5 ?_ | with_reducible refine bl_alloc ?_ _ | with_reducible refine bl_drew ?_)))
                have hfin : allE (natsOf rs) (ms.zip ks) = E5 := by
                  rw [hinv.out.1, HZIP.out]
                  show (if updE nsi.length mi x = 0 then _ else updE nsi.length mi x) = _
                  rw [if_neg HU.out, HE5.out]
                have hne5 : E5 ≠ 0 := by rw [← HE5.out]; exact HU.out
                go_wp2_with fail
                go_ret2
                exact .inr ⟨by rw [hfin]; exact hne5, by rw [hfin]; rfl, BW.trans (hb5.mono BW.size)⟩
          · have hnn := HN.out
            obtain rfl : i = ms.length := by omega
            clear hnn
            obtain ⟨VI, vic, vius, rfl, _⟩ := id hcan
            have hz : (ms.zip ks).drop ms.length = [] := List.drop_eq_nil_of_le (by rw [List.length_zip]; omega)
            obtain ⟨q1, q2⟩ := hinv.out
            rw [hz] at q1 q2
            have hq1 : allE (natsOf rs) (ms.zip ks) = 0 := q1
            have hq2 : allF (natsOf rs) (ms.zip ks) = nsi := q2
            clear q1 q2 hz
            go_wp2_with fail
            go_ret2
            refine .inl ⟨hq1, _, rfl, ?_, BW⟩
            rw [hq2]
            exact hcan
    · have t2 : ((ks.length : Int) != (ms.length : Int)) = true := by rw [bne_iff_ne]; omega
      rw [show postE ps rs ms ks = 1 by unfold postE; rw [if_neg (by simpa using hg), if_pos hl]]
      clear hg hl
      obtain ⟨W0, hW0⟩ : ∃ W0 : World, W0 = w.alloc (.cells #[.slice PA ps.length pc, .slice RV rs.length vc] 34) := ⟨_, rfl⟩
      have r0 : Row W0 w.heap.size 34 [.slice PA ps.length pc, .slice RV rs.length vc] := by
        rw [hW0]
        have := Row.new w 34 [.slice PA ps.length pc, .slice RV rs.length vc]
        simpa using this
      have B0 : Below w.heap.size w W0 := by rw [hW0]; exact ((Below.refl _ _).alloc (Nat.le_refl _) _)
      go_enter Tryd.func15, Tryd.ntmps15
      go_wp2_with fail
      rw [← hW0]
      clear hW0
      have BB := B0
      have hr3 := r0
      clear B0 r0
      refine (HSY.out _ BB).mono ?_
      rintro e x1 ⟨v8, rfl, hv8, hb⟩
      replace hr3 := hr3.keep hb
      replace BB : Below w.heap.size w x1 := BB.trans (hb.mono BB.size)
      clear hb
      obtain ⟨VA, vvc, vus, rfl, _⟩ := id hv8
      have c30 : x1.cell? ⟨w.heap.size, 0, none⟩ = some (.slice PA ps.length pc) := hr3.cell 0
      have c31 : x1.cell? ⟨w.heap.size, 1, none⟩ = some (.slice RV rs.length vc) := hr3.cell 1
      have z3 := hr3.lt
      go_wp2_with fail
      clear c30 c31 z3
      go_ret2
      exact .inr ⟨by decide, rfl, BB⟩
  · have HSNg := HSN.out hg
    replace HSN := Lib.hid HSNg
    clear HSNg HSY
    rw [show postE ps rs ms ks = gridE ps rs by unfold postE; rw [if_pos hg]]
    obtain ⟨E, hEE⟩ : ∃ E, gridE ps rs = E := ⟨_, rfl⟩
    have HE := Lib.hid hEE
    have hn0 : E ≠ 0 := by rw [← hEE]; exact hg
    have t2 : (E != 0) = true := by rw [bne_iff_ne]; exact hn0
    rw [hEE]
    clear hg hEE
    obtain ⟨W0, hW0⟩ : ∃ W0 : World, W0 = w.alloc (.cells #[.slice PA ps.length pc, .slice RV rs.length vc] 34) := ⟨_, rfl⟩
    have r0 : Row W0 w.heap.size 34 [.slice PA ps.length pc, .slice RV rs.length vc] := by
      rw [hW0]
      have := Row.new w 34 [.slice PA ps.length pc, .slice RV rs.length vc]
      simpa using this
    have B0 : Below w.heap.size w W0 := by rw [hW0]; exact ((Below.refl _ _).alloc (Nat.le_refl _) _)
    go_enter Tryd.func15, Tryd.ntmps15
    go_wp2_with fail
    rw [← hW0]
    clear hW0
    have BB := B0
    have hr3 := r0
    clear B0 r0
    refine (HSN.out _ BB).mono ?_
    rintro e x1 ⟨rfl, hb⟩
    replace hr3 := hr3.keep hb
    replace BB : Below w.heap.size w x1 := BB.trans (hb.mono BB.size)
    clear hb
    rw [HE.out]
    have c30 : x1.cell? ⟨w.heap.size, 0, none⟩ = some (.slice PA ps.length pc) := hr3.cell 0
    have c31 : x1.cell? ⟨w.heap.size, 1, none⟩ = some (.slice RV rs.length vc) := hr3.cell 1
    have z3 := hr3.lt
    go_wp2_with fail
    clear c30 c31 z3
    go_ret2
    exact .inr ⟨hn0, rfl, BB⟩

end Go.Proofs.YtoihjclkocffhaaDoor
