/- inform.Curve. -/
import Derived.Test.YtompckomogmhiaaDoorInC
namespace Go.Proofs.YtompckomogmhiaaDoor
open Go.RowKit
set_option linter.unusedVariables false
set_option maxRecDepth 100000

/-- The first reason why there is no curve. -/
def crvE (ps rs : List Int) (ms : List Mdl) : Int := if gridE ps rs ≠ 0 then gridE ps rs else testE ps.length ms
theorem crvE_zero {ps rs : List Int} {ms : List Mdl} (h : crvE ps rs ms = 0) : gridE ps rs = 0 ∧ testE ps.length ms = 0 := by
  unfold crvE at h
  split at h
  · contradiction
  · rename_i h1
    exact ⟨by simpa using h1, h⟩
/-- The informations of a test at all points. -/
def curL (Z : Nat) (ps : List Int) (ms : List Mdl) : List (Int × Nat) := (List.range ps.length).map fun j => (redP (sumF Z ms ps.length j) (ifD Z ps j), redQ (sumF Z ms ps.length j) (ifD Z ps j))
theorem curL_get (Z : Nat) (ps : List Int) (ms : List Mdl) {j : Nat} (h : j < ps.length) : (curL Z ps ms).getD j (0, 1) = (redP (sumF Z ms ps.length j) (ifD Z ps j), redQ (sumF Z ms ps.length j) (ifD Z ps j)) := by
  unfold curL
  rw [List.getD_eq_getElem?_getD, List.getElem?_map, List.getElem?_range h]
  rfl

set_option maxHeartbeats 16000000 in
theorem curve_no (pv rv lv : Value) (ps rs : List Int) (ms : List Mdl) (w : World) (hp : Nums .i64 w pv ps) (hr : Nums .i64 w rv rs) (hm : ModL w lv ms) (hE : crvE ps rs ms ≠ 0) :
    Calls Tryd.prog 11 #[.agg #[pv, rv], lv] w fun e w' => e = .returned (.tuple #[.slice none 0 0, .int .i64 (crvE ps rs ms)]) ∧ Below w.heap.size w w' := by
  have HGV := Lib.hid (fun (W : World) (h : Below w.heap.size w W) => gvalid_any pv rv ps rs W (hp.below h) (hr.below h))
  have HMO := Lib.hid (fun (W : World) (h : Below w.heap.size w W) => models_any pv rv lv ps rs ms W (hp.below h) (hr.below h) (hm.below h))
  by_cases h1 : gridE ps rs = 0
  · have hR : crvE ps rs ms = testE ps.length ms := by unfold crvE; rw [if_neg (by simpa using h1)]
    rw [hR] at hE ⊢
    rw [h1] at HGV
    have t1 : (testE ps.length ms != 0) = true := by rw [bne_iff_ne]; exact hE
    generalize testE ps.length ms = E at *
    clear hR hE h1
    obtain ⟨PA, pc, rfl, _, _, hps⟩ := hp
    obtain ⟨RV, vc, rfl, _, _, _⟩ := hr
    obtain ⟨LA, lc, us, rfl, _, _, _, _⟩ := hm
    obtain ⟨pn, hpn⟩ : ∃ n, ps.length = n := ⟨_, rfl⟩
    obtain ⟨n, hnn⟩ : ∃ n, ms.length = n := ⟨_, rfl⟩
    rw [hpn] at HGV HMO ⊢
    rw [hnn] at HMO ⊢
    clear hpn hnn hps
    obtain ⟨W0, hW0⟩ : ∃ W0 : World, W0 = w.alloc (.cells #[.slice PA pn pc, .slice RV rs.length vc] 24) := ⟨_, rfl⟩
    have r0 : Row W0 w.heap.size 24 [.slice PA pn pc, .slice RV rs.length vc] := by
      rw [hW0]
      have := Row.new w 24 [.slice PA pn pc, .slice RV rs.length vc]
      simpa using this
    have B0 : Below w.heap.size w W0 := by rw [hW0]; exact ((Below.refl _ _).alloc (Nat.le_refl _) _)
    go_enter Tryd.func11, Tryd.ntmps11
    go_wp2_with fail
    rw [← hW0]
    clear hW0
    have BB := B0
    have hr2 : Row W0 (w.heap.size) 24 [.slice PA pn pc, .slice RV rs.length vc] := r0
    clear B0 r0
    have c20 : W0.cell? ⟨w.heap.size, 0, none⟩ = some (.slice PA pn pc) := hr2.cell 0
    have c21 : W0.cell? ⟨w.heap.size, 1, none⟩ = some (.slice RV rs.length vc) := hr2.cell 1
    have z2 := hr2.lt
    go_wp2_with fail
    clear c20 c21 z2
    refine (HGV.out _ BB).mono ?_
    rintro e x1 ⟨rfl, hb⟩
    replace hr2 := hr2.keep hb
    replace BB : Below w.heap.size w x1 := BB.trans (hb.mono BB.size)
    clear hb
    have c20 : x1.cell? ⟨w.heap.size, 0, none⟩ = some (.slice PA pn pc) := hr2.cell 0
    have c21 : x1.cell? ⟨w.heap.size, 1, none⟩ = some (.slice RV rs.length vc) := hr2.cell 1
    have z2 := hr2.lt
    go_wp2_with fail
    clear c20 c21 z2
    refine (HMO.out _ BB).mono ?_
    rintro e x2 ⟨rfl, hb⟩
    replace hr2 := hr2.keep hb
    replace BB : Below w.heap.size w x2 := BB.trans (hb.mono BB.size)
    clear hb
    have c20 : x2.cell? ⟨w.heap.size, 0, none⟩ = some (.slice PA pn pc) := hr2.cell 0
    have c21 : x2.cell? ⟨w.heap.size, 1, none⟩ = some (.slice RV rs.length vc) := hr2.cell 1
    have z2 := hr2.lt
    go_wp2_with fail
    clear c20 c21 z2
    go_ret2
    exact ⟨rfl, BB⟩
  · have hR : crvE ps rs ms = gridE ps rs := by unfold crvE; rw [if_pos h1]
    rw [hR]
    have t1 : (gridE ps rs != 0) = true := by rw [bne_iff_ne]; exact h1
    generalize gridE ps rs = E at *
    clear hR hE h1 HMO
    obtain ⟨PA, pc, rfl, _, _, hps⟩ := hp
    obtain ⟨RV, vc, rfl, _, _, _⟩ := hr
    obtain ⟨LA, lc, us, rfl, _, _, _, _⟩ := hm
    obtain ⟨pn, hpn⟩ : ∃ n, ps.length = n := ⟨_, rfl⟩
    obtain ⟨n, hnn⟩ : ∃ n, ms.length = n := ⟨_, rfl⟩
    rw [hpn] at HGV ⊢
    rw [hnn]
    clear hpn hnn hps
    obtain ⟨W0, hW0⟩ : ∃ W0 : World, W0 = w.alloc (.cells #[.slice PA pn pc, .slice RV rs.length vc] 24) := ⟨_, rfl⟩
    have r0 : Row W0 w.heap.size 24 [.slice PA pn pc, .slice RV rs.length vc] := by
      rw [hW0]
      have := Row.new w 24 [.slice PA pn pc, .slice RV rs.length vc]
      simpa using this
    have B0 : Below w.heap.size w W0 := by rw [hW0]; exact ((Below.refl _ _).alloc (Nat.le_refl _) _)
    go_enter Tryd.func11, Tryd.ntmps11
    go_wp2_with fail
    rw [← hW0]
    clear hW0
    have BB := B0
    have hr2 : Row W0 (w.heap.size) 24 [.slice PA pn pc, .slice RV rs.length vc] := r0
    clear B0 r0
    have c20 : W0.cell? ⟨w.heap.size, 0, none⟩ = some (.slice PA pn pc) := hr2.cell 0
    have c21 : W0.cell? ⟨w.heap.size, 1, none⟩ = some (.slice RV rs.length vc) := hr2.cell 1
    have z2 := hr2.lt
    go_wp2_with fail
    clear c20 c21 z2
    refine (HGV.out _ BB).mono ?_
    rintro e x1 ⟨rfl, hb⟩
    replace hr2 := hr2.keep hb
    replace BB : Below w.heap.size w x1 := BB.trans (hb.mono BB.size)
    clear hb
    have c20 : x1.cell? ⟨w.heap.size, 0, none⟩ = some (.slice PA pn pc) := hr2.cell 0
    have c21 : x1.cell? ⟨w.heap.size, 1, none⟩ = some (.slice RV rs.length vc) := hr2.cell 1
    have z2 := hr2.lt
    go_wp2_with fail
    clear c20 c21 z2
    go_ret2
    exact ⟨rfl, BB⟩

set_option maxHeartbeats 32000000 in
theorem curve_ok (pv rv lv : Value) (ps rs : List Int) (ms : List Mdl) (Z : Nat) (w : World) (hp : Nums .i64 w pv ps) (hr : Nums .i64 w rv rs) (hm : ModL w lv ms) (hZ : IsLam Z) (hE : crvE ps rs ms = 0) :
    Calls Tryd.prog 11 #[.agg #[pv, rv], lv] w fun e w' => ∃ g us, e = .returned (.tuple #[.slice (some ⟨g, 0, none⟩) ps.length ps.length, .int .i64 0]) ∧ w.heap.size ≤ g ∧ Row w' g 31 (flat us) ∧ RatC w' us (curL Z ps ms) ps.length 330 (g + 1) ∧ Below w.heap.size w w' := by
  obtain ⟨e1, e2⟩ := crvE_zero hE
  have HGV := Lib.hid (fun (W : World) (h : Below w.heap.size w W) => gvalid_any pv rv ps rs W (hp.below h) (hr.below h))
  have HMO := Lib.hid (fun (W : World) (h : Below w.heap.size w W) => models_any pv rv lv ps rs ms W (hp.below h) (hr.below h) (hm.below h))
  have h21 := (gridE_zero e1).1
  have HSU := Lib.hid (fun (q : Nat) (hq : q < ps.length) (W : World) (h : Below w.heap.size w W) => sum_any pv rv lv ps rs ms q Z W (hp.below h) (hr.below h) (hm.below h) hZ e1 e2 hq)
  have HZL : Hid (∀ j, j < ps.length → (curL Z ps ms).getD j (0, 1) = (redP (sumF Z ms ps.length j) (ifD Z ps j), redQ (sumF Z ms ps.length j) (ifD Z ps j))) := fun j hj => curL_get Z ps ms hj
  rw [e1] at HGV
  rw [e2] at HMO
  generalize curL Z ps ms = zl at *
  generalize hsf : sumF Z ms ps.length = sf at *
  generalize hdf : ifD Z ps = df at *
  clear hsf hdf e1 e2 hE
  have HMK := Lib.hid (run_mk3 (P := Tryd.prog) Tryd.underlying42 infoRatio rfl ps.length (by omega) (by omega))
  obtain ⟨PA, pc, rfl, _, _, hps⟩ := hp
  obtain ⟨RV, vc, rfl, _, _, _⟩ := hr
  obtain ⟨LA, lc, us, rfl, _, _, _, _⟩ := hm
  obtain ⟨n, hpn⟩ : ∃ n, ps.length = n := ⟨_, rfl⟩
  obtain ⟨ln, hnn⟩ : ∃ n, ms.length = n := ⟨_, rfl⟩
  rw [hpn] at HGV HMO HSU HZL HMK h21 ⊢
  rw [hnn] at HMO HSU ⊢
  clear hpn hnn hps
  obtain ⟨W0, hW0⟩ : ∃ W0 : World, W0 = w.alloc (.cells #[.slice PA n pc, .slice RV rs.length vc] 24) := ⟨_, rfl⟩
  have r0 : Row W0 w.heap.size 24 [.slice PA n pc, .slice RV rs.length vc] := by
    rw [hW0]
    have := Row.new w 24 [.slice PA n pc, .slice RV rs.length vc]
    simpa using this
  have B0 : Below w.heap.size w W0 := by rw [hW0]; exact ((Below.refl _ _).alloc (Nat.le_refl _) _)
  go_enter Tryd.func11, Tryd.ntmps11
  go_wp2_with fail
  rw [← hW0]
  clear hW0
  have BB := B0
  have hr2 : Row W0 (w.heap.size) 24 [.slice PA n pc, .slice RV rs.length vc] := r0
  clear B0 r0
  have c20 : W0.cell? ⟨w.heap.size, 0, none⟩ = some (.slice PA n pc) := hr2.cell 0
  have c21 : W0.cell? ⟨w.heap.size, 1, none⟩ = some (.slice RV rs.length vc) := hr2.cell 1
  have z2 := hr2.lt
  go_wp2_with fail
  clear c20 c21 z2
  refine (HGV.out _ BB).mono ?_
  rintro e x1 ⟨rfl, hb⟩
  replace hr2 := hr2.keep hb
  replace BB : Below w.heap.size w x1 := BB.trans (hb.mono BB.size)
  clear hb
  have c20 : x1.cell? ⟨w.heap.size, 0, none⟩ = some (.slice PA n pc) := hr2.cell 0
  have c21 : x1.cell? ⟨w.heap.size, 1, none⟩ = some (.slice RV rs.length vc) := hr2.cell 1
  have z2 := hr2.lt
  go_wp2_with fail
  clear c20 c21 z2
  refine (HMO.out _ BB).mono ?_
  rintro e x2 ⟨rfl, hb⟩
  replace hr2 := hr2.keep hb
  replace BB : Below w.heap.size w x2 := BB.trans (hb.mono BB.size)
  clear hb
  have hz2 := hr2.lt
  have q2 := hr2.alloc (.cells (zrow3 n) 31)
  have BQ0 : Below w.heap.size w (x2.alloc (.cells (zrow3 n) 31)) := BB.alloc BB.size _
  have q7 : Row (x2.alloc (.cells (zrow3 n) 31)) x2.heap.size 31 (flat (List.replicate n z3)) := Row.newz3 _ _ _
  have hmk := HMK.out
  have d20 := q2.cell 0
  simp only [List.getElem?_cons_zero] at d20
  have c20 : x2.cell? ⟨w.heap.size, 0, none⟩ = some (.slice PA n pc) := hr2.cell 0
  have c21 : x2.cell? ⟨w.heap.size, 1, none⟩ = some (.slice RV rs.length vc) := hr2.cell 1
  go_wp2_with fail
  clear hmk d20 c20 c21
  go_loopw [27] (fun iv wr => ∃ (i : Nat) (vs : List T3), i ≤ n ∧ iv = .int .i64 (i : Int) ∧ RatC wr vs zl i 330 (x2.heap.size + 1) ∧ Row wr x2.heap.size 31 (flat (vs ++ List.replicate (n - i) z3)) ∧ Row wr w.heap.size 24 [.slice PA n pc, .slice RV rs.length vc] ∧ Below w.heap.size w wr) (fun iv _ => n - (intOf iv).toNat)
  case atStart => exact ⟨0, [], by omega, rfl, RatC.zero _ _ _ _, by rw [List.nil_append]; exact q7, q2, BQ0⟩
  case round =>
    have oBx := BB.size
    clear q2 q7 BQ0 hr2 BB
    obtain ⟨i, vs, hi, rfl, hco, hrow, hr2, BB⟩ := hrel
    have hg7 := hrow.lt
    by_cases hlt : i < n
    · have hiI : (i : Int) < (n : Int) := by omega
      have c20 : wr.cell? ⟨w.heap.size, 0, none⟩ = some (.slice PA n pc) := hr2.cell 0
      have c21 : wr.cell? ⟨w.heap.size, 1, none⟩ = some (.slice RV rs.length vc) := hr2.cell 1
      have z2 := hr2.lt
      go_wp2_with fail
      clear c20 c21 z2
      refine (HSU.out i hlt _ BB).mono ?_
      have hzw := hrow.lt
      rintro e x21 ⟨v9, rfl, hv9, hb⟩
      replace hr2 := hr2.keep hb
      replace hrow := hrow.keep hb
      replace hco := hco.below hb
      replace BB : Below w.heap.size w x21 := BB.trans (hb.mono BB.size)
      clear hb
      have h9' := hv9
      obtain ⟨m9, d9, e9, hm9, hd9, _, _⟩ := h9'
      subst e9
      obtain ⟨A9, k9, c9, rfl⟩ := hm9.lim1.choose_spec.1.show_
      obtain ⟨D9, l9, b9, rfl⟩ := hd9.lim1.choose_spec.1.show_
      clear hm9 hd9
      obtain ⟨k0, k1, k2⟩ := flat_get (padt_get vs z3 n i hco.1 hlt)
      have hc0 : x21.cell? ⟨x2.heap.size, 3 * i, none⟩ = some (.bool false) := (hrow.cell _).trans k0
      have hc1 : x21.cell? ⟨x2.heap.size, 3 * i + 1, none⟩ = some (.slice none 0 0) := (hrow.cell _).trans k1
      have hc2 : x21.cell? ⟨x2.heap.size, 3 * i + 2, none⟩ = some (.slice none 0 0) := (hrow.cell _).trans k2
      have hd0 : x21.cell? ⟨x2.heap.size, i * 3, none⟩ = some (.bool false) := by rw [Nat.mul_comm]; exact hc0
      have hd1 : x21.cell? ⟨x2.heap.size, i * 3 + 1, none⟩ = some (.slice none 0 0) := by rw [Nat.mul_comm]; exact hc1
      have hd2 : x21.cell? ⟨x2.heap.size, i * 3 + 2, none⟩ = some (.slice none 0 0) := by rw [Nat.mul_comm]; exact hc2
      have hf : ∀ q, x21.frozen? ⟨x2.heap.size, q, none⟩ = false := fun q => hrow.frozen q
      have f0 := hf (i * 3)
      have f1 := hf (i * 3 + 1)
      have f2 := hf (i * 3 + 2)
      have f3 := hf (3 * i)
      have f4 := hf (3 * i + 1)
      have f5 := hf (3 * i + 2)
      clear hf k0 k1 k2
      have y2 := hr2.lt
      have y7 := hrow.lt
      go_wp2_with fail
      go_roundw
      case rel =>
        have e1 : w.heap.size ≠ x2.heap.size := by omega
        refine ⟨i + 1, vs ++ [(.bool (decide (redP (sf i) (df i) < 0)), .slice A9 k9 c9, .slice D9 l9 b9)], by omega, by go_num, ?_, ?_, ((hr2.far e1 _).far e1 _).far e1 _, ((BB.setCell oBx _).setCell oBx _).setCell oBx _⟩
        · refine RatC.set3 (hco.snoc (by rw [HZL.out i hlt]; exact hv9) (by omega)) _ _ _ _
        · rw [← padt_set vs z3 n i _ hco.1 hlt, ← flat_set _ _ _ _ _ (by rw [List.length_append, List.length_replicate, hco.1]; omega)]
          have := ((hrow.set_ (3 * i) (.bool (decide (redP (sf i) (df i) < 0)))).set_ (3 * i + 1) (.slice A9 k9 c9)).set_ (3 * i + 2) (.slice D9 l9 b9)
          first | exact this | simpa [Nat.mul_comm] using this
      case measure => simp [intOf]; omega
    · obtain rfl : i = n := by omega
      go_wp2_with fail
      go_ret2
      refine ⟨x2.heap.size, vs, rfl, by omega, ?_, hco, BB⟩
      simpa using hrow

end Go.Proofs.YtompckomogmhiaaDoor
