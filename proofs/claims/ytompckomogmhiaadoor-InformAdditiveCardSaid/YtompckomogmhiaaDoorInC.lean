/- inform.sum, Test. -/
import Derived.Test.YtompckomogmhiaaDoorInB
namespace Go.Proofs.YtompckomogmhiaaDoor
open Go.RowKit
set_option linter.unusedVariables false
set_option maxRecDepth 100000

/-- A test's information over the common denominator, up to item j. -/
def tsF (Z : Nat) (ms : List Mdl) (n q : Nat) (j : Nat) : Int := inF Z (ms.getD j []) n q
def sumF (Z : Nat) (ms : List Mdl) (n q : Nat) : Int := mom (tsF Z ms n q) ms.length
theorem RatC.base0 {w : World} {us : List T3} {zs : List (Int × Nat)} {k L b : Nat} (h : RatC w us zs k L b) : RatC w us zs k L 0 := ⟨h.1, fun i u hi => (h.2 i u hi).base (Nat.zero_le _)⟩
/-- The list of the items' informations. -/
def infL (Z : Nat) (ms : List Mdl) (n q D : Nat) : List (Int × Nat) := (List.range ms.length).map fun j => (redP (tsF Z ms n q j) D, redQ (tsF Z ms n q j) D)
theorem infL_get (Z : Nat) (ms : List Mdl) (n q D : Nat) {j : Nat} (h : j < ms.length) : (infL Z ms n q D).getD j (0, 1) = (redP (tsF Z ms n q j) D, redQ (tsF Z ms n q j) D) := by
  unfold infL
  rw [List.getD_eq_getElem?_getD, List.getElem?_map, List.getElem?_range h]
  rfl
theorem ts_bd {Z : Nat} {ms : List Mdl} {n q : Nat} (h : ∀ j, j < ms.length → modE (ms.getD j []) (n : Int) = 0) (hq : q < n) (h60 : ms.length ≤ 60) {j : Nat} (hj : j ≤ ms.length) : 0 ≤ mom (tsF Z ms n q) j ∧ mom (tsF Z ms n q) j ≤ 360000000 * (Z : Int) := by
  obtain ⟨a, b⟩ := mom_bd (f := tsF Z ms n q) (B := 6000000 * (Z : Int)) j (fun i hi => inS_bd (h i (by omega)) hq (Nat.le_refl _))
  refine ⟨a, Int.le_trans b ?_⟩
  have : (j : Int) * (6000000 * (Z : Int)) ≤ 60 * (6000000 * (Z : Int)) := Int.mul_le_mul_of_nonneg_right (by omega) (by omega)
  omega

set_option maxHeartbeats 32000000 in
theorem sum_any (pv rv lv : Value) (ps rs : List Int) (ms : List Mdl) (q Z : Nat) (w : World) (hp : Nums .i64 w pv ps) (hr : Nums .i64 w rv rs) (hm : ModL w lv ms) (hZ : IsLam Z) (hE : gridE ps rs = 0) (hT : testE ps.length ms = 0) (hq : q < ps.length) :
    Calls Tryd.prog 22 #[.agg #[pv, rv], lv, .int .i64 (q : Int)] w fun e w' => ∃ x, e = .returned x ∧ RatF w.heap.size w' x (redP (sumF Z ms ps.length q) (ifD Z ps q)) (redQ (sumF Z ms ps.length q) (ifD Z ps q)) 330 ∧ Below w.heap.size w w' := by
  obtain ⟨h60, hmods⟩ := testE_zero hT
  obtain ⟨D0, D1⟩ := inD_bd hZ hE hq
  have HDP := Lib.hid D0
  have HIN := Lib.hid (fun (W : World) (h : Below w.heap.size w W) (u : Value) (j : Nat) (hj : j < ms.length) (hu : IntsL W u (ms.getD j [])) => info_any pv rv u ps rs (ms.getD j []) q Z W (hp.below h) (hr.below h) hu hE (hmods j hj) hq hZ)
  have HIL : Hid (∀ j, j < ms.length → (infL Z ms ps.length q (ifD Z ps q)).getD j (0, 1) = (redP (tsF Z ms ps.length q j) (ifD Z ps q), redQ (tsF Z ms ps.length q j) (ifD Z ps q))) := fun j hj => infL_get Z ms ps.length q _ hj
  have HBD : Hid (∀ j, j ≤ ms.length → (redP (mom (tsF Z ms ps.length q) j) (ifD Z ps q)).natAbs < bp 330 ∧ redQ (mom (tsF Z ms ps.length q) j) (ifD Z ps q) < bp 330) := fun j hj => by
    obtain ⟨s1, s2⟩ := ts_bd (Z := Z) hmods hq h60 hj
    exact red_bd hZ s1 (by omega) (by omega)
  have HSF : Hid (sumF Z ms ps.length q = mom (tsF Z ms ps.length q) ms.length) := rfl
  have HTS : Hid (∀ j, inF Z (ms.getD j []) ps.length q = tsF Z ms ps.length q j) := fun j => rfl
  generalize infL Z ms ps.length q (ifD Z ps q) = zl at *
  generalize sumF Z ms ps.length q = SF at *
  generalize tsF Z ms ps.length q = ft at *
  generalize ifD Z ps q = D at *
  clear hmods D0 D1 hT
  have hmk := run_mk3 (P := Tryd.prog) Tryd.underlying42 infoRatio rfl ms.length (by omega) (by omega)
  obtain ⟨PA, pc, rfl, _, _, hps⟩ := hp
  obtain ⟨RV, vc, rfl, _, _, _⟩ := hr
  obtain ⟨LA, lc, us, rfl, hlc, hlm, hls, hlu⟩ := hm
  have HLU := Lib.hid hlu
  unfold maxLen at hlm
  clear hlu
  obtain ⟨pn, hpn⟩ : ∃ n, ps.length = n := ⟨_, rfl⟩
  rw [hpn] at HIN HTS ⊢
  clear hpn hps hq
  obtain ⟨n, hnn⟩ : ∃ n, ms.length = n := ⟨_, rfl⟩
  rw [hnn] at hls hlc hmk h60 HIN HIL HBD HSF ⊢
  clear hnn
  obtain ⟨W0, hW0⟩ : ∃ W0 : World, W0 = (w.alloc (.cells #[.slice PA pn pc, .slice RV rs.length vc] 24)).alloc (.cells #[.bool false, .slice none 0 0, .slice none 0 0] 31) := ⟨_, rfl⟩
  have r0 : Row W0 w.heap.size 24 [.slice PA pn pc, .slice RV rs.length vc] := by
    rw [hW0]
    have := Row.alloc (Row.new w 24 [.slice PA pn pc, .slice RV rs.length vc]) (.cells #[.bool false, .slice none 0 0, .slice none 0 0] 31)
    simpa using this
  have r1 : Row W0 (w.heap.size + 1) 31 [.bool false, .slice none 0 0, .slice none 0 0] := by
    rw [hW0]
    have := Row.new (w.alloc (.cells #[.slice PA pn pc, .slice RV rs.length vc] 24)) 31 [.bool false, .slice none 0 0, .slice none 0 0]
    simpa using this
  have B0 : Below w.heap.size w W0 := by rw [hW0]; exact (((Below.refl _ _).alloc (Nat.le_refl _) _).alloc (by simp) _)
  go_enter Tryd.func22, Tryd.ntmps22
  go_wp2_with fail
  rw [← hW0]
  have hs0 : W0.heap.size = w.heap.size + 1 + 1 := by rw [hW0]; simp
  clear hW0
  have BB := B0
  have hr3 : Row W0 (w.heap.size) 24 [.slice PA pn pc, .slice RV rs.length vc] := r0
  have hr6 : Row W0 (w.heap.size + 1) 31 [.bool false, .slice none 0 0, .slice none 0 0] := r1
  clear B0 r0 r1
  have hz3 := hr3.lt
  have hz6 := hr6.lt
  have q3 := hr3.alloc (.cells (zrow3 n) 31)
  have q6 := hr6.alloc (.cells (zrow3 n) 31)
  have BQ0 : Below w.heap.size w (W0.alloc (.cells (zrow3 n) 31)) := BB.alloc BB.size _
  have q7 : Row (W0.alloc (.cells (zrow3 n) 31)) (w.heap.size + 1 + 1) 31 (flat (List.replicate n z3)) := by
    have := Row.newz3 W0 31 n
    rw [hs0] at this
    exact this
  clear hs0
  go_wp2_with fail
  clear hmk
  go_loopw [15] (fun iv wr => ∃ (i : Nat) (vs : List T3), i ≤ n ∧ iv = .int .i64 (i : Int) ∧ RatC wr vs zl i 330 ((w.heap.size + 1 + 1) + 1) ∧ Row wr (w.heap.size + 1 + 1) 31 (flat (vs ++ List.replicate (n - i) z3)) ∧ Row wr w.heap.size 24 [.slice PA pn pc, .slice RV rs.length vc] ∧ Row wr (w.heap.size + 1) 31 [.bool false, .slice none 0 0, .slice none 0 0] ∧ Below w.heap.size w wr) (fun iv _ => n - (intOf iv).toNat)
  case atStart => exact ⟨0, [], by omega, rfl, RatC.zero _ _ _ _, by rw [List.nil_append]; exact q7, q3, q6, BQ0⟩
  case round =>
    clear q3 q6 q7 BQ0 hr3 hr6 BB
    obtain ⟨i, vs, hi, rfl, hco, hrow, hr3, hr6, BB⟩ := hrel
    have hg7 := hrow.lt
    by_cases hlt : i < n
    · obtain ⟨b, o, u, rfl, hbl, hcell, hu⟩ := lst_at (R := IntsL) (d := []) (xs := ms) hls HLU.out hlt
      replace hu := hu.below BB
      have g2 := (BB.cell (p := ⟨b, o + i, none⟩) hbl).trans hcell
      have HII := Lib.hid (fun (W : World) (h : Below w.heap.size w W) (hu : IntsL W u (ms.getD i [])) => HIN.out W h u i hlt hu)
      have HTI := Lib.hid (HTS.out i)
      have HZI := Lib.hid (HIL.out i hlt)
      generalize ms.getD i [] = m at *
      obtain ⟨MA, mc, mus, rfl, _, _, _, _⟩ := id hu
      obtain ⟨ml, hml⟩ : ∃ n, m.length = n := ⟨_, rfl⟩
      rw [hml] at HII g2 hu
      clear hml hcell
      have hiI : (i : Int) < (n : Int) := by omega
      obtain ⟨g9, hg9⟩ : ∃ g, wr.heap.size = g := ⟨_, rfl⟩
      have hr9 : Row (wr.alloc (.cells #[.slice MA ml mc] 40)) g9 40 [.slice MA ml mc] := row_at hg9
      have hl := lit_below wr (.cells #[.slice MA ml mc] 40)
      have o3_9 : w.heap.size < g9 := by have := hr3.lt; omega
      have o6_9 : w.heap.size + 1 < g9 := by have := hr6.lt; omega
      have ob_9 : w.heap.size ≤ g9 := by have := BB.size; omega
      have c30 : wr.cell? ⟨w.heap.size, 0, none⟩ = some (.slice PA pn pc) := hr3.cell 0
      have c31 : wr.cell? ⟨w.heap.size, 1, none⟩ = some (.slice RV rs.length vc) := hr3.cell 1
      have c60 : wr.cell? ⟨w.heap.size + 1, 0, none⟩ = some (.bool false) := hr6.cell 0
      have c61 : wr.cell? ⟨w.heap.size + 1, 1, none⟩ = some (.slice none 0 0) := hr6.cell 1
      have c62 : wr.cell? ⟨w.heap.size + 1, 2, none⟩ = some (.slice none 0 0) := hr6.cell 2
      have d30 : (wr.alloc (.cells #[.slice MA ml mc] 40)).cell? ⟨w.heap.size, 0, none⟩ = some (.slice PA pn pc) := (hr3.alloc _).cell 0
      have d31 : (wr.alloc (.cells #[.slice MA ml mc] 40)).cell? ⟨w.heap.size, 1, none⟩ = some (.slice RV rs.length vc) := (hr3.alloc _).cell 1
      have d60 : (wr.alloc (.cells #[.slice MA ml mc] 40)).cell? ⟨w.heap.size + 1, 0, none⟩ = some (.bool false) := (hr6.alloc _).cell 0
      have d61 : (wr.alloc (.cells #[.slice MA ml mc] 40)).cell? ⟨w.heap.size + 1, 1, none⟩ = some (.slice none 0 0) := (hr6.alloc _).cell 1
      have d62 : (wr.alloc (.cells #[.slice MA ml mc] 40)).cell? ⟨w.heap.size + 1, 2, none⟩ = some (.slice none 0 0) := (hr6.alloc _).cell 2
      have e0 : (wr.alloc (.cells #[.slice MA ml mc] 40)).cell? ⟨g9, 0, none⟩ = some (.slice MA ml mc) := hr9.cell 0
      go_wp2_with fail
      clear c30 c31 c60 c61 c62 d30 d31 d60 d61 d62 e0
      clear hg9
      generalize (wr.alloc (.cells #[.slice MA ml mc] 40)) = x21 at *
      replace hr3 := hr3.keep hl
      replace hr6 := hr6.keep hl
      replace hrow := hrow.keep hl
      replace hco := hco.below hl
      replace hu := hu.below hl
      replace BB : Below w.heap.size w x21 := BB.trans (hl.mono BB.size)
      clear hl
      clear g2
      have c30 : x21.cell? ⟨w.heap.size, 0, none⟩ = some (.slice PA pn pc) := hr3.cell 0
      have c31 : x21.cell? ⟨w.heap.size, 1, none⟩ = some (.slice RV rs.length vc) := hr3.cell 1
      have c60 : x21.cell? ⟨w.heap.size + 1, 0, none⟩ = some (.bool false) := hr6.cell 0
      have c61 : x21.cell? ⟨w.heap.size + 1, 1, none⟩ = some (.slice none 0 0) := hr6.cell 1
      have c62 : x21.cell? ⟨w.heap.size + 1, 2, none⟩ = some (.slice none 0 0) := hr6.cell 2
      have c90 : x21.cell? ⟨g9, 0, none⟩ = some (.slice MA ml mc) := hr9.cell 0
      have z3 := hr3.lt
      have z6 := hr6.lt
      have z9 := hr9.lt
      go_wp2_with fail
      clear c30 c31 c60 c61 c62 c90 z3 z6 z9
      refine (HII.out _ BB hu).mono ?_
      have hzw := hrow.lt
      rintro e x22 ⟨v9, rfl, hv9, hb⟩
      replace hr3 := hr3.keep hb
      replace hr6 := hr6.keep hb
      replace hrow := hrow.keep hb
      replace hco := hco.below hb
      replace hu := hu.below hb
      replace hr9 := hr9.keep hb
      replace BB : Below w.heap.size w x22 := BB.trans (hb.mono BB.size)
      clear hb
      rw [HTI.out] at hv9
      have h9' := hv9
      obtain ⟨m9, d9, e9, hm9, hd9, _, _⟩ := h9'
      subst e9
      obtain ⟨A9, k9, c9, rfl⟩ := hm9.lim1.choose_spec.1.show_
      obtain ⟨D9, l9, b9, rfl⟩ := hd9.lim1.choose_spec.1.show_
      clear hm9 hd9
      obtain ⟨k0, k1, k2⟩ := flat_get (padt_get vs z3 n i hco.1 hlt)
      have hc0 : x22.cell? ⟨(w.heap.size + 1 + 1), 3 * i, none⟩ = some (.bool false) := (hrow.cell _).trans k0
      have hc1 : x22.cell? ⟨(w.heap.size + 1 + 1), 3 * i + 1, none⟩ = some (.slice none 0 0) := (hrow.cell _).trans k1
      have hc2 : x22.cell? ⟨(w.heap.size + 1 + 1), 3 * i + 2, none⟩ = some (.slice none 0 0) := (hrow.cell _).trans k2
      have hd0 : x22.cell? ⟨(w.heap.size + 1 + 1), i * 3, none⟩ = some (.bool false) := by rw [Nat.mul_comm]; exact hc0
      have hd1 : x22.cell? ⟨(w.heap.size + 1 + 1), i * 3 + 1, none⟩ = some (.slice none 0 0) := by rw [Nat.mul_comm]; exact hc1
      have hd2 : x22.cell? ⟨(w.heap.size + 1 + 1), i * 3 + 2, none⟩ = some (.slice none 0 0) := by rw [Nat.mul_comm]; exact hc2
      have hf : ∀ q, x22.frozen? ⟨(w.heap.size + 1 + 1), q, none⟩ = false := fun q => hrow.frozen q
      have f0 := hf (i * 3)
      have f1 := hf (i * 3 + 1)
      have f2 := hf (i * 3 + 2)
      have f3 := hf (3 * i)
      have f4 := hf (3 * i + 1)
      have f5 := hf (3 * i + 2)
      clear hf k0 k1 k2
      have y3 := hr3.lt
      have y6 := hr6.lt
      have y7 := hrow.lt
      have ow : w.heap.size ≤ w.heap.size + 1 + 1 := by omega
      go_wp2_with fail
      go_roundw
      case rel =>
        have e1 : w.heap.size ≠ (w.heap.size + 1 + 1) := by omega
        have e2 : w.heap.size + 1 ≠ (w.heap.size + 1 + 1) := by omega
        refine ⟨i + 1, vs ++ [(.bool (decide (redP (ft i) D < 0)), .slice A9 k9 c9, .slice D9 l9 b9)], by omega, by go_num, ?_, ?_, ((hr3.far e1 _).far e1 _).far e1 _, ((hr6.far e2 _).far e2 _).far e2 _, ((BB.setCell ow _).setCell ow _).setCell ow _⟩
        · refine RatC.set3 (hco.snoc (by rw [HZI.out]; exact hv9) (by omega)) _ _ _ _
        · rw [← padt_set vs z3 n i _ hco.1 hlt, ← flat_set _ _ _ _ _ (by rw [List.length_append, List.length_replicate, hco.1]; omega)]
          have := ((hrow.set_ (3 * i) (.bool (decide (redP (ft i) D < 0)))).set_ (3 * i + 1) (.slice A9 k9 c9)).set_ (3 * i + 2) (.slice D9 l9 b9)
          first | exact this | simpa [Nat.mul_comm] using this
      case measure => simp [intOf]; omega
    · obtain rfl : i = n := by omega
      have hrow2 : Row wr (w.heap.size + 1 + 1) 31 (flat vs) := by simpa using hrow
      have c30 : wr.cell? ⟨w.heap.size, 0, none⟩ = some (.slice PA pn pc) := hr3.cell 0
      have c31 : wr.cell? ⟨w.heap.size, 1, none⟩ = some (.slice RV rs.length vc) := hr3.cell 1
      have c60 : wr.cell? ⟨w.heap.size + 1, 0, none⟩ = some (.bool false) := hr6.cell 0
      have c61 : wr.cell? ⟨w.heap.size + 1, 1, none⟩ = some (.slice none 0 0) := hr6.cell 1
      have c62 : wr.cell? ⟨w.heap.size + 1, 2, none⟩ = some (.slice none 0 0) := hr6.cell 2
      have f60 : wr.frozen? ⟨w.heap.size + 1, 0, none⟩ = false := hr6.frozen 0
      have f61 : wr.frozen? ⟨w.heap.size + 1, 1, none⟩ = false := hr6.frozen 1
      have f62 : wr.frozen? ⟨w.heap.size + 1, 2, none⟩ = false := hr6.frozen 2
      have z3 := hr3.lt
      have z6 := hr6.lt
      go_wp2_with fail
      clear c30 c31 c60 c61 c62 f60 f61 f62 z3 z6
      refine (qsum_any (w.heap.size + 1 + 1) i D 330 vs zl ft _ hrow2 hco.base0 HIL.out HDP.out (by decide) (by decide) HBD.out (by omega)).mono ?_
      have y6 := hr6.lt
      rintro e x61 ⟨v9, rfl, hv9, hb⟩
      replace hr3 := hr3.keep hb
      replace hr6 := hr6.keep hb
      replace BB : Below w.heap.size w x61 := BB.trans (hb.mono BB.size)
      clear hb
      rw [← HSF.out] at hv9
      have h9' := hv9
      obtain ⟨m9, d9, e9, hm9, hd9, _, _⟩ := h9'
      subst e9
      obtain ⟨A9, k9, c9, rfl⟩ := hm9.lim1.choose_spec.1.show_
      obtain ⟨D9, l9, b9, rfl⟩ := hd9.lim1.choose_spec.1.show_
      clear hm9 hd9
      have c30 : x61.cell? ⟨w.heap.size, 0, none⟩ = some (.slice PA pn pc) := hr3.cell 0
      have c31 : x61.cell? ⟨w.heap.size, 1, none⟩ = some (.slice RV rs.length vc) := hr3.cell 1
      have c60 : x61.cell? ⟨w.heap.size + 1, 0, none⟩ = some (.bool false) := hr6.cell 0
      have c61 : x61.cell? ⟨w.heap.size + 1, 1, none⟩ = some (.slice none 0 0) := hr6.cell 1
      have c62 : x61.cell? ⟨w.heap.size + 1, 2, none⟩ = some (.slice none 0 0) := hr6.cell 2
      have f60 : x61.frozen? ⟨w.heap.size + 1, 0, none⟩ = false := hr6.frozen 0
      have f61 : x61.frozen? ⟨w.heap.size + 1, 1, none⟩ = false := hr6.frozen 1
      have f62 : x61.frozen? ⟨w.heap.size + 1, 2, none⟩ = false := hr6.frozen 2
      have z3 := hr3.lt
      have z6 := hr6.lt
      go_wp2_with fail
      refine bodyPost_ret (v := .agg #[.bool (decide (redP SF D < 0)), .slice A9 k9 c9, .slice D9 l9 b9]) (by simp [results, Tryd.results22, go_sem, c60, c61, c62]) rfl ⟨_, rfl, ?_, ((BB.setCell (by simp) _).setCell (by simp) _).setCell (by simp) _⟩
      exact (((hv9.set_ (a := ⟨w.heap.size + 1, 0, none⟩) y6 _).set_ (a := ⟨w.heap.size + 1, 1, none⟩) y6 _).set_ (a := ⟨w.heap.size + 1, 2, none⟩) y6 _).base (by omega)

/-- The first reason why a test has no information. -/
def tstE (ps rs : List Int) (ms : List Mdl) (q : Int) : Int := if gridE ps rs ≠ 0 then gridE ps rs else if testE ps.length ms ≠ 0 then testE ps.length ms else if q < 0 ∨ (ps.length : Int) ≤ q then 3 else 0
theorem tstE_zero {ps rs : List Int} {ms : List Mdl} {q : Int} (h : tstE ps rs ms q = 0) : gridE ps rs = 0 ∧ testE ps.length ms = 0 ∧ 0 ≤ q ∧ q < ps.length := by
  unfold tstE at h
  split at h
  · contradiction
  · rename_i h1
    split at h
    · contradiction
    · rename_i h2
      split at h
      · omega
      · rename_i h3
        exact ⟨by simpa using h1, by simpa using h2, by omega, by omega⟩
set_option maxHeartbeats 16000000 in
theorem test_no (pv rv lv : Value) (ps rs : List Int) (ms : List Mdl) (q : Int) (w : World) (hp : Nums .i64 w pv ps) (hr : Nums .i64 w rv rs) (hm : ModL w lv ms) (hE : tstE ps rs ms q ≠ 0) :
    Calls Tryd.prog 7 #[.agg #[pv, rv], lv, .int .i64 q] w fun e w' => e = .returned (.tuple #[.agg #[.bool false, .slice none 0 0, .slice none 0 0], .int .i64 (tstE ps rs ms q)]) ∧ Below w.heap.size w w' := by
  have HGV := Lib.hid (fun (W : World) (h : Below w.heap.size w W) => gvalid_any pv rv ps rs W (hp.below h) (hr.below h))
  have HMO := Lib.hid (fun (W : World) (h : Below w.heap.size w W) => models_any pv rv lv ps rs ms W (hp.below h) (hr.below h) (hm.below h))
  by_cases h1 : gridE ps rs = 0
  · by_cases h2 : testE ps.length ms = 0
    · have h3 : q < 0 ∨ (ps.length : Int) ≤ q := by
        by_cases h : q < 0 ∨ (ps.length : Int) ≤ q
        · exact h
        · exfalso; apply hE; unfold tstE; rw [if_neg (by simpa using h1), if_neg (by simpa using h2), if_neg h]
      have hR : tstE ps rs ms q = 3 := by unfold tstE; rw [if_neg (by simpa using h1), if_neg (by simpa using h2), if_pos h3]
      rw [hR]
      rw [h1] at HGV
      rw [h2] at HMO
      clear hR hE h1 h2
      obtain ⟨PA, pc, rfl, _, _, hps⟩ := hp
      obtain ⟨RV, vc, rfl, _, _, _⟩ := hr
      obtain ⟨LA, lc, us, rfl, _, _, _, _⟩ := hm
      obtain ⟨pn, hpn⟩ : ∃ n, ps.length = n := ⟨_, rfl⟩
      obtain ⟨n, hnn⟩ : ∃ n, ms.length = n := ⟨_, rfl⟩
      rw [hpn] at HGV HMO h3 ⊢
      rw [hnn] at HMO ⊢
      clear hpn hnn hps
      by_cases hq : q < 0
      · have t1 : decide (q < 0) = true := decide_eq_true hq
        obtain ⟨W0, hW0⟩ : ∃ W0 : World, W0 = (w.alloc (.cells #[.slice PA pn pc, .slice RV rs.length vc] 24)).alloc (.cells #[.bool false, .slice none 0 0, .slice none 0 0] 31) := ⟨_, rfl⟩
        have r0 : Row W0 w.heap.size 24 [.slice PA pn pc, .slice RV rs.length vc] := by
          rw [hW0]
          have := Row.alloc (Row.new w 24 [.slice PA pn pc, .slice RV rs.length vc]) (.cells #[.bool false, .slice none 0 0, .slice none 0 0] 31)
          simpa using this
        have r1 : Row W0 (w.heap.size + 1) 31 [.bool false, .slice none 0 0, .slice none 0 0] := by
          rw [hW0]
          have := Row.new (w.alloc (.cells #[.slice PA pn pc, .slice RV rs.length vc] 24)) 31 [.bool false, .slice none 0 0, .slice none 0 0]
          simpa using this
        have B0 : Below w.heap.size w W0 := by rw [hW0]; exact (((Below.refl _ _).alloc (Nat.le_refl _) _).alloc (by simp) _)
        go_enter Tryd.func7, Tryd.ntmps7
        go_wp2_with fail
        rw [← hW0]
        clear hW0
        have BB := B0
        have hr3 : Row W0 (w.heap.size) 24 [.slice PA pn pc, .slice RV rs.length vc] := r0
        have hr6 : Row W0 (w.heap.size + 1) 31 [.bool false, .slice none 0 0, .slice none 0 0] := r1
        clear B0 r0 r1
        have c30 : W0.cell? ⟨w.heap.size, 0, none⟩ = some (.slice PA pn pc) := hr3.cell 0
        have c31 : W0.cell? ⟨w.heap.size, 1, none⟩ = some (.slice RV rs.length vc) := hr3.cell 1
        have c60 : W0.cell? ⟨w.heap.size + 1, 0, none⟩ = some (.bool false) := hr6.cell 0
        have c61 : W0.cell? ⟨w.heap.size + 1, 1, none⟩ = some (.slice none 0 0) := hr6.cell 1
        have c62 : W0.cell? ⟨w.heap.size + 1, 2, none⟩ = some (.slice none 0 0) := hr6.cell 2
        have z3 := hr3.lt
        have z6 := hr6.lt
        go_wp2_with fail
        clear c30 c31 c60 c61 c62 z3 z6
        refine (HGV.out _ BB).mono ?_
        rintro e x1 ⟨rfl, hb⟩
        replace hr3 := hr3.keep hb
        replace hr6 := hr6.keep hb
        replace BB : Below w.heap.size w x1 := BB.trans (hb.mono BB.size)
        clear hb
        have c30 : x1.cell? ⟨w.heap.size, 0, none⟩ = some (.slice PA pn pc) := hr3.cell 0
        have c31 : x1.cell? ⟨w.heap.size, 1, none⟩ = some (.slice RV rs.length vc) := hr3.cell 1
        have c60 : x1.cell? ⟨w.heap.size + 1, 0, none⟩ = some (.bool false) := hr6.cell 0
        have c61 : x1.cell? ⟨w.heap.size + 1, 1, none⟩ = some (.slice none 0 0) := hr6.cell 1
        have c62 : x1.cell? ⟨w.heap.size + 1, 2, none⟩ = some (.slice none 0 0) := hr6.cell 2
        have z3 := hr3.lt
        have z6 := hr6.lt
        go_wp2_with fail
        clear c30 c31 c60 c61 c62 z3 z6
        refine (HMO.out _ BB).mono ?_
        rintro e x2 ⟨rfl, hb⟩
        replace hr3 := hr3.keep hb
        replace hr6 := hr6.keep hb
        replace BB : Below w.heap.size w x2 := BB.trans (hb.mono BB.size)
        clear hb
        have c30 : x2.cell? ⟨w.heap.size, 0, none⟩ = some (.slice PA pn pc) := hr3.cell 0
        have c31 : x2.cell? ⟨w.heap.size, 1, none⟩ = some (.slice RV rs.length vc) := hr3.cell 1
        have c60 : x2.cell? ⟨w.heap.size + 1, 0, none⟩ = some (.bool false) := hr6.cell 0
        have c61 : x2.cell? ⟨w.heap.size + 1, 1, none⟩ = some (.slice none 0 0) := hr6.cell 1
        have c62 : x2.cell? ⟨w.heap.size + 1, 2, none⟩ = some (.slice none 0 0) := hr6.cell 2
        have f60 : x2.frozen? ⟨w.heap.size + 1, 0, none⟩ = false := hr6.frozen 0
        have f61 : x2.frozen? ⟨w.heap.size + 1, 1, none⟩ = false := hr6.frozen 1
        have f62 : x2.frozen? ⟨w.heap.size + 1, 2, none⟩ = false := hr6.frozen 2
        have z3 := hr3.lt
        have z6 := hr6.lt
        go_wp2_with fail
        exact bodyPost_ret (v := .tuple #[.agg #[.bool false, .slice none 0 0, .slice none 0 0], .int .i64 3]) (by simp [results, Tryd.results7, go_sem, c60, c61, c62]) rfl ⟨rfl, ((BB.setCell (by simp) _).setCell (by simp) _).setCell (by simp) _⟩
      · have t1 : decide (q < 0) = false := decide_eq_false hq
        have t2 : decide ((pn : Int) ≤ q) = true := decide_eq_true (by omega)
        obtain ⟨W0, hW0⟩ : ∃ W0 : World, W0 = (w.alloc (.cells #[.slice PA pn pc, .slice RV rs.length vc] 24)).alloc (.cells #[.bool false, .slice none 0 0, .slice none 0 0] 31) := ⟨_, rfl⟩
        have r0 : Row W0 w.heap.size 24 [.slice PA pn pc, .slice RV rs.length vc] := by
          rw [hW0]
          have := Row.alloc (Row.new w 24 [.slice PA pn pc, .slice RV rs.length vc]) (.cells #[.bool false, .slice none 0 0, .slice none 0 0] 31)
          simpa using this
        have r1 : Row W0 (w.heap.size + 1) 31 [.bool false, .slice none 0 0, .slice none 0 0] := by
          rw [hW0]
          have := Row.new (w.alloc (.cells #[.slice PA pn pc, .slice RV rs.length vc] 24)) 31 [.bool false, .slice none 0 0, .slice none 0 0]
          simpa using this
        have B0 : Below w.heap.size w W0 := by rw [hW0]; exact (((Below.refl _ _).alloc (Nat.le_refl _) _).alloc (by simp) _)
        go_enter Tryd.func7, Tryd.ntmps7
        go_wp2_with fail
        rw [← hW0]
        clear hW0
        have BB := B0
        have hr3 : Row W0 (w.heap.size) 24 [.slice PA pn pc, .slice RV rs.length vc] := r0
        have hr6 : Row W0 (w.heap.size + 1) 31 [.bool false, .slice none 0 0, .slice none 0 0] := r1
        clear B0 r0 r1
        have c30 : W0.cell? ⟨w.heap.size, 0, none⟩ = some (.slice PA pn pc) := hr3.cell 0
        have c31 : W0.cell? ⟨w.heap.size, 1, none⟩ = some (.slice RV rs.length vc) := hr3.cell 1
        have c60 : W0.cell? ⟨w.heap.size + 1, 0, none⟩ = some (.bool false) := hr6.cell 0
        have c61 : W0.cell? ⟨w.heap.size + 1, 1, none⟩ = some (.slice none 0 0) := hr6.cell 1
        have c62 : W0.cell? ⟨w.heap.size + 1, 2, none⟩ = some (.slice none 0 0) := hr6.cell 2
        have z3 := hr3.lt
        have z6 := hr6.lt
        go_wp2_with fail
        clear c30 c31 c60 c61 c62 z3 z6
        refine (HGV.out _ BB).mono ?_
        rintro e x1 ⟨rfl, hb⟩
        replace hr3 := hr3.keep hb
        replace hr6 := hr6.keep hb
        replace BB : Below w.heap.size w x1 := BB.trans (hb.mono BB.size)
        clear hb
        have c30 : x1.cell? ⟨w.heap.size, 0, none⟩ = some (.slice PA pn pc) := hr3.cell 0
        have c31 : x1.cell? ⟨w.heap.size, 1, none⟩ = some (.slice RV rs.length vc) := hr3.cell 1
        have c60 : x1.cell? ⟨w.heap.size + 1, 0, none⟩ = some (.bool false) := hr6.cell 0
        have c61 : x1.cell? ⟨w.heap.size + 1, 1, none⟩ = some (.slice none 0 0) := hr6.cell 1
        have c62 : x1.cell? ⟨w.heap.size + 1, 2, none⟩ = some (.slice none 0 0) := hr6.cell 2
        have z3 := hr3.lt
        have z6 := hr6.lt
        go_wp2_with fail
        clear c30 c31 c60 c61 c62 z3 z6
        refine (HMO.out _ BB).mono ?_
        rintro e x2 ⟨rfl, hb⟩
        replace hr3 := hr3.keep hb
        replace hr6 := hr6.keep hb
        replace BB : Below w.heap.size w x2 := BB.trans (hb.mono BB.size)
        clear hb
        have c30 : x2.cell? ⟨w.heap.size, 0, none⟩ = some (.slice PA pn pc) := hr3.cell 0
        have c31 : x2.cell? ⟨w.heap.size, 1, none⟩ = some (.slice RV rs.length vc) := hr3.cell 1
        have c60 : x2.cell? ⟨w.heap.size + 1, 0, none⟩ = some (.bool false) := hr6.cell 0
        have c61 : x2.cell? ⟨w.heap.size + 1, 1, none⟩ = some (.slice none 0 0) := hr6.cell 1
        have c62 : x2.cell? ⟨w.heap.size + 1, 2, none⟩ = some (.slice none 0 0) := hr6.cell 2
        have f60 : x2.frozen? ⟨w.heap.size + 1, 0, none⟩ = false := hr6.frozen 0
        have f61 : x2.frozen? ⟨w.heap.size + 1, 1, none⟩ = false := hr6.frozen 1
        have f62 : x2.frozen? ⟨w.heap.size + 1, 2, none⟩ = false := hr6.frozen 2
        have z3 := hr3.lt
        have z6 := hr6.lt
        go_wp2_with fail
        exact bodyPost_ret (v := .tuple #[.agg #[.bool false, .slice none 0 0, .slice none 0 0], .int .i64 3]) (by simp [results, Tryd.results7, go_sem, c60, c61, c62]) rfl ⟨rfl, ((BB.setCell (by simp) _).setCell (by simp) _).setCell (by simp) _⟩
    · have hR : tstE ps rs ms q = testE ps.length ms := by unfold tstE; rw [if_neg (by simpa using h1), if_pos h2]
      rw [hR]
      rw [h1] at HGV
      have t1 : (testE ps.length ms != 0) = true := by rw [bne_iff_ne]; exact h2
      generalize testE ps.length ms = E at *
      clear hR hE h1 h2
      obtain ⟨PA, pc, rfl, _, _, hps⟩ := hp
      obtain ⟨RV, vc, rfl, _, _, _⟩ := hr
      obtain ⟨LA, lc, us, rfl, _, _, _, _⟩ := hm
      obtain ⟨pn, hpn⟩ : ∃ n, ps.length = n := ⟨_, rfl⟩
      obtain ⟨n, hnn⟩ : ∃ n, ms.length = n := ⟨_, rfl⟩
      rw [hpn] at HGV HMO ⊢
      rw [hnn] at HMO ⊢
      clear hpn hnn hps
      obtain ⟨W0, hW0⟩ : ∃ W0 : World, W0 = (w.alloc (.cells #[.slice PA pn pc, .slice RV rs.length vc] 24)).alloc (.cells #[.bool false, .slice none 0 0, .slice none 0 0] 31) := ⟨_, rfl⟩
      have r0 : Row W0 w.heap.size 24 [.slice PA pn pc, .slice RV rs.length vc] := by
        rw [hW0]
        have := Row.alloc (Row.new w 24 [.slice PA pn pc, .slice RV rs.length vc]) (.cells #[.bool false, .slice none 0 0, .slice none 0 0] 31)
        simpa using this
      have r1 : Row W0 (w.heap.size + 1) 31 [.bool false, .slice none 0 0, .slice none 0 0] := by
        rw [hW0]
        have := Row.new (w.alloc (.cells #[.slice PA pn pc, .slice RV rs.length vc] 24)) 31 [.bool false, .slice none 0 0, .slice none 0 0]
        simpa using this
      have B0 : Below w.heap.size w W0 := by rw [hW0]; exact (((Below.refl _ _).alloc (Nat.le_refl _) _).alloc (by simp) _)
      go_enter Tryd.func7, Tryd.ntmps7
      go_wp2_with fail
      rw [← hW0]
      clear hW0
      have BB := B0
      have hr3 : Row W0 (w.heap.size) 24 [.slice PA pn pc, .slice RV rs.length vc] := r0
      have hr6 : Row W0 (w.heap.size + 1) 31 [.bool false, .slice none 0 0, .slice none 0 0] := r1
      clear B0 r0 r1
      have c30 : W0.cell? ⟨w.heap.size, 0, none⟩ = some (.slice PA pn pc) := hr3.cell 0
      have c31 : W0.cell? ⟨w.heap.size, 1, none⟩ = some (.slice RV rs.length vc) := hr3.cell 1
      have c60 : W0.cell? ⟨w.heap.size + 1, 0, none⟩ = some (.bool false) := hr6.cell 0
      have c61 : W0.cell? ⟨w.heap.size + 1, 1, none⟩ = some (.slice none 0 0) := hr6.cell 1
      have c62 : W0.cell? ⟨w.heap.size + 1, 2, none⟩ = some (.slice none 0 0) := hr6.cell 2
      have z3 := hr3.lt
      have z6 := hr6.lt
      go_wp2_with fail
      clear c30 c31 c60 c61 c62 z3 z6
      refine (HGV.out _ BB).mono ?_
      rintro e x1 ⟨rfl, hb⟩
      replace hr3 := hr3.keep hb
      replace hr6 := hr6.keep hb
      replace BB : Below w.heap.size w x1 := BB.trans (hb.mono BB.size)
      clear hb
      have c30 : x1.cell? ⟨w.heap.size, 0, none⟩ = some (.slice PA pn pc) := hr3.cell 0
      have c31 : x1.cell? ⟨w.heap.size, 1, none⟩ = some (.slice RV rs.length vc) := hr3.cell 1
      have c60 : x1.cell? ⟨w.heap.size + 1, 0, none⟩ = some (.bool false) := hr6.cell 0
      have c61 : x1.cell? ⟨w.heap.size + 1, 1, none⟩ = some (.slice none 0 0) := hr6.cell 1
      have c62 : x1.cell? ⟨w.heap.size + 1, 2, none⟩ = some (.slice none 0 0) := hr6.cell 2
      have z3 := hr3.lt
      have z6 := hr6.lt
      go_wp2_with fail
      clear c30 c31 c60 c61 c62 z3 z6
      refine (HMO.out _ BB).mono ?_
      rintro e x2 ⟨rfl, hb⟩
      replace hr3 := hr3.keep hb
      replace hr6 := hr6.keep hb
      replace BB : Below w.heap.size w x2 := BB.trans (hb.mono BB.size)
      clear hb
      have c30 : x2.cell? ⟨w.heap.size, 0, none⟩ = some (.slice PA pn pc) := hr3.cell 0
      have c31 : x2.cell? ⟨w.heap.size, 1, none⟩ = some (.slice RV rs.length vc) := hr3.cell 1
      have c60 : x2.cell? ⟨w.heap.size + 1, 0, none⟩ = some (.bool false) := hr6.cell 0
      have c61 : x2.cell? ⟨w.heap.size + 1, 1, none⟩ = some (.slice none 0 0) := hr6.cell 1
      have c62 : x2.cell? ⟨w.heap.size + 1, 2, none⟩ = some (.slice none 0 0) := hr6.cell 2
      have f60 : x2.frozen? ⟨w.heap.size + 1, 0, none⟩ = false := hr6.frozen 0
      have f61 : x2.frozen? ⟨w.heap.size + 1, 1, none⟩ = false := hr6.frozen 1
      have f62 : x2.frozen? ⟨w.heap.size + 1, 2, none⟩ = false := hr6.frozen 2
      have z3 := hr3.lt
      have z6 := hr6.lt
      go_wp2_with fail
      exact bodyPost_ret (v := .tuple #[.agg #[.bool false, .slice none 0 0, .slice none 0 0], .int .i64 E]) (by simp [results, Tryd.results7, go_sem, c60, c61, c62]) rfl ⟨rfl, ((BB.setCell (by simp) _).setCell (by simp) _).setCell (by simp) _⟩
  · have hR : tstE ps rs ms q = gridE ps rs := by unfold tstE; rw [if_pos h1]
    rw [hR]
    have t1 : (gridE ps rs != 0) = true := by rw [bne_iff_ne]; exact h1
    generalize gridE ps rs = E at *
    clear hR hE h1 HMO
    obtain ⟨PA, pc, rfl, _, _, hps⟩ := hp
    obtain ⟨RV, vc, rfl, _, _, _⟩ := hr
    obtain ⟨LA, lc, us, rfl, _, _, _, _⟩ := hm
    obtain ⟨pn, hpn⟩ : ∃ n, ps.length = n := ⟨_, rfl⟩
    obtain ⟨n, hnn⟩ : ∃ n, ms.length = n := ⟨_, rfl⟩
    rw [hpn] at HGV ⊢
    rw [hnn]
    clear hpn hnn hps
    obtain ⟨W0, hW0⟩ : ∃ W0 : World, W0 = (w.alloc (.cells #[.slice PA pn pc, .slice RV rs.length vc] 24)).alloc (.cells #[.bool false, .slice none 0 0, .slice none 0 0] 31) := ⟨_, rfl⟩
    have r0 : Row W0 w.heap.size 24 [.slice PA pn pc, .slice RV rs.length vc] := by
      rw [hW0]
      have := Row.alloc (Row.new w 24 [.slice PA pn pc, .slice RV rs.length vc]) (.cells #[.bool false, .slice none 0 0, .slice none 0 0] 31)
      simpa using this
    have r1 : Row W0 (w.heap.size + 1) 31 [.bool false, .slice none 0 0, .slice none 0 0] := by
      rw [hW0]
      have := Row.new (w.alloc (.cells #[.slice PA pn pc, .slice RV rs.length vc] 24)) 31 [.bool false, .slice none 0 0, .slice none 0 0]
      simpa using this
    have B0 : Below w.heap.size w W0 := by rw [hW0]; exact (((Below.refl _ _).alloc (Nat.le_refl _) _).alloc (by simp) _)
    go_enter Tryd.func7, Tryd.ntmps7
    go_wp2_with fail
    rw [← hW0]
    clear hW0
    have BB := B0
    have hr3 : Row W0 (w.heap.size) 24 [.slice PA pn pc, .slice RV rs.length vc] := r0
    have hr6 : Row W0 (w.heap.size + 1) 31 [.bool false, .slice none 0 0, .slice none 0 0] := r1
    clear B0 r0 r1
    have c30 : W0.cell? ⟨w.heap.size, 0, none⟩ = some (.slice PA pn pc) := hr3.cell 0
    have c31 : W0.cell? ⟨w.heap.size, 1, none⟩ = some (.slice RV rs.length vc) := hr3.cell 1
    have c60 : W0.cell? ⟨w.heap.size + 1, 0, none⟩ = some (.bool false) := hr6.cell 0
    have c61 : W0.cell? ⟨w.heap.size + 1, 1, none⟩ = some (.slice none 0 0) := hr6.cell 1
    have c62 : W0.cell? ⟨w.heap.size + 1, 2, none⟩ = some (.slice none 0 0) := hr6.cell 2
    have z3 := hr3.lt
    have z6 := hr6.lt
    go_wp2_with fail
    clear c30 c31 c60 c61 c62 z3 z6
    refine (HGV.out _ BB).mono ?_
    rintro e x1 ⟨rfl, hb⟩
    replace hr3 := hr3.keep hb
    replace hr6 := hr6.keep hb
    replace BB : Below w.heap.size w x1 := BB.trans (hb.mono BB.size)
    clear hb
    have c30 : x1.cell? ⟨w.heap.size, 0, none⟩ = some (.slice PA pn pc) := hr3.cell 0
    have c31 : x1.cell? ⟨w.heap.size, 1, none⟩ = some (.slice RV rs.length vc) := hr3.cell 1
    have c60 : x1.cell? ⟨w.heap.size + 1, 0, none⟩ = some (.bool false) := hr6.cell 0
    have c61 : x1.cell? ⟨w.heap.size + 1, 1, none⟩ = some (.slice none 0 0) := hr6.cell 1
    have c62 : x1.cell? ⟨w.heap.size + 1, 2, none⟩ = some (.slice none 0 0) := hr6.cell 2
    have f60 : x1.frozen? ⟨w.heap.size + 1, 0, none⟩ = false := hr6.frozen 0
    have f61 : x1.frozen? ⟨w.heap.size + 1, 1, none⟩ = false := hr6.frozen 1
    have f62 : x1.frozen? ⟨w.heap.size + 1, 2, none⟩ = false := hr6.frozen 2
    have z3 := hr3.lt
    have z6 := hr6.lt
    go_wp2_with fail
    exact bodyPost_ret (v := .tuple #[.agg #[.bool false, .slice none 0 0, .slice none 0 0], .int .i64 E]) (by simp [results, Tryd.results7, go_sem, c60, c61, c62]) rfl ⟨rfl, ((BB.setCell (by simp) _).setCell (by simp) _).setCell (by simp) _⟩
set_option maxHeartbeats 16000000 in
theorem test_ok (pv rv lv : Value) (ps rs : List Int) (ms : List Mdl) (q Z : Nat) (w : World) (hp : Nums .i64 w pv ps) (hr : Nums .i64 w rv rs) (hm : ModL w lv ms) (hZ : IsLam Z) (hE : tstE ps rs ms (q : Int) = 0) :
    Calls Tryd.prog 7 #[.agg #[pv, rv], lv, .int .i64 (q : Int)] w fun e w' => ∃ x, e = .returned (.tuple #[x, .int .i64 0]) ∧ RatF w.heap.size w' x (redP (sumF Z ms ps.length q) (ifD Z ps q)) (redQ (sumF Z ms ps.length q) (ifD Z ps q)) 330 ∧ Below w.heap.size w w' := by
  obtain ⟨e1, e2, e3, e4⟩ := tstE_zero hE
  have HGV := Lib.hid (fun (W : World) (h : Below w.heap.size w W) => gvalid_any pv rv ps rs W (hp.below h) (hr.below h))
  have HMO := Lib.hid (fun (W : World) (h : Below w.heap.size w W) => models_any pv rv lv ps rs ms W (hp.below h) (hr.below h) (hm.below h))
  have HSU := Lib.hid (fun (W : World) (h : Below w.heap.size w W) => sum_any pv rv lv ps rs ms q Z W (hp.below h) (hr.below h) (hm.below h) hZ e1 e2 (by omega))
  rw [e1] at HGV
  rw [e2] at HMO
  have hqn : q < ps.length := by omega
  generalize sumF Z ms ps.length q = N0 at *
  generalize ifD Z ps q = D0 at *
  obtain ⟨NF, hNF⟩ : ∃ x, redP N0 D0 = x := ⟨_, rfl⟩
  rw [hNF] at HSU ⊢
  clear hNF e1 e2 e3 e4 hE
  obtain ⟨PA, pc, rfl, _, _, hps⟩ := hp
  obtain ⟨RV, vc, rfl, _, _, _⟩ := hr
  obtain ⟨LA, lc, us, rfl, _, _, _, _⟩ := hm
  obtain ⟨pn, hpn⟩ : ∃ n, ps.length = n := ⟨_, rfl⟩
  obtain ⟨n, hnn⟩ : ∃ n, ms.length = n := ⟨_, rfl⟩
  rw [hpn] at HGV HMO HSU hqn ⊢
  rw [hnn] at HMO HSU ⊢
  clear hpn hnn hps
  have t1 : decide ((q : Int) < 0) = false := decide_eq_false (by omega)
  have t2 : decide ((pn : Int) ≤ (q : Int)) = false := decide_eq_false (by omega)
  have t3 : decide (pn ≤ q) = false := decide_eq_false (by omega)
  obtain ⟨W0, hW0⟩ : ∃ W0 : World, W0 = (w.alloc (.cells #[.slice PA pn pc, .slice RV rs.length vc] 24)).alloc (.cells #[.bool false, .slice none 0 0, .slice none 0 0] 31) := ⟨_, rfl⟩
  have r0 : Row W0 w.heap.size 24 [.slice PA pn pc, .slice RV rs.length vc] := by
    rw [hW0]
    have := Row.alloc (Row.new w 24 [.slice PA pn pc, .slice RV rs.length vc]) (.cells #[.bool false, .slice none 0 0, .slice none 0 0] 31)
    simpa using this
  have r1 : Row W0 (w.heap.size + 1) 31 [.bool false, .slice none 0 0, .slice none 0 0] := by
    rw [hW0]
    have := Row.new (w.alloc (.cells #[.slice PA pn pc, .slice RV rs.length vc] 24)) 31 [.bool false, .slice none 0 0, .slice none 0 0]
    simpa using this
  have B0 : Below w.heap.size w W0 := by rw [hW0]; exact (((Below.refl _ _).alloc (Nat.le_refl _) _).alloc (by simp) _)
  go_enter Tryd.func7, Tryd.ntmps7
  go_wp2_with fail
  rw [← hW0]
  clear hW0
  have BB := B0
  have hr3 : Row W0 (w.heap.size) 24 [.slice PA pn pc, .slice RV rs.length vc] := r0
  have hr6 : Row W0 (w.heap.size + 1) 31 [.bool false, .slice none 0 0, .slice none 0 0] := r1
  clear B0 r0 r1
  have c30 : W0.cell? ⟨w.heap.size, 0, none⟩ = some (.slice PA pn pc) := hr3.cell 0
  have c31 : W0.cell? ⟨w.heap.size, 1, none⟩ = some (.slice RV rs.length vc) := hr3.cell 1
  have c60 : W0.cell? ⟨w.heap.size + 1, 0, none⟩ = some (.bool false) := hr6.cell 0
  have c61 : W0.cell? ⟨w.heap.size + 1, 1, none⟩ = some (.slice none 0 0) := hr6.cell 1
  have c62 : W0.cell? ⟨w.heap.size + 1, 2, none⟩ = some (.slice none 0 0) := hr6.cell 2
  have z3 := hr3.lt
  have z6 := hr6.lt
  go_wp2_with fail
  clear c30 c31 c60 c61 c62 z3 z6
  refine (HGV.out _ BB).mono ?_
  rintro e x1 ⟨rfl, hb⟩
  replace hr3 := hr3.keep hb
  replace hr6 := hr6.keep hb
  replace BB : Below w.heap.size w x1 := BB.trans (hb.mono BB.size)
  clear hb
  have c30 : x1.cell? ⟨w.heap.size, 0, none⟩ = some (.slice PA pn pc) := hr3.cell 0
  have c31 : x1.cell? ⟨w.heap.size, 1, none⟩ = some (.slice RV rs.length vc) := hr3.cell 1
  have c60 : x1.cell? ⟨w.heap.size + 1, 0, none⟩ = some (.bool false) := hr6.cell 0
  have c61 : x1.cell? ⟨w.heap.size + 1, 1, none⟩ = some (.slice none 0 0) := hr6.cell 1
  have c62 : x1.cell? ⟨w.heap.size + 1, 2, none⟩ = some (.slice none 0 0) := hr6.cell 2
  have z3 := hr3.lt
  have z6 := hr6.lt
  go_wp2_with fail
  clear c30 c31 c60 c61 c62 z3 z6
  refine (HMO.out _ BB).mono ?_
  rintro e x2 ⟨rfl, hb⟩
  replace hr3 := hr3.keep hb
  replace hr6 := hr6.keep hb
  replace BB : Below w.heap.size w x2 := BB.trans (hb.mono BB.size)
  clear hb
  have c30 : x2.cell? ⟨w.heap.size, 0, none⟩ = some (.slice PA pn pc) := hr3.cell 0
  have c31 : x2.cell? ⟨w.heap.size, 1, none⟩ = some (.slice RV rs.length vc) := hr3.cell 1
  have c60 : x2.cell? ⟨w.heap.size + 1, 0, none⟩ = some (.bool false) := hr6.cell 0
  have c61 : x2.cell? ⟨w.heap.size + 1, 1, none⟩ = some (.slice none 0 0) := hr6.cell 1
  have c62 : x2.cell? ⟨w.heap.size + 1, 2, none⟩ = some (.slice none 0 0) := hr6.cell 2
  have z3 := hr3.lt
  have z6 := hr6.lt
  go_wp2_with fail
  clear c30 c31 c60 c61 c62 z3 z6
  refine (HSU.out _ BB).mono ?_
  have y6 := hr6.lt
  rintro e x3 ⟨v9, rfl, hv9, hb⟩
  replace hr3 := hr3.keep hb
  replace hr6 := hr6.keep hb
  replace BB : Below w.heap.size w x3 := BB.trans (hb.mono BB.size)
  clear hb
  have h9' := hv9
  obtain ⟨m9, d9, e9, hm9, hd9, _, _⟩ := h9'
  subst e9
  obtain ⟨A9, k9, c9, rfl⟩ := hm9.lim1.choose_spec.1.show_
  obtain ⟨D9, l9, b9, rfl⟩ := hd9.lim1.choose_spec.1.show_
  clear hm9 hd9
  have c30 : x3.cell? ⟨w.heap.size, 0, none⟩ = some (.slice PA pn pc) := hr3.cell 0
  have c31 : x3.cell? ⟨w.heap.size, 1, none⟩ = some (.slice RV rs.length vc) := hr3.cell 1
  have c60 : x3.cell? ⟨w.heap.size + 1, 0, none⟩ = some (.bool false) := hr6.cell 0
  have c61 : x3.cell? ⟨w.heap.size + 1, 1, none⟩ = some (.slice none 0 0) := hr6.cell 1
  have c62 : x3.cell? ⟨w.heap.size + 1, 2, none⟩ = some (.slice none 0 0) := hr6.cell 2
  have f60 : x3.frozen? ⟨w.heap.size + 1, 0, none⟩ = false := hr6.frozen 0
  have f61 : x3.frozen? ⟨w.heap.size + 1, 1, none⟩ = false := hr6.frozen 1
  have f62 : x3.frozen? ⟨w.heap.size + 1, 2, none⟩ = false := hr6.frozen 2
  have z3 := hr3.lt
  have z6 := hr6.lt
  go_wp2_with fail
  refine bodyPost_ret (v := .tuple #[.agg #[.bool (decide (NF < 0)), .slice A9 k9 c9, .slice D9 l9 b9], .int .i64 0]) (by simp [results, Tryd.results7, go_sem, c60, c61, c62]) rfl ⟨_, rfl, ?_, ((BB.setCell (by simp) _).setCell (by simp) _).setCell (by simp) _⟩
  exact (((hv9.set_ (a := ⟨w.heap.size + 1, 0, none⟩) y6 _).set_ (a := ⟨w.heap.size + 1, 1, none⟩) y6 _).set_ (a := ⟨w.heap.size + 1, 2, none⟩) y6 _).base (by omega)

end Go.Proofs.YtompckomogmhiaaDoor
