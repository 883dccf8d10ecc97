/- posterior.Predict. -/
import Derived.Test.YtoihjclkocffhaaDoorPoF
import Derived.Test.YtoihjclkocffhaaDoorPoA
namespace Go.Proofs.YtoihjclkocffhaaDoor
open Go.RowKit
set_option linter.unusedVariables false

/-- The first rule that a prediction violates. -/
def prdE (ns : List Nat) (m : Mdl) : Int := if chkE ns ≠ 0 then chkE ns else modE m ns.length
set_option maxHeartbeats 4000000 in
theorem predict_no (wv mv : Value) (ns : List Nat) (L : Nat) (m : Mdl) (w : World) (hw : Wts w wv ns L) (hm : IntsL w mv m) (hL : L ≤ 35184372088000) (hE : prdE ns m ≠ 0) :
    Calls Tryd.prog 24 #[wv, .agg #[mv]] w fun e w' => e = .returned (.tuple #[.slice none 0 0, .int .i64 (prdE ns m)]) ∧ Below w.heap.size w w' := by
  have HCK := Lib.hid (fun (W : World) (h : Below w.heap.size w W) => pcheck_any wv ns L W (hw.below h) (by omega))
  have HMV := Lib.hid (fun (W : World) (h : Below w.heap.size w W) => mvalid_any mv m (ns.length : Int) W (hm.below h))
  have HCA := Lib.hid (fun (W : World) (h : Below w.heap.size w W) => cats_any mv m W (hm.below h))
  obtain ⟨MA, mc, mus, rfl, hmc, hmm, hms, hmu⟩ := hm
  obtain ⟨WA, wc, us, rfl, hwc, hwm, hws, hwu⟩ := hw
  have HMU := Lib.hid hmu
  have HWU := Lib.hid hwu
  unfold maxLen at hmm hwm
  clear hmu hwu
  unfold prdE at *
  by_cases h1 : chkE ns = 0
  · rw [if_neg (by simpa using h1)] at hE ⊢
    have HK0 := Lib.hid h1
    obtain ⟨E, hEE⟩ : ∃ E, modE m ns.length = E := ⟨_, rfl⟩
    have HE := Lib.hid hEE
    have t2 : (E != 0) = true := by rw [bne_iff_ne, ← hEE]; exact hE
    rw [hEE]
    clear h1 hE hEE
    obtain ⟨W0, hW0⟩ : ∃ W0 : World, W0 = w.alloc (.cells #[.slice MA m.length mc] 25) := ⟨_, rfl⟩
    have r0 : Row W0 w.heap.size 25 [.slice MA m.length mc] := by
      rw [hW0]
      have := Row.new w 25 [.slice MA m.length mc]
      simpa using this
    have B0 : Below w.heap.size w W0 := by rw [hW0]; exact ((Below.refl _ _).alloc (Nat.le_refl _) _)
    go_enter Tryd.func24, Tryd.ntmps24
    go_wp2_with fail
    rw [← hW0]
    clear hW0
    have BB := B0
    have hr3 := r0
    clear B0 r0
    refine (HCK.out _ BB).mono ?_
    rintro e x1 ⟨rfl, rfl⟩
    rw [HK0.out]
    have c30 : W0.cell? ⟨w.heap.size, 0, none⟩ = some (.slice MA m.length mc) := hr3.cell 0
    have z3 := hr3.lt
    go_wp2_with fail
    clear c30 z3
    refine (HMV.out _ BB).mono ?_
    rintro e x1 ⟨rfl, hb⟩
    replace hr3 := hr3.keep hb
    replace BB : Below w.heap.size w x1 := BB.trans (hb.mono BB.size)
    clear hb
    rw [HE.out]
    have c30 : x1.cell? ⟨w.heap.size, 0, none⟩ = some (.slice MA m.length mc) := hr3.cell 0
    have z3 := hr3.lt
    go_wp2_with fail
    clear c30 z3
    go_ret2
    exact ⟨rfl, BB⟩
  · rw [if_pos h1]
    obtain ⟨E, hEE⟩ : ∃ E, chkE ns = E := ⟨_, rfl⟩
    have HE := Lib.hid hEE
    have t2 : (E != 0) = true := by rw [bne_iff_ne, ← hEE]; exact h1
    rw [hEE]
    clear h1 hE hEE
    obtain ⟨W0, hW0⟩ : ∃ W0 : World, W0 = w.alloc (.cells #[.slice MA m.length mc] 25) := ⟨_, rfl⟩
    have r0 : Row W0 w.heap.size 25 [.slice MA m.length mc] := by
      rw [hW0]
      have := Row.new w 25 [.slice MA m.length mc]
      simpa using this
    have B0 : Below w.heap.size w W0 := by rw [hW0]; exact ((Below.refl _ _).alloc (Nat.le_refl _) _)
    go_enter Tryd.func24, Tryd.ntmps24
    go_wp2_with fail
    rw [← hW0]
    clear hW0
    have BB := B0
    have hr3 := r0
    clear B0 r0
    refine (HCK.out _ BB).mono ?_
    rintro e x1 ⟨rfl, rfl⟩
    rw [HE.out]
    have c30 : W0.cell? ⟨w.heap.size, 0, none⟩ = some (.slice MA m.length mc) := hr3.cell 0
    have z3 := hr3.lt
    go_wp2_with fail
    clear c30 z3
    go_ret2
    exact ⟨rfl, BB⟩

/-- The first weights times the weights of a category. -/
def dotN (ns : List Nat) (m : Mdl) (k : Nat) : Nat → Nat
  | 0 => 0
  | j + 1 => dotN ns m k j + ns.getD j 0 * ((m.getD j []).getD k 0).toNat
theorem dotN_all (ns : List Nat) (m : Mdl) (k j : Nat) (h : ns.length = j) : dotN ns m k j = dotN ns m k ns.length := by rw [h]
/-- The predicted probabilities. -/
def predL (ns : List Nat) (m : Mdl) (c : Nat) : List (Int × Nat) := (List.range c).map fun k => (redP ((dotN ns m k ns.length : Nat) : Int) (ns.sum * 1000), redQ ((dotN ns m k ns.length : Nat) : Int) (ns.sum * 1000))
theorem predL_get (ns : List Nat) (m : Mdl) (c : Nat) {k : Nat} (h : k < c) : (predL ns m c).getD k (0, 1) = (redP ((dotN ns m k ns.length : Nat) : Int) (ns.sum * 1000), redQ ((dotN ns m k ns.length : Nat) : Int) (ns.sum * 1000)) := by
  unfold predL
  rw [List.getD_eq_getElem?_getD, List.getElem?_map, List.getElem?_range h]
  rfl
set_option maxRecDepth 100000 in
set_option maxHeartbeats 16000000 in
theorem predict_yes (wv mv : Value) (ns : List Nat) (L : Nat) (m : Mdl) (w : World) (hw : Wts w wv ns L) (hm : IntsL w mv m) (hL : L ≤ 35184372088000) (hE : prdE ns m = 0) :
    Calls Tryd.prog 24 #[wv, .agg #[mv]] w fun e w' => ∃ g us, e = .returned (.tuple #[.slice (some ⟨g, 0, none⟩) (catsOf m) (catsOf m), .int .i64 0]) ∧ Row w' g 54 (flat us) ∧ RatC w' us (predL ns m (catsOf m)) (catsOf m) (L + 60) (g + 1) ∧ Below w.heap.size w w' := by
  have hck : chkE ns = 0 := by
    unfold prdE at hE
    split at hE
    · rename_i h; exact absurd hE h
    · rename_i h; simpa using h
  have hm0 : modE m ns.length = 0 := by unfold prdE at hE; rwa [if_neg (by simpa using hck)] at hE
  obtain ⟨h21, hz0⟩ := chkE_zero hck
  obtain ⟨y1, y2, y3, y4, y5, y6⟩ := modE_zero hm0
  have HROW : Hid (∀ j, j < m.length → (m.getD j []).length = catsOf m ∧ ∀ i, i < catsOf m → 1 ≤ (m.getD j []).getD i 0 ∧ (m.getD j []).getD i 0 ≤ 1000) := fun j hj => by
    obtain ⟨a1, a2, _⟩ := y6 _ (getD_mem m [] hj)
    refine ⟨a1, fun i hi => ?_⟩
    rw [← a1] at hi
    exact a2 _ (getD_mem _ 0 hi)
  have hsp := sum_pos hz0
  have HSP : Hid (0 < ns.sum * 1000) := by unfold Hid; omega
  have HTO := Lib.hid (fun (W : World) (h : Below w.heap.size w W) => ptotal_any wv ns L W (hw.below h) (by omega) h21)
  have hml : m.length = ns.length := by omega
  have HCK := Lib.hid (fun (W : World) (h : Below w.heap.size w W) => pcheck_any wv ns L W (hw.below h) (by omega))
  have HMV := Lib.hid (fun (W : World) (h : Below w.heap.size w W) => mvalid_any mv m (ns.length : Int) W (hm.below h))
  have HCA := Lib.hid (fun (W : World) (h : Below w.heap.size w W) => cats_any mv m W (hm.below h))
  obtain ⟨MA, mc, mus, rfl, hmc, hmm, hms, hmu⟩ := hm
  obtain ⟨WA, wc, us, rfl, hwc, hwm, hws, hwu⟩ := hw
  have HMU := Lib.hid hmu
  have HWU := Lib.hid hwu
  unfold maxLen at hmm hwm
  clear hmu hwu
  obtain ⟨cc, hcc⟩ : ∃ c, catsOf m = c := ⟨_, rfl⟩
  have HCC : Hid (catsOf m = cc) := Lib.hid hcc
  rw [hcc] at HROW y4 y5 ⊢
  have hmk := run_mk3 (P := Tryd.prog) Tryd.underlying40 infoRatio rfl cc (by omega) (by omega)
  obtain ⟨n, hn⟩ : ∃ n, ns.length = n := ⟨_, rfl⟩
  have HN := Lib.hid hn
  have HML : Hid (m.length = n) := Lib.hid (hml.trans hn)
  rw [hn] at hws hwc hm0 h21 HMV HCK HTO
  rw [hn]
  have HK0 := Lib.hid hck
  have HM0 := Lib.hid hm0
  clear hn hm0 hck hE hz0 hsp y1 y2 y3 y4 y6 hml hcc
  obtain ⟨W0, hW0⟩ : ∃ W0 : World, W0 = w.alloc (.cells #[.slice MA m.length mc] 25) := ⟨_, rfl⟩
  have r0 : Row W0 w.heap.size 25 [.slice MA m.length mc] := by
    rw [hW0]
    have := Row.new w 25 [.slice MA m.length mc]
    simpa using this
  have B0 : Below w.heap.size w W0 := by rw [hW0]; exact ((Below.refl _ _).alloc (Nat.le_refl _) _)
  go_enter Tryd.func24, Tryd.ntmps24
  go_wp2_with fail
  rw [← hW0]
  clear hW0
  have BB := B0
  have hr3 := r0
  clear B0 r0
  refine (HCK.out _ BB).mono ?_
  rintro e x1 ⟨rfl, rfl⟩
  rw [HK0.out]
  have c30 : W0.cell? ⟨w.heap.size, 0, none⟩ = some (.slice MA m.length mc) := hr3.cell 0
  have z3 := hr3.lt
  go_wp2_with fail
  clear c30 z3
  refine (HMV.out _ BB).mono ?_
  rintro e x1 ⟨rfl, hb⟩
  replace hr3 := hr3.keep hb
  replace BB : Below w.heap.size w x1 := BB.trans (hb.mono BB.size)
  clear hb
  rw [HM0.out]
  have c30 : x1.cell? ⟨w.heap.size, 0, none⟩ = some (.slice MA m.length mc) := hr3.cell 0
  have z3 := hr3.lt
  go_wp2_with fail
  clear c30 z3
  refine (HTO.out _ BB).mono ?_
  rintro e x2 ⟨vt, rfl, hvt, hb⟩
  replace hr3 := hr3.keep hb
  replace BB : Below w.heap.size w x2 := BB.trans (hb.mono BB.size)
  clear hb
  obtain ⟨lt, hlt1, _, hlt3, hlt4⟩ := id hvt
  obtain ⟨⟨TA, tc, rfl, _, _, _⟩, _⟩ := id hlt1
  have HT3 := Lib.hid hlt3
  clear hlt3
  have c30 : x2.cell? ⟨w.heap.size, 0, none⟩ = some (.slice MA m.length mc) := hr3.cell 0
  have z3 := hr3.lt
  go_wp2_with fail
  clear c30 z3
  refine (of_any 1000 _ (by decide)).mono ?_
  rintro e x3 ⟨v5, rfl, l5, hl5, nt5, hv5, hk5, hf5, hb⟩
  replace hr3 := hr3.keep hb
  replace hvt := hvt.below hb
  replace hlt1 := hlt1.below hb
  replace BB : Below w.heap.size w x3 := BB.trans (hb.mono BB.size)
  clear hb
  have HV5 := Lib.hid hv5
  clear hv5 nt5 hf5
  have c30 : x3.cell? ⟨w.heap.size, 0, none⟩ = some (.slice MA m.length mc) := hr3.cell 0
  have z3 := hr3.lt
  go_wp2_with fail
  clear c30 z3
  refine (mul_any _ _ lt l5 _ hlt1 hl5 (by omega) (by omega)).mono ?_
  rintro e x4 ⟨v6, rfl, l6, hl6, nt6, hv6, hk6, hf6, hb⟩
  replace hr3 := hr3.keep hb
  replace hvt := hvt.below hb
  replace hlt1 := hlt1.below hb
  replace hl5 := hl5.below hb
  replace BB : Below w.heap.size w x4 := BB.trans (hb.mono BB.size)
  clear hb
  skip
  have HALL : NatAny x4 v6 (ns.sum * 1000) (L + 30) := ⟨l6, hl6, by rw [hv6, HT3.out, HV5.out], by omega⟩
  obtain ⟨⟨A6, c6, rfl, _, _, _⟩, _⟩ := id hl6
  clear hl6 nt6 hv6 hf6 hlt1 hl5 hvt
  have c30 : x4.cell? ⟨w.heap.size, 0, none⟩ = some (.slice MA m.length mc) := hr3.cell 0
  have z3 := hr3.lt
  go_wp2_with fail
  clear c30 z3
  refine (HCA.out _ BB).mono ?_
  rintro e x5 ⟨rfl, hb⟩
  replace hr3 := hr3.keep hb
  replace HALL := HALL.below hb
  replace BB : Below w.heap.size w x5 := BB.trans (hb.mono BB.size)
  clear hb
  rw [HCC.out]
  have c30 : x5.cell? ⟨w.heap.size, 0, none⟩ = some (.slice MA m.length mc) := hr3.cell 0
  have z3 := hr3.lt
  go_wp2_with fail
  clear c30 z3
  obtain ⟨wg, hwg⟩ : ∃ x, x = x5 := ⟨_, rfl⟩
  subst hwg
  have BG := BB
  have hrg := hr3
  clear hmk BB hr3
  go_loopw [35] (fun iv wr => ∃ (k : Nat) (vs : List T3), k ≤ cc ∧ iv = .int .i64 (k : Int) ∧ RatC wr vs (predL ns m cc) k (L + 60) (wg.heap.size + 1) ∧ Row wr wg.heap.size 54 (flat (vs ++ List.replicate (cc - k) z3)) ∧ Below wg.heap.size wg wr) (fun iv _ => cc - (intOf iv).toNat)
  case atStart => exact ⟨0, [], by omega, rfl, RatC.zero _ _ _ _, by rw [List.nil_append]; exact Row.newz3 _ _ _, (Below.refl _ _).alloc (Nat.le_refl _) _⟩
  case round =>
    obtain ⟨k, vs, hk, rfl, hco, hrow, B2⟩ := hrel
    have BQ := BG.trans (B2.mono BG.size)
    by_cases hlt : k < cc
    · have HKC := Lib.hid hlt
      have hkI : (k : Int) < (cc : Int) := by omega
      obtain ⟨wo, hwo⟩ : ∃ x, x = wr := ⟨_, rfl⟩
      subst hwo
      go_wp2_with fail
      go_loopw [11, 40] (fun v iv wr => ∃ (j : Nat), j ≤ n ∧ iv = .int .i64 (j : Int) ∧ NatAt wr v (dotN ns m k j) (L + 2 + j) ∧ Below wo.heap.size wo wr) (fun _ iv _ => n - (intOf iv).toNat)
      case atStart => exact ⟨0, by omega, rfl, natAt_nilD _ _, Below.refl _ _⟩
      case round =>
        obtain ⟨j, hj, rfl, hv, B3⟩ := hrel
        have BW := BQ.trans (B3.mono BQ.size)
        obtain ⟨lv, hlv, ntv, hvv, hkv⟩ := id hv
        obtain ⟨⟨VA, vc, rfl, _, _, _⟩, _⟩ := id hlv
        by_cases hlj : j < n
        · obtain ⟨b, o, u, rfl, hbl, hcell, hu⟩ := lst_at (R := fun w u x => NatAny w u x L) (d := 0) (xs := ns) hws HWU.out hlj
          obtain ⟨lk, hlim, hval, hlen⟩ := hu.below BW
          have HVL := Lib.hid hval
          clear hval
          obtain ⟨⟨UA, uc, rfl, _, _, _⟩, _⟩ := id hlim
          have g2 := (BW.cell (p := ⟨b, o + j, none⟩) hbl).trans hcell
          clear hcell hu
          have hjI : (j : Int) < (n : Int) := by omega
          obtain ⟨b1, o1, u1, rfl, hb1, g1, hI⟩ := lst_at hms HMU.out (show j < m.length by rw [HML.out]; exact hlj)
          obtain ⟨R1, c1, rfl, i1, i2, i3⟩ := hI
          unfold maxLen at i2
          obtain ⟨hl1, hx1⟩ := HROW.out j (by rw [HML.out]; exact hlj)
          obtain ⟨b3, o3, rfl, hb3, hcell3⟩ := i3.num (i := k) (by rw [hl1]; exact HKC.out)
          have g3 := hcell3 k (by rw [hl1]; exact HKC.out)
          clear hcell3 i3
          obtain ⟨x, hx⟩ := Int.eq_ofNat_of_zero_le (show 0 ≤ (m.getD j []).getD k 0 by have := hx1 k HKC.out; omega)
          have hx2 : x ≤ 1000 := by have := hx1 k HKC.out; omega
          have HFX : Hid (dotN ns m k (j + 1) = dotN ns m k j + val lk * x) := by
            unfold Hid
            show dotN ns m k j + ns.getD j 0 * ((m.getD j []).getD k 0).toNat = _
            rw [HVL.out, hx]
            rfl
          rw [hx] at g3
          clear hx hx1
          have g1' := (BW.cell (p := ⟨b1, o1 + j, none⟩) hb1).trans g1
          have g3' := (BW.cell (p := ⟨b3, o3 + k, none⟩) hb3).trans g3
          have HRL := Lib.hid hl1
          generalize (m.getD j []).length = rl at *
          have hkR : (k : Int) < (rl : Int) := by have := HRL.out; have := HKC.out; omega
          have hjM : (j : Int) < (m.length : Int) := by have := HML.out; omega
          clear hl1 i1
          have wxx : IntKind.u64.wrap (x : Int) = (x : Int) := by rw [IntKind.wrap_u64]; omega
          have hr3' := (hrg.keep B2).keep B3
          have c30 : wr.cell? ⟨w.heap.size, 0, none⟩ = some (.slice (some ⟨b1, o1, none⟩) m.length mc) := hr3'.cell 0
          have z3' := hr3'.lt
          clear g1 g3 hr3'
          go_wp2_with fail
          refine (of_any x _ (by omega)).mono ?_
          rintro e w5 ⟨v5, rfl, l5, hl5, nt5, hv5, hk5, hf5, h5⟩
          go_wp2_with fail
          refine (mul_any _ _ lk l5 _ (hlim.below h5) hl5 (by omega) (by omega)).mono ?_
          rintro e w6 ⟨v6, rfl, l6, hl6, nt6, hv6, hk6, hf6, h6⟩
          go_wp2_with fail
          refine (add_any _ _ lv l6 _ ((hlv.below h5).below h6) hl6 (by omega) (by omega)).mono ?_
          rintro e w7 ⟨v7, rfl, l7, hl7, nt7, hv7, hk7, hf7, h7⟩
          have hb7 : Below wr.heap.size wr w7 := (h5.trans (h6.mono h5.size)).trans (h7.mono (h5.trans (h6.mono h5.size)).size)
          obtain ⟨⟨A7, c7, rfl, _, _, _⟩, _⟩ := id hl7
          have HV := Lib.hid (show val l7 = dotN ns m k (j + 1) by rw [hv7, hv6, hv5, hvv, HFX.out])
          clear hv5 hv6 hv7
          go_wp2_with fail
          go_roundw
          case rel => exact ⟨j + 1, by omega, by go_num, ⟨l7, hl7, nt7, HV.out, by omega⟩, B3.trans (hb7.mono B3.size)⟩
          case measure => simp [intOf]; omega
        · obtain rfl : j = n := by omega
          have HSG := Lib.hid (predL_get ns m cc (k := k) HKC.out)
          have hrow3 := hrow.keep B3
          have hco3 := hco.below B3
          have hall3 := (HALL.below B2).below B3
          have B23 := B2.trans (B3.mono B2.size)
          have zr := hrow3.lt
          have HDN := Lib.hid (dotN_all ns m k j HN.out)
          have HJ : NatAt wr (.slice VA lv.length vc) (dotN ns m k j) (L + 2 + j) := hv
          clear hvv hv
          go_wp2_with fail
          refine (quot_any _ _ (dotN ns m k j) (ns.sum * 1000) (L + 60) _ (HJ.any.mono (by omega)) (hall3.mono (by omega)) (by omega) HSP.out).mono ?_
          rintro e w8 ⟨v8, rfl, hv8, h8⟩
          have h8' := hv8
          obtain ⟨m8, d8, e8, hm8, hd8, _, _⟩ := h8'
          subst e8
          obtain ⟨A8, k8, c8, rfl⟩ := hm8.lim1.choose_spec.1.show_
          obtain ⟨D8, l8, b8, rfl⟩ := hd8.lim1.choose_spec.1.show_
          clear hm8 hd8
          have hrow2 := hrow3.keep h8
          obtain ⟨k0, k1, k2⟩ := flat_get (padt_get vs z3 cc k hco3.1 hlt)
          have hc0 : w8.cell? ⟨wg.heap.size, 3 * k, none⟩ = some (.bool false) := (hrow2.cell _).trans k0
          have hc1 : w8.cell? ⟨wg.heap.size, 3 * k + 1, none⟩ = some (.slice none 0 0) := (hrow2.cell _).trans k1
          have hc2 : w8.cell? ⟨wg.heap.size, 3 * k + 2, none⟩ = some (.slice none 0 0) := (hrow2.cell _).trans k2
          have hd0 : w8.cell? ⟨wg.heap.size, k * 3, none⟩ = some (.bool false) := by rw [Nat.mul_comm]; exact hc0
          have hd1 : w8.cell? ⟨wg.heap.size, k * 3 + 1, none⟩ = some (.slice none 0 0) := by rw [Nat.mul_comm]; exact hc1
          have hd2 : w8.cell? ⟨wg.heap.size, k * 3 + 2, none⟩ = some (.slice none 0 0) := by rw [Nat.mul_comm]; exact hc2
          have hf : ∀ q, w8.frozen? ⟨wg.heap.size, q, none⟩ = false := fun q => hrow2.frozen q
          have f0 := hf (k * 3)
          have f1 := hf (k * 3 + 1)
          have f2 := hf (k * 3 + 2)
          have f3 := hf (3 * k)
          have f4 := hf (3 * k + 1)
          have f5 := hf (3 * k + 2)
          clear hf k0 k1 k2
          go_wp2_with fail
          go_roundw
          case rel =>
            refine ⟨k + 1, vs ++ [(.bool (decide (redP ((dotN ns m k j : Nat) : Int) (ns.sum * 1000) < 0)), .slice A8 k8 c8, .slice D8 l8 b8)], by omega, by go_num, ?_, ?_, (((B23.trans (h8.mono B23.size)).setCell (Nat.le_refl _) _).setCell (Nat.le_refl _) _).setCell (Nat.le_refl _) _⟩
            · refine RatC.set3 ((hco3.below h8).snoc (by rw [HSG.out, ← HDN.out]; exact hv8) (by omega)) _ _ _ _
            · rw [← padt_set vs z3 cc k _ hco.1 hlt, ← flat_set _ _ _ _ _ (by rw [List.length_append, List.length_replicate, hco.1]; omega)]
              have := ((hrow2.set_ (3 * k) (.bool (decide (redP ((dotN ns m k j : Nat) : Int) (ns.sum * 1000) < 0)))).set_ (3 * k + 1) (.slice A8 k8 c8)).set_ (3 * k + 2) (.slice D8 l8 b8)
              first | exact this | simpa [Nat.mul_comm] using this
          case measure => simp [intOf]; omega
    · obtain rfl : k = cc := by omega
      go_wp2_with fail
      go_ret2
      refine ⟨wg.heap.size, vs, rfl, ?_, hco, BQ⟩
      simpa using hrow
end Go.Proofs.YtoihjclkocffhaaDoor
