/- posterior.Update and Start. -/
import Derived.Test.YtoihjclkocffhaaDoorPoP
import Derived.Test.YtoihjclkocffhaaDoorBx
import Derived.Test.YtoihjclkocffhaaDoorNatB
namespace Go.Proofs.YtoihjclkocffhaaDoor
open Go.RowKit
set_option linter.unusedVariables false

set_option maxHeartbeats 4000000 in
theorem update_no (wv mv : Value) (ns : List Nat) (L : Nat) (m : Mdl) (k : Int) (w : World) (hw : Wts w wv ns L) (hm : IntsL w mv m) (hE : updE ns.length m k ≠ 0) :
    Calls Tryd.prog 9 #[wv, .agg #[mv], .int .i64 k] w fun e w' => e = .returned (.tuple #[.slice none 0 0, .int .i64 (updE ns.length m k)]) ∧ Below w.heap.size w w' := by
  have HMV := Lib.hid (fun (W : World) (h : Below w.heap.size w W) => mvalid_any mv m (ns.length : Int) W (hm.below h))
  have HCA := Lib.hid (fun (W : World) (h : Below w.heap.size w W) => cats_any mv m W (hm.below h))
  obtain ⟨MA, mc, mus, rfl, hmc, hmm, hms, hmu⟩ := hm
  obtain ⟨WA, wc, us, rfl, hwc, hwm, hws, hwu⟩ := hw
  have HMU := Lib.hid hmu
  have HWU := Lib.hid hwu
  unfold maxLen at hmm hwm
  clear hmu hwu
  by_cases h1 : 21 < ns.length
  · rw [updE_long h1]
    have t1 : decide (21 < (ns.length : Int)) = true := decide_eq_true (by omega)
    clear HMV HCA hE
    go_enter Tryd.func9, Tryd.ntmps9
    go_wp2_with fail
    go_ret2
    exact ⟨rfl, (Below.refl _ _).alloc (Nat.le_refl _) _⟩
  have t1 : decide (21 < (ns.length : Int)) = false := decide_eq_false (by omega)
  by_cases h2 : modE m ns.length = 0
  · by_cases h3 : missK k = true
    · exact absurd (updE_miss (by omega) h2 h3) hE
    · have h3' : missK k = false := by simpa using h3
      obtain ⟨k1, k2⟩ := missK_no.1 h3'
      have t2 : (k != -1) = true := by rw [bne_iff_ne]; exact k1
      have t3 : (k != -2) = true := by rw [bne_iff_ne]; exact k2
      have HM0 := Lib.hid h2
      by_cases h4 : k < 0
      · rw [updE_range (by omega) h2 h3' (.inl h4)]
        have t4 : decide (k < 0) = true := decide_eq_true h4
        clear h2 h3 h3' hE HCA
        obtain ⟨W0, hW0⟩ : ∃ W0 : World, W0 = w.alloc (.cells #[.slice MA m.length mc] 25) := ⟨_, rfl⟩
        have r0 : Row W0 w.heap.size 25 [.slice MA m.length mc] := by
          rw [hW0]
          have := Row.new w 25 [.slice MA m.length mc]
          simpa using this
        have B0 : Below w.heap.size w W0 := by rw [hW0]; exact ((Below.refl _ _).alloc (Nat.le_refl _) _)
        go_enter Tryd.func9, Tryd.ntmps9
        go_wp2_with fail
        rw [← hW0]
        clear hW0
        have BB := B0
        have hr4 := r0
        clear B0 r0
        refine (HMV.out _ BB).mono ?_
        rintro e x1 ⟨rfl, hb⟩
        replace hr4 := hr4.keep hb
        replace BB : Below w.heap.size w x1 := BB.trans (hb.mono BB.size)
        clear hb
        rw [HM0.out]
        have c40 : x1.cell? ⟨w.heap.size, 0, none⟩ = some (.slice MA m.length mc) := hr4.cell 0
        have z4 := hr4.lt
        go_wp2_with fail
        clear c40 z4
        go_ret2
        exact ⟨rfl, BB⟩
      · by_cases h5 : (catsOf m : Int) ≤ k
        · rw [updE_range (by omega) h2 h3' (.inr h5)]
          have t4 : decide (k < 0) = false := decide_eq_false h4
          have t5 : decide ((catsOf m : Int) ≤ k) = true := decide_eq_true h5
          clear h2 h3 h3' hE
          obtain ⟨W0, hW0⟩ : ∃ W0 : World, W0 = w.alloc (.cells #[.slice MA m.length mc] 25) := ⟨_, rfl⟩
          have r0 : Row W0 w.heap.size 25 [.slice MA m.length mc] := by
            rw [hW0]
            have := Row.new w 25 [.slice MA m.length mc]
            simpa using this
          have B0 : Below w.heap.size w W0 := by rw [hW0]; exact ((Below.refl _ _).alloc (Nat.le_refl _) _)
          go_enter Tryd.func9, Tryd.ntmps9
          go_wp2_with fail
          rw [← hW0]
          clear hW0
          have BB := B0
          have hr4 := r0
          clear B0 r0
          refine (HMV.out _ BB).mono ?_
          rintro e x1 ⟨rfl, hb⟩
          replace hr4 := hr4.keep hb
          replace BB : Below w.heap.size w x1 := BB.trans (hb.mono BB.size)
          clear hb
          rw [HM0.out]
          have c40 : x1.cell? ⟨w.heap.size, 0, none⟩ = some (.slice MA m.length mc) := hr4.cell 0
          have z4 := hr4.lt
          go_wp2_with fail
          clear c40 z4
          refine (HCA.out _ BB).mono ?_
          rintro e x2 ⟨rfl, hb⟩
          replace hr4 := hr4.keep hb
          replace BB : Below w.heap.size w x2 := BB.trans (hb.mono BB.size)
          clear hb
          have c40 : x2.cell? ⟨w.heap.size, 0, none⟩ = some (.slice MA m.length mc) := hr4.cell 0
          have z4 := hr4.lt
          go_wp2_with fail
          clear c40 z4
          go_ret2
          exact ⟨rfl, BB⟩
        · exact absurd (updE_ok (by omega) h2 h3' (by omega) (by omega)) hE
  · rw [updE_mod (by omega) h2]
    obtain ⟨E, hEE⟩ : ∃ E, modE m ns.length = E := ⟨_, rfl⟩
    have HE := Lib.hid hEE
    have t2 : (E != 0) = true := by rw [bne_iff_ne, ← hEE]; exact h2
    rw [hEE]
    clear h2 hE HCA hEE
    obtain ⟨W0, hW0⟩ : ∃ W0 : World, W0 = w.alloc (.cells #[.slice MA m.length mc] 25) := ⟨_, rfl⟩
    have r0 : Row W0 w.heap.size 25 [.slice MA m.length mc] := by
      rw [hW0]
      have := Row.new w 25 [.slice MA m.length mc]
      simpa using this
    have B0 : Below w.heap.size w W0 := by rw [hW0]; exact ((Below.refl _ _).alloc (Nat.le_refl _) _)
    go_enter Tryd.func9, Tryd.ntmps9
    go_wp2_with fail
    rw [← hW0]
    clear hW0
    have BB := B0
    have hr4 := r0
    clear B0 r0
    refine (HMV.out _ BB).mono ?_
    rintro e x1 ⟨rfl, hb⟩
    replace hr4 := hr4.keep hb
    replace BB : Below w.heap.size w x1 := BB.trans (hb.mono BB.size)
    clear hb
    rw [HE.out]
    have c40 : x1.cell? ⟨w.heap.size, 0, none⟩ = some (.slice MA m.length mc) := hr4.cell 0
    have z4 := hr4.lt
    go_wp2_with fail
    clear c40 z4
    go_ret2
    exact ⟨rfl, BB⟩

set_option maxRecDepth 100000 in
set_option maxHeartbeats 8000000 in
theorem update_miss (wv mv : Value) (ns : List Nat) (L : Nat) (m : Mdl) (k : Int) (w : World) (hw : Wts w wv ns L) (hm : IntsL w mv m) (hL : L ≤ 35184372088000) (hmi : missK k = true) (hE : updE ns.length m k = 0) :
    Calls Tryd.prog 9 #[wv, .agg #[mv], .int .i64 k] w fun e w' => ∃ v, e = .returned (.tuple #[v, .int .i64 0]) ∧ CanL w' v (updF m k ns) (L + 2) ∧ Fresh w.heap.size v ∧ Below w.heap.size w w' := by
  obtain ⟨z1, hm0, _⟩ := updE_zero hE
  rw [updF_miss hmi]
  have HMV := Lib.hid (fun (W : World) (h : Below w.heap.size w W) => mvalid_any mv m (ns.length : Int) W (hm.below h))
  have HCA := Lib.hid (fun (W : World) (h : Below w.heap.size w W) => cats_any mv m W (hm.below h))
  obtain ⟨MA, mc, mus, rfl, hmc, hmm, hms, hmu⟩ := hm
  obtain ⟨WA, wc, us, rfl, hwc, hwm, hws, hwu⟩ := hw
  have HMU := Lib.hid hmu
  have HWU := Lib.hid hwu
  unfold maxLen at hmm hwm
  clear hmu hwu
  have t1 : decide (21 < (ns.length : Int)) = false := decide_eq_false (by omega)
  clear hE HCA HMU hms
  have hmk := run_mk (P := Tryd.prog) Tryd.underlying22 infoNat rfl ns.length (by omega) (by omega)
  obtain ⟨n, hn⟩ : ∃ n, ns.length = n := ⟨_, rfl⟩
  have HN := Lib.hid hn
  rw [hn] at hws hmk hwc hm0 z1 t1 HMV ⊢
  have HM0 := Lib.hid hm0
  clear hn hm0
  rcases missK_yes.1 hmi with rfl | rfl
  · clear hmi
    obtain ⟨W0, hW0⟩ : ∃ W0 : World, W0 = w.alloc (.cells #[.slice MA m.length mc] 25) := ⟨_, rfl⟩
    have r0 : Row W0 w.heap.size 25 [.slice MA m.length mc] := by
      rw [hW0]
      have := Row.new w 25 [.slice MA m.length mc]
      simpa using this
    have B0 : Below w.heap.size w W0 := by rw [hW0]; exact ((Below.refl _ _).alloc (Nat.le_refl _) _)
    go_enter Tryd.func9, Tryd.ntmps9
    go_wp2_with fail
    rw [← hW0]
    clear hW0
    have BB := B0
    have hr4 := r0
    clear B0 r0
    refine (HMV.out _ BB).mono ?_
    rintro e x1 ⟨rfl, hb⟩
    replace hr4 := hr4.keep hb
    replace BB : Below w.heap.size w x1 := BB.trans (hb.mono BB.size)
    clear hb
    rw [HM0.out]
    have c40 : x1.cell? ⟨w.heap.size, 0, none⟩ = some (.slice MA m.length mc) := hr4.cell 0
    have z4 := hr4.lt
    go_wp2_with fail
    clear c40 z4
    clear hmk
    go_loopw [45] (fun iv wr => ∃ (j : Nat) (vs : List Value), j ≤ n ∧ iv = .int .i64 (j : Int) ∧ Coll wr vs ns j (L + 2) (x1.heap.size + 1) ∧ Row wr x1.heap.size 50 (vs ++ List.replicate (n - j) (.slice none 0 0)) ∧ Below x1.heap.size x1 wr) (fun iv _ => n - (intOf iv).toNat)
    case atStart => exact ⟨0, [], by omega, rfl, Coll.zero _ _ _ _, by rw [List.nil_append]; exact Row.newz _ _ _ _, (Below.refl _ _).alloc (Nat.le_refl _) _⟩
    case round =>
      obtain ⟨j, vs, hj, rfl, hco, hrow, BQ⟩ := hrel
      have BW := BB.trans (BQ.mono BB.size)
      by_cases hlt : j < n
      · obtain ⟨b, o, u, rfl, hbl, hcell, hu⟩ := lst_at (R := fun w u x => NatAny w u x L) (d := 0) (xs := ns) hws HWU.out hlt
        obtain ⟨lk, hlim, hval, hlen⟩ := hu.below BW
        have HVL := Lib.hid hval
        clear hval
        obtain ⟨⟨UA, uc, rfl, _, _, _⟩, _⟩ := id hlim
        have g2 := (BW.cell (p := ⟨b, o + j, none⟩) hbl).trans hcell
        clear hcell hu
        have hjI : (j : Int) < (n : Int) := by omega
        go_wp2_with fail
        refine (norm_any _ lk _ hlim (by omega)).mono ?_
        rintro e w6 ⟨v6, rfl, l6, hl6, nt6, hv6, hk6, hf6, h6⟩
        have hbe : Below wr.heap.size wr w6 := h6
        have hnat : NatAt w6 v6 (ns.getD j 0) (L + 2) := ⟨l6, hl6, nt6, by rw [hv6, HVL.out], by omega⟩
        have hfr : Fresh wr.heap.size v6 := hf6
        have zr := hrow.lt
        have hrow2 := hrow.keep hbe
        have hc0 : w6.cell? ⟨x1.heap.size, j, none⟩ = some (.slice none 0 0) := by rw [hrow2.cell, padv_get _ _ _ _ hco.1 hlt]
        have hf0 : w6.frozen? ⟨x1.heap.size, j, none⟩ = false := hrow2.frozen j
        obtain ⟨⟨A6, c6, rfl, _, _, _⟩, _⟩ := id hl6
        go_wp2_with fail
        go_roundw
        case rel =>
          refine ⟨j + 1, vs ++ [.slice A6 l6.length c6], by omega, by go_num, ?_, ?_, (BQ.trans (hbe.mono BQ.size)).setCell (Nat.le_refl _) _⟩
          · exact ((hco.below hbe).snoc hnat (hfr.mono zr)).set_ (p := ⟨x1.heap.size, j, none⟩) (by simp) _
          · rw [← padv_set _ _ _ _ _ hco.1 hlt]
            exact hrow2.set_ j _
        case measure => simp [intOf]; omega
      · obtain rfl : j = n := by omega
        go_wp2_with fail
        go_ret2
        refine ⟨.slice (some ⟨x1.heap.size, 0, none⟩) j j, rfl, ?_, BB.size, BB.trans (BQ.mono BB.size)⟩
        have hl : ns.length = j := by exact HN.out
        have hrow' : Row wr x1.heap.size 50 vs := by simpa using hrow
        rw [← hl] at hco
        have := hco.can_row hrow' (by rw [hl]; unfold maxLen; omega)
        rwa [hl] at this
  · clear hmi
    obtain ⟨W0, hW0⟩ : ∃ W0 : World, W0 = w.alloc (.cells #[.slice MA m.length mc] 25) := ⟨_, rfl⟩
    have r0 : Row W0 w.heap.size 25 [.slice MA m.length mc] := by
      rw [hW0]
      have := Row.new w 25 [.slice MA m.length mc]
      simpa using this
    have B0 : Below w.heap.size w W0 := by rw [hW0]; exact ((Below.refl _ _).alloc (Nat.le_refl _) _)
    go_enter Tryd.func9, Tryd.ntmps9
    go_wp2_with fail
    rw [← hW0]
    clear hW0
    have BB := B0
    have hr4 := r0
    clear B0 r0
    refine (HMV.out _ BB).mono ?_
    rintro e x1 ⟨rfl, hb⟩
    replace hr4 := hr4.keep hb
    replace BB : Below w.heap.size w x1 := BB.trans (hb.mono BB.size)
    clear hb
    rw [HM0.out]
    have c40 : x1.cell? ⟨w.heap.size, 0, none⟩ = some (.slice MA m.length mc) := hr4.cell 0
    have z4 := hr4.lt
    go_wp2_with fail
    clear c40 z4
    clear hmk
    go_loopw [45] (fun iv wr => ∃ (j : Nat) (vs : List Value), j ≤ n ∧ iv = .int .i64 (j : Int) ∧ Coll wr vs ns j (L + 2) (x1.heap.size + 1) ∧ Row wr x1.heap.size 50 (vs ++ List.replicate (n - j) (.slice none 0 0)) ∧ Below x1.heap.size x1 wr) (fun iv _ => n - (intOf iv).toNat)
    case atStart => exact ⟨0, [], by omega, rfl, Coll.zero _ _ _ _, by rw [List.nil_append]; exact Row.newz _ _ _ _, (Below.refl _ _).alloc (Nat.le_refl _) _⟩
    case round =>
      obtain ⟨j, vs, hj, rfl, hco, hrow, BQ⟩ := hrel
      have BW := BB.trans (BQ.mono BB.size)
      by_cases hlt : j < n
      · obtain ⟨b, o, u, rfl, hbl, hcell, hu⟩ := lst_at (R := fun w u x => NatAny w u x L) (d := 0) (xs := ns) hws HWU.out hlt
        obtain ⟨lk, hlim, hval, hlen⟩ := hu.below BW
        have HVL := Lib.hid hval
        clear hval
        obtain ⟨⟨UA, uc, rfl, _, _, _⟩, _⟩ := id hlim
        have g2 := (BW.cell (p := ⟨b, o + j, none⟩) hbl).trans hcell
        clear hcell hu
        have hjI : (j : Int) < (n : Int) := by omega
        go_wp2_with fail
        refine (norm_any _ lk _ hlim (by omega)).mono ?_
        rintro e w6 ⟨v6, rfl, l6, hl6, nt6, hv6, hk6, hf6, h6⟩
        have hbe : Below wr.heap.size wr w6 := h6
        have hnat : NatAt w6 v6 (ns.getD j 0) (L + 2) := ⟨l6, hl6, nt6, by rw [hv6, HVL.out], by omega⟩
        have hfr : Fresh wr.heap.size v6 := hf6
        have zr := hrow.lt
        have hrow2 := hrow.keep hbe
        have hc0 : w6.cell? ⟨x1.heap.size, j, none⟩ = some (.slice none 0 0) := by rw [hrow2.cell, padv_get _ _ _ _ hco.1 hlt]
        have hf0 : w6.frozen? ⟨x1.heap.size, j, none⟩ = false := hrow2.frozen j
        obtain ⟨⟨A6, c6, rfl, _, _, _⟩, _⟩ := id hl6
        go_wp2_with fail
        go_roundw
        case rel =>
          refine ⟨j + 1, vs ++ [.slice A6 l6.length c6], by omega, by go_num, ?_, ?_, (BQ.trans (hbe.mono BQ.size)).setCell (Nat.le_refl _) _⟩
          · exact ((hco.below hbe).snoc hnat (hfr.mono zr)).set_ (p := ⟨x1.heap.size, j, none⟩) (by simp) _
          · rw [← padv_set _ _ _ _ _ hco.1 hlt]
            exact hrow2.set_ j _
        case measure => simp [intOf]; omega
      · obtain rfl : j = n := by omega
        go_wp2_with fail
        go_ret2
        refine ⟨.slice (some ⟨x1.heap.size, 0, none⟩) j j, rfl, ?_, BB.size, BB.trans (BQ.mono BB.size)⟩
        have hl : ns.length = j := by exact HN.out
        have hrow' : Row wr x1.heap.size 50 vs := by simpa using hrow
        rw [← hl] at hco
        have := hco.can_row hrow' (by rw [hl]; unfold maxLen; omega)
        rwa [hl] at this

set_option maxRecDepth 100000 in
set_option maxHeartbeats 8000000 in
theorem update_ans (wv mv : Value) (ns : List Nat) (L : Nat) (m : Mdl) (k : Int) (w : World) (hw : Wts w wv ns L) (hm : IntsL w mv m) (hL : L ≤ 35184372088000) (hmi : missK k = false) (hE : updE ns.length m k = 0) :
    Calls Tryd.prog 9 #[wv, .agg #[mv], .int .i64 k] w fun e w' => ∃ v, e = .returned (.tuple #[v, .int .i64 0]) ∧ CanL w' v (updF m k ns) (L + 2) ∧ Fresh w.heap.size v ∧ Below w.heap.size w w' := by
  obtain ⟨z1, hm0, hk⟩ := updE_zero hE
  obtain ⟨k1, k2⟩ := missK_no.1 hmi
  obtain ⟨k3, k4⟩ := hk hmi
  obtain ⟨kn, rfl⟩ := Int.eq_ofNat_of_zero_le k3
  obtain ⟨y1, y2, y3, y4, y5, y6⟩ := modE_zero hm0
  have HMISS := Lib.hid hmi
  have HKC : Hid (kn < catsOf m) := by unfold Hid; omega
  have HROW : Hid (∀ j, j < m.length → (m.getD j []).length = catsOf m ∧ ∀ i, i < catsOf m → 1 ≤ (m.getD j []).getD i 0 ∧ (m.getD j []).getD i 0 ≤ 1000) := fun j hj => by
    have hmem : m.getD j [] ∈ m := getD_mem m [] hj
    obtain ⟨a1, a2, _⟩ := y6 _ hmem
    refine ⟨a1, fun i hi => ?_⟩
    rw [← a1] at hi
    have := a2 ((m.getD j []).getD i 0) (getD_mem _ 0 hi)
    exact this
  have hml : m.length = ns.length := by omega
  have HMV := Lib.hid (fun (W : World) (h : Below w.heap.size w W) => mvalid_any mv m (ns.length : Int) W (hm.below h))
  have HCA := Lib.hid (fun (W : World) (h : Below w.heap.size w W) => cats_any mv m W (hm.below h))
  obtain ⟨MA, mc, mus, rfl, hmc, hmm, hms, hmu⟩ := hm
  obtain ⟨WA, wc, us, rfl, hwc, hwm, hws, hwu⟩ := hw
  have HMU := Lib.hid hmu
  have HWU := Lib.hid hwu
  unfold maxLen at hmm hwm
  clear hmu hwu
  have t1 : decide (21 < (ns.length : Int)) = false := decide_eq_false (by omega)
  have t2 : ((kn : Int) != -1) = true := by rw [bne_iff_ne]; exact k1
  have t3 : ((kn : Int) != -2) = true := by rw [bne_iff_ne]; exact k2
  have t4 : decide ((kn : Int) < 0) = false := decide_eq_false (by omega)
  have t5 : decide ((catsOf m : Int) ≤ (kn : Int)) = false := decide_eq_false (by omega)
  have t6 : decide (catsOf m ≤ kn) = false := decide_eq_false (by omega)
  have hmk := run_mk (P := Tryd.prog) Tryd.underlying22 infoNat rfl ns.length (by omega) (by omega)
  obtain ⟨n, hn⟩ : ∃ n, ns.length = n := ⟨_, rfl⟩
  have HN := Lib.hid hn
  have HML : Hid (m.length = n) := Lib.hid (hml.trans hn)
  rw [hn] at hws hmk hwc hm0 z1 t1 HMV ⊢
  have HM0 := Lib.hid hm0
  clear hn hm0 hE hk hmi k1 k2 k3 k4 y1 y2 y3 y4 y5 y6 hml
  obtain ⟨W0, hW0⟩ : ∃ W0 : World, W0 = w.alloc (.cells #[.slice MA m.length mc] 25) := ⟨_, rfl⟩
  have r0 : Row W0 w.heap.size 25 [.slice MA m.length mc] := by
    rw [hW0]
    have := Row.new w 25 [.slice MA m.length mc]
    simpa using this
  have B0 : Below w.heap.size w W0 := by rw [hW0]; exact ((Below.refl _ _).alloc (Nat.le_refl _) _)
  go_enter Tryd.func9, Tryd.ntmps9
  go_wp2_with fail
  rw [← hW0]
  clear hW0
  have BB := B0
  have hr4 := r0
  clear B0 r0
  refine (HMV.out _ BB).mono ?_
  rintro e x1 ⟨rfl, hb⟩
  replace hr4 := hr4.keep hb
  replace BB : Below w.heap.size w x1 := BB.trans (hb.mono BB.size)
  clear hb
  rw [HM0.out]
  have c40 : x1.cell? ⟨w.heap.size, 0, none⟩ = some (.slice MA m.length mc) := hr4.cell 0
  have z4 := hr4.lt
  go_wp2_with fail
  clear c40 z4
  refine (HCA.out _ BB).mono ?_
  rintro e x2 ⟨rfl, hb⟩
  replace hr4 := hr4.keep hb
  replace BB : Below w.heap.size w x2 := BB.trans (hb.mono BB.size)
  clear hb
  have c40 : x2.cell? ⟨w.heap.size, 0, none⟩ = some (.slice MA m.length mc) := hr4.cell 0
  have z4 := hr4.lt
  go_wp2_with fail
  clear c40 z4
  clear hmk
  go_loopw [45] (fun iv wr => ∃ (j : Nat) (vs : List Value), j ≤ n ∧ iv = .int .i64 (j : Int) ∧ Coll wr vs (updF m (kn : Int) ns) j (L + 2) (x2.heap.size + 1) ∧ Row wr x2.heap.size 50 (vs ++ List.replicate (n - j) (.slice none 0 0)) ∧ Below x2.heap.size x2 wr) (fun iv _ => n - (intOf iv).toNat)
  case atStart => exact ⟨0, [], by omega, rfl, Coll.zero _ _ _ _, by rw [List.nil_append]; exact Row.newz _ _ _ _, (Below.refl _ _).alloc (Nat.le_refl _) _⟩
  case round =>
    obtain ⟨j, vs, hj, rfl, hco, hrow, BQ⟩ := hrel
    have BW := BB.trans (BQ.mono BB.size)
    by_cases hlt : j < n
    · obtain ⟨b, o, u, rfl, hbl, hcell, hu⟩ := lst_at (R := fun w u x => NatAny w u x L) (d := 0) (xs := ns) hws HWU.out hlt
      obtain ⟨lk, hlim, hval, hlen⟩ := hu.below BW
      have HVL := Lib.hid hval
      clear hval
      obtain ⟨⟨UA, uc, rfl, _, _, _⟩, _⟩ := id hlim
      have g2 := (BW.cell (p := ⟨b, o + j, none⟩) hbl).trans hcell
      clear hcell hu
      have hjI : (j : Int) < (n : Int) := by omega
      obtain ⟨b1, o1, u1, rfl, hb1, g1, hI⟩ := lst_at hms HMU.out (show j < m.length by rw [HML.out]; exact hlt)
      obtain ⟨R1, c1, rfl, i1, i2, i3⟩ := hI
      unfold maxLen at i2
      obtain ⟨hl1, hx1⟩ := HROW.out j (by rw [HML.out]; exact hlt)
      obtain ⟨b3, o3, rfl, hb3, hcell3⟩ := i3.num (i := kn) (by rw [hl1]; exact HKC.out)
      have g3 := hcell3 kn (by rw [hl1]; exact HKC.out)
      clear hcell3 i3
      obtain ⟨x, hx⟩ := Int.eq_ofNat_of_zero_le (show 0 ≤ (m.getD j []).getD kn 0 by have := hx1 kn HKC.out; omega)
      have hx2 : x ≤ 1000 := by have := hx1 kn HKC.out; omega
      have HFX : Hid ((updF m (kn : Int) ns).getD j 0 = val lk * x) := by
        unfold Hid
        rw [updF_get _ _ _ (by rw [HN.out]; exact hlt), HVL.out]
        unfold facU
        rw [if_neg (by rw [HMISS.out]; simp), Int.toNat_natCast, hx]
        rfl
      rw [hx] at g3
      clear hx hx1
      have g1' := (BW.cell (p := ⟨b1, o1 + j, none⟩) hb1).trans g1
      have g3' := (BW.cell (p := ⟨b3, o3 + kn, none⟩) hb3).trans g3
      generalize (m.getD j []).length = rl at *
      have hkI : (kn : Int) < (rl : Int) := by have := HKC.out; omega
      have hjM : (j : Int) < (m.length : Int) := by have := HML.out; omega
      have wxx : IntKind.u64.wrap (x : Int) = (x : Int) := by rw [IntKind.wrap_u64]; omega
      have hr4' := hr4.keep BQ
      have c40 : wr.cell? ⟨w.heap.size, 0, none⟩ = some (.slice (some ⟨b1, o1, none⟩) m.length mc) := hr4'.cell 0
      have z4 := hr4'.lt
      clear g1 g3 hr4'
      go_wp2_with fail
      refine (of_any x _ (by omega)).mono ?_
      rintro e w5 ⟨v5, rfl, l5, hl5, nt5, hv5, hk5, hf5, h5⟩
      go_wp2_with fail
      refine (mul_wide _ _ lk l5 _ (hlim.below h5) hl5 (by omega)).mono ?_
      rintro e w6 ⟨v6, rfl, l6, hl6, nt6, hv6, hk6, hf6, h6⟩
      have hbe : Below wr.heap.size wr w6 := h5.trans (h6.mono h5.size)
      have hnat : NatAt w6 v6 ((updF m (kn : Int) ns).getD j 0) (L + 2) := ⟨l6, hl6, nt6, by rw [hv6, hv5, HFX.out], by omega⟩
      have hfr : Fresh wr.heap.size v6 := hf6.mono h5.size
      have zr := hrow.lt
      have hrow2 := hrow.keep hbe
      have hc0 : w6.cell? ⟨x2.heap.size, j, none⟩ = some (.slice none 0 0) := by rw [hrow2.cell, padv_get _ _ _ _ hco.1 hlt]
      have hf0 : w6.frozen? ⟨x2.heap.size, j, none⟩ = false := hrow2.frozen j
      obtain ⟨⟨A6, c6, rfl, _, _, _⟩, _⟩ := id hl6
      go_wp2_with fail
      go_roundw
      case rel =>
        refine ⟨j + 1, vs ++ [.slice A6 l6.length c6], by omega, by go_num, ?_, ?_, (BQ.trans (hbe.mono BQ.size)).setCell (Nat.le_refl _) _⟩
        · exact ((hco.below hbe).snoc hnat (hfr.mono zr)).set_ (p := ⟨x2.heap.size, j, none⟩) (by simp) _
        · rw [← padv_set _ _ _ _ _ hco.1 hlt]
          exact hrow2.set_ j _
      case measure => simp [intOf]; omega
    · obtain rfl : j = n := by omega
      go_wp2_with fail
      go_ret2
      refine ⟨.slice (some ⟨x2.heap.size, 0, none⟩) j j, rfl, ?_, BB.size, BB.trans (BQ.mono BB.size)⟩
      have hl : (updF m (kn : Int) ns).length = j := by rw [updF_len, HN.out]
      have hrow' : Row wr x2.heap.size 50 vs := by simpa using hrow
      rw [← hl] at hco
      have := hco.can_row hrow' (by rw [hl]; unfold maxLen; omega)
      rwa [hl] at this
theorem update_yes (wv mv : Value) (ns : List Nat) (L : Nat) (m : Mdl) (k : Int) (w : World) (hw : Wts w wv ns L) (hm : IntsL w mv m) (hL : L ≤ 35184372088000) (hE : updE ns.length m k = 0) :
    Calls Tryd.prog 9 #[wv, .agg #[mv], .int .i64 k] w fun e w' => ∃ v, e = .returned (.tuple #[v, .int .i64 0]) ∧ CanL w' v (updF m k ns) (L + 2) ∧ Fresh w.heap.size v ∧ Below w.heap.size w w' := by
  rcases hmi : missK k with _ | _
  · exact update_ans wv mv ns L m k w hw hm hL hmi hE
  · exact update_miss wv mv ns L m k w hw hm hL hmi hE

theorem start_no (pv rv : Value) (ps rs : List Int) (w : World) (hp : Nums .i64 w pv ps) (hr : Nums .i64 w rv rs) (hE : gridE ps rs ≠ 0) :
    Calls Tryd.prog 13 #[.agg #[pv, rv]] w fun e w' => e = .returned (.tuple #[.slice none 0 0, .int .i64 (gridE ps rs)]) ∧ Below w.heap.size w w' := by
  have hb0 : Below w.heap.size w (w.alloc (.cells #[pv, rv] 34)) := (Below.refl _ _).alloc (Nat.le_refl _) _
  have HV := Lib.hid (prior_no pv rv ps rs _ (hp.below hb0) (hr.below hb0) hE)
  obtain ⟨A, c, rfl, hc, hm, hsp⟩ := hp
  obtain ⟨B, c', rfl, hc', hm', hsr⟩ := hr
  clear hE hsp hsr
  generalize gridE ps rs = E at *
  go_enter Tryd.func13, Tryd.ntmps13
  go_wp2_with fail
  refine HV.out.mono ?_
  rintro e w1 ⟨rfl, hb⟩
  go_wp2_with fail
  go_ret2
  exact ⟨rfl, hb0.trans (hb.mono hb0.size)⟩
theorem start_yes (pv rv : Value) (ps rs : List Int) (w : World) (hp : Nums .i64 w pv ps) (hr : Nums .i64 w rv rs) (hE : gridE ps rs = 0) :
    Calls Tryd.prog 13 #[.agg #[pv, rv]] w fun e w' => ∃ v, e = .returned (.tuple #[v, .int .i64 0]) ∧ CanL w' v (natsOf rs) 2 ∧ Below w.heap.size w w' := by
  have hb0 : Below w.heap.size w (w.alloc (.cells #[pv, rv] 34)) := (Below.refl _ _).alloc (Nat.le_refl _) _
  have HV := Lib.hid (prior_yes pv rv ps rs _ (hp.below hb0) (hr.below hb0) hE)
  obtain ⟨A, c, rfl, hc, hm, hsp⟩ := hp
  obtain ⟨B, c', rfl, hc', hm', hsr⟩ := hr
  clear hE hsp hsr
  go_enter Tryd.func13, Tryd.ntmps13
  go_wp2_with fail
  refine HV.out.mono ?_
  rintro e w1 ⟨v, rfl, hv, _, hb⟩
  obtain ⟨VA, vc, vus, rfl, _⟩ := id hv
  go_wp2_with fail
  go_ret2
  exact ⟨_, rfl, hv, hb0.trans (hb.mono hb0.size)⟩

end Go.Proofs.YtoihjclkocffhaaDoor
