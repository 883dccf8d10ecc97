/- The walk of Predict (package examboardref26). -/
import Derived.Test.YtoihjclkocffhaaDoorPoQc
import Derived.Test.YtoihjclkocffhaaDoorPoG
import Derived.Test.YtoihjclkocffhaaDoorPoR
import Derived.Deep.RegionLaw
namespace Go.Proofs.YtoihjclkocffhaaDoor
open Go.RowKit
set_option linter.unusedVariables false
set_option maxRecDepth 100000

theorem predL_len (ns : List Nat) (m : Mdl) (c : Nat) : (predL ns m c).length = c := by simp [predL]
set_option maxHeartbeats 16000000 in
theorem rpred26_no (wv mv : Value) (ns : List Nat) (L : Nat) (m : Mdl) (w : World) (hw : Wts w wv ns L) (hm : IntsL w mv m) (hL : L ≤ 35184372088000) (hE : prdE ns m ≠ 0) :
    Calls Tryd.prog 25 #[wv, .agg #[mv]] w fun e w' => e = .returned (.tuple #[.slice none 0 0, .int .i64 (prdE ns m)]) ∧ Below w.heap.size w w' := by
  have HCK := Lib.hid (fun (W : World) (h : Below w.heap.size w W) => rcheck26_any wv ns L W (hw.below h) (by omega))
  have HMV := Lib.hid (fun (W : World) (h : Below w.heap.size w W) => rmvalid_any mv m (ns.length : Int) W (hm.below h))
  obtain ⟨MA, mc, mus, rfl, hmc, hmm, hms, hmu⟩ := hm
  obtain ⟨WA, wc, us, rfl, hwc, hwm, hws, hwu⟩ := hw
  unfold maxLen at hmm hwm
  clear hmu hwu hms hws
  by_cases hck : chkE ns = 0
  · have hpe : prdE ns m = modE m ns.length := by unfold prdE; rw [if_neg (by simpa using hck)]
    rw [hpe] at hE ⊢
    rw [hck] at HCK
    have hne : (modE m ns.length != 0) = true := by rw [bne_iff_ne]; exact hE
    generalize modE m ns.length = E at *
    clear hE hck hpe
    obtain ⟨W0, hW0⟩ : ∃ W0 : World, W0 = w.alloc (.cells #[.slice MA m.length mc] 25) := ⟨_, rfl⟩
    have r0 : Row W0 w.heap.size 25 [.slice MA m.length mc] := by
      rw [hW0]
      have := Row.new w 25 [.slice MA m.length mc]
      simpa using this
    have B0 : Below w.heap.size w W0 := by rw [hW0]; exact ((Below.refl _ _).alloc (Nat.le_refl _) _)
    go_enter Tryd.func25, Tryd.ntmps25
    go_wp2_with fail
    rw [← hW0]
    clear hW0
    refine (HCK.out _ B0).mono ?_
    rintro e x1 ⟨rfl, hb⟩
    replace r0 := r0.keep hb
    have BB := B0.trans (hb.mono B0.size)
    clear hb
    have c30 : x1.cell? ⟨w.heap.size, 0, none⟩ = some (.slice MA m.length mc) := r0.cell 0
    have z3 := r0.lt
    go_wp2_with fail
    refine (HMV.out _ BB).mono ?_
    rintro e x2 ⟨rfl, hb⟩
    go_wp2_with fail
    go_ret2
    exact ⟨rfl, BB.trans (hb.mono BB.size)⟩
  · have hpe : prdE ns m = chkE ns := by unfold prdE; rw [if_pos hck]
    rw [hpe]
    have hne : (chkE ns != 0) = true := by rw [bne_iff_ne]; exact hck
    generalize chkE ns = E at *
    clear hE hck hpe
    obtain ⟨W0, hW0⟩ : ∃ W0 : World, W0 = w.alloc (.cells #[.slice MA m.length mc] 25) := ⟨_, rfl⟩
    have r0 : Row W0 w.heap.size 25 [.slice MA m.length mc] := by
      rw [hW0]
      have := Row.new w 25 [.slice MA m.length mc]
      simpa using this
    have B0 : Below w.heap.size w W0 := by rw [hW0]; exact ((Below.refl _ _).alloc (Nat.le_refl _) _)
    go_enter Tryd.func25, Tryd.ntmps25
    go_wp2_with fail
    rw [← hW0]
    clear hW0
    refine (HCK.out _ B0).mono ?_
    rintro e x1 ⟨rfl, hb⟩
    go_wp2_with fail
    go_ret2
    exact ⟨rfl, B0.trans (hb.mono B0.size)⟩

set_option maxHeartbeats 16000000 in
theorem rpred26_yes (wv mv : Value) (ns : List Nat) (L : Nat) (m : Mdl) (w : World) (hw : Wts w wv ns L) (hm : IntsL w mv m) (hL : L ≤ 35184372088000) (hE : prdE ns m = 0) :
    Calls Tryd.prog 25 #[wv, .agg #[mv]] w fun e w' => ∃ v, e = .returned (.tuple #[v, .int .i64 0]) ∧ RatLs w' v (predL ns m (catsOf m)) (L + 30) ∧ Below w.heap.size w w' := by
  have hck : chkE ns = 0 := by
    unfold prdE at hE
    split at hE
    · rename_i h; exact absurd hE h
    · rename_i h; simpa using h
  have hm0 : modE m ns.length = 0 := by unfold prdE at hE; rwa [if_neg (by simpa using hck)] at hE
  obtain ⟨h21, hz0⟩ := chkE_zero hck
  obtain ⟨y1, y2, y3, y4, y5, y6⟩ := modE_zero hm0
  have HROW : Hid (∀ j, j < m.length → (m.getD j []).length = catsOf m ∧ ∀ i, i < catsOf m → 1 ≤ (m.getD j []).getD i 0 ∧ (m.getD j []).getD i 0 ≤ 1000) := fun j hj => by
    obtain ⟨a1, a2, _⟩ := y6 _ (getD_mem m [] hj)
    refine ⟨a1, fun i hi => ?_⟩
    rw [← a1] at hi
    exact a2 _ (getD_mem _ 0 hi)
  have hsp := sum_pos hz0
  have HSP : Hid (0 < ns.sum * 1000) := by unfold Hid; omega
  have HTO := Lib.hid (fun (W : World) (h : Below w.heap.size w W) => rsumw_any wv ns L W (hw.below h) (by omega))
  have hml : m.length = ns.length := by omega
  have HCK := Lib.hid (fun (W : World) (h : Below w.heap.size w W) => rcheck26_any wv ns L W (hw.below h) (by omega))
  have HMV := Lib.hid (fun (W : World) (h : Below w.heap.size w W) => rmvalid_any mv m (ns.length : Int) W (hm.below h))
  have HCA := Lib.hid (fun (W : World) (h : Below w.heap.size w W) => rcats_any mv m W (hm.below h))
  obtain ⟨MA, mc, mus, rfl, hmc, hmm, hms, hmu⟩ := hm
  obtain ⟨WA, wc, us, rfl, hwc, hwm, hws, hwu⟩ := hw
  have HMU := Lib.hid hmu
  have HWU := Lib.hid hwu
  unfold maxLen at hmm hwm
  clear hmu hwu
  obtain ⟨cc, hcc⟩ : ∃ c, catsOf m = c := ⟨_, rfl⟩
  have HCC : Hid (catsOf m = cc) := Lib.hid hcc
  rw [hcc] at HROW y4 y5 ⊢
  obtain ⟨n, hn⟩ : ∃ n, ns.length = n := ⟨_, rfl⟩
  have HN := Lib.hid hn
  have HML : Hid (m.length = n) := Lib.hid (hml.trans hn)
  rw [hn] at hws hwc hm0 h21 HMV HCK HTO
  rw [hn]
  rw [hck] at HCK
  rw [hm0] at HMV
  clear hn hm0 hck hE hz0 hsp y1 y2 y3 y6 hml hcc
  obtain ⟨i0, iz0, hi0, hz0, hz1, hz2, hzc⟩ := info_parts3 infoRatio
  have hzs : iz0.cells.size = 3 := by rw [hzc]; rfl
  clear hzc
  obtain ⟨W0, hW0⟩ : ∃ W0 : World, W0 = w.alloc (.cells #[.slice MA m.length mc] 25) := ⟨_, rfl⟩
  have r0 : Row W0 w.heap.size 25 [.slice MA m.length mc] := by
    rw [hW0]
    have := Row.new w 25 [.slice MA m.length mc]
    simpa using this
  have B0 : Below w.heap.size w W0 := by rw [hW0]; exact ((Below.refl _ _).alloc (Nat.le_refl _) _)
  go_enter Tryd.func25, Tryd.ntmps25
  go_wp2_with fail
  rw [← hW0]
  clear hW0
  have BB := B0
  have hr3 := r0
  clear B0 r0
  refine (HCK.out _ BB).mono ?_
  rintro e x1 ⟨rfl, hb⟩
  replace hr3 := hr3.keep hb
  replace BB : Below w.heap.size w x1 := BB.trans (hb.mono BB.size)
  clear hb
  have c30 : x1.cell? ⟨w.heap.size, 0, none⟩ = some (.slice MA m.length mc) := hr3.cell 0
  have z3 := hr3.lt
  go_wp2_with fail
  clear c30 z3
  refine (HMV.out _ BB).mono ?_
  rintro e x2 ⟨rfl, hb⟩
  replace hr3 := hr3.keep hb
  replace BB : Below w.heap.size w x2 := BB.trans (hb.mono BB.size)
  clear hb
  go_wp2_with fail
  refine (HTO.out _ BB).mono ?_
  rintro e x3 ⟨vt, rfl, hvt, hb⟩
  replace hr3 := hr3.keep hb
  replace BB : Below w.heap.size w x3 := BB.trans (hb.mono BB.size)
  clear hb
  obtain ⟨lt, hlt1, _, hlt3, hlt4⟩ := id hvt
  obtain ⟨⟨TA, tc, rfl, _, _, _⟩, _⟩ := id hlt1
  have HT3 := Lib.hid hlt3
  clear hlt3 hvt
  go_wp2_with fail
  refine (number_any 1000 _ (by decide)).mono ?_
  rintro e x4 ⟨v5, rfl, l5, hl5, nt5, hv5, hk5, hf5, hb⟩
  obtain ⟨⟨A5', c5', rfl, _, _, _⟩, _⟩ := id hl5
  replace hr3 := hr3.keep hb
  replace hlt1 := hlt1.below hb
  replace BB : Below w.heap.size w x4 := BB.trans (hb.mono BB.size)
  clear hb
  have HV5 := Lib.hid hv5
  clear hv5 nt5 hf5
  go_wp2_with fail
  refine (rmul_wide _ _ lt l5 _ hlt1 hl5 (by omega)).mono ?_
  rintro e wg ⟨v6, rfl, l6, hl6, nt6, hv6, hk6, hf6, hb⟩
  replace hr3 := hr3.keep hb
  replace BB : Below w.heap.size w wg := BB.trans (hb.mono BB.size)
  clear hb
  have HALL : Hid (NatAny wg v6 (ns.sum * 1000) (L + 30)) := ⟨l6, hl6, by rw [hv6, HT3.out, HV5.out], by omega⟩
  obtain ⟨⟨A6, c6, rfl, _, _, _⟩, _⟩ := id hl6
  clear hl6 nt6 hv6 hf6 hlt1 hl5
  have BG := BB
  have hrg0 := hr3
  clear BB hr3
  go_wp2_with fail
  go_loopw [8, 9] (fun lv iv wr => ∃ (k : Nat) (gx : Value) (vs : List T3), k ≤ cc ∧ iv = .int .i64 (k : Int) ∧ lv = gx ∧ wr.ownsRow wg.heap.size 54 3 gx k (flat vs) ∧ RatO wr vs (predL ns m cc) k (L + 30) gx.ownBlock ∧ Below wg.heap.size wg wr) (fun _ iv _ => cc - (intOf iv).toNat)
  case atStart => exact ⟨0, _, [], by omega, rfl, rfl, own_zero3e _ _, RatO.zero _ _ _ _, (Below.refl _ _).alloc (Nat.le_refl _) _⟩
  case round =>
    obtain ⟨k, gx, vs, hk, rfl, rfl, hown, hco, B2⟩ := hrel
    have BQ := BG.trans (B2.mono BG.size)
    have hrg := hrg0.keep B2
    have c30 : wr.cell? ⟨w.heap.size, 0, none⟩ = some (.slice MA m.length mc) := hrg.cell 0
    have z3 := hrg.lt
    go_wp2_with fail
    clear c30 z3
    refine (HCA.out _ BQ).mono ?_
    rintro e wo ⟨rfl, hb⟩
    rw [HCC.out]
    replace hrg := hrg.keep hb
    replace hown := own_keep hown hb
    replace hco := hco.below hb
    replace B2 : Below wg.heap.size wg wo := B2.trans (hb.mono B2.size)
    replace BQ : Below w.heap.size w wo := BQ.trans (hb.mono BQ.size)
    clear hb
    by_cases hlt : k < cc
    · have HKC := Lib.hid hlt
      have hkI : (k : Int) < (cc : Int) := by omega
      go_wp2_with fail
      go_loopw [10, 11] (fun v iv wr => ∃ (j : Nat), j ≤ n ∧ iv = .int .i64 (j : Int) ∧ NatAt wr v (dotN ns m k j) (L + 4 + j) ∧ Below wo.heap.size wo wr) (fun _ iv _ => n - (intOf iv).toNat)
      case atStart => exact ⟨0, by omega, rfl, natAt_e0 _ _, (Below.refl _ _).alloc (Nat.le_refl _) _⟩
      case round =>
        obtain ⟨j, hj, rfl, hv, B3⟩ := hrel
        have BW := BQ.trans (B3.mono BQ.size)
        obtain ⟨lv, hlv, ntv, hvv, hkv⟩ := id hv
        obtain ⟨⟨VA, vc, rfl, _, _, _⟩, _⟩ := id hlv
        by_cases hlj : j < n
        · skip
          obtain ⟨b, o, u, rfl, hbl, hcell, hu⟩ := lst_at (R := fun w u x => NatAny w u x L) (d := 0) (xs := ns) hws HWU.out hlj
          obtain ⟨lk, hlim, hval, hlen⟩ := hu.below BW
          have HVL := Lib.hid hval
          clear hval
          obtain ⟨⟨UA, uc, rfl, _, _, _⟩, _⟩ := id hlim
          have g2 := (BW.cell (p := ⟨b, o + j, none⟩) hbl).trans hcell
          clear hcell hu
          have hjI : (j : Int) < (n : Int) := by omega
          obtain ⟨b1, o1, u1, rfl, hb1, g1, hI⟩ := lst_at hms HMU.out (show j < m.length by rw [HML.out]; exact hlj)
          obtain ⟨RR1, c1, rfl, i1, i2, i3⟩ := hI
          unfold maxLen at i2
          obtain ⟨hl1, hx1⟩ := HROW.out j (by rw [HML.out]; exact hlj)
          obtain ⟨b3, o3, rfl, hb3, hcell3⟩ := i3.num (i := k) (by rw [hl1]; exact HKC.out)
          have g3 := hcell3 k (by rw [hl1]; exact HKC.out)
          clear hcell3 i3
          obtain ⟨x, hx⟩ := Int.eq_ofNat_of_zero_le (show 0 ≤ (m.getD j []).getD k 0 by have := hx1 k HKC.out; omega)
          have hx2 : x < 9223372036854775808 := by have := hx1 k HKC.out; omega
          have HFX : Hid (dotN ns m k (j + 1) = dotN ns m k j + val lk * x) := by
            unfold Hid
            show dotN ns m k j + ns.getD j 0 * ((m.getD j []).getD k 0).toNat = _
            rw [HVL.out, hx]
            rfl
          rw [hx] at g3
          clear hx hx1
          have g1' := (BW.cell (p := ⟨b1, o1 + j, none⟩) hb1).trans g1
          have g3' := (BW.cell (p := ⟨b3, o3 + k, none⟩) hb3).trans g3
          have HRL := Lib.hid hl1
          generalize (m.getD j []).length = rl at *
          have hkR : (k : Int) < (rl : Int) := by have := HRL.out; have := HKC.out; omega
          have hjM : (j : Int) < (m.length : Int) := by have := HML.out; omega
          clear hl1 i1
          have hr3' := hrg.keep B3
          have c30 : wr.cell? ⟨w.heap.size, 0, none⟩ = some (.slice (some ⟨b1, o1, none⟩) m.length mc) := hr3'.cell 0
          have z3 := hr3'.lt
          have zz1 : b < wr.heap.size := Nat.lt_of_lt_of_le hbl BW.size
          have zz2 : b1 < wr.heap.size := Nat.lt_of_lt_of_le hb1 BW.size
          have zz3 : b3 < wr.heap.size := Nat.lt_of_lt_of_le hb3 BW.size
          have hkL : lk.length + 2 ≤ 70368744177664 := by omega
          have hkv2 : lv.length ≤ 70368744177663 := by omega
          have hkk2 : lk.length + 2 ≤ 70368744177663 := by omega
          clear g1 g3 hr3'
          go_wp2_with fail
          go_region_law (first
            | (go_simp; go_at_call 40; (refine (number_any x _ hx2).mono ?_); rintro e w5 ⟨v5, rfl, l5, hl5, nt5, hv5, hk5, hf5, h5⟩; have hb5 : Below wr.heap.size wr w5 := bl_call h5 (by (repeat (first | with_reducible exact Below.refl _ _ | with_reducible refine bl_call h7 ?_ | with_reducible refine bl_call h6 ?_ | with_reducible refine bl_call h5 ?_ | with_reducible refine bl_alloc ?_ _ | with_reducible refine bl_drew ?_))); have g25 := (hb5.cell (p := ⟨b, o + j, none⟩) zz1).trans g2)
            | (go_simp; go_at_call 39; ((with_reducible refine (rmul_wide _ _ lk l5 _ (hlim.below ?_) (hl5.below ?_) (Nat.le_trans (Nat.add_le_add_left hk5 _) hkL)).mono ?_); (repeat (first | with_reducible exact Below.refl _ _ | with_reducible refine bl_call h7 ?_ | with_reducible refine bl_call h6 ?_ | with_reducible refine bl_call h5 ?_ | with_reducible refine bl_alloc ?_ _ | with_reducible refine bl_drew ?_)); (repeat (first | with_reducible exact Below.refl _ _ | with_reducible refine bl_call h7 ?_ | with_reducible refine bl_call h6 ?_ | with_reducible refine bl_call h5 ?_ | with_reducible refine bl_alloc ?_ _ | with_reducible refine bl_drew ?_)); rintro e w6 ⟨v6, rfl, l6, hl6, nt6, hv6, hk6, hf6, h6⟩))
            | (go_simp; go_at_call 63; ((with_reducible refine (radd_wide _ _ lv l6 _ (hlv.below ?_) (hl6.below ?_) hkv2 (Nat.le_trans hk6 (Nat.le_trans (Nat.add_le_add_left hk5 _) hkk2))).mono ?_); (repeat (first | with_reducible exact Below.refl _ _ | with_reducible refine bl_call h7 ?_ | with_reducible refine bl_call h6 ?_ | with_reducible refine bl_call h5 ?_ | with_reducible refine bl_alloc ?_ _ | with_reducible refine bl_drew ?_)); (repeat (first | with_reducible exact Below.refl _ _ | with_reducible refine bl_call h7 ?_ | with_reducible refine bl_call h6 ?_ | with_reducible refine bl_call h5 ?_ | with_reducible refine bl_alloc ?_ _ | with_reducible refine bl_drew ?_)); rintro e w7 ⟨v7, rfl, l7, hl7, nt7, hv7, hk7, hf7, h7⟩; obtain ⟨⟨A7, c7, rfl, _, _, _⟩, _⟩ := id hl7)))
          all_goals
            have hb7 : Below wr.heap.size wr w7 := (by (repeat (first | with_reducible exact Below.refl _ _ | with_reducible refine bl_call h7 ?_ | with_reducible refine bl_call h6 ?_ | with_reducible refine bl_call h5 ?_ | with_reducible refine bl_alloc ?_ _ | with_reducible refine bl_drew ?_)))
            have HV := Lib.hid (show val l7 = dotN ns m k (j + 1) by rw [hv7, hv6, hv5, hvv, HFX.out])
            clear hv5 hv6 hv7
            go_wp2_with fail
            go_roundw
            case rel => exact ⟨j + 1, by omega, by go_num, ⟨l7, hl7, nt7, HV.out, by omega⟩, B3.trans (hb7.mono B3.size)⟩
            case measure => simp [intOf]; omega
        · obtain rfl : j = n := by omega
          have HDN := Lib.hid (dotN_all ns m k j HN.out)
          have HZJ := Lib.hid (predL_get ns m cc (k := k) HKC.out)
          rw [← HDN.out] at HZJ
          have hown2 := own_keep hown B3
          have hco2 := hco.below B3
          have B23 := B2.trans (B3.mono B2.size)
          have hsum : NatAny wr (.slice VA lv.length vc) (dotN ns m k j) (L + 30) := ⟨lv, hlv, hvv, by omega⟩
          have HFR := Lib.hid (rfrac26_any _ _ (dotN ns m k j) (ns.sum * 1000) (L + 30) wr hsum ((HALL.out.below B2).below B3) (by omega) (by omega) HSP.out)
          have hm1 : k + 1 ≤ maxLen := by unfold maxLen; omega
          have hwz := B23.size
          clear hsum hv hvv hlv ntv hown hco B2
          generalize redP ((dotN ns m k j : Nat) : Int) (ns.sum * 1000) = p at *
          generalize redQ ((dotN ns m k j : Nat) : Int) (ns.sum * 1000) = q at *
          go_wp2_with fail
          refine HFR.out.mono ?_
          rintro e w5 ⟨v5, rfl, hv5, h5⟩
          obtain ⟨m5, d5, e5, hm5, hd5, _, _⟩ := id hv5
          subst e5
          obtain ⟨A5, k5, c5, rfl⟩ := hm5.lim1.choose_spec.1.show_
          obtain ⟨D5, l5, b5, rfl⟩ := hd5.lim1.choose_spec.1.show_
          clear hm5 hd5
          have B5 := h5
          have hsz5 : wr.heap.size ≤ wr.heap.size := Nat.le_refl _
          have hown := hown2
          have hco := hco2
          have hown5 := own_keep hown2 B5
          have hs5 := B5.size
          go_wp2_with (at_builtin; refine wpList_append_lies _ rfl (.tmp 58) (.tmp 62) 40 (by rfl) wg.heap.size 54 i0 iz0 3 56 Tryd.underlying40 hi0 hz0 hz1 hz2 hzs (by omega) _ k _ (by rfl) (hown5.alloc _) ⟨w5.heap.size, 0, none⟩ 1 1 [.bool (decide (p < 0)), .slice A5 k5 c5, .slice D5 l5 b5] (by rfl) (by rfl) (World.news_of_block (cs := #[.bool (decide (p < 0)), .slice A5 k5 c5, .slice D5 l5 b5]) (t := 54) (fr := (0, 0)) (heap_alloc_new w5 _)) (by simp [Value.oneCell']) (by decide) hm1 (by omega) (by simp; omega) (w5.heap.size + 1) (by simp) ?_; intro gg cap w7 hown7 hgrow hat hlt7)
          obtain ⟨hra, hfy, hfz⟩ := hv5.ratAt
          have hBl := B5.trans (((Below.refl w5.heap.size w5).alloc (Nat.le_refl _) (.cells #[.bool (decide (p < 0)), .slice A5 k5 c5, .slice D5 l5 b5] 54)).mono B5.size)
          have hoy := off_own3 hown (hfy.mono hsz5)
          have hoz := off_own3 hown (hfz.mono hsz5)
          obtain ⟨ra0, ra1, ra2⟩ := hra
          have ra1' := (ra1.below ((Below.refl w5.heap.size w5).alloc (Nat.le_refl _) (.cells #[.bool (decide (p < 0)), .slice A5 k5 c5, .slice D5 l5 b5] 54))).grown hgrow hoy
          have ra2' := (ra2.below ((Below.refl w5.heap.size w5).alloc (Nat.le_refl _) (.cells #[.bool (decide (p < 0)), .slice A5 k5 c5, .slice D5 l5 b5] 54))).grown hgrow hoz
          have hf1 : Off (some gg) (.slice A5 k5 c5) := by
            rcases hat with hh | hh
            · rw [← hh]; exact hoy
            · subst hh; exact ra1.off (by omega)
          have hf2 : Off (some gg) (.slice D5 l5 b5) := by
            rcases hat with hh | hh
            · rw [← hh]; exact hoz
            · subst hh; exact ra2.off (by omega)
          have hcol7 := ((hco.below hBl).grown hgrow (row' := some gg) (by rcases hat with hh | hh; exact .inl hh.symm; exact .inr ⟨gg, rfl, by rw [hh]; simp⟩)).snoc (u := (.bool (decide (p < 0)), .slice A5 k5 c5, .slice D5 l5 b5)) (by rw [HZJ.out]; exact ⟨rfl, ra1', ra2'⟩) hf1 hf2
          have hB7 : Below wg.heap.size wg w7 := (B23.trans (hBl.mono B23.size)).grown hgrow (Nat.le_trans B23.size hBl.size) (fun q hq => (hown.lt q hq).1)
          go_wp2_with fail
          go_roundw
          case rel => exact ⟨k + 1, _, vs ++ [((Value.bool (decide (p < 0)), Value.slice A5 k5 c5, Value.slice D5 l5 b5) : T3)], by omega, by go_num, rfl, by rw [flat_append]; exact hown7, hcol7, hB7⟩
          case measure => simp [intOf]; omega
    · obtain rfl : k = cc := by omega
      have hls := hco.ls (by rw [predL_len]) (by omega) hown
      obtain ⟨VA, vc, rfl⟩ := own_slice3 hown
      go_wp2_with fail
      go_ret2
      exact ⟨_, rfl, hls, BQ⟩
end Go.Proofs.YtoihjclkocffhaaDoor
