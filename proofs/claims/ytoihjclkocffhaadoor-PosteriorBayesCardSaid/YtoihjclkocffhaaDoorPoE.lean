/- posterior.Same. -/
import Derived.Test.YtoihjclkocffhaaDoorPoC
namespace Go.Proofs.YtoihjclkocffhaaDoor
open Go.RowKit
set_option linter.unusedVariables false

/-- The first index at which a weight is not 0. -/
def firstN (ns : List Nat) : Nat := ns.findIdx (fun x => x != 0)
theorem firstN_spec {ns : List Nat} (h : all0 ns = false) : firstN ns < ns.length ∧ ns.getD (firstN ns) 0 ≠ 0 ∧ ∀ i, i < firstN ns → ns.getD i 0 = 0 := by
  have hlt : firstN ns < ns.length := by
    refine List.findIdx_lt_length_of_exists ?_
    rcases Classical.em (∃ x ∈ ns, (x != 0) = true) with hh | hh
    · exact hh
    · exfalso
      have : all0 ns = true := by
        unfold all0
        rw [List.all_eq_true]
        intro x hx
        rcases Nat.eq_zero_or_pos x with h0 | h0
        · simp [h0]
        · exact absurd ⟨x, hx, by simp; omega⟩ hh
      rw [h] at this; cases this
  refine ⟨hlt, ?_, fun i hi => ?_⟩
  · have := List.findIdx_getElem (p := fun x : Nat => x != 0) (xs := ns) (w := hlt)
    rw [List.getD_eq_getElem?_getD, List.getElem?_eq_getElem hlt]
    unfold firstN
    simpa using this
  · have := List.not_of_lt_findIdx (p := fun x : Nat => x != 0) (xs := ns) hi
    have hi2 : i < ns.length := by unfold firstN at hi hlt; omega
    rw [List.getD_eq_getElem?_getD, List.getElem?_eq_getElem hi2]
    simpa using this
/-- Whether all products across agree with those at index k. -/
def crossAt (xs bs : List Nat) (k : Nat) : Bool := (List.range xs.length).all fun i => xs.getD i 0 * bs.getD k 0 == xs.getD k 0 * bs.getD i 0
/-- Whether two lists of weights are proportional, xs the program decides it. -/
def sameL (xs bs : List Nat) : Bool :=
  if xs.length ≠ bs.length then false else if (all0 xs || all0 bs) = true then all0 xs && all0 bs else if bs.getD (firstN xs) 0 = 0 then false else crossAt xs bs (firstN xs)
set_option maxRecDepth 100000 in
set_option maxHeartbeats 8000000 in
theorem psame_any (wv vv : Value) (xs bs : List Nat) (L M : Nat) (w : World) (hw : Wts w wv xs L) (hv : Wts w vv bs M) (hL : L ≤ 100000000) (hM : M ≤ 100000000) :
    Calls Tryd.prog 19 #[wv, vv] w fun e w' => e = .returned (.bool (sameL xs bs)) ∧ Below w.heap.size w w' := by
  have HZA := Lib.hid (fun (d : Unit) => pzero_any wv xs L w hw (by omega))
  have HZB := Lib.hid (fun (d : Unit) => pzero_any vv bs M w hv (by omega))
  obtain ⟨WA, wc, us, rfl, hwc, hwm, hws, hwu⟩ := hw
  obtain ⟨VA, vc, vs, rfl, hvc, hvm, hvs, hvu⟩ := hv
  have HWU := Lib.hid hwu
  have HVU := Lib.hid hvu
  unfold maxLen at hwm hvm
  clear hwu hvu
  by_cases hl : xs.length = bs.length
  · have t1 : ((xs.length : Int) != (bs.length : Int)) = false := by rw [hl]; simp
    rcases hza : all0 xs with _ | _
    · rcases hzb : all0 bs with _ | _
      · rw [hza] at HZA
        rw [hzb] at HZB
        obtain ⟨hk1, hk2, hk3⟩ := firstN_spec hza
        have hsame : sameL xs bs = if bs.getD (firstN xs) 0 = 0 then false else crossAt xs bs (firstN xs) := by
          unfold sameL
          rw [if_neg (by simpa using hl), if_neg (by rw [hza, hzb]; simp)]
        rw [hsame]
        obtain ⟨R, hR⟩ : ∃ R, (if bs.getD (firstN xs) 0 = 0 then false else crossAt xs bs (firstN xs)) = R := ⟨_, rfl⟩
        rw [hR]
        obtain ⟨K, hK⟩ : ∃ K, firstN xs = K := ⟨_, rfl⟩
        rw [hK] at hk1 hk2 hk3 hR
        have HR := Lib.hid hR
        clear hR
        have HK2 := Lib.hid hk2
        have HK3 := Lib.hid hk3
        obtain ⟨n, hn⟩ : ∃ n, xs.length = n := ⟨_, rfl⟩
        have HN := Lib.hid hn
        have HNB : Hid (bs.length = n) := Lib.hid (hl.symm.trans hn)
        rw [hn] at hws hwc hk1 t1 HZA ⊢
        rw [← hl, hn] at hvs hvc t1 HZB ⊢
        have hKI : (K : Int) < (n : Int) := by omega
        clear hsame hza hzb hl hK hk2 hk3 hn t1
        go_enter Tryd.func19, Tryd.ntmps19
        go_wp2_with fail
        refine (HZA.out ()).mono ?_
        rintro e w1 ⟨rfl, rfl⟩
        go_wp2_with fail
        refine (HZB.out ()).mono ?_
        rintro e w1 ⟨rfl, rfl⟩
        go_wp2_with fail
        go_loopw [5] (fun iv wr => ∃ (j : Nat), j ≤ K ∧ iv = .int .i64 (j : Int) ∧ w = wr) (fun iv _ => K - (intOf iv).toNat)
        case atStart => exact ⟨0, by omega, rfl, rfl⟩
        case round =>
          obtain ⟨j, hj, rfl, rfl⟩ := hrel
          have hjI : (j : Int) < (n : Int) := by omega
          obtain ⟨b, o, u, rfl, hbl, g2, hu⟩ := lst_at (R := fun w u x => NatAny w u x L) (d := 0) (xs := xs) hws HWU.out (show j < n by omega)
          obtain ⟨lk, hlim, hval, hlen⟩ := hu
          have HVL := Lib.hid hval
          clear hval
          obtain ⟨⟨UA, uc, rfl, _, _, _⟩, _⟩ := id hlim
          by_cases hlt : j < K
          · have HV0 : Hid (val lk = 0) := by unfold Hid; rw [HVL.out]; exact HK3.out j hlt
            go_wp2_with fail
            refine (bits_any _ lk _ hlim (by omega)).mono ?_
            rintro e w6 ⟨b6, rfl, rfl, hb1, hb2⟩
            obtain rfl := hb1 HV0.out
            clear hb1 hb2
            go_wp2_with fail
            go_roundw
            case rel => exact ⟨j + 1, by omega, by go_num, by first | rfl | trivial⟩
            case measure => simp [intOf]; omega
          · obtain rfl : j = K := by omega
            have HV0 : Hid (val lk ≠ 0) := by unfold Hid; rw [HVL.out]; exact HK2.out
            go_wp2_with fail
            refine (bits_any _ lk _ hlim (by omega)).mono ?_
            rintro e w6 ⟨b6, rfl, rfl, hb1, hb2⟩
            have hb3 := (hb2 (Nat.pos_of_ne_zero HV0.out)).1
            have t2 : ((b6 : Int) == 0) = false := by rw [beq_eq_false_iff_ne]; omega
            have t3 : b6 ≠ 0 := by omega
            clear hb1 hb2 hb3
            obtain ⟨b', o', x', rfl, hbl', g3, hx'⟩ := lst_at (R := fun w u x => NatAny w u x M) (d := 0) (xs := bs) hvs HVU.out (show j < n by omega)
            obtain ⟨lx, hlimx, hvalx, hlenx⟩ := hx'
            have HVX := Lib.hid hvalx
            clear hvalx
            obtain ⟨⟨XA, xc, rfl, _, _, _⟩, _⟩ := id hlimx
            go_wp2_with fail
            refine (bits_any _ lx _ hlimx (by omega)).mono ?_
            rintro e w6 ⟨b7, rfl, rfl, hb1, hb2⟩
            by_cases hx0 : val lx = 0
            · obtain rfl := hb1 hx0
              have HRES : Hid (R = false) := HR.out.symm.trans (if_pos (by rw [← HVX.out]; exact hx0))
              clear hx0 hb1 hb2
              go_wp2_with fail
              go_ret
              exact ⟨by rw [HRES.out]; rfl, Below.refl _ _⟩
            · have hb3 := (hb2 (by omega)).1
              have t4 : ((b7 : Int) == 0) = false := by rw [beq_eq_false_iff_ne]; omega
              have t5 : b7 ≠ 0 := by omega
              have HRES : Hid (R = crossAt xs bs j) := HR.out.symm.trans (if_neg (by rw [← HVX.out]; exact hx0))
              clear hb1 hb2 hb3 hx0
              have HAK := Lib.hid hlim
              have HBK := Lib.hid hlimx
              go_wp2_with fail
              clear t2 t3 t4 t5
              go_loopw [40] (fun iv wr => ∃ (i : Nat), i ≤ n ∧ iv = .int .i64 (i : Int) ∧ Hid (∀ q, q < i → xs.getD q 0 * bs.getD j 0 = xs.getD j 0 * bs.getD q 0) ∧ Below w.heap.size w wr) (fun iv _ => n - (intOf iv).toNat)
              case atStart => exact ⟨0, by omega, rfl, fun q hq => by omega, Below.refl _ _⟩
              case round =>
                obtain ⟨i, hi, rfl, hcr, BQ⟩ := hrel
                by_cases hlt2 : i < n
                · obtain ⟨ba, oa, ua, ea, hba, ga, hua⟩ := lst_at (R := fun w u x => NatAny w u x L) (d := 0) (xs := xs) hws HWU.out hlt2
                  injection ea with ea; injection ea with ea1 ea2 _
                  subst ea1 ea2
                  obtain ⟨la, hlima, hvala, hlena⟩ := hua
                  have HVA := Lib.hid hvala
                  obtain ⟨bb, ob, ub, eb, hbb, gb, hub⟩ := lst_at (R := fun w u x => NatAny w u x M) (d := 0) (xs := bs) hvs HVU.out hlt2
                  injection eb with eb; injection eb with eb1 eb2 _
                  subst eb1 eb2
                  obtain ⟨lb, hlimb, hvalb, hlenb⟩ := hub
                  have HVB := Lib.hid hvalb
                  clear hvala hvalb
                  obtain ⟨⟨AA, ac, rfl, _, _, _⟩, _⟩ := id hlima
                  obtain ⟨⟨AB, abc, rfl, _, _, _⟩, _⟩ := id hlimb
                  have g2' := (BQ.cell (p := ⟨b, o + j, none⟩) hbl).trans g2
                  have g3' := (BQ.cell (p := ⟨b', o' + j, none⟩) hbl').trans g3
                  have ga' := (BQ.cell (p := ⟨b, o + i, none⟩) hbl).trans ga
                  have gb' := (BQ.cell (p := ⟨b', o' + i, none⟩) hbl').trans gb
                  have zb1 : b < wr.heap.size := Nat.lt_of_lt_of_le hbl BQ.size
                  have zb2 : b' < wr.heap.size := Nat.lt_of_lt_of_le hbl' BQ.size
                  have ma := hlima.below BQ
                  have mb := hlimb.below BQ
                  have mk := hlim.below BQ
                  have mx := hlimx.below BQ
                  have hiI : (i : Int) < (n : Int) := by omega
                  clear ga gb
                  go_wp2_with fail
                  go_region_held3 (fun w' => w'.cell? ⟨b, o + j, none⟩ = some (.slice UA lk.length uc) ∧ w'.cell? ⟨b', o' + j, none⟩ = some (.slice XA lx.length xc) ∧ w'.cell? ⟨b, o + i, none⟩ = some (.slice AA la.length ac) ∧ w'.cell? ⟨b', o' + i, none⟩ = some (.slice AB lb.length abc))
                    ((refine keep4c zb1 zb2 zb1 zb2 g2' g3' ga' gb' ?_; (repeat (first | with_reducible exact Below.refl _ _ | with_reducible refine bl_call h6 ?_ | with_reducible refine bl_call h5 ?_ | with_reducible refine below_drewN ?_ _ | with_reducible refine bl_alloc ?_ _ | with_reducible refine bl_drew ?_)); done))
                    (first
                    | (go_at_call 33; ((with_reducible refine (mul_any _ _ la lx _ (ma.below ?_) (mx.below ?_) (by omega) (by omega)).mono ?_); (repeat (first | with_reducible exact Below.refl _ _ | with_reducible refine bl_call h6 ?_ | with_reducible refine bl_call h5 ?_ | with_reducible refine below_drewN ?_ _ | with_reducible refine bl_alloc ?_ _ | with_reducible refine bl_drew ?_)); (repeat (first | with_reducible exact Below.refl _ _ | with_reducible refine bl_call h6 ?_ | with_reducible refine bl_call h5 ?_ | with_reducible refine below_drewN ?_ _ | with_reducible refine bl_alloc ?_ _ | with_reducible refine bl_drew ?_)); rintro e w5 ⟨v5, rfl, l5, hl5, nt5, hv5, hk5, hf5, h5⟩; obtain ⟨⟨A5, c5, rfl, _, _, _⟩, _⟩ := id hl5; have HV5 := Lib.hid hv5; clear hv5))
                    | (go_at_call 33; ((with_reducible refine (mul_any _ _ lk lb _ (mk.below ?_) (mb.below ?_) (by omega) (by omega)).mono ?_); (repeat (first | with_reducible exact Below.refl _ _ | with_reducible refine bl_call h6 ?_ | with_reducible refine bl_call h5 ?_ | with_reducible refine below_drewN ?_ _ | with_reducible refine bl_alloc ?_ _ | with_reducible refine bl_drew ?_)); (repeat (first | with_reducible exact Below.refl _ _ | with_reducible refine bl_call h6 ?_ | with_reducible refine bl_call h5 ?_ | with_reducible refine below_drewN ?_ _ | with_reducible refine bl_alloc ?_ _ | with_reducible refine bl_drew ?_)); rintro e w6 ⟨v6, rfl, l6, hl6, nt6, hv6, hk6, hf6, h6⟩; obtain ⟨⟨A6, c6, rfl, _, _, _⟩, _⟩ := id hl6; have HV6 := Lib.hid hv6; clear hv6))
                    | (go_at_call 52; ((with_reducible refine (cmp_any _ _ l5 l6 _ (hl5.below ?_) (hl6.below ?_)).mono ?_); (repeat (first | with_reducible exact Below.refl _ _ | with_reducible refine bl_call h6 ?_ | with_reducible refine bl_call h5 ?_ | with_reducible refine below_drewN ?_ _ | with_reducible refine bl_alloc ?_ _ | with_reducible refine bl_drew ?_)); (repeat (first | with_reducible exact Below.refl _ _ | with_reducible refine bl_call h6 ?_ | with_reducible refine bl_call h5 ?_ | with_reducible refine below_drewN ?_ _ | with_reducible refine bl_alloc ?_ _ | with_reducible refine bl_drew ?_)); rintro e w7 ⟨rfl, d7, rfl⟩)))
                  all_goals
                    rw [HV5.out, HV6.out, HVA.out, HVX.out, HVL.out, HVB.out]
                    by_cases hq : xs.getD i 0 * bs.getD j 0 = xs.getD j 0 * bs.getD i 0
                    · rw [cmpN_eq hq]
                      have HQ := Lib.hid hq
                      clear hq
                      go_wp2_with fail
                      go_roundw
                      case rel => exact ⟨i + 1, by omega, by go_num, fun q hq => by
                        rcases Nat.lt_or_ge q i with h | h
                        · exact hcr.out q h
                        · obtain rfl : q = i := by omega
                          exact HQ.out, by refine below_drewN (BQ.trans (Below.mono (w := wr) ?_ BQ.size)) _; (repeat (first | with_reducible exact Below.refl _ _ | with_reducible refine bl_call h6 ?_ | with_reducible refine bl_call h5 ?_ | with_reducible refine below_drewN ?_ _ | with_reducible refine bl_alloc ?_ _ | with_reducible refine bl_drew ?_))⟩
                      case measure => simp [intOf]; omega
                    · have hne : (cmpN (xs.getD i 0 * bs.getD j 0) (xs.getD j 0 * bs.getD i 0) != 0) = true := by
                        rw [bne_iff_ne]
                        unfold cmpN
                        split
                        · decide
                        · split
                          · decide
                          · omega
                      have hc : crossAt xs bs j = false := by
                        rcases hb : crossAt xs bs j with _ | _
                        · rfl
                        · unfold crossAt at hb
                          rw [List.all_eq_true] at hb
                          have := hb i (List.mem_range.2 (by rw [HN.out]; exact hlt2))
                          rw [beq_iff_eq] at this
                          exact absurd this hq
                      generalize cmpN (xs.getD i 0 * bs.getD j 0) (xs.getD j 0 * bs.getD i 0) = cc at *
                      clear hq
                      go_wp2_with fail
                      go_ret
                      exact ⟨by rw [HRES.out, hc]; rfl, by refine below_drewN (BQ.trans (Below.mono (w := wr) ?_ BQ.size)) _; (repeat (first | with_reducible exact Below.refl _ _ | with_reducible refine bl_call h6 ?_ | with_reducible refine bl_call h5 ?_ | with_reducible refine below_drewN ?_ _ | with_reducible refine bl_alloc ?_ _ | with_reducible refine bl_drew ?_))⟩
                · obtain rfl : i = n := by omega
                  have hc : crossAt xs bs j = true := by
                    unfold crossAt
                    rw [List.all_eq_true]
                    intro q hq
                    rw [beq_iff_eq]
                    exact hcr.out q (by rw [← HN.out]; exact List.mem_range.1 hq)
                  go_wp2_with fail
                  go_ret
                  exact ⟨by rw [HRES.out, hc]; rfl, BQ⟩
      · rw [hza] at HZA
        rw [hzb] at HZB
        have hsame : sameL xs bs = false := by
          unfold sameL
          rw [if_neg (by simpa using hl), hza, hzb]
          rfl
        rw [hsame]
        clear hl hsame
        go_enter Tryd.func19, Tryd.ntmps19
        go_wp2_with fail
        refine (HZA.out ()).mono ?_
        rintro e w1 ⟨rfl, rfl⟩
        go_wp2_with fail
        refine (HZB.out ()).mono ?_
        rintro e w1 ⟨rfl, rfl⟩
        go_wp2_with fail
        refine (HZA.out ()).mono ?_
        rintro e w1 ⟨rfl, rfl⟩
        go_wp2_with fail
        go_ret
        exact ⟨rfl, Below.refl _ _⟩
    · rw [hza] at HZA
      have hsame : sameL xs bs = all0 bs := by
        unfold sameL
        rw [if_neg (by simpa using hl), hza]
        simp
      rw [hsame]
      clear hl hsame
      go_enter Tryd.func19, Tryd.ntmps19
      go_wp2_with fail
      refine (HZA.out ()).mono ?_
      rintro e w1 ⟨rfl, rfl⟩
      go_wp2_with fail
      refine (HZA.out ()).mono ?_
      rintro e w1 ⟨rfl, rfl⟩
      go_wp2_with fail
      refine (HZB.out ()).mono ?_
      rintro e w1 ⟨rfl, rfl⟩
      go_wp2_with fail
      go_ret
      exact ⟨rfl, Below.refl _ _⟩
  · have t1 : ((xs.length : Int) != (bs.length : Int)) = true := by rw [bne_iff_ne]; omega
    have hsame : sameL xs bs = false := by unfold sameL; rw [if_pos hl]
    rw [hsame]
    clear hl hsame
    go_enter Tryd.func19, Tryd.ntmps19
    go_wp2_with fail
    go_ret
    exact ⟨rfl, Below.refl _ _⟩

end Go.Proofs.YtoihjclkocffhaaDoor
