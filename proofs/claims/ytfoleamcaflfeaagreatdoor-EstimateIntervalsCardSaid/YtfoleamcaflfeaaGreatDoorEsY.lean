/- The walk of Credible (package examboardref27). -/
import Derived.Test.YtfoleamcaflfeaaGreatDoorEsX
import Derived.Test.YtfoleamcaflfeaaGreatDoorEsKs
namespace Go.Proofs.YtfoleamcaflfeaaGreatDoor
open Go.RowKit
set_option linter.unusedVariables false
set_option maxRecDepth 100000

theorem rsumI_any (wv : Value) (ns : List Nat) (L lo hi : Nat) (I J : Int) (w : World) (hw : Wts w wv ns L) (hL : L ≤ 35184372088800) (h21 : ns.length ≤ 21) (h1 : lo ≤ hi) (h2 : hi ≤ ns.length) (hI : I = (lo : Int)) (hJ : J = (hi : Int) - 1) :
    Calls Tryz.prog 19 #[wv, .int .i64 I, .int .i64 J] w fun e w' => ∃ v, e = .returned v ∧ NatAt w' v (sumR ns lo hi) (L + ns.length + 2) ∧ Below w.heap.size w w' := by
  subst hI hJ
  exact rsum_any wv ns L lo hi w hw hL h21 h1 h2
set_option maxHeartbeats 32000000 in
theorem rcred_any (wv lv : Value) (ns : List Nat) (L M : Nat) (p : Int) (q : Nat) (w : World) (hw : Wts w wv ns L) (hlv : RatA w lv p q M) (hM : 2 ≤ M) (hLM : L ≤ 35184372088000 ∧ M ≤ 35184372088000) :
    Calls Tryz.prog 5 #[wv, lv] w fun e w' => e = .returned (.tuple #[.int .i64 ((credV ns p q).1 : Int), .int .i64 ((credV ns p q).2 : Int), .int .i64 (credE ns p q)]) ∧ Below w.heap.size w w' := by
  have hLs : L ≤ 35184372088800 := by omega
  have HC := Lib.hid (fun (W : World) (h : Below w.heap.size w W) => rchecked_any wv ns L W (hw.below h) hLs)
  have HW := Lib.hid hw
  have HQ : 0 < q := hlv.pos
  obtain ⟨neg, LA, ln, lc, LB, lk, lb, rfl⟩ := hlv.show_
  have HL := Lib.hid hlv
  obtain ⟨WA, wcp, us, rfl, hwc, hwm, hws, hwu⟩ := hw
  have HWU := Lib.hid hwu
  unfold maxLen at hwm
  clear hwu hlv
  obtain ⟨W0, hW0⟩ : ∃ W0 : World, W0 = w.alloc (.cells #[.bool neg, .slice LA ln lc, .slice LB lk lb] 28) := ⟨_, rfl⟩
  have r0 : Row W0 w.heap.size 28 [.bool neg, .slice LA ln lc, .slice LB lk lb] := by
    rw [hW0]
    exact Row.new w 28 [.bool neg, .slice LA ln lc, .slice LB lk lb]
  have B0 : Below w.heap.size w W0 := by rw [hW0]; exact (Below.refl _ _).alloc (Nat.le_refl _) _
  by_cases hE : chkS ns = 0
  · obtain ⟨h21, hpos⟩ := chkS_zero hE
    have hK2 : 2 ≤ L + ns.length + 2 := by omega
    have hKM : M + (L + ns.length + 2) + 2 ≤ 70368744177600 := by omega
    by_cases h1 : p < 0
    · skip
      have HV1 : credE ns p q = 3 := credE_bad hE (.inl h1)
      have HV2 : credV ns p q = (0, 0) := by unfold credV; rw [HV1]; rfl
      rw [HV1, HV2]
      rw [hE] at HC
      have hsg : sgnZ p = -1 := if_pos h1
      clear HV1 HV2
      have c00 : W0.cell? ⟨w.heap.size, 0, none⟩ = some (.bool neg) := r0.cell 0
      have c01 : W0.cell? ⟨w.heap.size, 1, none⟩ = some (.slice LA ln lc) := r0.cell 1
      have c02 : W0.cell? ⟨w.heap.size, 2, none⟩ = some (.slice LB lk lb) := r0.cell 2
      have z0 := r0.lt
      go_enter Tryz.func5, Tryz.ntmps5
      go_wp2_with fail
      rw [← hW0]
      clear hW0
      go_wp2_with fail
      clear c00 c01 c02 z0
      refine (HC.out _ B0).mono ?_
      rintro e w1 ⟨rfl, hb⟩
      clear HC
      replace r0 := r0.keep hb
      have BB : Below w.heap.size w w1 := B0.trans (hb.mono B0.size)
      clear hb B0
      have c00 : w1.cell? ⟨w.heap.size, 0, none⟩ = some (.bool neg) := r0.cell 0
      have c01 : w1.cell? ⟨w.heap.size, 1, none⟩ = some (.slice LA ln lc) := r0.cell 1
      have c02 : w1.cell? ⟨w.heap.size, 2, none⟩ = some (.slice LB lk lb) := r0.cell 2
      have z0 := r0.lt
      have HL1 : Hid (RatA w1 (.agg #[.bool neg, .slice LA ln lc, .slice LB lk lb]) p q M) := HL.out.below BB
      go_wp2_with fail
      go_cut [24] (fun s0 wx => s0 = .bool true ∧ Below w1.heap.size w1 wx)
      case first =>
        go_region_law (first
            | (go_simp; (go_at_call 16; ((with_reducible refine (r3sign_any _ p q M _ (HL1.out.below ?_) hM (by omega)).mono ?_); (repeat (first | with_reducible exact Below.refl _ _ | with_reducible refine bl_call hq1 ?_ | with_reducible refine bl_call ho1 ?_ | with_reducible refine bl_call hs0 ?_ | with_reducible refine below_drewN ?_ _ | with_reducible refine bl_alloc ?_ _ | with_reducible refine bl_drew ?_)); rintro e ws0 ⟨rfl, hs0⟩; (try rw [hsg])))))
        all_goals go_wp2_with fail
        all_goals go_meet
        all_goals go_light
        all_goals refine ⟨?_, ?_⟩
        all_goals first | rfl | (rw [t2]; done) | (simp only [t2]; done) | (repeat (first | with_reducible exact Below.refl _ _ | with_reducible refine bl_call hs0 ?_ | with_reducible refine below_drewN ?_ _ | with_reducible refine bl_alloc ?_ _ | with_reducible refine bl_drew ?_))
      case rest =>
        obtain ⟨rfl, hbc⟩ := hcut
        obtain ⟨w2, hw2⟩ : ∃ x, x = wc := ⟨_, rfl⟩
        rw [← hw2] at hbc ⊢
        clear hw2 c00 c01 c02 z0
        go_wp2_with fail
        refine bodyPost_ret (v := .tuple #[.int .i64 0, .int .i64 0, .int .i64 3]) (by simp [results, Tryz.results5, go_sem]) rfl ⟨rfl, BB.trans (hbc.mono BB.size)⟩
    · have t1 : decide (sgnZ p < 0) = false := by rw [sgnZ_neg]; exact decide_eq_false h1
      by_cases h2 : (q : Int) < p
      · skip
        have HV1 : credE ns p q = 3 := credE_bad hE (.inr h2)
        have HV2 : credV ns p q = (0, 0) := by unfold credV; rw [HV1]; rfl
        rw [HV1, HV2]
        rw [hE] at HC
        have t2 : decide (0 < cmpZ p (q : Int)) = true := by rw [cmpZ_pos]; exact decide_eq_true (by omega)
        clear HV1 HV2
        have c00 : W0.cell? ⟨w.heap.size, 0, none⟩ = some (.bool neg) := r0.cell 0
        have c01 : W0.cell? ⟨w.heap.size, 1, none⟩ = some (.slice LA ln lc) := r0.cell 1
        have c02 : W0.cell? ⟨w.heap.size, 2, none⟩ = some (.slice LB lk lb) := r0.cell 2
        have z0 := r0.lt
        go_enter Tryz.func5, Tryz.ntmps5
        go_wp2_with fail
        rw [← hW0]
        clear hW0
        go_wp2_with fail
        clear c00 c01 c02 z0
        refine (HC.out _ B0).mono ?_
        rintro e w1 ⟨rfl, hb⟩
        clear HC
        replace r0 := r0.keep hb
        have BB : Below w.heap.size w w1 := B0.trans (hb.mono B0.size)
        clear hb B0
        have c00 : w1.cell? ⟨w.heap.size, 0, none⟩ = some (.bool neg) := r0.cell 0
        have c01 : w1.cell? ⟨w.heap.size, 1, none⟩ = some (.slice LA ln lc) := r0.cell 1
        have c02 : w1.cell? ⟨w.heap.size, 2, none⟩ = some (.slice LB lk lb) := r0.cell 2
        have z0 := r0.lt
        have HL1 : Hid (RatA w1 (.agg #[.bool neg, .slice LA ln lc, .slice LB lk lb]) p q M) := HL.out.below BB
        go_wp2_with fail
        go_cut [24] (fun s0 wx => s0 = .bool true ∧ Below w1.heap.size w1 wx)
        case first =>
          go_region_held3 (fun w' => w'.cell? ⟨w.heap.size, 0, none⟩ = some (.bool neg) ∧ w'.cell? ⟨w.heap.size, 1, none⟩ = some (.slice LA ln lc) ∧ w'.cell? ⟨w.heap.size, 2, none⟩ = some (.slice LB lk lb))
            ((refine keep3X z0 c00 c01 c02 ?_; (repeat (first | with_reducible exact Below.refl _ _ | with_reducible refine bl_call hq1 ?_ | with_reducible refine bl_call ho1 ?_ | with_reducible refine bl_call hs0 ?_ | with_reducible refine below_drewN ?_ _ | with_reducible refine bl_alloc ?_ _ | with_reducible refine bl_drew ?_)); done))
            (first
              | (go_at_call 16; ((with_reducible refine (r3sign_any _ p q M _ (HL1.out.below ?_) hM (by omega)).mono ?_); (repeat (first | with_reducible exact Below.refl _ _ | with_reducible refine bl_call hq1 ?_ | with_reducible refine bl_call ho1 ?_ | with_reducible refine bl_call hs0 ?_ | with_reducible refine below_drewN ?_ _ | with_reducible refine bl_alloc ?_ _ | with_reducible refine bl_drew ?_)); rintro e ws0 ⟨rfl, hs0⟩; (try rw [hsg])))
              | (go_at_call 18; ((with_reducible refine (rfrac_any 1 1 _ (by decide) (by decide) (by decide) (by decide)).mono ?_); rintro e wo1 ⟨vo1, rfl, hvo1, ho1⟩; rw [show redP 1 (1 : Int).toNat = 1 by decide +kernel, show redQ 1 (1 : Int).toNat = 1 by decide +kernel] at hvo1))
              | (go_at_call 17; ((with_reducible refine (r3cmp_any _ _ p 1 q 1 M _ (HL1.out.below ?_) (((hvo1.ratA (by decide)).mono hM).below ?_) hM (by omega)).mono ?_); (repeat (first | with_reducible exact Below.refl _ _ | with_reducible refine bl_call hq1 ?_ | with_reducible refine bl_call ho1 ?_ | with_reducible refine bl_call hs0 ?_ | with_reducible refine below_drewN ?_ _ | with_reducible refine bl_alloc ?_ _ | with_reducible refine bl_drew ?_)); (repeat (first | with_reducible exact Below.refl _ _ | with_reducible refine bl_call hq1 ?_ | with_reducible refine bl_call ho1 ?_ | with_reducible refine bl_call hs0 ?_ | with_reducible refine below_drewN ?_ _ | with_reducible refine bl_alloc ?_ _ | with_reducible refine bl_drew ?_)); rintro e wq1 ⟨rfl, hq1⟩; rw [show p * ((1 : Nat) : Int) = p by simp, show (1 : Int) * (q : Int) = (q : Int) by simp])))
          all_goals go_wp2_with fail
          all_goals go_meet
          all_goals go_light
          all_goals refine ⟨?_, ?_⟩
          all_goals first | rfl | (rw [t2]; done) | (simp only [t2]; done) | (repeat (first | with_reducible exact Below.refl _ _ | with_reducible refine bl_call hq1 ?_ | with_reducible refine bl_call ho1 ?_ | with_reducible refine bl_call hs0 ?_ | with_reducible refine below_drewN ?_ _ | with_reducible refine bl_alloc ?_ _ | with_reducible refine bl_drew ?_))
        case rest =>
          obtain ⟨rfl, hbc⟩ := hcut
          obtain ⟨w2, hw2⟩ : ∃ x, x = wc := ⟨_, rfl⟩
          rw [← hw2] at hbc ⊢
          clear hw2 c00 c01 c02 z0
          go_wp2_with fail
          refine bodyPost_ret (v := .tuple #[.int .i64 0, .int .i64 0, .int .i64 3]) (by simp [results, Tryz.results5, go_sem]) rfl ⟨rfl, BB.trans (hbc.mono BB.size)⟩
      · skip
        have HV1 : credE ns p q = 0 := credE_ok hE (by omega) (by omega)
        have HV2 : Hid (credV ns p q = credG ns p q (ns.length - 1) 0 (ns.length - 1)) := by unfold Hid credV; rw [HV1]; rfl
        rw [HV1]
        rw [hE] at HC
        have t2 : decide (0 < cmpZ p (q : Int)) = false := by rw [cmpZ_pos]; exact decide_eq_false (by omega)
        have hn0 : 0 < ns.length := by
          rcases ns with _ | ⟨x, ns⟩
          · simp at hpos
          · simp
        clear HV1 hE
        obtain ⟨n, hn⟩ : ∃ n, ns.length = n := ⟨_, rfl⟩
        have HN := Lib.hid hn
        rw [hn] at hws hwc h21 HC HV2 hn0 HW ⊢
        clear hn
        clear h1 h2
        have c00 : W0.cell? ⟨w.heap.size, 0, none⟩ = some (.bool neg) := r0.cell 0
        have c01 : W0.cell? ⟨w.heap.size, 1, none⟩ = some (.slice LA ln lc) := r0.cell 1
        have c02 : W0.cell? ⟨w.heap.size, 2, none⟩ = some (.slice LB lk lb) := r0.cell 2
        have z0 := r0.lt
        go_enter Tryz.func5, Tryz.ntmps5
        go_wp2_with fail
        rw [← hW0]
        clear hW0
        go_wp2_with fail
        clear c00 c01 c02 z0
        refine (HC.out _ B0).mono ?_
        rintro e w1 ⟨rfl, hb⟩
        clear HC
        replace r0 := r0.keep hb
        have BB : Below w.heap.size w w1 := B0.trans (hb.mono B0.size)
        clear hb B0
        have c00 : w1.cell? ⟨w.heap.size, 0, none⟩ = some (.bool neg) := r0.cell 0
        have c01 : w1.cell? ⟨w.heap.size, 1, none⟩ = some (.slice LA ln lc) := r0.cell 1
        have c02 : w1.cell? ⟨w.heap.size, 2, none⟩ = some (.slice LB lk lb) := r0.cell 2
        have z0 := r0.lt
        have HL1 : Hid (RatA w1 (.agg #[.bool neg, .slice LA ln lc, .slice LB lk lb]) p q M) := HL.out.below BB
        go_wp2_with fail
        go_cut [24] (fun s0 wx => s0 = .bool false ∧ Below w1.heap.size w1 wx)
        case first =>
          go_region_held3 (fun w' => w'.cell? ⟨w.heap.size, 0, none⟩ = some (.bool neg) ∧ w'.cell? ⟨w.heap.size, 1, none⟩ = some (.slice LA ln lc) ∧ w'.cell? ⟨w.heap.size, 2, none⟩ = some (.slice LB lk lb))
            ((refine keep3X z0 c00 c01 c02 ?_; (repeat (first | with_reducible exact Below.refl _ _ | with_reducible refine bl_call hq1 ?_ | with_reducible refine bl_call ho1 ?_ | with_reducible refine bl_call hs0 ?_ | with_reducible refine below_drewN ?_ _ | with_reducible refine bl_alloc ?_ _ | with_reducible refine bl_drew ?_)); done))
            (first
              | (go_at_call 16; ((with_reducible refine (r3sign_any _ p q M _ (HL1.out.below ?_) hM (by omega)).mono ?_); (repeat (first | with_reducible exact Below.refl _ _ | with_reducible refine bl_call hq1 ?_ | with_reducible refine bl_call ho1 ?_ | with_reducible refine bl_call hs0 ?_ | with_reducible refine below_drewN ?_ _ | with_reducible refine bl_alloc ?_ _ | with_reducible refine bl_drew ?_)); rintro e ws0 ⟨rfl, hs0⟩; (try rw [hsg])))
              | (go_at_call 18; ((with_reducible refine (rfrac_any 1 1 _ (by decide) (by decide) (by decide) (by decide)).mono ?_); rintro e wo1 ⟨vo1, rfl, hvo1, ho1⟩; rw [show redP 1 (1 : Int).toNat = 1 by decide +kernel, show redQ 1 (1 : Int).toNat = 1 by decide +kernel] at hvo1))
              | (go_at_call 17; ((with_reducible refine (r3cmp_any _ _ p 1 q 1 M _ (HL1.out.below ?_) (((hvo1.ratA (by decide)).mono hM).below ?_) hM (by omega)).mono ?_); (repeat (first | with_reducible exact Below.refl _ _ | with_reducible refine bl_call hq1 ?_ | with_reducible refine bl_call ho1 ?_ | with_reducible refine bl_call hs0 ?_ | with_reducible refine below_drewN ?_ _ | with_reducible refine bl_alloc ?_ _ | with_reducible refine bl_drew ?_)); (repeat (first | with_reducible exact Below.refl _ _ | with_reducible refine bl_call hq1 ?_ | with_reducible refine bl_call ho1 ?_ | with_reducible refine bl_call hs0 ?_ | with_reducible refine below_drewN ?_ _ | with_reducible refine bl_alloc ?_ _ | with_reducible refine bl_drew ?_)); rintro e wq1 ⟨rfl, hq1⟩; rw [show p * ((1 : Nat) : Int) = p by simp, show (1 : Int) * (q : Int) = (q : Int) by simp])))
          all_goals go_wp2_with fail
          all_goals go_meet
          all_goals go_light
          all_goals refine ⟨?_, ?_⟩
          all_goals first | rfl | (rw [t2]; done) | (simp only [t2]; done) | (repeat (first | with_reducible exact Below.refl _ _ | with_reducible refine bl_call hq1 ?_ | with_reducible refine bl_call ho1 ?_ | with_reducible refine bl_call hs0 ?_ | with_reducible refine below_drewN ?_ _ | with_reducible refine bl_alloc ?_ _ | with_reducible refine bl_drew ?_))
        case rest =>
          obtain ⟨rfl, hbc⟩ := hcut
          obtain ⟨w2, hw2⟩ : ∃ x, x = wc := ⟨_, rfl⟩
          rw [← hw2] at hbc ⊢
          clear hw2 c00 c01 c02 z0
          replace BB : Below w.heap.size w w2 := BB.trans (hbc.mono BB.size)
          have r2 := r0.keep hbc
          have HW2 := Lib.hid (HW.out.below BB)
          have HL2 := Lib.hid (HL.out.below BB)
          have hw2 := hws.below BB
          clear hbc r0 HL1 HW HL hws t1 t2
          go_wp2_with fail
          refine (rsumI_any _ ns L 0 n 0 ((n : Int) - 1) _ HW2.out hLs (by rw [HN.out]; exact h21) (by omega) (by rw [HN.out]; omega) rfl rfl).mono ?_
          rintro e w3 ⟨v3, rfl, hv3, hb3⟩
          have hal := hv3.any
          rw [show sumR ns 0 n = ns.sum by rw [← HN.out]; exact sumR_all ns] at hal
          obtain ⟨la, ⟨⟨A3, c3, rfl, _, _, _⟩, _⟩, _⟩ := id hal
          have HAL := Lib.hid hal
          clear hv3 hal
          replace r2 := r2.keep hb3
          replace HW2 := Lib.hid (HW2.out.below hb3)
          replace HL2 := Lib.hid (HL2.out.below hb3)
          replace hw2 := hw2.below hb3
          replace BB : Below w.heap.size w w3 := BB.trans (hb3.mono BB.size)
          replace HWU : Hid (∀ i u, us[i]? = some u → NatAny w3 u (ns.getD i 0) L) := fun i u h => (HWU.out i u h).below BB
          clear hb3
          go_wp2_with fail
          go_loopw [9, 10] (fun a b wr => ∃ (lo hi f : Nat), lo ≤ hi ∧ hi < n ∧ hi - lo = f ∧ a = .int .i64 (lo : Int) ∧ b = .int .i64 (hi : Int) ∧ Hid (credG ns p q f lo hi = credG ns p q (n - 1) 0 (n - 1)) ∧ Below w3.heap.size w3 wr) (fun a b _ => (intOf b).toNat - (intOf a).toNat)
          case atStart => exact ⟨0, n - 1, n - 1, by omega, by omega, by omega, rfl, by go_num, rfl, Below.refl _ _⟩
          case round =>
            obtain ⟨lo, hi, f, hlh, hhn, hf, rfl, rfl, HST, BQ⟩ := hrel
            by_cases hlt : lo < hi
            · have hltI : (lo : Int) < (hi : Int) := by omega
              obtain ⟨f, rfl⟩ : ∃ f', f = f' + 1 := ⟨f - 1, by omega⟩
              have hln : lo < n := by omega
              obtain ⟨b, o, u, hA, hbk, hcell, hu⟩ := lst_at (R := fun w u x => NatAny w u x L) (d := 0) (xs := ns) hw2 HWU.out hln
              obtain ⟨b', o', u', hA', hbk', hcell', hu'⟩ := lst_at (R := fun w u x => NatAny w u x L) (d := 0) (xs := ns) hw2 HWU.out hhn
              subst hA
              obtain ⟨rfl, rfl⟩ : b = b' ∧ o = o' := by injection hA' with h; injection h with h1 h2 h3; exact ⟨h1, h2⟩
              clear hA'
              obtain ⟨lk_, hlim, hval, hlen⟩ := hu.below BQ
              obtain ⟨lx, hlim', hval', hlen'⟩ := hu'.below BQ
              obtain ⟨⟨UA, uc, rfl, _, _, _⟩, _⟩ := id hlim
              obtain ⟨⟨XA, xc, rfl, _, _, _⟩, _⟩ := id hlim'
              have g1 := (BQ.cell (p := ⟨b, o + lo, none⟩) hbk).trans hcell
              have g2 := (BQ.cell (p := ⟨b, o + hi, none⟩) hbk).trans hcell'
              have zb : b < wr.heap.size := Nat.lt_of_lt_of_le hbk BQ.size
              clear hcell hcell' hu hu' hbk hbk'
              have hjI : (lo : Int) < (n : Int) := by omega
              have hiI : (hi : Int) < (n : Int) := by omega
              have HK := Lib.hid hlim
              have HXX := Lib.hid hlim'
              clear hlim hlim'
              have hlen1 : lk_.length ≤ 70368744177664 := by omega
              have hlen2 : lx.length ≤ 70368744177664 := by omega
              have tc : decide (cmpN (val lk_) (val lx) < 0) = decide (val lk_ < val lx) := neg_lt _ _
              replace HST : Hid ((if reachB (sumR ns (nextL ns lo hi) (nextH ns lo hi + 1)) ns.sum p q = true then credG ns p q f (nextL ns lo hi) (nextH ns lo hi) else (lo, hi)) = credG ns p q (n - 1) 0 (n - 1)) := HST
              unfold nextL nextH at HST
              rw [← hval, ← hval'] at HST
              clear hval hval'
              go_wp2_with fail
              go_region_law (first | (go_simp; go_at_call 20; ((with_reducible refine (rcmp_B _ _ lk_ lx _ (HK.out.below ?_) (HXX.out.below ?_) hlen1 hlen2).mono ?_); (repeat (first | with_reducible exact Below.refl _ _ | with_reducible refine below_drewN ?_ _ | with_reducible refine bl_alloc ?_ _ | with_reducible refine bl_drew ?_)); (repeat (first | with_reducible exact Below.refl _ _ | with_reducible refine below_drewN ?_ _ | with_reducible refine bl_alloc ?_ _ | with_reducible refine bl_drew ?_)); rintro e w5 ⟨rfl, h5⟩)))
              all_goals
                have BQ0 := BQ
                replace BQ : Below w3.heap.size w3 w5 := BQ0.trans ((bl_call h5 (by (repeat (first | with_reducible exact Below.refl _ _ | with_reducible refine below_drewN ?_ _ | with_reducible refine bl_alloc ?_ _ | with_reducible refine bl_drew ?_)))).mono BQ0.size)
                clear BQ0 g1 g2 zb HK HXX h5
                by_cases hgt : val lk_ < val lx
                · have t2 : decide (val lk_ < val lx) = true := decide_eq_true hgt
                  rw [if_pos hgt, if_pos hgt] at HST
                  go_wp2_with fail
                  have hwr : IntKind.i64.wrap ((lo : Int) + 1) = (lo : Int) + 1 := by rw [IntKind.wrap_i64]; omega
                  have HLQ := Lib.hid (HL2.out.below BQ)
                  have HWQ := Lib.hid (HW2.out.below BQ)
                  have HAQ := Lib.hid (HAL.out.below BQ)
                  have c00 : w5.cell? ⟨w.heap.size, 0, none⟩ = some (.bool neg) := (r2.keep BQ).cell 0
                  have c01 : w5.cell? ⟨w.heap.size, 1, none⟩ = some (.slice LA ln lc) := (r2.keep BQ).cell 1
                  have c02 : w5.cell? ⟨w.heap.size, 2, none⟩ = some (.slice LB lk lb) := (r2.keep BQ).cell 2
                  have z0 := (r2.keep BQ).lt
                  have hb1 : lo + 1 ≤ hi + 1 := by omega
                  have hb2 : hi + 1 ≤ ns.length := by rw [HN.out]; omega
                  have hb21 : ns.length ≤ 21 := by rw [HN.out]; exact h21
                  have hI1 : ((lo : Int) + 1) = ((lo + 1 : Nat) : Int) := by omega
                  have hI2 : (hi : Int) = ((hi + 1 : Nat) : Int) - 1 := by omega
                  have HI1 := Lib.hid hI1
                  have HI2 := Lib.hid hI2
                  have HB2 := Lib.hid hb2
                  have HB21 := Lib.hid hb21
                  clear hI1 hI2 hb2 hb21
                  go_region_held3 (fun w' => w'.cell? ⟨w.heap.size, 0, none⟩ = some (.bool neg) ∧ w'.cell? ⟨w.heap.size, 1, none⟩ = some (.slice LA ln lc) ∧ w'.cell? ⟨w.heap.size, 2, none⟩ = some (.slice LB lk lb))
                    ((refine keep3X z0 c00 c01 c02 ?_; (repeat (first | with_reducible exact Below.refl _ _ | with_reducible refine bl_call h7 ?_ | with_reducible refine bl_call h6 ?_ | with_reducible refine below_drewN ?_ _ | with_reducible refine bl_alloc ?_ _ | with_reducible refine bl_drew ?_)); done))
                    (first
                      | (go_at_call 19; ((with_reducible refine (rsumI_any _ ns L (lo + 1) (hi + 1) ((lo : Int) + 1) (hi : Int) _ (HWQ.out.below ?_) hLs HB21.out hb1 HB2.out HI1.out HI2.out).mono ?_); (repeat (first | with_reducible exact Below.refl _ _ | with_reducible refine bl_call h7 ?_ | with_reducible refine bl_call h6 ?_ | with_reducible refine below_drewN ?_ _ | with_reducible refine bl_alloc ?_ _ | with_reducible refine bl_drew ?_)); rintro e w6 ⟨v6, rfl, hv6, h6⟩; obtain ⟨l6, ⟨⟨A6, c6, rfl, _, _, _⟩, _⟩, _⟩ := id hv6))
                      | (go_at_call 21; ((with_reducible refine (rreach_any _ _ _ (sumR ns (lo + 1) (hi + 1)) ns.sum (L + ns.length + 2) M p q _ (hv6.any.below ?_) (HAQ.out.below ?_) (HLQ.out.below ?_) hK2 hM hKM).mono ?_); (repeat (first | with_reducible exact Below.refl _ _ | with_reducible refine bl_call h7 ?_ | with_reducible refine bl_call h6 ?_ | with_reducible refine below_drewN ?_ _ | with_reducible refine bl_alloc ?_ _ | with_reducible refine bl_drew ?_)); (repeat (first | with_reducible exact Below.refl _ _ | with_reducible refine bl_call h7 ?_ | with_reducible refine bl_call h6 ?_ | with_reducible refine below_drewN ?_ _ | with_reducible refine bl_alloc ?_ _ | with_reducible refine bl_drew ?_)); (repeat (first | with_reducible exact Below.refl _ _ | with_reducible refine bl_call h7 ?_ | with_reducible refine bl_call h6 ?_ | with_reducible refine below_drewN ?_ _ | with_reducible refine bl_alloc ?_ _ | with_reducible refine bl_drew ?_)); rintro e w7 ⟨rfl, h7⟩)))
                  all_goals
                    have hb7 : Below w5.heap.size w5 w7 := (by (repeat (first | with_reducible exact Below.refl _ _ | with_reducible refine bl_call h7 ?_ | with_reducible refine bl_call h6 ?_ | with_reducible refine below_drewN ?_ _ | with_reducible refine bl_alloc ?_ _ | with_reducible refine bl_drew ?_)))
                    clear c00 c01 c02 z0 HAQ hwr
                    by_cases hR : reachB (sumR ns (lo + 1) (hi + 1)) ns.sum p q = true
                    · rw [hR]
                      rw [if_pos hR] at HST
                      go_wp2_with fail
                      go_roundw
                      case rel => exact ⟨lo + 1, hi, f, by omega, by omega, by omega, by go_num, by go_num, HST, BQ.trans (hb7.mono BQ.size)⟩
                      case measure => simp [intOf]; omega
                    · have hR2 : reachB (sumR ns (lo + 1) (hi + 1)) ns.sum p q = false := Bool.eq_false_iff.2 hR
                      rw [hR2]
                      rw [if_neg hR] at HST
                      go_wp2_with fail
                      have HR := HST.out
                      rw [← HV2.out] at HR
                      refine bodyPost_ret (v := .tuple #[.int .i64 (lo : Int), .int .i64 (hi : Int), .int .i64 0]) (by simp [results, Tryz.results5, go_sem]) rfl ⟨by rw [← HR], BB.trans ((BQ.trans (hb7.mono BQ.size)).mono BB.size)⟩
                · have t2 : decide (val lk_ < val lx) = false := decide_eq_false hgt
                  rw [if_neg hgt, if_neg hgt] at HST
                  go_wp2_with fail
                  have hwr : IntKind.i64.wrap ((hi : Int) - 1) = (hi : Int) - 1 := by rw [IntKind.wrap_i64]; omega
                  have HLQ := Lib.hid (HL2.out.below BQ)
                  have HWQ := Lib.hid (HW2.out.below BQ)
                  have HAQ := Lib.hid (HAL.out.below BQ)
                  have c00 : w5.cell? ⟨w.heap.size, 0, none⟩ = some (.bool neg) := (r2.keep BQ).cell 0
                  have c01 : w5.cell? ⟨w.heap.size, 1, none⟩ = some (.slice LA ln lc) := (r2.keep BQ).cell 1
                  have c02 : w5.cell? ⟨w.heap.size, 2, none⟩ = some (.slice LB lk lb) := (r2.keep BQ).cell 2
                  have z0 := (r2.keep BQ).lt
                  have hb1 : lo ≤ (hi - 1) + 1 := by omega
                  have hb2 : (hi - 1) + 1 ≤ ns.length := by rw [HN.out]; omega
                  have hb21 : ns.length ≤ 21 := by rw [HN.out]; exact h21
                  have hI1 : (lo : Int) = ((lo : Nat) : Int) := by omega
                  have hI2 : ((hi : Int) - 1) = (((hi - 1) + 1 : Nat) : Int) - 1 := by omega
                  have HI1 := Lib.hid hI1
                  have HI2 := Lib.hid hI2
                  have HB2 := Lib.hid hb2
                  have HB21 := Lib.hid hb21
                  clear hI1 hI2 hb2 hb21
                  go_region_held3 (fun w' => w'.cell? ⟨w.heap.size, 0, none⟩ = some (.bool neg) ∧ w'.cell? ⟨w.heap.size, 1, none⟩ = some (.slice LA ln lc) ∧ w'.cell? ⟨w.heap.size, 2, none⟩ = some (.slice LB lk lb))
                    ((refine keep3X z0 c00 c01 c02 ?_; (repeat (first | with_reducible exact Below.refl _ _ | with_reducible refine bl_call h7 ?_ | with_reducible refine bl_call h6 ?_ | with_reducible refine below_drewN ?_ _ | with_reducible refine bl_alloc ?_ _ | with_reducible refine bl_drew ?_)); done))
                    (first
                      | (go_at_call 19; ((with_reducible refine (rsumI_any _ ns L (lo) ((hi - 1) + 1) (lo : Int) ((hi : Int) - 1) _ (HWQ.out.below ?_) hLs HB21.out hb1 HB2.out HI1.out HI2.out).mono ?_); (repeat (first | with_reducible exact Below.refl _ _ | with_reducible refine bl_call h7 ?_ | with_reducible refine bl_call h6 ?_ | with_reducible refine below_drewN ?_ _ | with_reducible refine bl_alloc ?_ _ | with_reducible refine bl_drew ?_)); rintro e w6 ⟨v6, rfl, hv6, h6⟩; obtain ⟨l6, ⟨⟨A6, c6, rfl, _, _, _⟩, _⟩, _⟩ := id hv6))
                      | (go_at_call 21; ((with_reducible refine (rreach_any _ _ _ (sumR ns (lo) ((hi - 1) + 1)) ns.sum (L + ns.length + 2) M p q _ (hv6.any.below ?_) (HAQ.out.below ?_) (HLQ.out.below ?_) hK2 hM hKM).mono ?_); (repeat (first | with_reducible exact Below.refl _ _ | with_reducible refine bl_call h7 ?_ | with_reducible refine bl_call h6 ?_ | with_reducible refine below_drewN ?_ _ | with_reducible refine bl_alloc ?_ _ | with_reducible refine bl_drew ?_)); (repeat (first | with_reducible exact Below.refl _ _ | with_reducible refine bl_call h7 ?_ | with_reducible refine bl_call h6 ?_ | with_reducible refine below_drewN ?_ _ | with_reducible refine bl_alloc ?_ _ | with_reducible refine bl_drew ?_)); (repeat (first | with_reducible exact Below.refl _ _ | with_reducible refine bl_call h7 ?_ | with_reducible refine bl_call h6 ?_ | with_reducible refine below_drewN ?_ _ | with_reducible refine bl_alloc ?_ _ | with_reducible refine bl_drew ?_)); rintro e w7 ⟨rfl, h7⟩)))
                  all_goals
                    have hb7 : Below w5.heap.size w5 w7 := (by (repeat (first | with_reducible exact Below.refl _ _ | with_reducible refine bl_call h7 ?_ | with_reducible refine bl_call h6 ?_ | with_reducible refine below_drewN ?_ _ | with_reducible refine bl_alloc ?_ _ | with_reducible refine bl_drew ?_)))
                    clear c00 c01 c02 z0 HAQ hwr
                    by_cases hR : reachB (sumR ns (lo) ((hi - 1) + 1)) ns.sum p q = true
                    · rw [hR]
                      rw [if_pos hR] at HST
                      go_wp2_with fail
                      go_roundw
                      case rel => exact ⟨lo, (hi - 1), f, by omega, by omega, by omega, by go_num, by go_num, HST, BQ.trans (hb7.mono BQ.size)⟩
                      case measure => simp [intOf]; omega
                    · have hR2 : reachB (sumR ns (lo) ((hi - 1) + 1)) ns.sum p q = false := Bool.eq_false_iff.2 hR
                      rw [hR2]
                      rw [if_neg hR] at HST
                      go_wp2_with fail
                      have HR := HST.out
                      rw [← HV2.out] at HR
                      refine bodyPost_ret (v := .tuple #[.int .i64 (lo : Int), .int .i64 (hi : Int), .int .i64 0]) (by simp [results, Tryz.results5, go_sem]) rfl ⟨by rw [← HR], BB.trans ((BQ.trans (hb7.mono BQ.size)).mono BB.size)⟩
            · obtain rfl : lo = hi := by omega
              obtain rfl : f = 0 := by omega
              have hltI : ¬ (lo : Int) < (lo : Int) := by omega
              go_wp2_with fail
              have HR : (lo, lo) = credV ns p q := by rw [HV2.out]; exact HST.out
              refine bodyPost_ret (v := .tuple #[.int .i64 (lo : Int), .int .i64 (lo : Int), .int .i64 0]) (by simp [results, Tryz.results5, go_sem]) rfl ⟨by rw [← HR], BB.trans (BQ.mono BB.size)⟩
  · have HV1 : credE ns p q = chkS ns := credE_chk hE
    have HV2 : credV ns p q = (0, 0) := by unfold credV; rw [HV1, if_neg hE]
    rw [HV1, HV2]
    clear HV1 HV2
    have t1 : ((chkS ns) != 0) = true := by simpa using hE
    generalize chkS ns = E at *
    have c00 : W0.cell? ⟨w.heap.size, 0, none⟩ = some (.bool neg) := r0.cell 0
    have c01 : W0.cell? ⟨w.heap.size, 1, none⟩ = some (.slice LA ln lc) := r0.cell 1
    have c02 : W0.cell? ⟨w.heap.size, 2, none⟩ = some (.slice LB lk lb) := r0.cell 2
    have z0 := r0.lt
    go_enter Tryz.func5, Tryz.ntmps5
    go_wp2_with fail
    rw [← hW0]
    clear hW0
    go_wp2_with fail
    clear c00 c01 c02 z0
    refine (HC.out _ B0).mono ?_
    rintro e w1 ⟨rfl, hb⟩
    clear HC
    have BB : Below w.heap.size w w1 := B0.trans (hb.mono B0.size)
    go_wp2_with fail
    refine bodyPost_ret (v := .tuple #[.int .i64 0, .int .i64 0, .int .i64 E]) (by simp [results, Tryz.results5, go_sem]) rfl ⟨rfl, BB⟩
end Go.Proofs.YtfoleamcaflfeaaGreatDoor
