/- The walk of Class (package examboardref27). -/
import Derived.Test.YtfoleamcaflfeaaGreatDoorEsY
namespace Go.Proofs.YtfoleamcaflfeaaGreatDoor
open Go.RowKit
set_option linter.unusedVariables false
set_option maxRecDepth 100000

set_option maxHeartbeats 32000000 in
theorem rclass_any (wv lv : Value) (ns : List Nat) (L M : Nat) (p : Int) (q : Nat) (c : Int) (w : World) (hw : Wts w wv ns L) (hlv : RatA w lv p q M) (hM : 2 ≤ M) (hLM : L ≤ 35184372088000 ∧ M ≤ 35184372088000) :
    Calls Tryz.prog 7 #[wv, .int .i64 c, lv] w fun e w' => e = .returned (.tuple #[.int .i64 (classV ns c p q), .int .i64 (classE ns c p q)]) ∧ Below w.heap.size w w' := by
  have hLs : L ≤ 35184372088800 := by omega
  have HC := Lib.hid (fun (W : World) (h : Below w.heap.size w W) => rchecked_any wv ns L W (hw.below h) hLs)
  have HW := Lib.hid hw
  have HQ : 0 < q := hlv.pos
  obtain ⟨neg, LA, ln, lc, LB, lk, lb, rfl⟩ := hlv.show_
  have HL := Lib.hid hlv
  obtain ⟨WA, wcp, us, rfl, hwc, hwm, hws, hwu⟩ := hw
  have HWU := Lib.hid hwu
  unfold maxLen at hwm
  clear hwu hlv
  obtain ⟨W0, hW0⟩ : ∃ W0 : World, W0 = w.alloc (.cells #[.bool neg, .slice LA ln lc, .slice LB lk lb] 28) := ⟨_, rfl⟩
  have r0 : Row W0 w.heap.size 28 [.bool neg, .slice LA ln lc, .slice LB lk lb] := by
    rw [hW0]
    exact Row.new w 28 [.bool neg, .slice LA ln lc, .slice LB lk lb]
  have B0 : Below w.heap.size w W0 := by rw [hW0]; exact (Below.refl _ _).alloc (Nat.le_refl _) _
  by_cases hE : chkS ns = 0
  · obtain ⟨h21, hpos⟩ := chkS_zero hE
    have hK2 : 2 ≤ L + ns.length + 2 := by omega
    have hKM : M + (L + ns.length + 2) + 2 ≤ 70368744177600 := by omega
    have hwr : IntKind.i64.wrap ((ns.length : Int) - 1) = (ns.length : Int) - 1 := by rw [IntKind.wrap_i64]; omega
    by_cases h1 : c < 1
    · have t1 : decide (c < 1) = true := decide_eq_true h1
      have HV1 : classE ns c p q = 3 := classE_bad hE (.inl h1)
      have HV2 : classV ns c p q = 0 := classV_bad (by rw [HV1]; decide)
      rw [HV1, HV2]
      rw [hE] at HC
      clear HV1 HV2
      have c00 : W0.cell? ⟨w.heap.size, 0, none⟩ = some (.bool neg) := r0.cell 0
      have c01 : W0.cell? ⟨w.heap.size, 1, none⟩ = some (.slice LA ln lc) := r0.cell 1
      have c02 : W0.cell? ⟨w.heap.size, 2, none⟩ = some (.slice LB lk lb) := r0.cell 2
      have z0 := r0.lt
      go_enter Tryz.func7, Tryz.ntmps7
      go_wp2_with fail
      rw [← hW0]
      clear hW0
      go_wp2_with fail
      clear c00 c01 c02 z0
      refine (HC.out _ B0).mono ?_
      rintro e w1 ⟨rfl, hb⟩
      clear HC
      replace r0 := r0.keep hb
      have BB : Below w.heap.size w w1 := B0.trans (hb.mono B0.size)
      clear hb B0
      have c00 : w1.cell? ⟨w.heap.size, 0, none⟩ = some (.bool neg) := r0.cell 0
      have c01 : w1.cell? ⟨w.heap.size, 1, none⟩ = some (.slice LA ln lc) := r0.cell 1
      have c02 : w1.cell? ⟨w.heap.size, 2, none⟩ = some (.slice LB lk lb) := r0.cell 2
      have z0 := r0.lt
      have HL1 : Hid (RatA w1 (.agg #[.bool neg, .slice LA ln lc, .slice LB lk lb]) p q M) := HL.out.below BB
      go_wp2_with fail
      go_cut [35] (fun s0 wx => s0 = .bool true ∧ Below w1.heap.size w1 wx)
      case first =>
        go_region
        all_goals go_wp2_with fail
        all_goals go_meet
        all_goals go_light
        all_goals refine ⟨?_, ?_⟩
        all_goals first | rfl | (repeat (first | with_reducible exact Below.refl _ _ | with_reducible refine below_drewN ?_ _ | with_reducible refine bl_alloc ?_ _ | with_reducible refine bl_drew ?_))
      case rest =>
        obtain ⟨rfl, hbc⟩ := hcut
        obtain ⟨w2, hw2⟩ : ∃ x, x = wc := ⟨_, rfl⟩
        rw [← hw2] at hbc ⊢
        clear hw2 c00 c01 c02 z0
        go_wp2_with fail
        refine bodyPost_ret (v := .tuple #[.int .i64 0, .int .i64 3]) (by simp [results, Tryz.results7, go_sem]) rfl ⟨rfl, BB.trans (hbc.mono BB.size)⟩
    · have t1 : decide (c < 1) = false := decide_eq_false h1
      by_cases h2 : (ns.length : Int) - 1 < c
      · have t2 : decide ((ns.length : Int) - 1 < c) = true := decide_eq_true h2
        have HV1 : classE ns c p q = 3 := classE_bad hE (.inr (.inl h2))
        have HV2 : classV ns c p q = 0 := classV_bad (by rw [HV1]; decide)
        rw [HV1, HV2]
        rw [hE] at HC
        clear HV1 HV2
        have c00 : W0.cell? ⟨w.heap.size, 0, none⟩ = some (.bool neg) := r0.cell 0
        have c01 : W0.cell? ⟨w.heap.size, 1, none⟩ = some (.slice LA ln lc) := r0.cell 1
        have c02 : W0.cell? ⟨w.heap.size, 2, none⟩ = some (.slice LB lk lb) := r0.cell 2
        have z0 := r0.lt
        go_enter Tryz.func7, Tryz.ntmps7
        go_wp2_with fail
        rw [← hW0]
        clear hW0
        go_wp2_with fail
        clear c00 c01 c02 z0
        refine (HC.out _ B0).mono ?_
        rintro e w1 ⟨rfl, hb⟩
        clear HC
        replace r0 := r0.keep hb
        have BB : Below w.heap.size w w1 := B0.trans (hb.mono B0.size)
        clear hb B0
        have c00 : w1.cell? ⟨w.heap.size, 0, none⟩ = some (.bool neg) := r0.cell 0
        have c01 : w1.cell? ⟨w.heap.size, 1, none⟩ = some (.slice LA ln lc) := r0.cell 1
        have c02 : w1.cell? ⟨w.heap.size, 2, none⟩ = some (.slice LB lk lb) := r0.cell 2
        have z0 := r0.lt
        have HL1 : Hid (RatA w1 (.agg #[.bool neg, .slice LA ln lc, .slice LB lk lb]) p q M) := HL.out.below BB
        go_wp2_with fail
        go_cut [35] (fun s0 wx => s0 = .bool true ∧ Below w1.heap.size w1 wx)
        case first =>
          go_region
          all_goals go_wp2_with fail
          all_goals go_meet
          all_goals go_light
          all_goals refine ⟨?_, ?_⟩
          all_goals first | rfl | (repeat (first | with_reducible exact Below.refl _ _ | with_reducible refine below_drewN ?_ _ | with_reducible refine bl_alloc ?_ _ | with_reducible refine bl_drew ?_))
        case rest =>
          obtain ⟨rfl, hbc⟩ := hcut
          obtain ⟨w2, hw2⟩ : ∃ x, x = wc := ⟨_, rfl⟩
          rw [← hw2] at hbc ⊢
          clear hw2 c00 c01 c02 z0
          go_wp2_with fail
          refine bodyPost_ret (v := .tuple #[.int .i64 0, .int .i64 3]) (by simp [results, Tryz.results7, go_sem]) rfl ⟨rfl, BB.trans (hbc.mono BB.size)⟩
      · have t2 : decide ((ns.length : Int) - 1 < c) = false := decide_eq_false h2
        by_cases h3 : p * 2 ≤ (q : Int)
        · have t3 : decide (cmpZ (p * 2) (q : Int) ≤ 0) = true := by rw [cmpZ_le0]; exact decide_eq_true h3
          have HV1 : classE ns c p q = 3 := classE_bad hE (.inr (.inr (.inl h3)))
          have HV2 : classV ns c p q = 0 := classV_bad (by rw [HV1]; decide)
          rw [HV1, HV2]
          rw [hE] at HC
          clear HV1 HV2
          have c00 : W0.cell? ⟨w.heap.size, 0, none⟩ = some (.bool neg) := r0.cell 0
          have c01 : W0.cell? ⟨w.heap.size, 1, none⟩ = some (.slice LA ln lc) := r0.cell 1
          have c02 : W0.cell? ⟨w.heap.size, 2, none⟩ = some (.slice LB lk lb) := r0.cell 2
          have z0 := r0.lt
          go_enter Tryz.func7, Tryz.ntmps7
          go_wp2_with fail
          rw [← hW0]
          clear hW0
          go_wp2_with fail
          clear c00 c01 c02 z0
          refine (HC.out _ B0).mono ?_
          rintro e w1 ⟨rfl, hb⟩
          clear HC
          replace r0 := r0.keep hb
          have BB : Below w.heap.size w w1 := B0.trans (hb.mono B0.size)
          clear hb B0
          have c00 : w1.cell? ⟨w.heap.size, 0, none⟩ = some (.bool neg) := r0.cell 0
          have c01 : w1.cell? ⟨w.heap.size, 1, none⟩ = some (.slice LA ln lc) := r0.cell 1
          have c02 : w1.cell? ⟨w.heap.size, 2, none⟩ = some (.slice LB lk lb) := r0.cell 2
          have z0 := r0.lt
          have HL1 : Hid (RatA w1 (.agg #[.bool neg, .slice LA ln lc, .slice LB lk lb]) p q M) := HL.out.below BB
          go_wp2_with fail
          go_cut [35] (fun s0 wx => s0 = .bool true ∧ Below w1.heap.size w1 wx)
          case first =>
            go_region_law (first
                | (go_simp; (go_at_call 18; ((with_reducible refine (rfrac_any 1 2 _ (by decide) (by decide) (by decide) (by decide)).mono ?_); rintro e wo1 ⟨vo1, rfl, hvo1, ho1⟩; rw [show redP 1 (2 : Int).toNat = 1 by decide +kernel, show redQ 1 (2 : Int).toNat = 2 by decide +kernel] at hvo1); obtain ⟨d00, d01, d02⟩ := keep3X z0 c00 c01 c02 (by (repeat (first | with_reducible exact Below.refl _ _ | with_reducible refine bl_call hq1 ?_ | with_reducible refine bl_call ho1 ?_ | with_reducible refine below_drewN ?_ _ | with_reducible refine bl_alloc ?_ _ | with_reducible refine bl_drew ?_)) : Below w1.heap.size w1 wo1)))
                | (go_simp; (go_at_call 17; ((with_reducible refine (r3cmp_any _ _ p 1 q 2 M _ (HL1.out.below ?_) (((hvo1.ratA (by decide)).mono hM).below ?_) hM (by omega)).mono ?_); (repeat (first | with_reducible exact Below.refl _ _ | with_reducible refine bl_call hq1 ?_ | with_reducible refine bl_call ho1 ?_ | with_reducible refine below_drewN ?_ _ | with_reducible refine bl_alloc ?_ _ | with_reducible refine bl_drew ?_)); (repeat (first | with_reducible exact Below.refl _ _ | with_reducible refine bl_call hq1 ?_ | with_reducible refine bl_call ho1 ?_ | with_reducible refine below_drewN ?_ _ | with_reducible refine bl_alloc ?_ _ | with_reducible refine bl_drew ?_)); rintro e wq1 ⟨rfl, hq1⟩; rw [show p * ((2 : Nat) : Int) = p * 2 from rfl, show (1 : Int) * (q : Int) = (q : Int) by simp]))))
            all_goals go_wp2_with fail
            all_goals go_meet
            all_goals go_light
            all_goals refine ⟨?_, ?_⟩
            all_goals first | rfl | (simp only [t3]; done) | (rw [t3]; done) | (repeat (first | with_reducible exact Below.refl _ _ | with_reducible refine bl_call hq1 ?_ | with_reducible refine bl_call ho1 ?_ | with_reducible refine below_drewN ?_ _ | with_reducible refine bl_alloc ?_ _ | with_reducible refine bl_drew ?_))
          case rest =>
            obtain ⟨rfl, hbc⟩ := hcut
            obtain ⟨w2, hw2⟩ : ∃ x, x = wc := ⟨_, rfl⟩
            rw [← hw2] at hbc ⊢
            clear hw2 c00 c01 c02 z0
            go_wp2_with fail
            refine bodyPost_ret (v := .tuple #[.int .i64 0, .int .i64 3]) (by simp [results, Tryz.results7, go_sem]) rfl ⟨rfl, BB.trans (hbc.mono BB.size)⟩
        · have t3 : decide (cmpZ (p * 2) (q : Int) ≤ 0) = false := by rw [cmpZ_le0]; exact decide_eq_false h3
          by_cases h4 : (q : Int) < p
          · have t4 : decide (0 < cmpZ p (q : Int)) = true := by rw [cmpZ_pos]; exact decide_eq_true h4
            have HV1 : classE ns c p q = 3 := classE_bad hE (.inr (.inr (.inr h4)))
            have HV2 : classV ns c p q = 0 := classV_bad (by rw [HV1]; decide)
            rw [HV1, HV2]
            rw [hE] at HC
            clear HV1 HV2
            have c00 : W0.cell? ⟨w.heap.size, 0, none⟩ = some (.bool neg) := r0.cell 0
            have c01 : W0.cell? ⟨w.heap.size, 1, none⟩ = some (.slice LA ln lc) := r0.cell 1
            have c02 : W0.cell? ⟨w.heap.size, 2, none⟩ = some (.slice LB lk lb) := r0.cell 2
            have z0 := r0.lt
            go_enter Tryz.func7, Tryz.ntmps7
            go_wp2_with fail
            rw [← hW0]
            clear hW0
            go_wp2_with fail
            clear c00 c01 c02 z0
            refine (HC.out _ B0).mono ?_
            rintro e w1 ⟨rfl, hb⟩
            clear HC
            replace r0 := r0.keep hb
            have BB : Below w.heap.size w w1 := B0.trans (hb.mono B0.size)
            clear hb B0
            have c00 : w1.cell? ⟨w.heap.size, 0, none⟩ = some (.bool neg) := r0.cell 0
            have c01 : w1.cell? ⟨w.heap.size, 1, none⟩ = some (.slice LA ln lc) := r0.cell 1
            have c02 : w1.cell? ⟨w.heap.size, 2, none⟩ = some (.slice LB lk lb) := r0.cell 2
            have z0 := r0.lt
            have HL1 : Hid (RatA w1 (.agg #[.bool neg, .slice LA ln lc, .slice LB lk lb]) p q M) := HL.out.below BB
            go_wp2_with fail
            go_cut [35] (fun s0 wx => s0 = .bool true ∧ Below w1.heap.size w1 wx)
            case first =>
              go_region_held3 (fun w' => w'.cell? ⟨w.heap.size, 0, none⟩ = some (.bool neg) ∧ w'.cell? ⟨w.heap.size, 1, none⟩ = some (.slice LA ln lc) ∧ w'.cell? ⟨w.heap.size, 2, none⟩ = some (.slice LB lk lb))
                ((refine keep3X z0 c00 c01 c02 ?_; (repeat (first | with_reducible exact Below.refl _ _ | with_reducible refine bl_call hq2 ?_ | with_reducible refine bl_call ho2 ?_ | with_reducible refine bl_call hq1 ?_ | with_reducible refine bl_call ho1 ?_ | with_reducible refine below_drewN ?_ _ | with_reducible refine bl_alloc ?_ _ | with_reducible refine bl_drew ?_)); done))
                (first
                  | (go_at_call 18; ((with_reducible refine (rfrac_any 1 2 _ (by decide) (by decide) (by decide) (by decide)).mono ?_); rintro e wo1 ⟨vo1, rfl, hvo1, ho1⟩; rw [show redP 1 (2 : Int).toNat = 1 by decide +kernel, show redQ 1 (2 : Int).toNat = 2 by decide +kernel] at hvo1))
                  | (go_at_call 18; ((with_reducible refine (rfrac_any 1 1 _ (by decide) (by decide) (by decide) (by decide)).mono ?_); rintro e wo2 ⟨vo2, rfl, hvo2, ho2⟩; rw [show redP 1 (1 : Int).toNat = 1 by decide +kernel, show redQ 1 (1 : Int).toNat = 1 by decide +kernel] at hvo2))
                  | (go_at_call 17; ((with_reducible refine (r3cmp_any _ _ p 1 q 2 M _ (HL1.out.below ?_) (((hvo1.ratA (by decide)).mono hM).below ?_) hM (by omega)).mono ?_); (repeat (first | with_reducible exact Below.refl _ _ | with_reducible refine bl_call hq2 ?_ | with_reducible refine bl_call ho2 ?_ | with_reducible refine bl_call hq1 ?_ | with_reducible refine bl_call ho1 ?_ | with_reducible refine below_drewN ?_ _ | with_reducible refine bl_alloc ?_ _ | with_reducible refine bl_drew ?_)); (repeat (first | with_reducible exact Below.refl _ _ | with_reducible refine bl_call hq2 ?_ | with_reducible refine bl_call ho2 ?_ | with_reducible refine bl_call hq1 ?_ | with_reducible refine bl_call ho1 ?_ | with_reducible refine below_drewN ?_ _ | with_reducible refine bl_alloc ?_ _ | with_reducible refine bl_drew ?_)); rintro e wq1 ⟨rfl, hq1⟩; rw [show p * ((2 : Nat) : Int) = p * 2 from rfl, show (1 : Int) * (q : Int) = (q : Int) by simp]))
                  | (go_at_call 17; ((with_reducible refine (r3cmp_any _ _ p 1 q 1 M _ (HL1.out.below ?_) (((hvo2.ratA (by decide)).mono hM).below ?_) hM (by omega)).mono ?_); (repeat (first | with_reducible exact Below.refl _ _ | with_reducible refine bl_call hq2 ?_ | with_reducible refine bl_call ho2 ?_ | with_reducible refine bl_call hq1 ?_ | with_reducible refine bl_call ho1 ?_ | with_reducible refine below_drewN ?_ _ | with_reducible refine bl_alloc ?_ _ | with_reducible refine bl_drew ?_)); (repeat (first | with_reducible exact Below.refl _ _ | with_reducible refine bl_call hq2 ?_ | with_reducible refine bl_call ho2 ?_ | with_reducible refine bl_call hq1 ?_ | with_reducible refine bl_call ho1 ?_ | with_reducible refine below_drewN ?_ _ | with_reducible refine bl_alloc ?_ _ | with_reducible refine bl_drew ?_)); rintro e wq2 ⟨rfl, hq2⟩; rw [show p * ((1 : Nat) : Int) = p by simp, show (1 : Int) * (q : Int) = (q : Int) by simp])))
              all_goals go_wp2_with fail
              all_goals go_meet
              all_goals go_light
              all_goals refine ⟨?_, ?_⟩
              all_goals first | rfl | (simp only [t3]; done) | (simp only [t4]; done) | (rw [t3]; done) | (rw [t4]; done) | (repeat (first | with_reducible exact Below.refl _ _ | with_reducible refine bl_call hq2 ?_ | with_reducible refine bl_call ho2 ?_ | with_reducible refine bl_call hq1 ?_ | with_reducible refine bl_call ho1 ?_ | with_reducible refine below_drewN ?_ _ | with_reducible refine bl_alloc ?_ _ | with_reducible refine bl_drew ?_))
            case rest =>
              obtain ⟨rfl, hbc⟩ := hcut
              obtain ⟨w2, hw2⟩ : ∃ x, x = wc := ⟨_, rfl⟩
              rw [← hw2] at hbc ⊢
              clear hw2 c00 c01 c02 z0
              go_wp2_with fail
              refine bodyPost_ret (v := .tuple #[.int .i64 0, .int .i64 3]) (by simp [results, Tryz.results7, go_sem]) rfl ⟨rfl, BB.trans (hbc.mono BB.size)⟩
          · have t4 : decide (0 < cmpZ p (q : Int)) = false := by rw [cmpZ_pos]; exact decide_eq_false h4
            have HV1 : classE ns c p q = 0 := classE_ok hE (by omega) (by omega) (by omega) (by omega)
            have HV2 : Hid (classV ns c p q = if reachB (ns.drop c.toNat).sum ns.sum p q = true then 1 else if reachB (ns.take c.toNat).sum ns.sum p q = true then 0 else -1) := by unfold Hid classV; rw [HV1]; rfl
            rw [HV1]
            rw [hE] at HC
            clear HV1 hE
            obtain ⟨n, hn⟩ : ∃ n, ns.length = n := ⟨_, rfl⟩
            have HN := Lib.hid hn
            rw [hn] at hws hwc h21 HC HW h2 t2 hwr ⊢
            clear hn h3 h4
            obtain ⟨cv, hcv⟩ : ∃ v, classV ns c p q = v := ⟨_, rfl⟩
            rw [hcv]
            rw [hcv] at HV2
            have HCV := Lib.hid hcv
            clear hcv
            have c00 : W0.cell? ⟨w.heap.size, 0, none⟩ = some (.bool neg) := r0.cell 0
            have c01 : W0.cell? ⟨w.heap.size, 1, none⟩ = some (.slice LA ln lc) := r0.cell 1
            have c02 : W0.cell? ⟨w.heap.size, 2, none⟩ = some (.slice LB lk lb) := r0.cell 2
            have z0 := r0.lt
            go_enter Tryz.func7, Tryz.ntmps7
            go_wp2_with fail
            rw [← hW0]
            clear hW0
            go_wp2_with fail
            clear c00 c01 c02 z0
            refine (HC.out _ B0).mono ?_
            rintro e w1 ⟨rfl, hb⟩
            clear HC
            replace r0 := r0.keep hb
            have BB : Below w.heap.size w w1 := B0.trans (hb.mono B0.size)
            clear hb B0
            have c00 : w1.cell? ⟨w.heap.size, 0, none⟩ = some (.bool neg) := r0.cell 0
            have c01 : w1.cell? ⟨w.heap.size, 1, none⟩ = some (.slice LA ln lc) := r0.cell 1
            have c02 : w1.cell? ⟨w.heap.size, 2, none⟩ = some (.slice LB lk lb) := r0.cell 2
            have z0 := r0.lt
            have HL1 : Hid (RatA w1 (.agg #[.bool neg, .slice LA ln lc, .slice LB lk lb]) p q M) := HL.out.below BB
            go_wp2_with fail
            go_cut [35] (fun s0 wx => s0 = .bool false ∧ Below w1.heap.size w1 wx)
            case first =>
              go_region_held3 (fun w' => w'.cell? ⟨w.heap.size, 0, none⟩ = some (.bool neg) ∧ w'.cell? ⟨w.heap.size, 1, none⟩ = some (.slice LA ln lc) ∧ w'.cell? ⟨w.heap.size, 2, none⟩ = some (.slice LB lk lb))
                ((refine keep3X z0 c00 c01 c02 ?_; (repeat (first | with_reducible exact Below.refl _ _ | with_reducible refine bl_call hq2 ?_ | with_reducible refine bl_call ho2 ?_ | with_reducible refine bl_call hq1 ?_ | with_reducible refine bl_call ho1 ?_ | with_reducible refine below_drewN ?_ _ | with_reducible refine bl_alloc ?_ _ | with_reducible refine bl_drew ?_)); done))
                (first
                  | (go_at_call 18; ((with_reducible refine (rfrac_any 1 2 _ (by decide) (by decide) (by decide) (by decide)).mono ?_); rintro e wo1 ⟨vo1, rfl, hvo1, ho1⟩; rw [show redP 1 (2 : Int).toNat = 1 by decide +kernel, show redQ 1 (2 : Int).toNat = 2 by decide +kernel] at hvo1))
                  | (go_at_call 18; ((with_reducible refine (rfrac_any 1 1 _ (by decide) (by decide) (by decide) (by decide)).mono ?_); rintro e wo2 ⟨vo2, rfl, hvo2, ho2⟩; rw [show redP 1 (1 : Int).toNat = 1 by decide +kernel, show redQ 1 (1 : Int).toNat = 1 by decide +kernel] at hvo2))
                  | (go_at_call 17; ((with_reducible refine (r3cmp_any _ _ p 1 q 2 M _ (HL1.out.below ?_) (((hvo1.ratA (by decide)).mono hM).below ?_) hM (by omega)).mono ?_); (repeat (first | with_reducible exact Below.refl _ _ | with_reducible refine bl_call hq2 ?_ | with_reducible refine bl_call ho2 ?_ | with_reducible refine bl_call hq1 ?_ | with_reducible refine bl_call ho1 ?_ | with_reducible refine below_drewN ?_ _ | with_reducible refine bl_alloc ?_ _ | with_reducible refine bl_drew ?_)); (repeat (first | with_reducible exact Below.refl _ _ | with_reducible refine bl_call hq2 ?_ | with_reducible refine bl_call ho2 ?_ | with_reducible refine bl_call hq1 ?_ | with_reducible refine bl_call ho1 ?_ | with_reducible refine below_drewN ?_ _ | with_reducible refine bl_alloc ?_ _ | with_reducible refine bl_drew ?_)); rintro e wq1 ⟨rfl, hq1⟩; rw [show p * ((2 : Nat) : Int) = p * 2 from rfl, show (1 : Int) * (q : Int) = (q : Int) by simp]))
                  | (go_at_call 17; ((with_reducible refine (r3cmp_any _ _ p 1 q 1 M _ (HL1.out.below ?_) (((hvo2.ratA (by decide)).mono hM).below ?_) hM (by omega)).mono ?_); (repeat (first | with_reducible exact Below.refl _ _ | with_reducible refine bl_call hq2 ?_ | with_reducible refine bl_call ho2 ?_ | with_reducible refine bl_call hq1 ?_ | with_reducible refine bl_call ho1 ?_ | with_reducible refine below_drewN ?_ _ | with_reducible refine bl_alloc ?_ _ | with_reducible refine bl_drew ?_)); (repeat (first | with_reducible exact Below.refl _ _ | with_reducible refine bl_call hq2 ?_ | with_reducible refine bl_call ho2 ?_ | with_reducible refine bl_call hq1 ?_ | with_reducible refine bl_call ho1 ?_ | with_reducible refine below_drewN ?_ _ | with_reducible refine bl_alloc ?_ _ | with_reducible refine bl_drew ?_)); rintro e wq2 ⟨rfl, hq2⟩; rw [show p * ((1 : Nat) : Int) = p by simp, show (1 : Int) * (q : Int) = (q : Int) by simp])))
              all_goals go_wp2_with fail
              all_goals go_meet
              all_goals go_light
              all_goals refine ⟨?_, ?_⟩
              all_goals first | rfl | (simp only [t3]; done) | (simp only [t4]; done) | (rw [t3]; done) | (rw [t4]; done) | (repeat (first | with_reducible exact Below.refl _ _ | with_reducible refine bl_call hq2 ?_ | with_reducible refine bl_call ho2 ?_ | with_reducible refine bl_call hq1 ?_ | with_reducible refine bl_call ho1 ?_ | with_reducible refine below_drewN ?_ _ | with_reducible refine bl_alloc ?_ _ | with_reducible refine bl_drew ?_))
            case rest =>
              obtain ⟨rfl, hbc⟩ := hcut
              obtain ⟨w2, hw2⟩ : ∃ x, x = wc := ⟨_, rfl⟩
              rw [← hw2] at hbc ⊢
              clear hw2 c00 c01 c02 z0
              replace BB : Below w.heap.size w w2 := BB.trans (hbc.mono BB.size)
              have r2 := r0.keep hbc
              have HW2 := Lib.hid (HW.out.below BB)
              have HL2 := Lib.hid (HL.out.below BB)
              clear hbc r0 HL1 HW HL hws t1 t2 t3 t4
              go_wp2_with fail
              refine (rsumI_any _ ns L 0 n 0 ((n : Int) - 1) _ HW2.out hLs (by rw [HN.out]; exact h21) (by omega) (by rw [HN.out]; omega) rfl rfl).mono ?_
              rintro e w3 ⟨v3, rfl, hv3, hb3⟩
              have hal := hv3.any
              rw [show sumR ns 0 n = ns.sum by rw [← HN.out]; exact sumR_all ns] at hal
              obtain ⟨la, ⟨⟨A3, c3, rfl, _, _, _⟩, _⟩, _⟩ := id hal
              have HAL := Lib.hid hal
              clear hv3 hal
              replace r2 := r2.keep hb3
              replace HW2 := Lib.hid (HW2.out.below hb3)
              replace HL2 := Lib.hid (HL2.out.below hb3)
              replace BB : Below w.heap.size w w3 := BB.trans (hb3.mono BB.size)
              clear hb3
              have HB21 : Hid (ns.length ≤ 21) := by unfold Hid; rw [HN.out]; exact h21
              have hwc1 : IntKind.i64.wrap (c - 1) = c - 1 := by rw [IntKind.wrap_i64]; omega
              have BQ : Below w3.heap.size w3 w3 := Below.refl _ _
              go_wp2_with fail
              have HLQ := Lib.hid (HL2.out.below BQ)
              have HWQ := Lib.hid (HW2.out.below BQ)
              have HAQ := Lib.hid (HAL.out.below BQ)
              have c00 : w3.cell? ⟨w.heap.size, 0, none⟩ = some (.bool neg) := (r2.keep BQ).cell 0
              have c01 : w3.cell? ⟨w.heap.size, 1, none⟩ = some (.slice LA ln lc) := (r2.keep BQ).cell 1
              have c02 : w3.cell? ⟨w.heap.size, 2, none⟩ = some (.slice LB lk lb) := (r2.keep BQ).cell 2
              have z0 := (r2.keep BQ).lt
              have hb1 : c.toNat ≤ n := by omega
              have hb2 : n ≤ ns.length := by rw [HN.out]; omega
              have hI1 : c = ((c.toNat : Nat) : Int) := by omega
              have hI2 : ((n : Int) - 1) = ((n : Nat) : Int) - 1 := by omega
              have HI1 := Lib.hid hI1
              have HI2 := Lib.hid hI2
              have HB2 := Lib.hid hb2
              have HB1 := Lib.hid hb1
              clear hI1 hI2 hb2 hb1
              go_region_held3 (fun w' => w'.cell? ⟨w.heap.size, 0, none⟩ = some (.bool neg) ∧ w'.cell? ⟨w.heap.size, 1, none⟩ = some (.slice LA ln lc) ∧ w'.cell? ⟨w.heap.size, 2, none⟩ = some (.slice LB lk lb))
                ((refine keep3X z0 c00 c01 c02 ?_; (repeat (first | with_reducible exact Below.refl _ _ | with_reducible refine bl_call h7 ?_ | with_reducible refine bl_call h6 ?_ | with_reducible refine below_drewN ?_ _ | with_reducible refine bl_alloc ?_ _ | with_reducible refine bl_drew ?_)); done))
                (first
                  | (go_at_call 19; ((with_reducible refine (rsumI_any _ ns L c.toNat n c ((n : Int) - 1) _ (HWQ.out.below ?_) hLs HB21.out HB1.out HB2.out HI1.out HI2.out).mono ?_); (repeat (first | with_reducible exact Below.refl _ _ | with_reducible refine bl_call h7 ?_ | with_reducible refine bl_call h6 ?_ | with_reducible refine below_drewN ?_ _ | with_reducible refine bl_alloc ?_ _ | with_reducible refine bl_drew ?_)); rintro e w6 ⟨v6, rfl, hv6, h6⟩; obtain ⟨l6, ⟨⟨A6, c6, rfl, _, _, _⟩, _⟩, _⟩ := id hv6))
                  | (go_at_call 21; ((with_reducible refine (rreach_any _ _ _ (sumR ns c.toNat n) ns.sum (L + ns.length + 2) M p q _ (hv6.any.below ?_) (HAQ.out.below ?_) (HLQ.out.below ?_) hK2 hM hKM).mono ?_); (repeat (first | with_reducible exact Below.refl _ _ | with_reducible refine bl_call h7 ?_ | with_reducible refine bl_call h6 ?_ | with_reducible refine below_drewN ?_ _ | with_reducible refine bl_alloc ?_ _ | with_reducible refine bl_drew ?_)); (repeat (first | with_reducible exact Below.refl _ _ | with_reducible refine bl_call h7 ?_ | with_reducible refine bl_call h6 ?_ | with_reducible refine below_drewN ?_ _ | with_reducible refine bl_alloc ?_ _ | with_reducible refine bl_drew ?_)); (repeat (first | with_reducible exact Below.refl _ _ | with_reducible refine bl_call h7 ?_ | with_reducible refine bl_call h6 ?_ | with_reducible refine below_drewN ?_ _ | with_reducible refine bl_alloc ?_ _ | with_reducible refine bl_drew ?_)); rintro e w7 ⟨rfl, h7⟩)))
              all_goals
                have hb7 : Below w3.heap.size w3 w7 := (by (repeat (first | with_reducible exact Below.refl _ _ | with_reducible refine bl_call h7 ?_ | with_reducible refine bl_call h6 ?_ | with_reducible refine below_drewN ?_ _ | with_reducible refine bl_alloc ?_ _ | with_reducible refine bl_drew ?_)))
                replace BQ : Below w3.heap.size w3 w7 := BQ.trans (hb7.mono BQ.size)
                clear c00 c01 c02 z0 HAQ hb7 h6 h7 HI1 HI2 HB1 HB2
                by_cases hR : reachB (sumR ns c.toNat n) ns.sum p q = true
                · rw [hR]
                  have HR : Hid (1 = cv) := by
                    unfold Hid
                    rw [HV2.out, if_pos]
                    rw [← hR]; unfold sumR; rw [← HN.out, List.take_length]
                  go_wp2_with fail
                  have HR := HR.out
                  refine bodyPost_ret (v := .tuple #[.int .i64 1, .int .i64 0]) (by simp [results, Tryz.results7, go_sem]) rfl ⟨by rw [← HR], BB.trans (BQ.mono BB.size)⟩
                · have hR2 : reachB (sumR ns c.toNat n) ns.sum p q = false := Bool.eq_false_iff.2 hR
                  rw [hR2]
                  have HN1 : Hid (¬ reachB (ns.drop c.toNat).sum ns.sum p q = true) := by
                    unfold Hid
                    have : sumR ns c.toNat n = (ns.drop c.toNat).sum := by unfold sumR; rw [← HN.out, List.take_length]
                    rw [← this]; exact hR
                  clear hR hR2
                  generalize hwa : w7 = wa at *
                  clear hwa
                  go_wp2_with fail
                  have HLQ := Lib.hid (HL2.out.below BQ)
                  have HWQ := Lib.hid (HW2.out.below BQ)
                  have HAQ := Lib.hid (HAL.out.below BQ)
                  have c00 : wa.cell? ⟨w.heap.size, 0, none⟩ = some (.bool neg) := (r2.keep BQ).cell 0
                  have c01 : wa.cell? ⟨w.heap.size, 1, none⟩ = some (.slice LA ln lc) := (r2.keep BQ).cell 1
                  have c02 : wa.cell? ⟨w.heap.size, 2, none⟩ = some (.slice LB lk lb) := (r2.keep BQ).cell 2
                  have z0 := (r2.keep BQ).lt
                  have hb1 : 0 ≤ c.toNat := by omega
                  have hb2 : c.toNat ≤ ns.length := by rw [HN.out]; omega
                  have hI1 : 0 = ((0 : Nat) : Int) := by omega
                  have hI2 : (c - 1) = ((c.toNat : Nat) : Int) - 1 := by omega
                  have HI1 := Lib.hid hI1
                  have HI2 := Lib.hid hI2
                  have HB2 := Lib.hid hb2
                  have HB1 := Lib.hid hb1
                  clear hI1 hI2 hb2 hb1
                  go_region_held3 (fun w' => w'.cell? ⟨w.heap.size, 0, none⟩ = some (.bool neg) ∧ w'.cell? ⟨w.heap.size, 1, none⟩ = some (.slice LA ln lc) ∧ w'.cell? ⟨w.heap.size, 2, none⟩ = some (.slice LB lk lb))
                    ((refine keep3X z0 c00 c01 c02 ?_; (repeat (first | with_reducible exact Below.refl _ _ | with_reducible refine bl_call h7 ?_ | with_reducible refine bl_call h6 ?_ | with_reducible refine below_drewN ?_ _ | with_reducible refine bl_alloc ?_ _ | with_reducible refine bl_drew ?_)); done))
                    (first
                      | (go_at_call 19; ((with_reducible refine (rsumI_any _ ns L 0 c.toNat 0 (c - 1) _ (HWQ.out.below ?_) hLs HB21.out HB1.out HB2.out HI1.out HI2.out).mono ?_); (repeat (first | with_reducible exact Below.refl _ _ | with_reducible refine bl_call h7 ?_ | with_reducible refine bl_call h6 ?_ | with_reducible refine below_drewN ?_ _ | with_reducible refine bl_alloc ?_ _ | with_reducible refine bl_drew ?_)); rintro e w6 ⟨v6, rfl, hv6, h6⟩; obtain ⟨l6, ⟨⟨A6, c6, rfl, _, _, _⟩, _⟩, _⟩ := id hv6))
                      | (go_at_call 21; ((with_reducible refine (rreach_any _ _ _ (sumR ns 0 c.toNat) ns.sum (L + ns.length + 2) M p q _ (hv6.any.below ?_) (HAQ.out.below ?_) (HLQ.out.below ?_) hK2 hM hKM).mono ?_); (repeat (first | with_reducible exact Below.refl _ _ | with_reducible refine bl_call h7 ?_ | with_reducible refine bl_call h6 ?_ | with_reducible refine below_drewN ?_ _ | with_reducible refine bl_alloc ?_ _ | with_reducible refine bl_drew ?_)); (repeat (first | with_reducible exact Below.refl _ _ | with_reducible refine bl_call h7 ?_ | with_reducible refine bl_call h6 ?_ | with_reducible refine below_drewN ?_ _ | with_reducible refine bl_alloc ?_ _ | with_reducible refine bl_drew ?_)); (repeat (first | with_reducible exact Below.refl _ _ | with_reducible refine bl_call h7 ?_ | with_reducible refine bl_call h6 ?_ | with_reducible refine below_drewN ?_ _ | with_reducible refine bl_alloc ?_ _ | with_reducible refine bl_drew ?_)); rintro e w7 ⟨rfl, h7⟩)))
                  all_goals
                    have hb7 : Below wa.heap.size wa w7 := (by (repeat (first | with_reducible exact Below.refl _ _ | with_reducible refine bl_call h7 ?_ | with_reducible refine bl_call h6 ?_ | with_reducible refine below_drewN ?_ _ | with_reducible refine bl_alloc ?_ _ | with_reducible refine bl_drew ?_)))
                    replace BQ : Below w3.heap.size w3 w7 := BQ.trans (hb7.mono BQ.size)
                    clear c00 c01 c02 z0 HAQ hb7 h6 h7 HI1 HI2 HB1 HB2
                    by_cases hS : reachB (sumR ns 0 c.toNat) ns.sum p q = true
                    · rw [hS]
                      have HR : Hid (0 = cv) := by
                        unfold Hid
                        rw [HV2.out, if_neg HN1.out, if_pos]
                        exact hS
                      go_wp2_with fail
                      have HR := HR.out
                      refine bodyPost_ret (v := .tuple #[.int .i64 0, .int .i64 0]) (by simp [results, Tryz.results7, go_sem]) rfl ⟨by rw [← HR], BB.trans (BQ.mono BB.size)⟩
                    · have hS2 : reachB (sumR ns 0 c.toNat) ns.sum p q = false := Bool.eq_false_iff.2 hS
                      rw [hS2]
                      have HR : Hid (-1 = cv) := by
                        unfold Hid
                        rw [HV2.out, if_neg HN1.out, if_neg]
                        exact hS
                      go_wp2_with fail
                      have HR := HR.out
                      refine bodyPost_ret (v := .tuple #[.int .i64 (-1), .int .i64 0]) (by simp [results, Tryz.results7, go_sem]) rfl ⟨by rw [← HR], BB.trans (BQ.mono BB.size)⟩
  · have HV1 : classE ns c p q = chkS ns := classE_chk hE
    have HV2 : classV ns c p q = 0 := by exact classV_bad (by rw [HV1]; exact hE)
    rw [HV1, HV2]
    clear HV1 HV2
    have t1 : ((chkS ns) != 0) = true := by simpa using hE
    generalize chkS ns = E at *
    have c00 : W0.cell? ⟨w.heap.size, 0, none⟩ = some (.bool neg) := r0.cell 0
    have c01 : W0.cell? ⟨w.heap.size, 1, none⟩ = some (.slice LA ln lc) := r0.cell 1
    have c02 : W0.cell? ⟨w.heap.size, 2, none⟩ = some (.slice LB lk lb) := r0.cell 2
    have z0 := r0.lt
    go_enter Tryz.func7, Tryz.ntmps7
    go_wp2_with fail
    rw [← hW0]
    clear hW0
    go_wp2_with fail
    clear c00 c01 c02 z0
    refine (HC.out _ B0).mono ?_
    rintro e w1 ⟨rfl, hb⟩
    clear HC
    have BB : Below w.heap.size w w1 := B0.trans (hb.mono B0.size)
    go_wp2_with fail
    refine bodyPost_ret (v := .tuple #[.int .i64 0, .int .i64 E]) (by simp [results, Tryz.results7, go_sem]) rfl ⟨rfl, BB⟩
end Go.Proofs.YtfoleamcaflfeaaGreatDoor
