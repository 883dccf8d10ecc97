/- The walks of the reference's Add and Mul (package examboardref01). -/
import Derived.Test.YtoihjclkocffhaaDoorRefA
namespace Go.Proofs.YtoihjclkocffhaaDoor
open Go.RowKit
set_option linter.unusedVariables false

set_option maxHeartbeats 4000000 in
theorem radd_core (A B : Option Addr) (c c' : Nat) (a b : List Nat) (w : World) (hsa : Sl w A a.length (lims a)) (hsb : Sl w B b.length (lims b)) (all1 : AllB a) (all2 : AllB b) (la : a.length ≤ 70368744177663) (lb : b.length ≤ 70368744177663) :
    Calls Tryd.prog 63 #[.slice A a.length c, .slice B b.length c'] w fun e w' => ∃ v, e = .returned v ∧ NRes w w' v (val a + val b) (max a.length b.length + 1) := by
  by_cases hm : a.length < b.length
  · have hmk := run_mkI (P := Tryd.prog) Tryd.underlying50 infoU32 rfl ((b.length : Int) + 1) (b.length + 1) (by omega) (by omega) (by omega)
    go_enter Tryd.func63, Tryd.ntmps63
    go_wp2
    clear hmk
    go_loopw [6, 7] (fun cr i wr => ∃ (k cy : Nat) (so : List Nat), k ≤ b.length + 1 ∧ i = .int .i64 (k : Int) ∧ cr = .int .u64 (cy : Int) ∧ cy ≤ 1 ∧ Hid (so.length = k) ∧ AllB so ∧ Hid (val so + cy * bp k = val (a.take k) + val (b.take k)) ∧ Row wr w.heap.size 69 (lims (so ++ List.replicate (b.length + 1 - k) 0)) ∧ Below w.heap.size w wr) (fun _ i _ => b.length + 1 - (intOf i).toNat)
    case atStart => exact ⟨0, 0, [], by omega, rfl, rfl, by omega, rfl, AllB.nil, by simp [Hid, val], by rw [List.nil_append, lims_zeros]; exact Row.newz _ _ _ _, (Below.refl _ _).alloc (Nat.le_refl _) _⟩
    case round =>
      obtain ⟨k, cy, so, hk, rfl, rfl, hcy, hso, hall, hval, hrow, hb⟩ := hrel
      have zl : w.heap.size < wr.heap.size := hrow.lt
      by_cases hlt : k < b.length + 1
      · have hc0 : wr.cell? ⟨w.heap.size, k, none⟩ = some (.int .u32 0) := by
          rw [hrow.cell, lims_get _ (by simp [hso.out]; omega), pad_get _ _ _ hso.out (by omega)]; rfl
        have hf0 : wr.frozen? ⟨w.heap.size, k, none⟩ = false := hrow.frozen k
        have HX := Lib.hid (val_take_succ a k)
        have HY := Lib.hid (val_take_succ b k)
        have hx := all1.getD k
        have hy := all2.getD k
        generalize hxe : a.getD k 0 = xx at *
        generalize hye : b.getD k 0 = yy at *
        have HXE := Lib.hid hxe
        have HYE := Lib.hid hye
        clear hxe hye
        go_wp2_with fail
        refine (rlimb_at A _ c a k _ _ (hsa.below hb) all1 (by omega) HXE.out).mono ?_
        rintro e w' ⟨rfl, rfl⟩
        go_wp2_with fail
        refine (rlimb_at B _ c' b k _ _ (hsb.below hb) all2 (by omega) HYE.out).mono ?_
        rintro e w' ⟨rfl, rfl⟩
        go_wp2_with fail
        go_roundw
        case rel =>
          refine ⟨k + 1, (xx + yy + cy) / 4294967296, so ++ [(xx + yy + cy) % 4294967296], by omega, by go_num, rfl, by omega, by unfold Hid; rw [List.length_append, hso.out]; rfl, hall.snoc (by omega), ?_, ?_, hb.setCell (Nat.le_refl _) _⟩
          · unfold Hid
            rw [val_snoc, hso.out, HX.out, HY.out, bp_succ]
            exact add_step (by omega) hval.out
          · rw [← pad_set _ _ _ _ hso.out (by omega), ← lims_set]
            exact hrow.set_ k _
        case measure => simp [intOf]; omega
      · obtain rfl : k = b.length + 1 := by omega
        have hrow' : Row wr w.heap.size 69 (lims so) := by simpa using hrow
        have hsl := hrow'.sl
        rw [lims_len, hso.out] at hsl
        have hval' : val so = val a + val b := by
          have e := hval.out
          rw [val_take_all _ (by omega), val_take_all _ (by omega)] at e
          have h1 := val_lt all1
          have h2 := val_lt all2
          have h3 := bp_mono (show a.length ≤ b.length by omega)
          have h4 := bp_mono (show b.length ≤ b.length by omega)
          rw [bp_succ] at e
          have hcz : cy = 0 := by
            rcases Nat.eq_zero_or_pos cy with h | h
            · exact h
            · have : cy = 1 := by omega
              subst this
              have := bp_pos (b.length)
              omega
          subst hcz
          omega
        have HV := Lib.hid hval'
        clear hval'
        go_wp2_with fail
        refine (rnorm_core _ (b.length + 1) (b.length + 1) so _ hsl (by omega) (by omega) (by omega) hall).mono ?_
        rintro e w1 ⟨v, rfl, ls, h1, h2, h3, h4, h5, h6⟩
        go_wp2_with fail
        go_ret
        exact ⟨v, rfl, ls, h1, h2, by rw [h3, HV.out], by omega, h5.mono (by omega), hb.trans (h6.mono hb.size)⟩
  · have hmk := run_mkI (P := Tryd.prog) Tryd.underlying50 infoU32 rfl ((a.length : Int) + 1) (a.length + 1) (by omega) (by omega) (by omega)
    go_enter Tryd.func63, Tryd.ntmps63
    go_wp2
    clear hmk
    go_loopw [6, 7] (fun cr i wr => ∃ (k cy : Nat) (so : List Nat), k ≤ a.length + 1 ∧ i = .int .i64 (k : Int) ∧ cr = .int .u64 (cy : Int) ∧ cy ≤ 1 ∧ Hid (so.length = k) ∧ AllB so ∧ Hid (val so + cy * bp k = val (a.take k) + val (b.take k)) ∧ Row wr w.heap.size 69 (lims (so ++ List.replicate (a.length + 1 - k) 0)) ∧ Below w.heap.size w wr) (fun _ i _ => a.length + 1 - (intOf i).toNat)
    case atStart => exact ⟨0, 0, [], by omega, rfl, rfl, by omega, rfl, AllB.nil, by simp [Hid, val], by rw [List.nil_append, lims_zeros]; exact Row.newz _ _ _ _, (Below.refl _ _).alloc (Nat.le_refl _) _⟩
    case round =>
      obtain ⟨k, cy, so, hk, rfl, rfl, hcy, hso, hall, hval, hrow, hb⟩ := hrel
      have zl : w.heap.size < wr.heap.size := hrow.lt
      by_cases hlt : k < a.length + 1
      · have hc0 : wr.cell? ⟨w.heap.size, k, none⟩ = some (.int .u32 0) := by
          rw [hrow.cell, lims_get _ (by simp [hso.out]; omega), pad_get _ _ _ hso.out (by omega)]; rfl
        have hf0 : wr.frozen? ⟨w.heap.size, k, none⟩ = false := hrow.frozen k
        have HX := Lib.hid (val_take_succ a k)
        have HY := Lib.hid (val_take_succ b k)
        have hx := all1.getD k
        have hy := all2.getD k
        generalize hxe : a.getD k 0 = xx at *
        generalize hye : b.getD k 0 = yy at *
        have HXE := Lib.hid hxe
        have HYE := Lib.hid hye
        clear hxe hye
        go_wp2_with fail
        refine (rlimb_at A _ c a k _ _ (hsa.below hb) all1 (by omega) HXE.out).mono ?_
        rintro e w' ⟨rfl, rfl⟩
        go_wp2_with fail
        refine (rlimb_at B _ c' b k _ _ (hsb.below hb) all2 (by omega) HYE.out).mono ?_
        rintro e w' ⟨rfl, rfl⟩
        go_wp2_with fail
        go_roundw
        case rel =>
          refine ⟨k + 1, (xx + yy + cy) / 4294967296, so ++ [(xx + yy + cy) % 4294967296], by omega, by go_num, rfl, by omega, by unfold Hid; rw [List.length_append, hso.out]; rfl, hall.snoc (by omega), ?_, ?_, hb.setCell (Nat.le_refl _) _⟩
          · unfold Hid
            rw [val_snoc, hso.out, HX.out, HY.out, bp_succ]
            exact add_step (by omega) hval.out
          · rw [← pad_set _ _ _ _ hso.out (by omega), ← lims_set]
            exact hrow.set_ k _
        case measure => simp [intOf]; omega
      · obtain rfl : k = a.length + 1 := by omega
        have hrow' : Row wr w.heap.size 69 (lims so) := by simpa using hrow
        have hsl := hrow'.sl
        rw [lims_len, hso.out] at hsl
        have hval' : val so = val a + val b := by
          have e := hval.out
          rw [val_take_all _ (by omega), val_take_all _ (by omega)] at e
          have h1 := val_lt all1
          have h2 := val_lt all2
          have h3 := bp_mono (show a.length ≤ a.length by omega)
          have h4 := bp_mono (show b.length ≤ a.length by omega)
          rw [bp_succ] at e
          have hcz : cy = 0 := by
            rcases Nat.eq_zero_or_pos cy with h | h
            · exact h
            · have : cy = 1 := by omega
              subst this
              have := bp_pos (a.length)
              omega
          subst hcz
          omega
        have HV := Lib.hid hval'
        clear hval'
        go_wp2_with fail
        refine (rnorm_core _ (a.length + 1) (a.length + 1) so _ hsl (by omega) (by omega) (by omega) hall).mono ?_
        rintro e w1 ⟨v, rfl, ls, h1, h2, h3, h4, h5, h6⟩
        go_wp2_with fail
        go_ret
        exact ⟨v, rfl, ls, h1, h2, by rw [h3, HV.out], by omega, h5.mono (by omega), hb.trans (h6.mono hb.size)⟩

theorem radd_wide (v u : Value) (la lb : List Nat) (w : World) (ha : Lim w v la) (hb : Lim w u lb) (h1 : la.length ≤ 70368744177663) (h2 : lb.length ≤ 70368744177663) :
    Calls Tryd.prog 63 #[v, u] w fun e w' => ∃ v, e = .returned v ∧ NRes w w' v (val la + val lb) (max la.length lb.length + 1) := by
  obtain ⟨⟨A, c, rfl, hn, hc, hs⟩, hall⟩ := ha
  obtain ⟨⟨B, c', rfl, hn', hc', hs'⟩, hall'⟩ := hb
  exact radd_core A B c c' la lb w hs hs' hall hall' h1 h2
theorem radd_any (v u : Value) (la lb : List Nat) (w : World) (ha : Lim w v la) (hb : Lim w u lb) (h1 : la.length ≤ 1000000000) (h2 : lb.length ≤ 1000000000) :
    Calls Tryd.prog 63 #[v, u] w fun e w' => ∃ v, e = .returned v ∧ NRes w w' v (val la + val lb) (max la.length lb.length + 1) :=
  radd_wide v u la lb w ha hb (by omega) (by omega)

set_option maxHeartbeats 4000000 in
theorem rmul_core (A B : Option Addr) (c c' : Nat) (a b : List Nat) (w : World) (hsa : Sl w A a.length (lims a)) (hsb : Sl w B b.length (lims b)) (all1 : AllB a) (all2 : AllB b)
    (hsum : a.length + b.length ≤ 70368744177664) :
    Calls Tryd.prog 39 #[.slice A a.length c, .slice B b.length c'] w fun e w' => ∃ v, e = .returned v ∧ NRes w w' v (val a * val b) (a.length + b.length) := by
  have hmk := run_mkI (P := Tryd.prog) Tryd.underlying50 infoU32 rfl ((a.length : Int) + (b.length : Int)) (a.length + b.length) (by omega) (by omega) (by omega)
  go_enter Tryd.func39, Tryd.ntmps39
  go_wp2
  clear hmk
  go_loopw [6] (fun i wr => ∃ (k : Nat) (so : List Nat), k ≤ a.length ∧ i = .int .i64 (k : Int) ∧ Hid (so.length = k + b.length) ∧ AllB so ∧ Hid (val so = val (a.take k) * val b) ∧ Row wr w.heap.size 69 (lims (so ++ List.replicate (a.length - k) 0)) ∧ Below w.heap.size w wr) (fun i _ => a.length - (intOf i).toNat)
  case atStart =>
    refine ⟨0, List.replicate b.length 0, by omega, rfl, by simp [Hid], AllB.zeros _, by simp [Hid, val_zeros, val], ?_, (Below.refl _ _).alloc (Nat.le_refl _) _⟩
    rw [List.replicate_append_replicate, Nat.sub_zero, Nat.add_comm b.length, lims_zeros]
    exact Row.newz _ _ _ _
  case round =>
    obtain ⟨k, so, hk, rfl, hso, hall, hval, hrow, hb⟩ := hrel
    have zl : w.heap.size < wr.heap.size := hrow.lt
    by_cases hlt : k < a.length
    · obtain ⟨b1, o1, rfl, hb1, hcell⟩ := hsa.lim hlt
      have g1 : wr.cell? ⟨b1, o1 + k, none⟩ = some (.int .u32 ((a.getD k 0 : Nat) : Int)) := (hb.cell (p := ⟨b1, o1 + k, none⟩) hb1).trans (hcell k hlt)
      have hx := all1.getD k
      have HX := Lib.hid (val_take_succ a k)
      have hcellk := hcell k hlt
      clear hcell
      generalize a.getD k 0 = xx at *
      obtain ⟨wo, rfl⟩ : ∃ wo : World, wo = wr := ⟨_, rfl⟩
      go_wp2
      go_loopw [7, 8] (fun cr i wr => ∃ (j cy : Nat) (s : List Nat), j ≤ b.length ∧ i = .int .i64 (j : Int) ∧ cr = .int .u64 (cy : Int) ∧ cy < 4294967296 ∧ Hid (s.length = k + b.length) ∧ AllB s ∧ Hid (val s + cy * bp (k + j) = val (a.take k) * val b + xx * bp k * val (b.take j)) ∧ Row wr w.heap.size 69 (lims (s ++ List.replicate (a.length - k) 0)) ∧ Below w.heap.size w wr) (fun _ i _ => b.length - (intOf i).toNat)
      case atStart => exact ⟨0, 0, so, by omega, rfl, rfl, by omega, hso, hall, by unfold Hid; rw [hval.out]; simp [val], hrow, hb⟩
      case round =>
        obtain ⟨j, cy, s, hj, rfl, rfl, hcy, hsl, halls, hv, hr, hb'⟩ := hrel
        have zl' : w.heap.size < wr.heap.size := hr.lt
        by_cases hlt2 : j < b.length
        · obtain ⟨b2, o2, rfl, hb2, hcell⟩ := hsb.lim hlt2
          have g2 : wr.cell? ⟨b2, o2 + j, none⟩ = some (.int .u32 ((b.getD j 0 : Nat) : Int)) := (hb'.cell (p := ⟨b2, o2 + j, none⟩) hb2).trans (hcell j hlt2)
          have g1 : wr.cell? ⟨b1, o1 + k, none⟩ = some (.int .u32 (xx : Int)) := (hb'.cell (p := ⟨b1, o1 + k, none⟩) hb1).trans hcellk
          have hy := all2.getD j
          have HY := Lib.hid (val_take_succ b j)
          have hkj : k + j < s.length := by rw [hsl.out]; omega
          have HSet := Lib.hid (val_set s (k + j))
          have ho := halls.getD (k + j)
          have hc0 : wr.cell? ⟨w.heap.size, k + j, none⟩ = some (.int .u32 ((s.getD (k + j) 0 : Nat) : Int)) := by
            rw [hr.cell, lims_get _ (by simp; omega), getD_left _ _ hkj]
          have hf0 : wr.frozen? ⟨w.heap.size, k + j, none⟩ = false := hr.frozen (k + j)
          have HKJ := Lib.hid hkj
          clear hcell hkj
          generalize b.getD j 0 = yy at *
          generalize s.getD (k + j) 0 = oo at *
          have hmb := mul_bound hx hy ho hcy
          have hm0 : (xx : Int) * (yy : Int) = ((xx * yy : Nat) : Int) := by simp
          have hm1 : (0 : Int) ≤ (xx : Int) * (yy : Int) := by omega
          have hm2 : (xx : Int) * (yy : Int) + (oo : Int) + (cy : Int) < 18446744073709551616 := by omega
          have HM := Lib.hid hm0
          clear hm0 hmb
          have hm3 : (oo : Int) + (xx : Int) * (yy : Int) + (cy : Int) < 18446744073709551616 := by omega
          have hm4 : IntKind.u64.wrap ((xx : Int) * (yy : Int)) = (xx : Int) * (yy : Int) := by rw [IntKind.wrap_u64]; omega
          have hm5 : IntKind.u64.wrap ((oo : Int) + (xx : Int) * (yy : Int)) = (oo : Int) + (xx : Int) * (yy : Int) := by rw [IntKind.wrap_u64]; omega
          have hm6 : IntKind.u64.wrap ((oo : Int) + (xx : Int) * (yy : Int) + (cy : Int)) = (oo : Int) + (xx : Int) * (yy : Int) + (cy : Int) := by rw [IntKind.wrap_u64]; omega
          have hm7 : IntKind.i64.wrap ((k : Int) + (j : Int)) = (k : Int) + (j : Int) := by rw [IntKind.wrap_i64]; omega
          have hm8 : ((k : Int) + (j : Int)).toNat = k + j := by omega
          go_wp2
          go_quiet (fail)
          clear hm4 hm5 hm6 hm7 hm8
          go_wp2
          have e1 : ((oo : Int) + (xx : Int) * (yy : Int) + (cy : Int)) / 4294967296 = (((xx * yy + oo + cy) / 4294967296 : Nat) : Int) := by rw [HM.out]; omega
          have e2 : ((oo : Int) + (xx : Int) * (yy : Int) + (cy : Int)) % 4294967296 = (((xx * yy + oo + cy) % 4294967296 : Nat) : Int) := by rw [HM.out]; omega
          rw [e1, e2]
          go_roundw
          case rel =>
            refine ⟨j + 1, (xx * yy + oo + cy) / 4294967296, s.set (k + j) ((xx * yy + oo + cy) % 4294967296), by omega, by go_num, rfl, by have := mul_bound hx hy ho hcy; omega, by unfold Hid; rw [List.length_set]; exact hsl.out, halls.set _ (by omega), ?_, ?_, below_drewN (hb'.setCell (Nat.le_refl _) _) _⟩
            · unfold Hid
              rw [show k + (j + 1) = (k + j) + 1 by omega, bp_succ, HY.out]
              exact mul_step (o := oo) (c := cy) (s := val s) (lo := (xx * yy + oo + cy) % 4294967296) (by omega) hv.out (HSet.out _ HKJ.out) (bp j) (bp_add k j)
            · have := hr.set_ (k + j) (.int .u32 (((xx * yy + oo + cy) % 4294967296 : Nat) : Int))
              rw [lims_set, List.set_append_left _ _ HKJ.out] at this
              exact Row.drewN this _
          case measure => simp [intOf]; omega
        · obtain rfl : j = b.length := by omega
          have hc0 : wr.cell? ⟨w.heap.size, k + b.length, none⟩ = some (.int .u32 0) := by
            rw [hr.cell, lims_get _ (by simp [hsl.out]; omega)]
            rw [List.getD_eq_getElem?_getD, List.getElem?_append_right (by rw [hsl.out]; omega), hsl.out, Nat.sub_self, List.getElem?_replicate, if_pos (by omega)]
            rfl
          have hf0 : wr.frozen? ⟨w.heap.size, k + b.length, none⟩ = false := hr.frozen _
          go_wp2
          go_roundw
          case rel =>
            refine ⟨k + 1, s ++ [cy], by omega, by go_num, by unfold Hid; rw [List.length_append, hsl.out]; simp; omega, halls.snoc hcy, ?_, ?_, hb'.setCell (Nat.le_refl _) _⟩
            · unfold Hid
              have e := hv.out
              rw [val_take_all _ (Nat.le_refl _), bp_add] at e
              rw [val_snoc, hsl.out, HX.out, bp_add]
              exact mul_last e
            · have := hr.set_ (k + b.length) (.int .u32 (cy : Int))
              rw [lims_set] at this
              have e : (s ++ List.replicate (a.length - k) 0).set (k + b.length) cy = s ++ [cy] ++ List.replicate (a.length - (k + 1)) 0 := by
                have := pad_set s (a.length + b.length) (k + b.length) cy hsl.out (by omega)
                rw [show a.length + b.length - (k + b.length) = a.length - k by omega, show a.length + b.length - (k + b.length + 1) = a.length - (k + 1) by omega] at this
                exact this
              rw [e] at this
              exact this
          case measure => simp [intOf]; omega
    · obtain rfl : k = a.length := by omega
      have hrow' : Row wr w.heap.size 69 (lims so) := by simpa using hrow
      have hsl := hrow'.sl
      rw [lims_len, hso.out] at hsl
      have HV := Lib.hid (show val so = val a * val b by rw [hval.out, val_take_all _ (Nat.le_refl _)])
      go_wp2_with fail
      refine (rnorm_core _ (a.length + b.length) (a.length + b.length) so _ hsl (by omega) (by omega) (by omega) hall).mono ?_
      rintro e w1 ⟨v, rfl, ls, h1, h2, h3, h4, h5, h6⟩
      go_wp2_with fail
      go_ret
      exact ⟨v, rfl, ls, h1, h2, by rw [h3, HV.out], by omega, h5.mono (by omega), hb.trans (h6.mono hb.size)⟩

theorem rmul_wide (v u : Value) (la lb : List Nat) (w : World) (ha : Lim w v la) (hb : Lim w u lb) (hsum : la.length + lb.length ≤ 70368744177664) :
    Calls Tryd.prog 39 #[v, u] w fun e w' => ∃ v, e = .returned v ∧ NRes w w' v (val la * val lb) (la.length + lb.length) := by
  obtain ⟨⟨A, c, rfl, hn, hc, hs⟩, hall⟩ := ha
  obtain ⟨⟨B, c', rfl, hn', hc', hs'⟩, hall'⟩ := hb
  exact rmul_core A B c c' la lb w hs hs' hall hall' hsum
theorem rmul_any (v u : Value) (la lb : List Nat) (w : World) (ha : Lim w v la) (hb : Lim w u lb) (h1 : la.length ≤ 1000000000) (h2 : lb.length ≤ 1000000000) :
    Calls Tryd.prog 39 #[v, u] w fun e w' => ∃ v, e = .returned v ∧ NRes w w' v (val la * val lb) (la.length + lb.length) := rmul_wide v u la lb w ha hb (by omega)
end Go.Proofs.YtoihjclkocffhaaDoor
