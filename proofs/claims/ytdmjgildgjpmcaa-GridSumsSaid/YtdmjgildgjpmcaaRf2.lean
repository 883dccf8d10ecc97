/- The walks of the reference's short, Shift, half (package examboardref01). -/
import Derived.Test.YtdmjgildgjpmcaaRf1
namespace Go.Proofs.Ytdmjgildgjpmcaa
open Go.RowKit
set_option linter.unusedVariables false

set_option maxHeartbeats 2000000 in
theorem rshort_any (A : Option Addr) (n c d : Nat) (ls : List Nat) (w : World) (hs : Sl w A n (lims ls)) (hall : AllB ls) (hn : n ≤ c) (hc : c ≤ 9223372036854775807) (hl : n ≤ 35184372088832) (hd : 0 < d) (hd2 : d < 4294967296) :
    Calls Try.prog 96 #[.slice A n c, .int .u64 (d : Int)] w fun e w' => ∃ v, e = .returned (.tuple #[v, .int .u64 ((val ls % d : Nat) : Int)]) ∧ NRes w w' v (val ls / d) n := by
  have hmk := run_mk (P := Try.prog) Try.underlying36 infoU32 rfl n (by omega) (by omega)
  have hln : ls.length = n := by have := hs.1; rwa [lims_len] at this
  have HLN := Lib.hid hln
  have HD := Lib.hid hd
  have HD0 : ((d : Int) == 0) = false := by rw [beq_eq_false_iff_ne]; omega
  clear hln
  go_enter Try.func96, Try.ntmps96
  go_wp2_with fail
  clear hmk
  go_loopw [7, 8] (fun rv i wr => ∃ (k R : Nat) (Q : List Nat), k ≤ n ∧ i = .int .i64 ((k : Int) - 1) ∧ rv = .int .u64 (R : Int) ∧ R < d ∧ Hid (Q.length = n - k) ∧ AllB Q ∧ Hid (val (ls.drop k) = val Q * d + R) ∧ Row wr w.heap.size 56 (lims (List.replicate k 0 ++ Q)) ∧ Below w.heap.size w wr) (fun _ i _ => (intOf i + 1).toNat)
  case atStart => exact ⟨n, 0, [], by omega, rfl, rfl, hd, by simp [Hid], AllB.nil, by unfold Hid; rw [List.drop_of_length_le (by rw [HLN.out]; omega)]; simp [val], by rw [List.append_nil, lims_zeros]; exact Row.newz _ _ _ _, (Below.refl _ _).alloc (Nat.le_refl _) _⟩
  case round =>
    obtain ⟨k, R, Q, hk, rfl, rfl, hR, hQ, hallQ, hval, hrow, hb⟩ := hrel
    rcases Nat.eq_zero_or_pos k with h0 | hp
    · subst h0
      have hrow' : Row wr w.heap.size 56 (lims Q) := by simpa using hrow
      have hsl := hrow'.sl
      rw [lims_len, hQ.out, Nat.sub_zero] at hsl
      have hv : val ls = val Q * d + R := by have := hval.out; rwa [List.drop_zero] at this
      have HV1 : Hid (val ls / d = val Q) := by unfold Hid; rw [hv, Nat.mul_comm, Nat.mul_add_div HD.out, Nat.div_eq_of_lt hR]; rfl
      have HV2 : Hid (val ls % d = R) := by unfold Hid; rw [hv, Nat.mul_comm, Nat.mul_add_mod, Nat.mod_eq_of_lt hR]
      clear hv hval
      go_wp2_with fail
      refine (rnorm_core _ n n Q _ hsl (by omega) (by omega) (by omega) hallQ).mono ?_
      rintro e w1 ⟨v, rfl, l1, h1, h2, h3, h4, h5, h6⟩
      go_wp2_with fail
      go_ret2
      exact ⟨v, by rw [HV2.out]; rfl, l1, h1, h2, by rw [h3, HV1.out], h4, h5.mono hb.size, hb.trans (h6.mono hb.size)⟩
    · obtain ⟨j, rfl⟩ : ∃ j, k = j + 1 := ⟨k - 1, by omega⟩
      have hjn : j < n := by omega
      obtain ⟨b1, o1, rfl, hb1, hcell⟩ := hs.lim hjn
      have g1 : wr.cell? ⟨b1, o1 + j, none⟩ = some (.int .u32 ((ls.getD j 0 : Nat) : Int)) := (hb.cell (p := ⟨b1, o1 + j, none⟩) hb1).trans (hcell j hjn)
      have hx := hall.getD j
      have HX := Lib.hid (val_drop_step ls j (by rw [HLN.out]; exact hjn))
      have hc0 : wr.cell? ⟨w.heap.size, j, none⟩ = some (.int .u32 0) := by
        rw [hrow.cell, lims_get _ (by simp; omega), fpad_get]; rfl
      have hf0 : wr.frozen? ⟨w.heap.size, j, none⟩ = false := hrow.frozen j
      generalize ls.getD j 0 = xx at *
      have hR2 : R < 4294967296 := by omega
      have HS := Lib.hid (div_step hval.out hR (by omega) hx)
      have hq1 := HS.out.2.1
      have hq2 := HS.out.2.2
      have e1 : ((((j + 1 : Nat) : Int)) - 1) = (j : Int) := by omega
      have E1 := Lib.hid e1
      have HQ1 : Hid (((R : Int) * 4294967296 + (xx : Int)) / (d : Int) % 4294967296 = (((R * 4294967296 + xx) / d : Nat) : Int)) := by
        unfold Hid
        rw [show ((R : Int) * 4294967296 + (xx : Int)) = ((R * 4294967296 + xx : Nat) : Int) by omega, ← Int.natCast_ediv]
        generalize (R * 4294967296 + xx) / d = q at *
        omega
      have HQ2 : Hid (((R : Int) * 4294967296 + (xx : Int)) % (d : Int) = (((R * 4294967296 + xx) % d : Nat) : Int)) := by
        unfold Hid
        rw [show ((R : Int) * 4294967296 + (xx : Int)) = ((R * 4294967296 + xx : Nat) : Int) by omega, ← Int.natCast_emod]
      clear hcell e1
      rw [E1.out]
      go_wp2_with fail
      rw [HQ1.out, HQ2.out]
      go_roundw
      case rel =>
        refine ⟨j, (R * 4294967296 + xx) % d, (R * 4294967296 + xx) / d :: Q, by omega, rfl, rfl, hq2, by unfold Hid; rw [List.length_cons, hQ.out]; omega, AllB.cons hq1 hallQ, ?_, ?_, hb.setCell (Nat.le_refl _) _⟩
        · unfold Hid
          rw [HX.out, HS.out.1]
          show _ = ((R * 4294967296 + xx) / d + 4294967296 * val Q) * d + _
          rfl
        · rw [← fpad_set, ← lims_set]
          exact hrow.set_ j _
      case measure => simp [intOf]

theorem pre_get (m k : Nat) (L : List Nat) : (List.replicate m 0 ++ L).getD (k + m) 0 = L.getD k 0 := by
  rw [List.getD_eq_getElem?_getD, List.getD_eq_getElem?_getD, List.getElem?_append_right (by simp)]
  simp
theorem pre_set (m k x : Nat) (L : List Nat) : (List.replicate m 0 ++ L).set (k + m) x = List.replicate m 0 ++ L.set k x := by
  rw [List.set_append_right _ _ (by simp)]
  simp
theorem val_pre (m : Nat) (L : List Nat) : val (List.replicate m 0 ++ L) = bp m * val L := by
  rw [val_append, val_zeros, List.length_replicate, Nat.zero_add]
set_option maxHeartbeats 8000000 in
theorem rshift_any (A : Option Addr) (c n : Nat) (a : List Nat) (w : World) (hsa : Sl w A a.length (lims a)) (hall0 : AllB a) (hc : c ≤ 9223372036854775807) (la : a.length + n / 32 < 35184372088832) :
    Calls Try.prog 97 #[.slice A a.length c, .int .i64 (n : Int)] w fun e w' => ∃ v, e = .returned v ∧ NRes w w' v (val a * 2 ^ n) (a.length + n / 32 + 1) := by
  obtain ⟨m, hm⟩ : ∃ m, n / 32 = m := ⟨_, rfl⟩
  obtain ⟨s, hs⟩ : ∃ s, n % 32 = s := ⟨_, rfl⟩
  have HMS : Hid (n = 32 * m + s) := by unfold Hid; omega
  have hs32 : s < 32 := by omega
  have em : (n : Int) / 32 = (m : Int) := by omega
  have es : (n : Int) % 32 = (s : Int) := by omega
  rw [hm] at la ⊢
  have hn0 : (n : Int) ≤ 2000000000000000 := by omega
  clear hm hs
  have hmk := run_mkI (P := Try.prog) Try.underlying36 infoU32 rfl ((a.length : Int) + (m : Int) + 1) (a.length + m + 1) (by omega) (by omega) (by omega)
  go_enter Try.func97, Try.ntmps97
  go_wp2_with fail
  clear hmk
  have hslt : 2 ^ s < 4294967296 := Nat.pow_lt_pow_right (by omega) hs32
  go_loopw [6] (fun i wr => ∃ (k cy : Nat) (so : List Nat), k ≤ a.length ∧ i = .int .i64 (k : Int) ∧ Hid (cy < 2 ^ s) ∧ Hid (so.length = k) ∧ AllB so ∧ Hid (val so + cy * bp k = 2 ^ s * val (a.take k)) ∧ Row wr w.heap.size 56 (lims (List.replicate m 0 ++ ((so ++ [cy]) ++ List.replicate (a.length - k) 0))) ∧ Below w.heap.size w wr) (fun i _ => a.length - (intOf i).toNat)
  case atStart => exact ⟨0, 0, [], by omega, rfl, Nat.pow_pos (by omega), rfl, AllB.nil, by simp [Hid, val], by
    have : List.replicate m 0 ++ ((([] : List Nat) ++ [0]) ++ List.replicate (a.length - 0) 0) = List.replicate (a.length + m + 1) 0 := by
      rw [List.nil_append, Nat.sub_zero, show ([0] : List Nat) = List.replicate 1 0 from rfl, List.replicate_append_replicate, List.replicate_append_replicate]; congr 1; omega
    rw [this, lims_zeros]; exact Row.newz _ _ _ _, (Below.refl _ _).alloc (Nat.le_refl _) _⟩
  case round =>
    obtain ⟨k, cy, so, hk, rfl, hcy, hso, hall, hval, hrow, hb⟩ := hrel
    have zl : w.heap.size < wr.heap.size := hrow.lt
    have hly : (List.replicate m 0 ++ ((so ++ [cy]) ++ List.replicate (a.length - k) 0)).length = a.length + m + 1 := by simp [hso.out]; omega
    by_cases hlt : k < a.length
    · obtain ⟨b1, o1, rfl, hb1, hcell⟩ := hsa.lim hlt
      have g1 : wr.cell? ⟨b1, o1 + k, none⟩ = some (.int .u32 ((a.getD k 0 : Nat) : Int)) := (hb.cell (p := ⟨b1, o1 + k, none⟩) hb1).trans (hcell k hlt)
      have hx := hall0.getD k
      have hc0 : wr.cell? ⟨w.heap.size, k + m, none⟩ = some (.int .u32 (cy : Int)) := by
        rw [hrow.cell, lims_get _ (by rw [hly]; omega), pre_get, sh_get0 _ _ _ _ hso.out]
      have hc1 : wr.cell? ⟨w.heap.size, k + m + 1, none⟩ = some (.int .u32 0) := by
        rw [show k + m + 1 = (k + 1) + m by omega, hrow.cell, lims_get _ (by rw [hly]; omega), pre_get, sh_get1 _ _ _ _ hso.out (by omega)]; rfl
      have hf0 : wr.frozen? ⟨w.heap.size, k + m, none⟩ = false := hrow.frozen _
      have hf1 : wr.frozen? ⟨w.heap.size, k + m + 1, none⟩ = false := hrow.frozen _
      have HX := Lib.hid (val_take_succ a k)
      clear hcell
      generalize a.getD k 0 = xx at *
      obtain ⟨T, hT⟩ : ∃ T, xx * 2 ^ s = T := ⟨_, rfl⟩
      have hTl : T < 18446744073709551616 := by
        have h1 : xx * 2 ^ s ≤ 4294967295 * 2 ^ s := Nat.mul_le_mul_right _ (by omega)
        omega
      have hTi : (xx : Int) * 2 ^ s = (T : Int) := by rw [← hT, Int.natCast_mul, Int.natCast_pow]; rfl
      have wT : IntKind.u64.wrap (T : Int) = (T : Int) := by rw [IntKind.wrap_u64]; omega
      obtain ⟨d1, d2, d3⟩ := shl_digit hs32 hcy.out hx
      rw [hT] at d1 d2 d3
      have m1 : (T : Int) % 4294967296 = ((T % 4294967296 : Nat) : Int) := by omega
      have m2 : (T : Int) / 4294967296 = ((T / 4294967296 : Nat) : Int) := by omega
      have hor : bits .or .u32 (cy : Int) ((T % 4294967296 : Nat) : Int) = ((cy + T % 4294967296 : Nat) : Int) := by
        rw [u32_or_nat _ _ (by omega) (by omega), d1]
      have HSH := Lib.hid (shl_step (lo := cy + T % 4294967296) (hi := T / 4294967296) (2 ^ s) hval.out (by rw [hT]; omega) HX.out)
      have HD3 := Lib.hid d3
      have hhi : T / 4294967296 < 4294967296 := by omega
      have hkm : (k : Int) + (m : Int) ≤ 35184372088832 := by omega
      generalize cy + T % 4294967296 = lo at *
      generalize T / 4294967296 = hi at *
      generalize T % 4294967296 = tl at *
      have HD2 := Lib.hid d2
      go_wp2_with fail
      refine ⟨⟨k + 1, hi, so ++ [lo], by omega, by go_num, HD3.out, by unfold Hid; rw [List.length_append, hso.out]; rfl, hall.snoc HD2.out, ?_, ?_, (hb.setCell (Nat.le_refl _) _).setCell (Nat.le_refl _) _⟩, ?_⟩
      · unfold Hid
        rw [val_snoc, hso.out, bp_succ]
        exact HSH.out
      · have e := (hrow.set_ (k + m) (.int .u32 (lo : Int))).set_ (k + m + 1) (.int .u32 (hi : Int))
        rw [lims_set, lims_set, pre_set, show k + m + 1 = (k + 1) + m by omega, pre_set, sh_set _ _ _ _ _ _ hso.out (by omega)] at e
        rw [show k + 1 + m = k + m + 1 by omega] at e
        exact e
      · simp [intOf]; omega
    · obtain rfl : k = a.length := by omega
      rw [Nat.sub_self, List.replicate_zero, List.append_nil] at hrow hly
      have hsl := hrow.sl
      rw [lims_len, hly] at hsl
      have HV := Lib.hid (show val (List.replicate m 0 ++ (so ++ [cy])) = val a * 2 ^ n by
        have e := hval.out
        rw [val_take_all _ (Nat.le_refl _)] at e
        rw [val_pre, val_snoc, hso.out, Nat.mul_comm (bp a.length), e, HMS.out, bp_two, Nat.pow_add]
        generalize 2 ^ (32 * m) = x
        generalize 2 ^ s = y
        grind)
      have HA : Hid (AllB (List.replicate m 0 ++ (so ++ [cy]))) := (AllB.zeros m).append (hall.snoc (show cy < 4294967296 from Nat.lt_trans hcy.out hslt))
      clear hly
      go_wp2_with fail
      refine (rnorm_core _ (a.length + m + 1) (a.length + m + 1) _ _ hsl (by omega) (by omega) (by omega) HA.out).mono ?_
      rintro e w1 ⟨v, rfl, l1, h1, h2, h3, h4, h5, h6⟩
      go_wp2_with fail
      go_ret
      exact ⟨v, rfl, l1, h1, h2, by rw [h3, HV.out], h4, h5.mono hb.size, hb.trans (h6.mono hb.size)⟩

theorem rlimb_next (A : Option Addr) (n c : Nat) (ls : List Nat) (k x : Nat) (w : World) (hs : Sl w A n (lims ls)) (hall : AllB ls) (hi : k + 1 ≤ 9223372036854775807) (he : ls.getD (k + 1) 0 = x) :
    Calls Try.prog 85 #[.slice A n c, .int .i64 ((k : Int) + 1)] w fun e w' => e = .returned (.int .u64 (x : Int)) ∧ w = w' := by
  rw [show (k : Int) + 1 = ((k + 1 : Nat) : Int) by omega]
  exact rlimb_at A n c ls (k + 1) x w hs hall hi he
set_option maxHeartbeats 8000000 in
theorem rhalf_any (v : Value) (a : List Nat) (w : World) (h : Lim w v a) (la : a.length ≤ 35184372088832) :
    Calls Try.prog 98 #[v] w fun e w' => ∃ v, e = .returned v ∧ NRes w w' v (val a / 2) a.length := by
  obtain ⟨⟨A, c, rfl, hac, hc, hsa⟩, hall0⟩ := h
  unfold maxLen at hc
  obtain ⟨n, hn⟩ : ∃ n, a.length = n := ⟨_, rfl⟩
  have HN := Lib.hid hn
  rw [hn] at hsa hac la ⊢
  clear hn hac
  have hmk := run_mkI (P := Try.prog) Try.underlying36 infoU32 rfl (n : Int) n (by omega) (by omega) (by omega)
  go_enter Try.func98, Try.ntmps98
  go_wp2_with fail
  clear hmk
  go_loopw [4] (fun i wr => ∃ (k : Nat) (so : List Nat), k ≤ n ∧ i = .int .i64 (k : Int) ∧ Hid (so.length = k) ∧ AllB so ∧ Hid (val so * 2 ^ 1 + a.getD 0 0 % 2 ^ 1 = val (a.take k) + a.getD k 0 % 2 ^ 1 * bp k) ∧ Row wr w.heap.size 56 (lims (so ++ List.replicate (n - k) 0)) ∧ Below w.heap.size w wr) (fun i _ => n - (intOf i).toNat)
  case atStart => exact ⟨0, [], by omega, rfl, rfl, AllB.nil, by simp [Hid, val, bp], by
    rw [List.nil_append, lims_zeros]; exact Row.newz _ _ _ _, (Below.refl _ _).alloc (Nat.le_refl _) _⟩
  case round =>
    obtain ⟨k, so, hk, rfl, hso, hall, hval, hrow, hb⟩ := hrel
    have zl : w.heap.size < wr.heap.size := hrow.lt
    by_cases hlt : k < n
    · obtain ⟨b1, o1, rfl, hb1, hcell⟩ := hsa.lim hlt
      have g1 : wr.cell? ⟨b1, o1 + k, none⟩ = some (.int .u32 ((a.getD k 0 : Nat) : Int)) := (hb.cell (p := ⟨b1, o1 + k, none⟩) hb1).trans (hcell k hlt)
      have hx := hall0.getD k
      have hy := hall0.getD (k + 1)
      have hc0 : wr.cell? ⟨w.heap.size, k, none⟩ = some (.int .u32 0) := by
        rw [hrow.cell, lims_get _ (by simp [hso.out]; omega), pad_get _ _ _ hso.out (by omega)]; rfl
      have hf0 : wr.frozen? ⟨w.heap.size, k, none⟩ = false := hrow.frozen k
      have HX := Lib.hid (val_take_succ a k)
      have HSH := Lib.hid (shr_step (P := 2 ^ 1) hval.out (shr_digit (y := a.getD (k + 1) 0) (by omega) hx))
      clear hcell
      obtain ⟨yy, hye⟩ : ∃ yy, a.getD (k + 1) 0 = yy := ⟨_, rfl⟩
      rw [hye] at hy HSH
      have HYE := Lib.hid hye
      clear hye
      generalize a.getD k 0 = xx at *
      obtain ⟨D, hD⟩ : ∃ D, (xx + yy * 4294967296) / 2 ^ 1 % 4294967296 = D := ⟨_, rfl⟩
      rw [hD] at HSH
      have HDL := Lib.hid (show D < 4294967296 by rw [← hD]; exact Nat.mod_lt _ (by omega))
      have hD2 : (xx + yy * 4294967296) / 2 % 4294967296 = D := hD
      have hDi : ((yy : Int) * 4294967296 + (xx : Int)) / 2 % 4294967296 = (D : Int) := by omega
      clear hD hD2
      have wY : IntKind.u64.wrap ((yy : Int) * 4294967296) = (yy : Int) * 4294967296 := by rw [IntKind.wrap_u64]; omega
      have wS : IntKind.u64.wrap ((yy : Int) * 4294967296 + (xx : Int)) = (yy : Int) * 4294967296 + (xx : Int) := by rw [IntKind.wrap_u64]; omega
      have wk : IntKind.i64.wrap ((k : Int) + 1) = (k : Int) + 1 := by rw [IntKind.wrap_i64]; omega
      have hkI : (k : Int) < (n : Int) := by omega
      have hk0 : (0 : Int) ≤ (k : Int) := by omega
      have wX : IntKind.u64.wrap (xx : Int) = (xx : Int) := by rw [IntKind.wrap_u64]; omega
      have wD : IntKind.u32.wrap (((yy : Int) * 4294967296 + (xx : Int)) / 2) = (D : Int) := by rw [IntKind.wrap_u32]; exact hDi
      have hkeep : ∀ x, ((wr.setCell ⟨w.heap.size, k, none⟩ x).drew).cell? ⟨b1, o1 + k, none⟩ = some (.int .u32 (xx : Int)) := fun x => by
        show (wr.setCell ⟨w.heap.size, k, none⟩ x).cell? ⟨b1, o1 + k, none⟩ = _
        rw [World.cell?_setCell_other _ _ _ _ (fun e => by injection e with e1; omega)]; exact g1
      have zb1 : b1 < wr.heap.size := Nat.lt_of_lt_of_le hb1 hb.size
      go_wp2_with fail
      go_region_held3 (fun w' => w'.cell? ⟨b1, o1 + k, none⟩ = some (.int .u32 (xx : Int))) (first | exact g1 | exact hkeep _)
        (first
          | (go_at_call 85; ((with_reducible refine (rlimb_next (some ⟨b1, o1, none⟩) n c a k yy _ (hsa.below ?_) hall0 ?_ HYE.out).mono ?_); (first | exact hb | exact hb.drew); omega; rintro e w5 ⟨rfl, rfl⟩)))
      all_goals
        go_wp2_with fail
        go_roundw
        case rel =>
          refine ⟨k + 1, so ++ [D], by omega, by go_num, by unfold Hid; rw [List.length_append, hso.out]; rfl, hall.snoc HDL.out, ?_, ?_, (hb.setCell (Nat.le_refl _) _).drew⟩
          · unfold Hid
            rw [val_snoc, hso.out, HX.out, bp_succ, HYE.out]
            exact HSH.out
          · rw [← pad_set _ _ _ _ hso.out (by omega), ← lims_set]
            exact (hrow.set_ k _).drew
        case measure => simp [intOf]; omega
    · obtain rfl : n = k := by omega
      rw [Nat.sub_self, List.replicate_zero, List.append_nil] at hrow
      have hz : a.getD n 0 = 0 := by rw [List.getD_eq_getElem?_getD, List.getElem?_eq_none (by rw [HN.out]; exact Nat.le_refl _)]; rfl
      have hsl := hrow.sl
      rw [lims_len, hso.out] at hsl
      have HV := Lib.hid (show val so = val a / 2 by
        have e := hval.out
        rw [val_take_all a (by rw [HN.out]; exact Nat.le_refl _), hz, Nat.zero_mod, Nat.zero_mul, Nat.add_zero] at e
        exact shr_end e (Nat.mod_lt _ (by omega)))
      clear hz
      go_wp2_with fail
      refine (rnorm_core _ n n so _ hsl (by omega) (by omega) (by omega) hall).mono ?_
      rintro e w1 ⟨v, rfl, l1, h1, h2, h3, h4, h5, h6⟩
      go_wp2_with fail
      go_ret
      exact ⟨v, rfl, l1, h1, h2, by rw [h3, HV.out], h4, h5.mono hb.size, hb.trans (h6.mono hb.size)⟩
end Go.Proofs.Ytdmjgildgjpmcaa
