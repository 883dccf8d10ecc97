/- The walk of nat.estimate. -/
import Derived.Test.YtdmjgildgjpmcaaDoorKnx
import Derived.Test.YtdmjgildgjpmcaaDoorNatD
import Derived.Deep.QuietTactic
import Derived.BigQuiet
namespace Go.Proofs.YtdmjgildgjpmcaaDoor
open Go.RowKit
set_option linter.unusedVariables false

theorem val_two {l : List Nat} {k : Nat} (h : l.length = k + 2) : val l = (l.getD (k + 1) 0 * 4294967296 + l.getD k 0) * bp k + val (l.take k) := by
  have e : val l = val (l.take (k + 2)) := by rw [List.take_of_length_le (by omega)]
  rw [e, val_take_succ, val_take_succ, bp_succ]
  generalize bp k = K
  generalize l.getD k 0 = a
  generalize l.getD (k + 1) 0 = b
  grind
theorem val_three {l : List Nat} {k : Nat} (h : l.length = k + 3) : val l = ((l.getD (k + 2) 0 * 4294967296 + l.getD (k + 1) 0) * 4294967296 + l.getD k 0) * bp k + val (l.take k) := by
  have e : val l = val (l.take (k + 3)) := by rw [List.take_of_length_le (by omega)]
  rw [e, val_take_succ, val_take_succ, val_take_succ, show bp (k + 2) = bp (k + 1) * 4294967296 from bp_succ (k + 1), show bp (k + 1) = bp k * 4294967296 from bp_succ k]
  clear e
  generalize bp k = K
  generalize l.getD k 0 = a
  generalize l.getD (k + 1) 0 = b
  generalize l.getD (k + 2) 0 = c
  grind

set_option maxHeartbeats 8000000 in
theorem estimate_any (A D : Option Addr) (cA cD k : Nat) (ps dv : List Nat) (w : World) (hs : Sl w A (k + 3) (lims ps)) (hsd : Sl w D (k + 2) (lims dv)) (ha : AllB ps) (hd : AllB dv) (hk : k ≤ 1000000000) (hcA : k + 3 ≤ cA) (hcA2 : cA ≤ 9223372036854775807) (hcD : k + 2 ≤ cD) (hcD2 : cD ≤ 9223372036854775807)
    (hv1 : 2147483648 ≤ dv.getD (k + 1) 0) (hlt : val ps < 4294967296 * val dv) :
    Calls Tryd.prog 56 #[.slice A (k + 3) cA, .slice D (k + 2) cD] w fun e w' => ∃ Q d : Nat, e = .returned (.int .u64 (Q : Int)) ∧ Q < 4294967296 ∧ val ps / val dv ≤ Q ∧ Q ≤ val ps / val dv + 1 ∧ w' = w.drewN d := by
  have hpl : ps.length = k + 3 := by have := hs.1; rwa [lims_len] at this
  have hdl : dv.length = k + 2 := by have := hsd.1; rwa [lims_len] at this
  obtain ⟨b, o, rfl, hb, hc⟩ := hs.lim (show 0 < k + 3 by omega)
  obtain ⟨b', o', rfl, hb', hc'⟩ := hsd.lim (show 0 < k + 2 by omega)
  have p0 := hc k (by omega)
  have p1 := hc (k + 1) (by omega)
  have p2 := hc (k + 2) (by omega)
  have q0 := hc' k (by omega)
  have q1 := hc' (k + 1) (by omega)
  have EU := val_three hpl
  have EV := val_two hdl
  have hul := val_lt (ha.take k)
  have hvl := val_lt (hd.take k)
  rw [List.length_take, Nat.min_eq_left (by omega)] at hul hvl
  have x0 := ha.getD k
  have x1 := ha.getD (k + 1)
  have x2 := ha.getD (k + 2)
  have y0 := hd.getD k
  have y1 := hd.getD (k + 1)
  clear hc hc' hs hsd
  generalize ps.getD k 0 = u0 at *
  generalize ps.getD (k + 1) 0 = u1 at *
  generalize ps.getD (k + 2) 0 = u2 at *
  generalize dv.getD k 0 = v0 at *
  generalize dv.getD (k + 1) 0 = v1 at *
  generalize val (ps.take k) = ul at *
  generalize val (dv.take k) = vl at *
  generalize val ps = u at *
  generalize val dv = v at *
  have hX := bp_pos k
  generalize bp k = X at *
  have hu2 := est_top hX EU rfl EV rfl hvl y0 hlt
  have hqB : u / v < 4294967296 := Nat.div_lt_of_lt_mul (by rw [Nat.mul_comm]; exact hlt)
  have HF := Lib.hid (est_first (top := u2 * 4294967296 + u1) hX EU rfl hul x0 EV rfl (by omega))
  have HDN := Lib.hid (fun q r => est_down (top := u2 * 4294967296 + u1) (q := q) (r := r) hX EU rfl hul EV rfl)
  have HLS := Lib.hid (fun q r => est_last (top := u2 * 4294967296 + u1) (q := q) (r := r) EU rfl EV rfl hvl (by omega))
  obtain ⟨T, hT⟩ : ∃ T, u2 * 4294967296 + u1 = T := ⟨_, rfl⟩
  rw [hT] at HF HDN HLS
  have hTT : T < 18446744073709551616 ∧ T ≤ v1 * 4294967296 + u1 := by omega
  have hor := or_limb u2 u1 x2 x1
  have hT' : (u2 : Int) * 4294967296 + (u1 : Int) = (T : Int) := by omega
  rw [hT'] at hor
  have HT := Lib.hid hT
  clear hT hT' EU EV hul hvl hlt hX
  generalize u / v = q at *
  have i1 : ((k + 2 : Nat) : Int) = (k : Int) + 2 := by omega
  have i2 : IntKind.i64.wrap ((k : Int) + 2 - 1) = (k : Int) + 1 := by rw [IntKind.wrap_i64]; omega
  have i3 : IntKind.i64.wrap ((k : Int) + 2 - 2) = (k : Int) := by rw [IntKind.wrap_i64]; omega
  have i4 : ((k : Int) + 2).toNat = k + 2 := by omega
  have i5 : ((k : Int) + 1).toNat = k + 1 := by omega
  have i6 : (k : Int) + 2 - 1 = (k : Int) + 1 := by omega
  have i7 : 0 ≤ (k : Int) + 1 := by omega
  have i8 : 0 ≤ (k : Int) + 2 := by omega
  have i9 : (k : Int) + 2 < (k : Int) + 3 := by omega
  have i10 : (k : Int) + 1 < (k : Int) + 3 := by omega
  have i11 : (k : Int) + 1 < (k : Int) + 2 := by omega
  have w1 : IntKind.u64.wrap (u2 : Int) = (u2 : Int) := by rw [IntKind.wrap_u64]; omega
  have w2 : IntKind.u64.wrap (u1 : Int) = (u1 : Int) := by rw [IntKind.wrap_u64]; omega
  have w3 : IntKind.u64.wrap ((u2 : Int) * 4294967296) = (u2 : Int) * 4294967296 := by rw [IntKind.wrap_u64]; omega
  have HI := Lib.hid (⟨i2, i3, i4, i5⟩ : _ ∧ _ ∧ _ ∧ _)
  have hz : ((v1 : Int) == 0) = false := by rw [beq_eq_false_iff_ne]; omega
  have hv0 : 0 < v1 := by omega
  have hdm := Nat.div_add_mod T v1
  have hml := Nat.mod_lt T hv0
  have hQ1 : T / v1 ≤ 4294967297 := by
    have : T / v1 < 4294967298 := (Nat.div_lt_iff_lt_mul hv0).2 (by omega)
    omega
  have hQ0 : (T : Int) / (v1 : Int) = ((T / v1 : Nat) : Int) := (Int.natCast_ediv T v1).symm
  have hR0 : (T : Int) % (v1 : Int) = ((T % v1 : Nat) : Int) := (Int.natCast_emod T v1).symm
  generalize T / v1 = Q0 at *
  generalize T % v1 = R0 at *
  have HR0 := Lib.hid hR0
  have HDM := Lib.hid (show T = Q0 * v1 + R0 by rw [Nat.mul_comm]; exact hdm.symm)
  clear hdm
  go_enter Tryd.func56, Tryd.ntmps56
  go_wp2_with fail
  go_quiet (fail)
  clear i2 i3 i4 i5 i6 w1 w2 w3
  go_wp2_with fail
  rename_i nq
  clear hQ0 hR0 hor hz
  go_loopw [7, 8] (fun a b wr => ∃ Q R d : Nat, a = .int .u64 (Q : Int) ∧ b = .int .u64 (R : Int) ∧ Hid (T = Q * v1 + R) ∧ q ≤ Q ∧ R < 4294967296 ∧ Q ≤ 4294967297 ∧ wr = w.drewN d) (fun a _ _ => (intOf a).toNat)
  case atStart =>
    simp only [HR0.out]
    exact ⟨Q0, R0, _, rfl, rfl, HDM.out, HF.out, by omega, hQ1, rfl⟩
  case round =>
    obtain ⟨Q, R, d, rfl, rfl, hinv, hqQ, hR, hQm, rfl⟩ := hrel
    obtain ⟨i2, i3, i4, i5⟩ := HI.out
    have w4 : IntKind.u64.wrap ((R : Int) * 4294967296) = (R : Int) * 4294967296 := by rw [IntKind.wrap_u64]; omega
    have w5 : IntKind.u64.wrap (u0 : Int) = (u0 : Int) := by rw [IntKind.wrap_u64]; omega
    have w6 : IntKind.u64.wrap (v0 : Int) = (v0 : Int) := by rw [IntKind.wrap_u64]; omega
    have hor := or_limb R u0 hR x0
    have i12 : (k : Int) + 2 - 2 = (k : Int) := by omega
    have w7 : IntKind.i64.wrap (k : Int) = (k : Int) := by rw [IntKind.wrap_i64]; omega
    have i13 : 0 ≤ (k : Int) := by omega
    have i14 : (k : Int) < (k : Int) + 2 := by omega
    have i15 : (k : Int) < (k : Int) + 3 := by omega
    by_cases hbig : 4294967296 ≤ Q
    · have f1 : ((Q : Int) / 4294967296 != 0) = true := by rw [bne_iff_ne]; omega
      have HD := Lib.hid (show q ≤ Q - 1 by omega)
      have hmul : Q * v1 = (Q - 1) * v1 + v1 := by
        obtain ⟨z, rfl⟩ : ∃ z, Q = z + 1 := ⟨Q - 1, by omega⟩
        rw [Nat.add_sub_cancel, Nat.add_mul, Nat.one_mul]
      have HN := Lib.hid (show T = (Q - 1) * v1 + (R + v1) by clear HD; rw [hinv.out, hmul]; omega)
      have hQ1' : (1 : Int) ≤ (Q : Int) := by omega
      have hq1 : (Q : Int) - 1 = ((Q - 1 : Nat) : Int) := by omega
      go_wp2_with fail
      go_quiet (fail)
      clear i2 i3 i4 i5 w4 w5 w6 w7 hor i12
      go_wp2_with fail
      go_ways
      · rename_i hh
        rw [bne_iff_ne] at hh
        obtain ⟨g1, g2⟩ := est_break (q := Q - 1) (r := R + v1) HN.out (by omega) hTT.2 x1 y0
        go_ret
        exact ⟨Q - 1, _, rfl, g1, HD.out, HLS.out _ _ HN.out g1 g2, rfl⟩
      · rename_i hh
        rw [bne_eq_false_iff_eq] at hh
        refine ⟨⟨Q - 1, R + v1, _, rfl, by rw [Int.natCast_add], HN, HD.out, by omega, by omega, rfl⟩, ?_⟩
        simp only [intOf]
        omega
    · have f1 : ((Q : Int) / 4294967296 != 0) = false := by rw [bne_eq_false_iff_eq]; omega
      have hP : Q * v0 < 18446744073709551616 := by
        have : Q * v0 ≤ 4294967295 * 4294967295 := Nat.mul_le_mul (by omega) (by omega)
        omega
      obtain ⟨P, hPe⟩ : ∃ P, Q * v0 = P := ⟨_, rfl⟩
      rw [hPe] at hP
      have hPi : (Q : Int) * (v0 : Int) = (P : Int) := by rw [← hPe, Int.natCast_mul]
      have w8 : IntKind.u64.wrap (P : Int) = (P : Int) := by rw [IntKind.wrap_u64]; omega
      by_cases hc : R * 4294967296 + u0 < P
      · have HD' := HDN.out Q R hinv.out (by rw [hPe]; exact hc)
        have HD := Lib.hid (show q ≤ Q - 1 by omega)
        have hmul : Q * v1 = (Q - 1) * v1 + v1 := by
          obtain ⟨z, rfl⟩ : ∃ z, Q = z + 1 := ⟨Q - 1, by omega⟩
          rw [Nat.add_sub_cancel, Nat.add_mul, Nat.one_mul]
        have HN := Lib.hid (show T = (Q - 1) * v1 + (R + v1) by clear HD HD'; rw [hinv.out, hmul]; omega)
        have hQ1' : (1 : Int) ≤ (Q : Int) := by omega
        have hq1 : (Q : Int) - 1 = ((Q - 1 : Nat) : Int) := by omega
        have f2 : decide ((R : Int) * 4294967296 + (u0 : Int) < (P : Int)) = true := by rw [decide_eq_true_eq]; omega
        have HP := Lib.hid hPe
        clear hPe HD'
        go_wp2_with fail
        go_quiet (fail)
        clear i2 i3 i4 i5 w4 w5 w6 w7 w8 hor i12
        go_wp2_with fail
        go_ways
        · rename_i hh
          rw [bne_iff_ne] at hh
          obtain ⟨g1, g2⟩ := est_break (q := Q - 1) (r := R + v1) HN.out (by omega) hTT.2 x1 y0
          go_ret
          exact ⟨Q - 1, _, rfl, g1, HD.out, HLS.out _ _ HN.out g1 g2, rfl⟩
        · rename_i hh
          rw [bne_eq_false_iff_eq] at hh
          refine ⟨⟨Q - 1, R + v1, _, rfl, by rw [Int.natCast_add], HN, HD.out, by omega, by omega, rfl⟩, ?_⟩
          simp only [intOf]
          omega
      · have f2 : decide ((R : Int) * 4294967296 + (u0 : Int) < (P : Int)) = false := by rw [decide_eq_false_iff_not]; omega
        have HE := Lib.hid (HLS.out Q R hinv.out (by omega) (by rw [hPe]; omega))
        clear hPe
        go_wp2_with fail
        go_quiet (fail)
        clear i2 i3 i4 i5 w4 w5 w6 w7 w8 hor i12
        go_wp2_with fail
        go_ret
        exact ⟨Q, _, rfl, by omega, hqQ, HE.out, World.drewN_drewN _ _ _⟩
end Go.Proofs.YtdmjgildgjpmcaaDoor
