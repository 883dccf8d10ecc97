/- The walk of nat.shiftRight. -/
import Derived.Test.YtdmjgildgjpmcaaDoorKnz
import Derived.Test.YtdmjgildgjpmcaaDoorNatD
import Derived.Deep.QuietTactic
import Derived.BigQuiet
namespace Go.Proofs.YtdmjgildgjpmcaaDoor
open Go.RowKit
set_option linter.unusedVariables false

theorem limb_or (R x : Nat) (hR : R < 4294967296) (hx : x < 4294967296) : bits .or .u64 (x : Int) ((R : Int) * 4294967296) = (R : Int) * 4294967296 + (x : Int) := by
  rw [← or_limb R x hR hx]
  have h1 : ((R : Int) * 4294967296) = ((R * 4294967296 : Nat) : Int) := by omega
  rw [h1, u64_or_nat _ _ (by omega) (by omega), u64_or_nat _ _ (by omega) (by omega), Nat.or_comm]

theorem cast_shr (t s : Nat) : (t : Int) / 2 ^ s % 4294967296 = ((t / 2 ^ s % 4294967296 : Nat) : Int) := by
  rw [Int.natCast_emod, Int.natCast_ediv, Int.natCast_pow]; rfl

set_option maxHeartbeats 8000000 in
theorem shiftRight_any (A : Option Addr) (c s : Nat) (a : List Nat) (w : World) (hsa : Sl w A a.length (lims a)) (hall0 : AllB a) (hc : c ≤ 9223372036854775807) (la : a.length ≤ 1000000000) (hs : s < 32) :
    Calls Tryd.prog 59 #[.slice A a.length c, .int .i64 (s : Int)] w fun e w' => ∃ rs : List Nat, e = .returned (.slice (some ⟨w.heap.size, 0, none⟩) a.length a.length) ∧ rs.length = a.length ∧ AllB rs ∧ val rs = val a / 2 ^ s ∧ Row w' w.heap.size 42 (lims rs) ∧ Below w.heap.size w w' := by
  go_enter Tryd.func59, Tryd.ntmps59
  have hmk := run_mkI (P := Tryd.prog) Tryd.underlying26 infoU32 rfl (a.length : Int) a.length (by omega) (by omega) (by omega)
  go_wp2_with fail
  clear hmk
  have hP : 0 < 2 ^ s := Nat.pow_pos (by omega)
  have hslt : 2 ^ s < 4294967296 := Nat.pow_lt_pow_right (by omega) hs
  go_loopw [14] (fun i wr => ∃ (k : Nat) (so : List Nat), k ≤ a.length ∧ i = .int .i64 (k : Int) ∧ Hid (so.length = k) ∧ AllB so ∧ Hid (val so * 2 ^ s + a.getD 0 0 % 2 ^ s = val (a.take k) + a.getD k 0 % 2 ^ s * bp k) ∧ Row wr w.heap.size 42 (lims (so ++ List.replicate (a.length - k) 0)) ∧ Below w.heap.size w wr) (fun i _ => a.length - (intOf i).toNat)
  case atStart => exact ⟨0, [], by omega, rfl, rfl, AllB.nil, by simp [Hid, val, bp], by
    rw [List.nil_append, lims_zeros]; exact Row.newz _ _ _ _, (Below.refl _ _).alloc (Nat.le_refl _) _⟩
  case round =>
    obtain ⟨k, so, hk, rfl, hso, hall, hval, hrow, hb⟩ := hrel
    have zl : w.heap.size < wr.heap.size := hrow.lt
    by_cases hlt : k < a.length
    · obtain ⟨b1, o1, rfl, hb1, hcell⟩ := hsa.lim hlt
      have g1 : wr.cell? ⟨b1, o1 + k, none⟩ = some (.int .u32 ((a.getD k 0 : Nat) : Int)) := (hb.cell (p := ⟨b1, o1 + k, none⟩) hb1).trans (hcell k hlt)
      have hx := hall0.getD k
      have hy := hall0.getD (k + 1)
      have hc0 : wr.cell? ⟨w.heap.size, k, none⟩ = some (.int .u32 0) := by
        rw [hrow.cell, lims_get _ (by simp [hso.out]; omega), pad_get _ _ _ hso.out (by omega)]; rfl
      have hf0 : wr.frozen? ⟨w.heap.size, k, none⟩ = false := hrow.frozen k
      have HX := Lib.hid (val_take_succ a k)
      have HSH := Lib.hid (shr_step (P := 2 ^ s) hval.out (shr_digit (y := a.getD (k + 1) 0) hs hx))
      by_cases hl2 : k + 1 < a.length
      · have g2 : wr.cell? ⟨b1, o1 + (k + 1), none⟩ = some (.int .u32 ((a.getD (k + 1) 0 : Nat) : Int)) := (hb.cell (p := ⟨b1, o1 + (k + 1), none⟩) hb1).trans (hcell (k + 1) hl2)
        clear hcell
        obtain ⟨yy, hye⟩ : ∃ yy, a.getD (k + 1) 0 = yy := ⟨_, rfl⟩
        rw [hye] at g2 hy HSH
        have HYE := Lib.hid hye
        clear hye
        generalize a.getD k 0 = xx at *
        obtain ⟨D, hD⟩ : ∃ D, (xx + yy * 4294967296) / 2 ^ s % 4294967296 = D := ⟨_, rfl⟩
        rw [hD] at HSH
        have HDL := Lib.hid (show D < 4294967296 by rw [← hD]; exact Nat.mod_lt _ (by omega))
        have hDi : ((yy : Int) * 4294967296 + (xx : Int)) / 2 ^ s % 4294967296 = (D : Int) := by
          rw [show (yy : Int) * 4294967296 + (xx : Int) = ((xx + yy * 4294967296 : Nat) : Int) by omega, cast_shr, hD]
        clear hD
        have hor := limb_or yy xx hy hx
        have wY : IntKind.u64.wrap ((yy : Int) * 4294967296) = (yy : Int) * 4294967296 := by rw [IntKind.wrap_u64]; omega
        have f1 : decide ((k : Int) + 1 < (a.length : Int)) = true := by rw [decide_eq_true_eq]; omega
        go_wp2_with fail
        refine ⟨⟨k + 1, so ++ [D], by omega, by go_num, by unfold Hid; rw [List.length_append, hso.out]; rfl, hall.snoc HDL.out, ?_, ?_, hb.setCell (Nat.le_refl _) _⟩, ?_⟩
        · unfold Hid
          rw [val_snoc, hso.out, HX.out, bp_succ, HYE.out]
          exact HSH.out
        · rw [← pad_set _ _ _ _ hso.out (by omega), ← lims_set]
          exact hrow.set_ k _
        · simp [intOf]; omega
      · have hy0 : a.getD (k + 1) 0 = 0 := by rw [List.getD_eq_getElem?_getD, List.getElem?_eq_none (by omega)]; rfl
        clear hcell
        rw [hy0] at HSH
        have HYE := Lib.hid hy0
        clear hy0 hy
        generalize a.getD k 0 = xx at *
        obtain ⟨D, hD⟩ : ∃ D, (xx + 0 * 4294967296) / 2 ^ s % 4294967296 = D := ⟨_, rfl⟩
        rw [hD] at HSH
        have HDL := Lib.hid (show D < 4294967296 by rw [← hD]; exact Nat.mod_lt _ (by omega))
        have hDi : (xx : Int) / 2 ^ s % 4294967296 = (D : Int) := by
          rw [cast_shr, ← hD, Nat.zero_mul, Nat.add_zero]
        clear hD
        have f1 : decide ((k : Int) + 1 < (a.length : Int)) = false := by rw [decide_eq_false_iff_not]; omega
        go_wp2_with fail
        refine ⟨⟨k + 1, so ++ [D], by omega, by go_num, by unfold Hid; rw [List.length_append, hso.out]; rfl, hall.snoc HDL.out, ?_, ?_, hb.setCell (Nat.le_refl _) _⟩, ?_⟩
        · unfold Hid
          rw [val_snoc, hso.out, HX.out, bp_succ, HYE.out]
          exact HSH.out
        · rw [← pad_set _ _ _ _ hso.out (by omega), ← lims_set]
          exact hrow.set_ k _
        · simp [intOf]; omega
    · obtain rfl : k = a.length := by omega
      rw [Nat.sub_self, List.replicate_zero, List.append_nil] at hrow
      have hz : a.getD a.length 0 = 0 := by rw [List.getD_eq_getElem?_getD, List.getElem?_eq_none (by omega)]; rfl
      have HV := Lib.hid (show val so = val a / 2 ^ s by
        have e := hval.out
        rw [val_take_all _ (Nat.le_refl _), hz, Nat.zero_mod, Nat.zero_mul, Nat.add_zero] at e
        exact shr_end e (Nat.mod_lt _ hP))
      go_wp2_with fail
      go_ret
      exact ⟨so, rfl, hso.out, hall, HV.out, hrow, hb⟩
end Go.Proofs.YtdmjgildgjpmcaaDoor
