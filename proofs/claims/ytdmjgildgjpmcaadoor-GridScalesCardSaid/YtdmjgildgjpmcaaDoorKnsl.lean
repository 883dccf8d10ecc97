/- The walk of nat.shiftLeft. -/
import Derived.Test.YtdmjgildgjpmcaaDoorKnz
import Derived.Test.YtdmjgildgjpmcaaDoorNatD
import Derived.Deep.QuietTactic
import Derived.BigQuiet
namespace Go.Proofs.YtdmjgildgjpmcaaDoor
open Go.RowKit
set_option linter.unusedVariables false

theorem sh_get0 (so : List Nat) (c n k : Nat) (h : so.length = k) : ((so ++ [c]) ++ List.replicate n 0).getD k 0 = c := by
  subst h; simp [List.getD_eq_getElem?_getD]
theorem sh_get1 (so : List Nat) (c n k : Nat) (h : so.length = k) (hn : 0 < n) : ((so ++ [c]) ++ List.replicate n 0).getD (k + 1) 0 = 0 := by
  subst h
  obtain ⟨m, rfl⟩ : ∃ m, n = m + 1 := ⟨n - 1, by omega⟩
  simp [List.getD_eq_getElem?_getD, List.replicate_succ]
theorem sh_set (so : List Nat) (c n k lo hi : Nat) (h : so.length = k) (hn : 0 < n) : ((((so ++ [c]) ++ List.replicate n 0).set k lo).set (k + 1) hi) = (((so ++ [lo]) ++ [hi]) ++ List.replicate (n - 1) 0) := by
  subst h
  obtain ⟨m, rfl⟩ : ∃ m, n = m + 1 := ⟨n - 1, by omega⟩
  simp [List.replicate_succ]

set_option maxHeartbeats 8000000 in
theorem shiftLeft_any (A : Option Addr) (c s : Nat) (a : List Nat) (w : World) (hsa : Sl w A a.length (lims a)) (hall0 : AllB a) (hc : c ≤ 9223372036854775807) (la : a.length ≤ 1000000000) (hs : s < 32) :
    Calls Tryd.prog 55 #[.slice A a.length c, .int .i64 (s : Int)] w fun e w' => ∃ rs : List Nat, e = .returned (.slice (some ⟨w.heap.size, 0, none⟩) (a.length + 1) (a.length + 1)) ∧ rs.length = a.length + 1 ∧ AllB rs ∧ val rs = 2 ^ s * val a ∧ Row w' w.heap.size 42 (lims rs) ∧ Below w.heap.size w w' := by
  go_enter Tryd.func55, Tryd.ntmps55
  have hmk := run_mkI (P := Tryd.prog) Tryd.underlying26 infoU32 rfl ((a.length : Int) + 1) (a.length + 1) (by omega) (by omega) (by omega)
  go_wp2_with fail
  clear hmk
  have hslt : 2 ^ s < 4294967296 := Nat.pow_lt_pow_right (by omega) hs
  go_loopw [15] (fun i wr => ∃ (k cy : Nat) (so : List Nat), k ≤ a.length ∧ i = .int .i64 (k : Int) ∧ Hid (cy < 2 ^ s) ∧ Hid (so.length = k) ∧ AllB so ∧ Hid (val so + cy * bp k = 2 ^ s * val (a.take k)) ∧ Row wr w.heap.size 42 (lims ((so ++ [cy]) ++ List.replicate (a.length - k) 0)) ∧ Below w.heap.size w wr) (fun i _ => a.length - (intOf i).toNat)
  case atStart => exact ⟨0, 0, [], by omega, rfl, Nat.pow_pos (by omega), rfl, AllB.nil, by simp [Hid, val], by
    have : (([] : List Nat) ++ [0]) ++ List.replicate (a.length - 0) 0 = List.replicate (a.length + 1) 0 := by simp [List.replicate_succ]
    rw [this, lims_zeros]; exact Row.newz _ _ _ _, (Below.refl _ _).alloc (Nat.le_refl _) _⟩
  case round =>
    obtain ⟨k, cy, so, hk, rfl, hcy, hso, hall, hval, hrow, hb⟩ := hrel
    have zl : w.heap.size < wr.heap.size := hrow.lt
    have hly : ((so ++ [cy]) ++ List.replicate (a.length - k) 0).length = a.length + 1 := by simp [hso.out]; omega
    by_cases hlt : k < a.length
    · obtain ⟨b1, o1, rfl, hb1, hcell⟩ := hsa.lim hlt
      have g1 : wr.cell? ⟨b1, o1 + k, none⟩ = some (.int .u32 ((a.getD k 0 : Nat) : Int)) := (hb.cell (p := ⟨b1, o1 + k, none⟩) hb1).trans (hcell k hlt)
      have hx := hall0.getD k
      have hc0 : wr.cell? ⟨w.heap.size, k, none⟩ = some (.int .u32 (cy : Int)) := by
        rw [hrow.cell, lims_get _ (by rw [hly]; omega), sh_get0 _ _ _ _ hso.out]
      have hc1 : wr.cell? ⟨w.heap.size, k + 1, none⟩ = some (.int .u32 0) := by
        rw [hrow.cell, lims_get _ (by rw [hly]; omega), sh_get1 _ _ _ _ hso.out (by omega)]; rfl
      have hf0 : wr.frozen? ⟨w.heap.size, k, none⟩ = false := hrow.frozen k
      have hf1 : wr.frozen? ⟨w.heap.size, k + 1, none⟩ = false := hrow.frozen (k + 1)
      have HX := Lib.hid (val_take_succ a k)
      clear hcell
      generalize a.getD k 0 = xx at *
      obtain ⟨T, hT⟩ : ∃ T, xx * 2 ^ s = T := ⟨_, rfl⟩
      have hTl : T < 18446744073709551616 := by
        have h1 : xx * 2 ^ s ≤ 4294967295 * 2 ^ s := Nat.mul_le_mul_right _ (by omega)
        omega
      have hTi : (xx : Int) * 2 ^ s = (T : Int) := by rw [← hT, Int.natCast_mul, Int.natCast_pow]; rfl
      have wT : IntKind.u64.wrap (T : Int) = (T : Int) := by rw [IntKind.wrap_u64]; omega
      obtain ⟨d1, d2, d3⟩ := shl_digit hs hcy.out hx
      rw [hT] at d1 d2 d3
      have m1 : (T : Int) % 4294967296 = ((T % 4294967296 : Nat) : Int) := by omega
      have m2 : (T : Int) / 4294967296 = ((T / 4294967296 : Nat) : Int) := by omega
      have hor : bits .or .u32 (cy : Int) ((T % 4294967296 : Nat) : Int) = ((cy + T % 4294967296 : Nat) : Int) := by
        rw [u32_or_nat _ _ (by omega) (by omega), d1]
      have HSH := Lib.hid (shl_step (lo := cy + T % 4294967296) (hi := T / 4294967296) (2 ^ s) hval.out (by rw [hT]; omega) HX.out)
      have HD3 := Lib.hid d3
      generalize cy + T % 4294967296 = lo at *
      generalize T / 4294967296 = hi at *
      generalize T % 4294967296 = tl at *
      have HD2 := Lib.hid d2
      go_wp2_with fail
      refine ⟨⟨k + 1, hi, so ++ [lo], by omega, by go_num, HD3.out, by unfold Hid; rw [List.length_append, hso.out]; rfl, hall.snoc HD2.out, ?_, ?_, (hb.setCell (Nat.le_refl _) _).setCell (Nat.le_refl _) _⟩, ?_⟩
      · unfold Hid
        rw [val_snoc, hso.out, bp_succ]
        exact HSH.out
      · have e := (hrow.set_ k (.int .u32 (lo : Int))).set_ (k + 1) (.int .u32 (hi : Int))
        rw [lims_set, lims_set, sh_set _ _ _ _ _ _ hso.out (by omega)] at e
        exact e
      · simp [intOf]; omega
    · obtain rfl : k = a.length := by omega
      rw [Nat.sub_self, List.replicate_zero, List.append_nil] at hrow
      have HL := Lib.hid (show (so ++ [cy]).length = a.length + 1 by rw [List.length_append, hso.out]; rfl)
      have HV := Lib.hid (show val (so ++ [cy]) = 2 ^ s * val a by
        have e := hval.out
        rw [val_take_all _ (Nat.le_refl _)] at e
        rw [val_snoc, hso.out, Nat.mul_comm, e])
      have HA := Lib.hid (hall.snoc (show cy < 4294967296 from Nat.lt_trans hcy.out hslt))
      clear hly
      go_wp2_with fail
      go_ret
      exact ⟨so ++ [cy], rfl, HL.out, HA.out, HV.out, hrow, hb⟩
end Go.Proofs.YtdmjgildgjpmcaaDoor
