/- The walk of strconv.FormatUint at base 10, of strconv.AppendUint onto nothing. The table of powers is laid. -/
import Derived.Test.YtoihjclkocffhaaDoorRatQ
import Derived.Test.YtoihjclkocffhaaDoorShelf
import Derived.LoopN
import Derived.Laws.IdiomStrings
import Derived.Lib.BufferRead
import Derived.Lib.ItoaMem
import Derived.Lib.AppendIntMem
import Derived.Lib.Slices
import Derived.Lib.SmallJoins
namespace Go.Proofs.YtoihjclkocffhaaDoor
open Go.RowKit Go.Sort Go.Lib
set_option linter.unusedVariables false

/-- The table of the powers of ten, as the program's text lays it. -/
def Pow10 (w : World) : Prop := Lib.TabIs Tryd.prog w "internal/strconv.uint64pow10" .u64 Lib.pow10Tab
theorem dig_len {u : Nat} (h1 : 1 ≤ u) (h2 : u < 18446744073709551616) : (Lib.decDigits u).length ≤ 20 ∧ 0 < (Lib.decDigits u).length := by
  rw [Lib.decDigits_length]
  have := Lib.numDigits_eq u h1 h2
  refine ⟨by split at this <;> omega, ?_⟩
  rcases Nat.eq_zero_or_pos (Lib.nDigits u) with h | h
  · have h3 := Lib.lt_pow_nDigits u
    rw [h] at h3
    simp at h3
    omega
  · exact h

set_option maxHeartbeats 8000000 in
set_option maxRecDepth 100000 in
theorem isfu_any (u : Nat) (hu64 : u < 18446744073709551616) (w : World) (htab : Pow10 w) :
    Calls Tryd.prog 110 #[.int .u64 (u : Int), .int .i64 10] w fun e w' => e = .returned (.string ⟨(Lib.decDigits u).toArray⟩) ∧ Below w.heap.size w w' := by
  by_cases hs : u < 100
  · have hsI : (u : Int) < 100 := by omega
    go_enter Tryd.func110, Tryd.ntmps110
    go_wp2_with fail
    refine (Tryd.internal_strconv_small u hs _).mono ?_
    rintro e w' ⟨rfl, rfl⟩
    go_wp2_with fail
    go_ret
    exact ⟨rfl, Below.refl _ _⟩
  · have hu1 : 1 ≤ u := by omega
    have hnd20 : Lib.nDigits u ≤ 20 := by have := Lib.numDigits_eq u hu1 hu64; split at this <;> omega
    have hal : Tryd.prog.arrayLen 120 = 24 := by simp [Program.arrayLen, Tryd.underlying120]
    have hsl : ∀ W, (Instr.sliceAt 120 (.pointer (some ⟨w.heap.size, 0, none⟩)) none (some (.int .i64 (Lib.nDigits u : Int))) none).run Tryd.prog W = .ok (.slice (some ⟨w.heap.size, 0, none⟩) (Lib.nDigits u) 24) W := fun W => by
      rw [run_sliceAt_array_h W 120 ⟨w.heap.size, 0, none⟩ (by simp [Program.arrayLen, Program.elem, Tryd.underlying120]) .i64 (Lib.nDigits u : Int) (by omega) (by rw [hal]; omega)]
      go_simp
    have hH0 := Lib.holds_zero0 w 120 (Lib.nDigits u) (by omega)
    have hfmt := Tryd.internal_strconv_formatBase10 w.heap.size 0 24 u (Array.replicate (Lib.nDigits u) 0) (w.alloc (.cells Lib.zeros24 120)) hH0 (by rw [Array.size_replicate]; exact Lib.lt_pow_nDigits u) hu64 (by rw [Array.size_replicate]; omega)
    rw [Array.size_replicate] at hfmt
    have HH0 := Lib.hid hH0
    have HF0 := Lib.hid hfmt
    have iu : (100 : Int) ≤ (u : Int) := by omega
    have HT := Lib.hid (Lib.tabIs_alloc htab (.cells Lib.zeros24 120))
    clear hH0 hal hfmt htab
    go_enter Tryd.func110, Tryd.ntmps110
    go_wp2_with fail
    refine (Tryd.internal_strconv_numDigits u hu1 hu64 _ HT.out).mono ?_
    rintro e w' ⟨rfl, hw⟩
    obtain rfl := hw
    go_wp2_with fail
    refine HF0.out.mono ?_
    rintro e w' ⟨rfl, k, v', dk, rfl, hF⟩
    obtain ⟨os, eo⟩ := Lib.fin_at w (.cells Lib.zeros24 120) dk k 0
    have hb : Below w.heap.size w ((putRow (fun (b : UInt8) => Value.int .u8 (b.toNat : Int)) (w.alloc (.cells Lib.zeros24 120)) w.heap.size 0 dk).drewN k) := by rw [eo]; exact Lib.below_grow w.heap.size w (Nat.le_refl _) k os
    have hcv := run_convert_bytes_back (P := Tryd.prog) ((putRow (fun (b : UInt8) => Value.int .u8 (b.toNat : Int)) (w.alloc (.cells Lib.zeros24 120)) w.heap.size 0 dk).drewN k) 111 9 5 ⟨w.heap.size, 0, none⟩ 24 (Lib.decDigits u) Tryd.underlying111 Tryd.underlying5 Tryd.underlying9 (fun j hj => by
      rw [Lib.add_plain, Lib.row_is_numeral hF j hj, World.cell?_drewN]
      exact cell?_putRow (fun (b : UInt8) => Value.int .u8 (b.toNat : Int)) _ w.heap.size 0 _ dk HH0.out (by rw [hF.size, Array.size_replicate]) j (by rw [hF.size]; rw [Lib.decDigits_length] at hj; exact hj))
    rw [Lib.decDigits_length] at hcv
    clear eo HH0 HF0 HT
    generalize (putRow (fun (b : UInt8) => Value.int .u8 (b.toNat : Int)) (w.alloc (.cells Lib.zeros24 120)) w.heap.size 0 dk).drewN k = W2 at *
    go_wp2_with fail
    go_ret
    exact ⟨rfl, hb⟩
set_option maxHeartbeats 1000000 in
theorem sfu_any (u : Nat) (hu64 : u < 18446744073709551616) (w : World) (htab : Pow10 w) :
    Calls Tryd.prog 96 #[.int .u64 (u : Int), .int .i64 10] w fun e w' => e = .returned (.string ⟨(Lib.decDigits u).toArray⟩) ∧ Below w.heap.size w w' := by
  have H := Lib.hid (isfu_any u hu64 w htab)
  clear htab
  go_enter Tryd.func96, Tryd.ntmps96
  go_wp2_with fail
  refine H.out.mono ?_
  rintro e w' ⟨rfl, hb⟩
  go_wp2_with fail
  go_ret
  exact ⟨rfl, hb⟩
set_option maxHeartbeats 2000000 in
theorem sau_any (u : Nat) (hu : u < 18446744073709551616) (w : World) (htab : Pow10 w) :
    Calls Tryd.prog 95 #[.slice none 0 0, .int .u64 u, .int .i64 10] w fun e w' => ∃ v', e = .returned v' ∧ w'.ownsRow w.heap.size 5 1 v' (Lib.decDigits u).length (Lib.byteCells (Lib.decDigits u)) ∧ Below w.heap.size w w' := by
  have H := Lib.hid (Tryd.internal_strconv_AppendUint_10 w.heap.size 0 u hu (.slice none 0 0) [] w (World.ownsRow_nil w _ _ 1) (Nat.le_refl _) (by omega) htab)
  clear hu htab
  go_enter Tryd.func95, Tryd.ntmps95
  go_wp2_with fail
  refine H.out.mono ?_
  rintro e w' ⟨v', rfl, ho, hb, _⟩
  rw [Nat.zero_add, List.nil_append] at ho
  go_wp2_with fail
  go_ret
  exact ⟨_, rfl, ho, hb⟩
/-- The table stays where only new memory is written. -/
theorem Pow10.below {w w' : World} (h : Pow10 w) (hb : Below w.heap.size w w') : Pow10 w' := Go.Joins.tab_stays (g := 0) (by kernel_rfl) h hb (Nat.le_refl _)
end Go.Proofs.YtoihjclkocffhaaDoor
