/- The walk of matrix.Counts, for 1 to 6 categories. -/
import Derived.Test.YtgdngopemlajjaaMtH
namespace Go.Proofs.Ytgdngopemlajjaa
open Go.RowKit
set_option linter.unusedVariables false

/-- How often k occurs. -/
def cnt (l : List Int) (k : Nat) : Nat := l.countP (fun x => x == (k : Int))
def cntL (l : List Int) (n : Nat) : List Int := (List.range n).map fun k => ((cnt l k : Nat) : Int)
theorem cntL_len (l : List Int) (n : Nat) : (cntL l n).length = n := by simp [cntL]
theorem cntL_get (l : List Int) {n k : Nat} (h : k < n) : (cntL l n).getD k 0 = ((cnt l k : Nat) : Int) := by
  unfold cntL; rw [getD_map _ _ 0 0 (by simpa using h), getD_get _ _ (by simpa using h)]; simp
theorem cnt_le (l : List Int) (k : Nat) : cnt l k ≤ l.length := List.countP_le_length
theorem cnt_snoc (l : List Int) (z : Int) (k : Nat) : cnt (l ++ [z]) k = cnt l k + if z = (k : Int) then 1 else 0 := by
  unfold cnt; rw [List.countP_append]
  by_cases h : z = (k : Int) <;> simp [h]
theorem cntL_out (l : List Int) {z : Int} {n : Nat} (h : z < 0 ∨ (n : Int) ≤ z) : cntL (l ++ [z]) n = cntL l n := by
  refine ext_getD 0 (by rw [cntL_len, cntL_len]) fun k hk => ?_
  rw [cntL_len] at hk
  rw [cntL_get _ hk, cntL_get _ hk, cnt_snoc, if_neg (by omega), Nat.add_zero]
theorem cntL_in (l : List Int) {q n : Nat} (h : q < n) : cntL (l ++ [(q : Int)]) n = (cntL l n).set q (((cnt l q : Nat) : Int) + 1) := by
  refine ext_getD 0 (by rw [List.length_set, cntL_len, cntL_len]) fun k hk => ?_
  rw [cntL_len] at hk
  rw [cntL_get _ hk, cnt_snoc, List.getD_eq_getElem?_getD, List.getElem?_set]
  by_cases e : q = k
  · subst e
    rw [if_pos rfl, if_pos rfl, if_pos (by rw [cntL_len]; exact hk)]; simp
  · rw [if_neg (by omega), if_neg e, ← List.getD_eq_getElem?_getD, cntL_get _ hk]; simp
theorem cntL_nil (n : Nat) : (cntL [] n).map (Value.int .i64) = List.replicate n (.int .i64 0) := by
  apply List.ext_getElem
  · simp [cntL_len]
  · intro i h1 h2; simp [cntL, cnt]

set_option maxHeartbeats 2000000 in
theorem counts_any (v : Value) (l : List Int) (n : Nat) (w : World) (h : Nums .i64 w v l) (h1 : 1 ≤ n) (h6 : n ≤ 6) (h8 : l.length * 8 ≤ 140737488351232) :
    Calls Try.prog 24 #[v, .int .i64 (n : Int)] w fun e w' => ∃ u, e = .returned u ∧ Nums .i64 w' u (cntL l n) ∧ Below w.heap.size w w' := by
  obtain ⟨A, c, rfl, hc, hm, hs⟩ := h
  unfold maxLen at hm
  obtain ⟨N, hn⟩ : ∃ n, l.length = n := ⟨_, rfl⟩
  have HN := Lib.hid hn
  rw [hn] at hs hc h8 ⊢
  clear hn
  have d1 : decide ((n : Int) < 1) = false := decide_eq_false (by omega)
  have d2 : decide (6 < (n : Int)) = false := decide_eq_false (by omega)
  have hmk := run_mk (P := Try.prog) Try.underlying22 mInfoInt rfl n (by omega) (by omega)
  go_enter Try.func24, Try.ntmps24
  go_wp2_with fail
  clear hmk
  go_loopw [18] (fun i wr => ∃ k : Nat, k ≤ N ∧ i = .int .i64 (k : Int) ∧ Row wr w.heap.size 3 ((cntL (l.take k) n).map (Value.int .i64)) ∧ Below w.heap.size w wr) (fun i _ => N - (intOf i).toNat)
  case atStart =>
    refine ⟨0, by omega, rfl, ?_, (Below.refl _ _).alloc (Nat.le_refl _) _⟩
    have := Row.newz w 3 (.int .i64 0) n
    rw [List.take_zero, cntL_nil]
    exact this
  case round =>
    obtain ⟨k, hk, rfl, hrow, hb⟩ := hrel
    by_cases hlt : k < N
    · obtain ⟨b1, o1, rfl, hb1, hcell⟩ := hs.num hlt
      have g1 : wr.cell? ⟨b1, o1 + k, none⟩ = some (.int .i64 (l.getD k 0)) := (hb.cell (p := ⟨b1, o1 + k, none⟩) hb1).trans (hcell k hlt)
      have HT := Lib.hid (take_succ_getD l 0 (show k < l.length by rw [HN.out]; exact hlt))
      have HLT : (l.take k).length ≤ k := List.length_take_le _ _
      clear hcell
      generalize l.getD k 0 = z at *
      generalize l.take k = lk at *
      by_cases hz : 0 ≤ z ∧ z < (n : Int)
      · obtain ⟨q, rfl⟩ := Int.eq_ofNat_of_zero_le hz.1
        have hq : q < n := by omega
        have HC := Lib.hid (cntL_in lk hq)
        have hcl := cnt_le lk q
        have e1 : decide (0 ≤ (q : Int)) = true := decide_eq_true (by omega)
        have e2 : decide (q < n) = true := decide_eq_true hq
        have c0 : wr.cell? ⟨w.heap.size, q, none⟩ = some (.int .i64 ((cnt lk q : Nat) : Int)) := by
          rw [hrow.cell, List.getElem?_map, List.getElem?_eq_getElem (by rw [cntL_len]; exact hq)]
          have := cntL_get lk hq
          rw [getD_get _ _ (by rw [cntL_len]; exact hq)] at this
          rw [this]; rfl
        have f0 : wr.frozen? ⟨w.heap.size, q, none⟩ = false := hrow.frozen q
        generalize cnt lk q = t at *
        clear hz
        go_wp2_with fail
        go_roundw
        case rel =>
          refine ⟨k + 1, by omega, by go_num, ?_, hb.setCell (by simp) _⟩
          rw [HT.out, HC.out, List.map_set]
          exact hrow.set_ q _
        case measure => simp [intOf]; omega
      · have HC := Lib.hid (cntL_out lk (z := z) (n := n) (by omega))
        by_cases hz0 : 0 ≤ z
        · have e1 : decide (0 ≤ z) = true := decide_eq_true hz0
          have e2 : decide (z < (n : Int)) = false := decide_eq_false (by omega)
          clear hz hz0
          go_wp2_with fail
          go_roundw
          case rel => exact ⟨k + 1, by omega, by go_num, by rw [HT.out, HC.out]; exact hrow, hb⟩
          case measure => simp [intOf]; omega
        · have e1 : decide (0 ≤ z) = false := decide_eq_false hz0
          clear hz hz0
          go_wp2_with fail
          go_roundw
          case rel => exact ⟨k + 1, by omega, by go_num, by rw [HT.out, HC.out]; exact hrow, hb⟩
          case measure => simp [intOf]; omega
    · obtain rfl : k = N := by omega
      have HW : Hid (l.take k = l) := by unfold Hid; apply List.take_of_length_le; rw [HN.out]; exact Nat.le_refl _
      rw [HW.out] at hrow
      go_wp2_with fail
      go_ret
      have := Nums.of_row hrow (by rw [cntL_len]; unfold maxLen; omega)
      rw [cntL_len] at this
      exact ⟨_, rfl, this, hb⟩
end Go.Proofs.Ytgdngopemlajjaa
