/- The walks of the reference's Uniform and Triangle. -/
import Derived.Test.YtdmjgildgjpmcaaMakes
namespace Go.Proofs.Ytdmjgildgjpmcaa
open Go.RowKit
def onesL' (_n k : Nat) : List Int := (List.range k).map fun _ => 1
def triL' (n k : Nat) : List Int := (List.range k).map fun j => triW n j

set_option maxHeartbeats 1000000 in
theorem runiform_yes (lo step : Int) (n : Nat) (w : World) (hf : Fits lo step n) :
    Calls Try.prog 9 #[.int .i64 lo, .int .i64 step, .int .i64 (n : Int)] w fun e w' => ∃ pv rv, e = .returned (.tuple #[.agg #[pv, rv], .int .i64 0]) ∧ Nums .i64 w' pv (ptsL lo step n) ∧ Nums .i64 w' rv (onesL n) ∧ Fresh w.heap.size pv ∧ Fresh w.heap.size rv ∧ Below w.heap.size w w' := by
  have h2 := hf.h2
  go_enter Try.func9, Try.ntmps9
  go_wp2_with fail
  refine (points_yes lo step n _ hf.h1 hf.h2 hf.h3 hf.h4 hf.h5 hf.h6 hf.h7).mono ?_
  rintro e w1 ⟨pv, rfl, hown0, hb⟩
  have hg : Row w1 w.heap.size 24 [.slice none 0 0, .slice none 0 0] := (Row.new w 24 [.slice none 0 0, .slice none 0 0]).keep hb
  have hb0 : Below w.heap.size w w1 := ((Below.refl _ _).alloc (Nat.le_refl _) _).trans (hb.mono (by simp))
  have hz : w.heap.size < w1.heap.size := hg.lt
  obtain ⟨A, c, rfl, hc1, hc2, hs⟩ := Sl.of_own hown0
  replace hown0 : w1.ownsRow (w.heap.size + 1) 3 1 (.slice A n c) n (ints (ptsL lo step n)) := by simpa using hown0
  clear hb hs
  go_wp2_with fail
  go_loopw [11] (fun  i wr => ∃ (k : Nat) (B : Option Addr) (cB : Nat), k ≤ n ∧ i = .int .i64 (k : Int) ∧ Row wr w1.heap.size 24 [.slice A n c, .slice B k cB] ∧ wr.ownsRow (w1.heap.size + 1) 3 1 (.slice B k cB) k ((onesL' n k).map (Value.int .i64)) ∧ Below w1.heap.size w1 wr) (fun  i _ => n - (intOf i).toNat)
  case atStart => exact ⟨0, none, 0, by omega, rfl, Row.new w1 24 [.slice A n c, .slice none 0 0], World.ownsRow_nil _ _ _ _, (Below.refl _ _).alloc (Nat.le_refl _) _⟩
  case round =>
    obtain ⟨k, B, cB, hk, rfl, hr, hown, hbr⟩ := hrel
    have r0 : wr.cell? ⟨w1.heap.size, 0, none⟩ = some (.slice A n c) := hr.cell 0
    have r1 : wr.cell? ⟨w1.heap.size, 1, none⟩ = some (.slice B k cB) := hr.cell 1
    have q0 : wr.frozen? ⟨w1.heap.size, 0, none⟩ = false := hr.frozen 0
    have q1 : wr.frozen? ⟨w1.heap.size, 1, none⟩ = false := hr.frozen 1
    by_cases hlt : k < n
    · go_wp2_with (at_builtin; refine wpList_append_one wr rfl (.tmp 30) (.tmp 31) 22 rfl (w1.heap.size + 1) 3 (.int .i64 0) 8 Try.underlying22 info3 rfl (.slice B k cB) k _ (.int .i64 (1)) rfl rfl hown rfl (by unfold maxLen; omega) (by omega) hr.lt ?_; intro A' c' w2 hown' hb'; have r1' : w2.cell? ⟨w1.heap.size, 1, none⟩ = some (.slice B k cB) := (hr.below hb' (by omega)).cell 1; have q1' : w2.frozen? ⟨w1.heap.size, 1, none⟩ = false := (hr.below hb' (by omega)).frozen 1)
      go_roundw
      case rel =>
        refine ⟨k + 1, A', c', by omega, by go_num, (hr.below hb' (by omega)).set_ 1 _, ?_, (hbr.trans (hb'.mono (by omega))).setCell (Nat.le_refl _) _⟩
        refine own_far (p := ⟨w1.heap.size, 1, none⟩) ?_ (by simp) _
        unfold onesL' at *
        rw [range_snoc, List.map_append]
        exact hown'
      case measure => simp [intOf]; omega
    · obtain rfl : k = n := by omega
      have hg' := hg.keep hbr
      have g0 : wr.cell? ⟨w.heap.size, 0, none⟩ = some (.slice none 0 0) := hg'.cell 0
      have g1 : wr.cell? ⟨w.heap.size, 1, none⟩ = some (.slice none 0 0) := hg'.cell 1
      have f0 : wr.frozen? ⟨w.heap.size, 0, none⟩ = false := hg'.frozen 0
      have f1 : wr.frozen? ⟨w.heap.size, 1, none⟩ = false := hg'.frozen 1
      go_wp2
      refine bodyPost_ret (v := .tuple #[.agg #[.slice A k c, .slice B k cB], .int .i64 0]) (by simp [results, Try.results9, go_sem, g0, g1]) rfl ⟨_, _, rfl, ?_, ?_, (fresh_own hown0).mono (by omega), (fresh_own hown).mono (by omega), ?_⟩
      · exact Nums.of_own (own_far (own_far (own_keep hown0 hbr) (p := ⟨w.heap.size, 0, none⟩) (by simp) _) (p := ⟨w.heap.size, 1, none⟩) (by simp) _)
      · exact Nums.of_own (own_far (own_far hown (p := ⟨w.heap.size, 0, none⟩) (by simp; omega) _) (p := ⟨w.heap.size, 1, none⟩) (by simp; omega) _)
      · exact ((hb0.trans (hbr.mono (by omega))).setCell (Nat.le_refl _) _).setCell (Nat.le_refl _) _
set_option maxHeartbeats 1000000 in
theorem runiform_no (lo step n : Int) (w : World) (hf : Hid (¬ FitsI lo step n)) :
    Calls Try.prog 9 #[.int .i64 lo, .int .i64 step, .int .i64 n] w fun e w' => e = .returned (.tuple #[.agg #[.slice none 0 0, .slice none 0 0], .int .i64 3]) ∧ Below w.heap.size w w' := by
  go_enter Try.func9, Try.ntmps9
  go_wp2_with fail
  refine (points_no lo step n _ hf).mono ?_
  rintro e w1 ⟨rfl, rfl⟩
  go_wp2_with fail
  exact bodyPost_ret (v := .tuple #[.agg #[.slice none 0 0, .slice none 0 0], .int .i64 3]) (by simp [results, Try.results9, go_sem]) rfl ⟨rfl, (Below.refl _ _).alloc (Nat.le_refl _) _⟩

set_option maxHeartbeats 1000000 in
theorem rtriangle_yes (lo step : Int) (n : Nat) (w : World) (hf : Fits lo step n) :
    Calls Try.prog 12 #[.int .i64 lo, .int .i64 step, .int .i64 (n : Int)] w fun e w' => ∃ pv rv, e = .returned (.tuple #[.agg #[pv, rv], .int .i64 0]) ∧ Nums .i64 w' pv (ptsL lo step n) ∧ Nums .i64 w' rv (triL n) ∧ Fresh w.heap.size pv ∧ Fresh w.heap.size rv ∧ Below w.heap.size w w' := by
  have h2 := hf.h2
  go_enter Try.func12, Try.ntmps12
  go_wp2_with fail
  refine (points_yes lo step n _ hf.h1 hf.h2 hf.h3 hf.h4 hf.h5 hf.h6 hf.h7).mono ?_
  rintro e w1 ⟨pv, rfl, hown0, hb⟩
  have hg : Row w1 w.heap.size 24 [.slice none 0 0, .slice none 0 0] := (Row.new w 24 [.slice none 0 0, .slice none 0 0]).keep hb
  have hb0 : Below w.heap.size w w1 := ((Below.refl _ _).alloc (Nat.le_refl _) _).trans (hb.mono (by simp))
  have hz : w.heap.size < w1.heap.size := hg.lt
  obtain ⟨A, c, rfl, hc1, hc2, hs⟩ := Sl.of_own hown0
  replace hown0 : w1.ownsRow (w.heap.size + 1) 3 1 (.slice A n c) n (ints (ptsL lo step n)) := by simpa using hown0
  clear hb hs
  go_wp2_with fail
  go_loopw [12, 11] (fun _ i wr => ∃ (k : Nat) (B : Option Addr) (cB : Nat), k ≤ n ∧ i = .int .i64 (k : Int) ∧ Row wr w1.heap.size 24 [.slice A n c, .slice B k cB] ∧ wr.ownsRow (w1.heap.size + 1) 3 1 (.slice B k cB) k ((triL' n k).map (Value.int .i64)) ∧ Below w1.heap.size w1 wr) (fun _ i _ => n - (intOf i).toNat)
  case atStart => exact ⟨0, none, 0, by omega, rfl, Row.new w1 24 [.slice A n c, .slice none 0 0], World.ownsRow_nil _ _ _ _, (Below.refl _ _).alloc (Nat.le_refl _) _⟩
  case round =>
    obtain ⟨k, B, cB, hk, rfl, hr, hown, hbr⟩ := hrel
    have r0 : wr.cell? ⟨w1.heap.size, 0, none⟩ = some (.slice A n c) := hr.cell 0
    have r1 : wr.cell? ⟨w1.heap.size, 1, none⟩ = some (.slice B k cB) := hr.cell 1
    have q0 : wr.frozen? ⟨w1.heap.size, 0, none⟩ = false := hr.frozen 0
    have q1 : wr.frozen? ⟨w1.heap.size, 1, none⟩ = false := hr.frozen 1
    by_cases hlt : k < n
    · by_cases hcmp : (n : Int) - 1 - (k : Int) < (k : Int)
      · have HT := Lib.hid (show triW n k = (n : Int) - 1 - (k : Int) + 1 by unfold triW; rw [if_pos hcmp])
        go_wp2_with (at_builtin; refine wpList_append_one wr rfl (.tmp 42) (.tmp 45) 22 rfl (w1.heap.size + 1) 3 (.int .i64 0) 8 Try.underlying22 info3 rfl (.slice B k cB) k _ (.int .i64 ((n : Int) - 1 - (k : Int) + 1)) rfl rfl hown rfl (by unfold maxLen; omega) (by omega) hr.lt ?_; intro A' c' w2 hown' hb'; have r1' : w2.cell? ⟨w1.heap.size, 1, none⟩ = some (.slice B k cB) := (hr.below hb' (by omega)).cell 1; have q1' : w2.frozen? ⟨w1.heap.size, 1, none⟩ = false := (hr.below hb' (by omega)).frozen 1)
        go_roundw
        case rel =>
          refine ⟨k + 1, A', c', by omega, by go_num, (hr.below hb' (by omega)).set_ 1 _, ?_, (hbr.trans (hb'.mono (by omega))).setCell (Nat.le_refl _) _⟩
          refine own_far (p := ⟨w1.heap.size, 1, none⟩) ?_ (by simp) _
          unfold triL' at *
          rw [range_snoc, List.map_append]
          simp only [List.map_cons, List.map_nil]
          rw [HT.out]
          exact hown'
        case measure => simp [intOf]; omega
      · have HT := Lib.hid (show triW n k = (k : Int) + 1 by unfold triW; rw [if_neg hcmp])
        go_wp2_with (at_builtin; refine wpList_append_one wr rfl (.tmp 42) (.tmp 45) 22 rfl (w1.heap.size + 1) 3 (.int .i64 0) 8 Try.underlying22 info3 rfl (.slice B k cB) k _ (.int .i64 ((k : Int) + 1)) rfl rfl hown rfl (by unfold maxLen; omega) (by omega) hr.lt ?_; intro A' c' w2 hown' hb'; have r1' : w2.cell? ⟨w1.heap.size, 1, none⟩ = some (.slice B k cB) := (hr.below hb' (by omega)).cell 1; have q1' : w2.frozen? ⟨w1.heap.size, 1, none⟩ = false := (hr.below hb' (by omega)).frozen 1)
        go_roundw
        case rel =>
          refine ⟨k + 1, A', c', by omega, by go_num, (hr.below hb' (by omega)).set_ 1 _, ?_, (hbr.trans (hb'.mono (by omega))).setCell (Nat.le_refl _) _⟩
          refine own_far (p := ⟨w1.heap.size, 1, none⟩) ?_ (by simp) _
          unfold triL' at *
          rw [range_snoc, List.map_append]
          simp only [List.map_cons, List.map_nil]
          rw [HT.out]
          exact hown'
        case measure => simp [intOf]; omega
    · obtain rfl : k = n := by omega
      have hg' := hg.keep hbr
      have g0 : wr.cell? ⟨w.heap.size, 0, none⟩ = some (.slice none 0 0) := hg'.cell 0
      have g1 : wr.cell? ⟨w.heap.size, 1, none⟩ = some (.slice none 0 0) := hg'.cell 1
      have f0 : wr.frozen? ⟨w.heap.size, 0, none⟩ = false := hg'.frozen 0
      have f1 : wr.frozen? ⟨w.heap.size, 1, none⟩ = false := hg'.frozen 1
      go_wp2
      refine bodyPost_ret (v := .tuple #[.agg #[.slice A k c, .slice B k cB], .int .i64 0]) (by simp [results, Try.results12, go_sem, g0, g1]) rfl ⟨_, _, rfl, ?_, ?_, (fresh_own hown0).mono (by omega), (fresh_own hown).mono (by omega), ?_⟩
      · exact Nums.of_own (own_far (own_far (own_keep hown0 hbr) (p := ⟨w.heap.size, 0, none⟩) (by simp) _) (p := ⟨w.heap.size, 1, none⟩) (by simp) _)
      · exact Nums.of_own (own_far (own_far hown (p := ⟨w.heap.size, 0, none⟩) (by simp; omega) _) (p := ⟨w.heap.size, 1, none⟩) (by simp; omega) _)
      · exact ((hb0.trans (hbr.mono (by omega))).setCell (Nat.le_refl _) _).setCell (Nat.le_refl _) _
set_option maxHeartbeats 1000000 in
theorem rtriangle_no (lo step n : Int) (w : World) (hf : Hid (¬ FitsI lo step n)) :
    Calls Try.prog 12 #[.int .i64 lo, .int .i64 step, .int .i64 n] w fun e w' => e = .returned (.tuple #[.agg #[.slice none 0 0, .slice none 0 0], .int .i64 3]) ∧ Below w.heap.size w w' := by
  go_enter Try.func12, Try.ntmps12
  go_wp2_with fail
  refine (points_no lo step n _ hf).mono ?_
  rintro e w1 ⟨rfl, rfl⟩
  go_wp2_with fail
  exact bodyPost_ret (v := .tuple #[.agg #[.slice none 0 0, .slice none 0 0], .int .i64 3]) (by simp [results, Try.results12, go_sem]) rfl ⟨rfl, (Below.refl _ _).alloc (Nat.le_refl _) _⟩
end Go.Proofs.Ytdmjgildgjpmcaa
