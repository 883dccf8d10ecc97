/- The walk of the reference's union. -/
import Derived.Test.YtgdngopemlajjaaRtD
namespace Go.Proofs.Ytgdngopemlajjaa
open Go.RowKit
set_option linter.unusedVariables false

set_option maxRecDepth 100000 in
set_option maxHeartbeats 4000000 in
theorem runion_any (v u : Value) (A B : List Int) (w : World) (hA : Nums .i64 w v A) (hB : Nums .i64 w u B) (h8 : (A.length + B.length) * 8 ≤ 140737488351232) :
    Calls Try.prog 38 #[v, u] w fun e w' => ∃ x, e = .returned x ∧ Nums .i64 w' x (uni A B) ∧ Fresh w.heap.size x ∧ Below w.heap.size w w' := by
  obtain ⟨XA, cA, rfl, a1, a2, a3⟩ := hA
  obtain ⟨XB, cB, rfl, b1, b2, b3⟩ := hB
  unfold maxLen at a2 b2
  obtain ⟨na, hna⟩ : ∃ n, A.length = n := ⟨_, rfl⟩
  have HNA := Lib.hid hna
  obtain ⟨nb, hnb⟩ : ∃ n, B.length = n := ⟨_, rfl⟩
  have HNB := Lib.hid hnb
  rw [hna] at a1 a3 h8 ⊢
  rw [hnb] at b1 b3 h8 ⊢
  clear hna hnb
  go_enter Try.func38, Try.ntmps38
  go_wp2_with fail
  go_loopw [5, 6, 7] (fun v vi vk wr => ∃ (i k m : Nat) (acc : List Int) (V : Option Addr) (cv : Nat), vi = .int .i64 (i : Int) ∧ vk = .int .i64 (k : Int) ∧ v = .slice V m cv ∧ i ≤ na ∧ k ≤ nb ∧ m + (na - i) + (nb - k) ≤ na + nb ∧ Hid (acc.length = m) ∧ wr.ownsRow w.heap.size 3 1 (.slice V m cv) m (acc.map (Value.int .i64)) ∧ Hid (acc ++ uni (A.drop i) (B.drop k) = uni A B) ∧ Below w.heap.size w wr) (fun _ vi vk _ => (na - (intOf vi).toNat) + (nb - (intOf vk).toNat))
  case atStart => exact ⟨0, 0, 0, [], none, 0, rfl, rfl, rfl, by omega, by omega, by omega, rfl, World.ownsRow_nil _ _ _ _, by unfold Hid; rfl, Below.refl _ _⟩
  case round =>
    obtain ⟨i, k, m, acc, V, cv, rfl, rfl, rfl, hi, hk, hsum, HL, hown, hinv, hb⟩ := hrel
    have HXY : True := trivial
    have j1 : (0 : Int) ≤ (i : Int) := by omega
    have j2 : (0 : Int) ≤ (k : Int) := by omega
    by_cases hia : i < na
    case pos =>
      obtain ⟨ba, oa, rfl, hba, ca⟩ := a3.num hia
      have g1 : wr.cell? ⟨ba, oa + i, none⟩ = some (.int .i64 (A.getD i 0)) := (hb.cell (p := ⟨ba, oa + i, none⟩) hba).trans (ca i hia)
      clear ca
      have HIA : Hid (i < A.length) := by unfold Hid; rw [HNA.out]; exact hia
      have j3 : (i : Int) < (na : Int) := by omega
      have d1 : decide (i < na) = true := decide_eq_true (by omega)
      have d1' : decide (na ≤ i) = false := decide_eq_false (by omega)
      by_cases hkb : k < nb
      case pos =>
        obtain ⟨bb, ob, rfl, hbb, cb⟩ := b3.num hkb
        have g2 : wr.cell? ⟨bb, ob + k, none⟩ = some (.int .i64 (B.getD k 0)) := (hb.cell (p := ⟨bb, ob + k, none⟩) hbb).trans (cb k hkb)
        clear cb
        have HKB : Hid (k < B.length) := by unfold Hid; rw [HNB.out]; exact hkb
        have j4 : (k : Int) < (nb : Int) := by omega
        have d2 : decide (nb ≤ k) = false := decide_eq_false (by omega)
        rcases Int.lt_trichotomy (A.getD i 0) (B.getD k 0) with hxy | hxy | hxy
        · have HXU := Lib.hid (uni_a HIA.out HKB.out hxy)
          generalize A.getD i 0 = x at *
          generalize B.getD k 0 = y at *
          have e1 : decide (x < y) = true := decide_eq_true (by omega)
          have e2 : decide (y < x) = false := decide_eq_false (by omega)
          clear hxy
          have HN : Hid ((acc ++ [x]) ++ uni (A.drop (i + 1)) (B.drop k) = uni A B) := by unfold Hid; rw [← hinv.out, HXU.out, List.append_assoc]; rfl
          have HL' : Hid ((acc ++ [x]).length = m + 1) := by unfold Hid; rw [List.length_append, HL.out]; rfl
          clear hinv HL HXY
          go_wp2_with fail
          go_quiet (fail)
          replace hb := below_drewN hb nq
          replace hown : (wr.drewN nq).ownsRow w.heap.size 3 1 (.slice V m cv) m (acc.map (Value.int .i64)) := hown
          replace g1 : (wr.drewN nq).cell? ⟨ba, oa + i, none⟩ = some (.int .i64 x) := g1
          replace g2 : (wr.drewN nq).cell? ⟨bb, ob + k, none⟩ = some (.int .i64 y) := g2
          generalize wr.drewN nq = w2 at *
          have zb : w.heap.size ≤ w2.heap.size := hb.size
          go_wp2_with (at_builtin; refine wpList_append_one w2 rfl (.tmp 39) (.tmp 44) 22 rfl w.heap.size 3 (.int .i64 0) 8 Try.underlying22 mInfoInt rfl (.slice V m cv) m _ (.int .i64 x) rfl rfl hown rfl (by unfold maxLen; omega) (by omega) zb ?_; intro A' c4 w7 hown3 hb7)
          go_roundw
          case rel =>
            refine ⟨i + 1, k, m + 1, acc ++ [x], A', c4, by go_num, by go_num, rfl, by omega, by omega, by omega, HL'.out, ?_, HN.out, hb.trans hb7⟩
            rw [List.map_append, List.map_cons, List.map_nil]; exact hown3
          case measure => simp [intOf]; omega
        · have HXU := Lib.hid (uni_ab HIA.out HKB.out hxy)
          generalize A.getD i 0 = x at *
          generalize B.getD k 0 = y at *
          have e1 : decide (x < y) = false := decide_eq_false (by omega)
          have e2 : decide (y < x) = false := decide_eq_false (by omega)
          clear hxy
          have HN : Hid ((acc ++ [x]) ++ uni (A.drop (i + 1)) (B.drop (k + 1)) = uni A B) := by unfold Hid; rw [← hinv.out, HXU.out, List.append_assoc]; rfl
          have HL' : Hid ((acc ++ [x]).length = m + 1) := by unfold Hid; rw [List.length_append, HL.out]; rfl
          clear hinv HL HXY
          go_wp2_with fail
          go_quiet (fail)
          replace hb := below_drewN hb nq
          replace hown : (wr.drewN nq).ownsRow w.heap.size 3 1 (.slice V m cv) m (acc.map (Value.int .i64)) := hown
          replace g1 : (wr.drewN nq).cell? ⟨ba, oa + i, none⟩ = some (.int .i64 x) := g1
          replace g2 : (wr.drewN nq).cell? ⟨bb, ob + k, none⟩ = some (.int .i64 y) := g2
          generalize wr.drewN nq = w2 at *
          go_wp2_with fail
          go_quiet (fail)
          replace hb := below_drewN hb nq
          replace hown : (w2.drewN nq).ownsRow w.heap.size 3 1 (.slice V m cv) m (acc.map (Value.int .i64)) := hown
          replace g1 : (w2.drewN nq).cell? ⟨ba, oa + i, none⟩ = some (.int .i64 x) := g1
          replace g2 : (w2.drewN nq).cell? ⟨bb, ob + k, none⟩ = some (.int .i64 y) := g2
          generalize w2.drewN nq = w3 at *
          have zb : w.heap.size ≤ w3.heap.size := hb.size
          go_wp2_with (at_builtin; refine wpList_append_one w3 rfl (.tmp 72) (.tmp 77) 22 rfl w.heap.size 3 (.int .i64 0) 8 Try.underlying22 mInfoInt rfl (.slice V m cv) m _ (.int .i64 x) rfl rfl hown rfl (by unfold maxLen; omega) (by omega) zb ?_; intro A' c4 w7 hown3 hb7)
          go_roundw
          case rel =>
            refine ⟨i + 1, k + 1, m + 1, acc ++ [x], A', c4, by go_num, by go_num, rfl, by omega, by omega, by omega, HL'.out, ?_, HN.out, hb.trans hb7⟩
            rw [List.map_append, List.map_cons, List.map_nil]; exact hown3
          case measure => simp [intOf]; omega
        · have HXU := Lib.hid (uni_b HIA.out HKB.out hxy)
          generalize A.getD i 0 = x at *
          generalize B.getD k 0 = y at *
          have e1 : decide (x < y) = false := decide_eq_false (by omega)
          have e2 : decide (y < x) = true := decide_eq_true (by omega)
          clear hxy
          have HN : Hid ((acc ++ [y]) ++ uni (A.drop i) (B.drop (k + 1)) = uni A B) := by unfold Hid; rw [← hinv.out, HXU.out, List.append_assoc]; rfl
          have HL' : Hid ((acc ++ [y]).length = m + 1) := by unfold Hid; rw [List.length_append, HL.out]; rfl
          clear hinv HL HXY
          go_wp2_with fail
          go_quiet (fail)
          replace hb := below_drewN hb nq
          replace hown : (wr.drewN nq).ownsRow w.heap.size 3 1 (.slice V m cv) m (acc.map (Value.int .i64)) := hown
          replace g1 : (wr.drewN nq).cell? ⟨ba, oa + i, none⟩ = some (.int .i64 x) := g1
          replace g2 : (wr.drewN nq).cell? ⟨bb, ob + k, none⟩ = some (.int .i64 y) := g2
          generalize wr.drewN nq = w2 at *
          go_wp2_with fail
          go_quiet (fail)
          replace hb := below_drewN hb nq
          replace hown : (w2.drewN nq).ownsRow w.heap.size 3 1 (.slice V m cv) m (acc.map (Value.int .i64)) := hown
          replace g1 : (w2.drewN nq).cell? ⟨ba, oa + i, none⟩ = some (.int .i64 x) := g1
          replace g2 : (w2.drewN nq).cell? ⟨bb, ob + k, none⟩ = some (.int .i64 y) := g2
          generalize w2.drewN nq = w3 at *
          have zb : w.heap.size ≤ w3.heap.size := hb.size
          go_wp2_with (at_builtin; refine wpList_append_one w3 rfl (.tmp 63) (.tmp 68) 22 rfl w.heap.size 3 (.int .i64 0) 8 Try.underlying22 mInfoInt rfl (.slice V m cv) m _ (.int .i64 y) rfl rfl hown rfl (by unfold maxLen; omega) (by omega) zb ?_; intro A' c4 w7 hown3 hb7)
          go_roundw
          case rel =>
            refine ⟨i, k + 1, m + 1, acc ++ [y], A', c4, by go_num, by go_num, rfl, by omega, by omega, by omega, HL'.out, ?_, HN.out, hb.trans hb7⟩
            rw [List.map_append, List.map_cons, List.map_nil]; exact hown3
          case measure => simp [intOf]; omega
      case neg =>
        have HXU := Lib.hid (uni_a0 (B := B) (k := k) HIA.out (by rw [HNB.out]; omega))
        generalize A.getD i 0 = x at *
        have d2 : decide (nb ≤ k) = true := decide_eq_true (by omega)
        have HN : Hid ((acc ++ [x]) ++ uni (A.drop (i + 1)) (B.drop k) = uni A B) := by unfold Hid; rw [← hinv.out, HXU.out, List.append_assoc]; rfl
        have HL' : Hid ((acc ++ [x]).length = m + 1) := by unfold Hid; rw [List.length_append, HL.out]; rfl
        clear hinv HL HXY
        go_wp2_with fail
        go_quiet (fail)
        replace hb := below_drewN hb nq
        replace hown : (wr.drewN nq).ownsRow w.heap.size 3 1 (.slice V m cv) m (acc.map (Value.int .i64)) := hown
        replace g1 : (wr.drewN nq).cell? ⟨ba, oa + i, none⟩ = some (.int .i64 x) := g1
        generalize wr.drewN nq = w2 at *
        have zb : w.heap.size ≤ w2.heap.size := hb.size
        go_wp2_with (at_builtin; refine wpList_append_one w2 rfl (.tmp 39) (.tmp 44) 22 rfl w.heap.size 3 (.int .i64 0) 8 Try.underlying22 mInfoInt rfl (.slice V m cv) m _ (.int .i64 x) rfl rfl hown rfl (by unfold maxLen; omega) (by omega) zb ?_; intro A' c4 w7 hown3 hb7)
        go_roundw
        case rel =>
          refine ⟨i + 1, k, m + 1, acc ++ [x], A', c4, by go_num, by go_num, rfl, by omega, by omega, by omega, HL'.out, ?_, HN.out, hb.trans hb7⟩
          rw [List.map_append, List.map_cons, List.map_nil]; exact hown3
        case measure => simp [intOf]; omega
    case neg =>
      have d1 : decide (i < na) = false := decide_eq_false (by omega)
      have d1' : decide (na ≤ i) = true := decide_eq_true (by omega)
      by_cases hkb : k < nb
      case pos =>
        obtain ⟨bb, ob, rfl, hbb, cb⟩ := b3.num hkb
        have g2 : wr.cell? ⟨bb, ob + k, none⟩ = some (.int .i64 (B.getD k 0)) := (hb.cell (p := ⟨bb, ob + k, none⟩) hbb).trans (cb k hkb)
        clear cb
        have HKB : Hid (k < B.length) := by unfold Hid; rw [HNB.out]; exact hkb
        have j4 : (k : Int) < (nb : Int) := by omega
        have HXU := Lib.hid (uni_b0 (A := A) (i := i) (by rw [HNA.out]; omega) HKB.out)
        generalize B.getD k 0 = y at *
        have d2 : decide (nb ≤ k) = false := decide_eq_false (by omega)
        have d3 : decide (k < nb) = true := decide_eq_true (by omega)
        have HN : Hid ((acc ++ [y]) ++ uni (A.drop i) (B.drop (k + 1)) = uni A B) := by unfold Hid; rw [← hinv.out, HXU.out, List.append_assoc]; rfl
        have HL' : Hid ((acc ++ [y]).length = m + 1) := by unfold Hid; rw [List.length_append, HL.out]; rfl
        clear hinv HL HXY
        go_wp2_with fail
        go_quiet (fail)
        replace hb := below_drewN hb nq
        replace hown : (wr.drewN nq).ownsRow w.heap.size 3 1 (.slice V m cv) m (acc.map (Value.int .i64)) := hown
        replace g2 : (wr.drewN nq).cell? ⟨bb, ob + k, none⟩ = some (.int .i64 y) := g2
        generalize wr.drewN nq = w2 at *
        go_wp2_with fail
        go_quiet (fail)
        replace hb := below_drewN hb nq
        replace hown : (w2.drewN nq).ownsRow w.heap.size 3 1 (.slice V m cv) m (acc.map (Value.int .i64)) := hown
        replace g2 : (w2.drewN nq).cell? ⟨bb, ob + k, none⟩ = some (.int .i64 y) := g2
        generalize w2.drewN nq = w3 at *
        have zb : w.heap.size ≤ w3.heap.size := hb.size
        go_wp2_with (at_builtin; refine wpList_append_one w3 rfl (.tmp 63) (.tmp 68) 22 rfl w.heap.size 3 (.int .i64 0) 8 Try.underlying22 mInfoInt rfl (.slice V m cv) m _ (.int .i64 y) rfl rfl hown rfl (by unfold maxLen; omega) (by omega) zb ?_; intro A' c4 w7 hown3 hb7)
        go_roundw
        case rel =>
          refine ⟨i, k + 1, m + 1, acc ++ [y], A', c4, by go_num, by go_num, rfl, by omega, by omega, by omega, HL'.out, ?_, HN.out, hb.trans hb7⟩
          rw [List.map_append, List.map_cons, List.map_nil]; exact hown3
        case measure => simp [intOf]; omega
      case neg =>
        have d3 : decide (k < nb) = false := decide_eq_false (by omega)
        have HE : Hid (acc = uni A B) := by unfold Hid; rw [← hinv.out, List.drop_eq_nil_of_le (by rw [HNA.out]; omega), List.drop_eq_nil_of_le (by rw [HNB.out]; omega), uni_nil_left, List.append_nil]
        clear hinv
        go_wp2_with fail
        go_ret
        rw [HE.out] at hown
        exact ⟨_, rfl, Nums.of_own hown, fresh_own hown, hb⟩
end Go.Proofs.Ytgdngopemlajjaa
