/- The walks of Mark, sample, same, rising, fits. -/
import Derived.Test.YtgdngopemlajjaaMtD
namespace Go.Proofs.Ytgdngopemlajjaa
open Go.RowKit
set_option linter.unusedVariables false

theorem own_row {w : World} {base e n : Nat} {A : Option Addr} {c : Nat} {xs : List Value} (h : w.ownsRow base e 1 (.slice A n c) n xs) (hn : 0 < n) : ∃ g rest, A = some ⟨g, 0, none⟩ ∧ base ≤ g ∧ Row w g e (xs ++ rest) := by
  obtain ⟨hl, h⟩ := h
  rcases h with ⟨h0, rfl⟩ | ⟨g, cap, cur, hv, hg, hh, hnc, hm, hs, hx⟩
  · simp at hl; omega
  · injection hv with h1 h2 h3
    refine ⟨g, cur.toList.drop n, h1, hg, ?_⟩
    unfold Row
    have : xs = cur.toList.take n := by rw [← hx]; simp
    rw [this, List.take_append_drop]
    exact hh
theorem own_cap {w : World} {base e n : Nat} {A : Option Addr} {c : Nat} {xs : List Value} (h : w.ownsRow base e 1 (.slice A n c) n xs) : n ≤ c ∧ c ≤ maxLen := by
  obtain ⟨A', c', hv, h1, h2, _⟩ := Sl.of_own h
  injection hv with _ _ h3
  omega
/-- What lies in the row that Mark writes, when it has come down to index k. -/
def mkc (l : List Int) (k : Nat) : List Int := l.take k ++ (markL l).drop k
theorem mkc_len (l : List Int) {k : Nat} (h : k ≤ l.length) : (mkc l k).length = l.length := by
  unfold mkc; rw [List.length_append, List.length_take, List.length_drop, markL_len]; omega
theorem mkc_get (l : List Int) {k j : Nat} (hk : k ≤ l.length) (hj : j < l.length) : (mkc l k).getD j 0 = if j < k then l.getD j 0 else mk1 l j := by
  unfold mkc
  rw [List.getD_eq_getElem?_getD]
  split
  · rename_i h
    rw [List.getElem?_append_left (by rw [List.length_take]; omega), List.getElem?_take, if_pos h, ← List.getD_eq_getElem?_getD]
  · rename_i h
    rw [List.getElem?_append_right (by rw [List.length_take]; omega), List.length_take, List.getElem?_drop, Nat.min_eq_left hk, show k + (j - k) = j by omega, ← List.getD_eq_getElem?_getD, markL_get _ hj]
theorem mkc_full (l : List Int) : mkc l l.length = l := by
  unfold mkc; rw [List.take_length, List.drop_eq_nil_of_le (by rw [markL_len]; exact Nat.le_refl _), List.append_nil]
theorem mkc_keep {l : List Int} {k : Nat} (hk : k + 1 ≤ l.length) (hne : l.getD k 0 ≠ -1) : mkc l (k + 1) = mkc l k := by
  refine ext_getD 0 (by rw [mkc_len l hk, mkc_len l (by omega)]) fun j hj => ?_
  rw [mkc_len l hk] at hj
  rw [mkc_get l hk hj, mkc_get l (by omega) hj]
  rcases Nat.lt_trichotomy j k with h | h | h
  · rw [if_pos (by omega), if_pos h]
  · subst h
    rw [if_pos (by omega), if_neg (by omega)]
    unfold mk1; rw [if_neg (fun h => hne h.1)]
  · rw [if_neg (by omega), if_neg (by omega)]
theorem mkc_set {l : List Int} {k : Nat} (hk : k + 1 ≤ l.length) (ht : tneg l (k + 1) = true) (hne : l.getD k 0 = -1) : (mkc l (k + 1)).set k (-2) = mkc l k := by
  refine ext_getD 0 (by rw [List.length_set, mkc_len l hk, mkc_len l (by omega)]) fun j hj => ?_
  rw [List.length_set, mkc_len l hk] at hj
  rw [mkc_get l (by omega) hj, List.getD_eq_getElem?_getD, List.getElem?_set]
  have hlen := mkc_len l hk
  rcases Nat.lt_trichotomy j k with h | h | h
  · rw [if_neg (by omega), ← List.getD_eq_getElem?_getD, mkc_get l hk hj, if_pos (by omega), if_pos h]
  · subst h
    rw [if_pos rfl, if_pos (by omega), if_neg (by omega)]
    unfold mk1
    rw [if_pos ⟨hne, by rw [tneg_step l (by omega), ht, hne]; rfl⟩]; rfl
  · rw [if_neg (by omega), ← List.getD_eq_getElem?_getD, mkc_get l hk hj, if_neg (by omega), if_neg (by omega)]
theorem mkc_zero (l : List Int) : mkc l 0 = markL l := by simp [mkc]
theorem mkc_stop {l : List Int} {k : Nat} (hk : k + 1 ≤ l.length) (hp : 0 ≤ l.getD k 0) : mkc l (k + 1) = markL l := by
  refine ext_getD 0 (by rw [mkc_len l hk, markL_len]) fun j hj => ?_
  rw [mkc_len l hk] at hj
  rw [mkc_get l hk hj, markL_get _ hj]
  split
  · rename_i h
    unfold mk1
    rw [if_neg]
    rintro ⟨_, h2⟩
    have := tneg_at h2 k (by omega) (by omega)
    omega
  · rfl

set_option maxHeartbeats 2000000 in
theorem mark_any (v : Value) (l : List Int) (w : World) (h : Nums .i64 w v l) (h8 : l.length * 8 ≤ 140737488351232) :
    Calls Try.prog 19 #[v] w fun e w' => ∃ u, e = .returned u ∧ Nums .i64 w' u (markL l) ∧ Fresh w.heap.size u ∧ Below w.heap.size w w' := by
  have h0 := h
  obtain ⟨A, c, rfl, hc, hm, hs⟩ := h
  clear hs
  go_enter Try.func19, Try.ntmps19
  go_wp2_with fail
  refine (clone_any _ l _ h0 h8).mono ?_
  rintro e w1 ⟨A1, c1, rfl, hown, hb⟩
  obtain ⟨n, hn⟩ : ∃ n, l.length = n := ⟨_, rfl⟩
  have HN := Lib.hid hn
  rw [hn] at hown h8 h0 ⊢
  clear hn
  obtain ⟨n1, n2⟩ := own_cap hown
  unfold maxLen at n2
  rcases Nat.eq_zero_or_pos n with hz | hpos
  · subst hz
    have hl0 : l = [] := List.eq_nil_of_length_eq_zero HN.out
    subst hl0
    go_wp2_with fail
    refine wp_loop_rounds 1 ?_
    rw [rounds_succ]
    go_wp2_with fail
    go_ret
    exact ⟨_, rfl, Nums.of_own hown, fresh_own hown, hb⟩
  obtain ⟨g, rest, rfl, hg, hrow⟩ := own_row hown hpos
  have HST : Hid (mkc l n = l) := by unfold Hid; rw [← HN.out]; exact mkc_full l
  have HTE : Hid (tneg l n = true) := by unfold Hid; exact tneg_end l (by rw [HN.out]; exact Nat.le_refl _)
  clear hown
  go_wp2_with fail
  go_loopw [4] (fun i wr => ∃ k : Nat, k ≤ n ∧ i = .int .i64 ((k : Int) - 1) ∧ Row wr g 3 ((mkc l k).map (Value.int .i64) ++ rest) ∧ Hid (tneg l k = true) ∧ Below w.heap.size w wr) (fun i _ => (intOf i + 1).toNat)
  case atStart => exact ⟨n, Nat.le_refl _, rfl, by rw [HST.out]; exact hrow, HTE.out, hb⟩
  case round =>
    clear hrow hb HST HTE
    obtain ⟨k, hk, rfl, hrow, htn, hb⟩ := hrel
    rcases Nat.eq_zero_or_pos k with hz | hkp
    · subst hz
      rw [mkc_zero] at hrow
      have d1 : decide (0 ≤ ((0 : Nat) : Int) - 1) = false := by decide
      go_wp2_with fail
      go_ret
      refine ⟨_, rfl, ?_, by simpa [Fresh] using hg, hb⟩
      exact Nums.of_rowc hrow (by rw [markL_len, HN.out]) n1 (by unfold maxLen; omega)
    · obtain ⟨j, rfl⟩ : ∃ j, k = j + 1 := ⟨k - 1, by omega⟩
      have hjl : Hid (j + 1 ≤ l.length) := by unfold Hid; rw [HN.out]; exact hk
      have e1 : ((j + 1 : Nat) : Int) - 1 = (j : Int) := by omega
      rw [e1]
      clear e1
      have c0 : wr.cell? ⟨g, j, none⟩ = some (.int .i64 (l.getD j 0)) := by
        have hl := mkc_len l hjl.out
        rw [hrow.cell, List.getElem?_append_left (by rw [List.length_map]; have := hjl.out; omega), List.getElem?_map]
        have := mkc_get l hjl.out (show j < l.length by have := hjl.out; omega)
        rw [if_pos (by omega), getD_get _ _ (by have := hjl.out; omega)] at this
        rw [List.getElem?_eq_getElem (by have := hjl.out; omega), this]
        rfl
      have f0 : wr.frozen? ⟨g, j, none⟩ = false := hrow.frozen j
      have d1 : decide (0 ≤ (j : Int)) = true := by simp
      have i1 : (0 : Int) ≤ (j : Int) := by omega
      have i2 : (j : Int) < (n : Int) := by omega
      have hgt : w.heap.size ≤ g := hg
      by_cases hneg : l.getD j 0 < 0
      · have HT2 : Hid (tneg l j = true) := by unfold Hid; rw [tneg_step l (by have := hjl.out; omega), htn.out, decide_eq_true hneg]; rfl
        have d2 : decide (l.getD j 0 < 0) = true := decide_eq_true hneg
        by_cases hm1 : l.getD j 0 = -1
        · have HS := Lib.hid (mkc_set hjl.out htn.out hm1)
          have d3 : (l.getD j 0 == -1) = true := by rw [beq_iff_eq]; exact hm1
          clear hm1 hneg
          generalize l.getD j 0 = z at *
          go_wp2_with fail
          go_roundw
          case rel =>
            refine ⟨j, by omega, by go_num, ?_, HT2.out, hb.setCell hgt _⟩
            have := hrow.set_ j (.int .i64 (-2))
            rw [List.set_append_left _ _ (by rw [List.length_map, mkc_len l hjl.out]; have := hjl.out; omega)] at this
            rw [← HS.out, List.map_set]
            exact this
          case measure => simp [intOf]
        · have HS := Lib.hid (mkc_keep hjl.out hm1)
          have d3 : (l.getD j 0 == -1) = false := by rw [beq_eq_false_iff_ne]; exact hm1
          clear hm1 hneg
          generalize l.getD j 0 = z at *
          go_wp2_with fail
          go_roundw
          case rel => exact ⟨j, by omega, by go_num, by rw [← HS.out]; exact hrow, HT2.out, hb⟩
          case measure => simp [intOf]
      · have HS := Lib.hid (mkc_stop hjl.out (by omega))
        have d2 : decide (l.getD j 0 < 0) = false := decide_eq_false hneg
        rw [HS.out] at hrow
        clear hneg
        generalize l.getD j 0 = z at *
        go_wp2_with fail
        go_ret
        refine ⟨_, rfl, ?_, by simpa [Fresh] using hg, hb⟩
        exact Nums.of_rowc hrow (by rw [markL_len, HN.out]) n1 (by unfold maxLen; omega)
end Go.Proofs.Ytgdngopemlajjaa
