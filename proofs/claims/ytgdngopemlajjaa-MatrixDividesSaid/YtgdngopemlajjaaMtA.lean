/- The walks of small functions of the matrix chapter: equal, find, copied, Clone, Total, Column. -/
import Derived.Test.YtgdngopemlajjaaMtU
namespace Go.Proofs.Ytgdngopemlajjaa
open Go.RowKit
set_option linter.unusedVariables false

theorem mInfoInt : (Try.prog.info? 3).map (fun i => (i.zero, i.size, i.bytes)) = some (some (.int .i64 0), 1, 8) := by kernel_rfl
theorem mInfoInts : (Try.prog.info? 22).map (fun i => (i.zero, i.size, i.bytes)) = some (some (.slice none 0 0), 1, 24) := by kernel_rfl

/-- The first index, or -1. -/
def fi (l : List Int) (n : Int) : Int := match fidx l n with | some i => (i : Int) | none => -1
theorem fi_some {l : List Int} {n : Int} {k : Nat} (h : k < l.length) (h1 : l.getD k 0 = n) (h2 : ∀ j, j < k → l.getD j 0 ≠ n) : fi l n = (k : Int) := by unfold fi; rw [fidx_of h h1 h2]
theorem fi_none {l : List Int} {n : Int} (h : ∀ j, j < l.length → l.getD j 0 ≠ n) : fi l n = -1 := by unfold fi; rw [fidx_no h]

set_option maxHeartbeats 1000000 in
theorem equal_any (v u : Value) (xs ys : List Int) (w : World) (h1 : Nums .i64 w v xs) (h2 : Nums .i64 w u ys) :
    Calls Try.prog 21 #[v, u] w fun e w' => e = .returned (.bool (decide (xs = ys))) ∧ ∃ d, w' = w.drewN d := by
  obtain ⟨A, c, rfl, hc, hm, hs⟩ := h1
  obtain ⟨B, c', rfl, hc', hm', hs'⟩ := h2
  unfold maxLen at hm hm'
  obtain ⟨n, hn⟩ : ∃ n, xs.length = n := ⟨_, rfl⟩
  have HN := Lib.hid hn
  rw [hn] at hs hc ⊢
  by_cases hl : n = ys.length
  case neg =>
    have HR : Hid (decide (xs = ys) = false) := by unfold Hid; simp only [decide_eq_false_iff_not]; rintro rfl; exact hl hn.symm
    have hnn : ((n : Int) != (ys.length : Int)) = true := by rw [bne_iff_ne]; omega
    clear hn hl
    generalize ys.length = m at *
    go_enter Try.func21, Try.ntmps21
    go_wp2
    go_ret
    exact ⟨by rw [HR.out]; rfl, 0, rfl⟩
  case pos =>
    rw [← hl] at hs' hc' ⊢
    have HM := Lib.hid hl.symm
    clear hn hl
    have hnn : ((n : Int) != (n : Int)) = false := by simp
    go_enter Try.func21, Try.ntmps21
    go_wp2
    go_loopw [13] (fun i wr => ∃ k : Nat, k ≤ n ∧ i = .int .i64 (k : Int) ∧ Hid (∀ j, j < k → xs.getD j 0 = ys.getD j 0) ∧ ∃ d, wr = w.drewN d) (fun i _ => n - (intOf i).toNat)
    case atStart => exact ⟨0, by omega, rfl, fun j hj => by omega, 0, rfl⟩
    case round =>
      obtain ⟨k, hk, rfl, hinv, d, rfl⟩ := hrel
      by_cases hlt : k < n
      · obtain ⟨b, o, rfl, hb, hcell⟩ := hs.num hlt
        obtain ⟨b', o', rfl, hb', hcell'⟩ := hs'.num hlt
        have g1 := hcell k hlt
        have g2 := hcell' k hlt
        clear hcell hcell'
        by_cases he : xs.getD k 0 = ys.getD k 0
        · have HI := Lib.hid (all_snoc (p := fun j => xs.getD j 0 = ys.getD j 0) hinv.out he)
          rw [← he] at g2
          clear he hinv
          generalize hz : xs.getD k 0 = z at g1 g2
          clear hz
          have hne : (z != z) = false := by simp
          go_wp2
          go_quiet (fail)
          go_wp2
          go_roundw
          case rel => exact ⟨k + 1, by omega, by go_num, HI.out, _, rfl⟩
          case measure => simp [intOf]; omega
        · have HR : Hid (decide (xs = ys) = false) := by unfold Hid; simp only [decide_eq_false_iff_not]; rintro rfl; exact he rfl
          have hne : (xs.getD k 0 != ys.getD k 0) = true := by rw [bne_iff_ne]; exact he
          clear he hinv
          generalize hz : xs.getD k 0 = z at g1 g2 hne
          generalize hz' : ys.getD k 0 = z' at g1 g2 hne
          clear hz hz'
          go_wp2
          go_quiet (fail)
          go_wp2
          go_ret
          exact ⟨by rw [HR.out]; rfl, _, World.drewN_drewN _ _ _⟩
      · have HR : Hid (decide (xs = ys) = true) := by
          unfold Hid; simp only [decide_eq_true_eq]
          refine ext_getD 0 (by rw [HN.out, HM.out]) fun i hi => hinv.out i (by rw [HN.out] at hi; omega)
        clear hinv
        go_wp2
        go_ret
        exact ⟨by rw [HR.out]; rfl, _, rfl⟩

set_option maxHeartbeats 1000000 in
theorem find_any (v : Value) (l : List Int) (n : Int) (w : World) (h : Nums .i64 w v l) :
    Calls Try.prog 34 #[v, .int .i64 n] w fun e w' => e = .returned (.int .i64 (fi l n)) ∧ w = w' := by
  obtain ⟨A, c, rfl, hc, hm, hs⟩ := h
  unfold maxLen at hm
  obtain ⟨N, hn⟩ : ∃ n, l.length = n := ⟨_, rfl⟩
  have HN := Lib.hid hn
  rw [hn] at hs hc ⊢
  clear hn
  go_enter Try.func34, Try.ntmps34
  go_wp2
  go_loop [9] (fun i => ∃ k : Nat, k ≤ N ∧ i = .int .i64 (k : Int) ∧ Hid (∀ j, j < k → l.getD j 0 ≠ n)) (fun i => N - (intOf i).toNat)
  case atStart => exact ⟨0, by omega, rfl, fun j hj => by omega⟩
  case round =>
    obtain ⟨k, hk, rfl, hinv⟩ := hrel
    by_cases hlt : k < N
    · obtain ⟨b, o, rfl, hb, hcell⟩ := hs.num hlt
      have g1 := hcell k hlt
      clear hcell
      by_cases he : l.getD k 0 = n
      · have HR := Lib.hid (fi_some (by rw [HN.out]; exact hlt) he hinv.out)
        have hne : (l.getD k 0 == n) = true := by rw [beq_iff_eq]; exact he
        clear he hinv
        generalize hz : l.getD k 0 = z at g1 hne
        clear hz
        go_wp2
        go_ret
        exact ⟨by rw [HR.out]; rfl, rfl⟩
      · have HI := Lib.hid (all_snoc (p := fun j => l.getD j 0 ≠ n) hinv.out he)
        have hne : (l.getD k 0 == n) = false := by rw [beq_eq_false_iff_ne]; exact he
        clear he hinv
        generalize hz : l.getD k 0 = z at g1 hne
        clear hz
        go_wp2
        go_round
        case rel => exact ⟨k + 1, by omega, by go_num, HI.out⟩
        case measure => simp [intOf]; omega
    · have HR := Lib.hid (fi_none (l := l) (n := n) fun j hj => hinv.out j (by rw [HN.out] at hj; omega))
      clear hinv
      go_wp2
      go_ret
      exact ⟨by rw [HR.out]; rfl, rfl⟩

set_option maxHeartbeats 1000000 in
theorem copied_any (v : Value) (l : List Int) (w : World) (h : Nums .i64 w v l) (hl8 : l.length * 8 ≤ 140737488351232) :
    Calls Try.prog 33 #[v] w fun e w' => ∃ u, e = .returned u ∧ Nums .i64 w' u l ∧ Fresh w.heap.size u ∧ Below w.heap.size w w' := by
  obtain ⟨A, c, rfl, hc, hm, hs⟩ := h
  unfold maxLen at hm
  obtain ⟨n, hn⟩ : ∃ n, l.length = n := ⟨_, rfl⟩
  have HN := Lib.hid hn
  rw [hn] at hs hc hl8 ⊢
  clear hn
  go_enter Try.func33, Try.ntmps33
  go_wp2
  go_loopw [3, 8] (fun v i wr => ∃ (k : Nat) (V : Option Addr) (cv : Nat), k ≤ n ∧ i = .int .i64 (k : Int) ∧ v = .slice V k cv ∧ wr.ownsRow w.heap.size 3 1 (.slice V k cv) k ((l.take k).map (Value.int .i64)) ∧ Below w.heap.size w wr) (fun _ i _ => n - (intOf i).toNat)
  case atStart => exact ⟨0, none, 0, by omega, rfl, rfl, World.ownsRow_nil _ _ _ _, Below.refl _ _⟩
  case round =>
    obtain ⟨k, V, cv, hk, rfl, rfl, hown, hb⟩ := hrel
    by_cases hlt : k < n
    · obtain ⟨b1, o1, rfl, hb1, hcell⟩ := hs.num hlt
      have g2 : wr.cell? ⟨b1, o1 + k, none⟩ = some (.int .i64 (l.getD k 0)) := (hb.cell (p := ⟨b1, o1 + k, none⟩) hb1).trans (hcell k hlt)
      have HT := Lib.hid (take_succ_getD l 0 (show k < l.length by rw [HN.out]; exact hlt))
      clear hcell
      generalize l.getD k 0 = z at *
      have zb : w.heap.size ≤ wr.heap.size := hb.size
      go_wp2_with (at_builtin; refine wpList_append_one wr rfl (.tmp 12) (.tmp 14) 22 rfl w.heap.size 3 (.int .i64 0) 8 Try.underlying22 mInfoInt rfl (.slice V k cv) k _ (.int .i64 z) rfl rfl hown rfl (by unfold maxLen; omega) (by omega) zb ?_; intro A' c3 w3 hown3 hb4)
      go_roundw
      case rel =>
        refine ⟨k + 1, A', c3, by omega, by go_num, rfl, ?_, hb.trans hb4⟩
        rw [HT.out, List.map_append, List.map_cons, List.map_nil]
        exact hown3
      case measure => simp [intOf]; omega
    · obtain rfl : k = n := by omega
      have HW : Hid (l.take k = l) := by unfold Hid; apply List.take_of_length_le; rw [HN.out]; exact Nat.le_refl _
      rw [HW.out] at hown
      go_wp2_with fail
      go_ret
      exact ⟨_, rfl, Nums.of_own hown, fresh_own hown, hb⟩
end Go.Proofs.Ytgdngopemlajjaa
