/- Law 18's limbs and same, at equal numbers. -/
import Derived.Test.YtdmjgildgjpmcaaRatA
namespace Go.Proofs.Ytdmjgildgjpmcaa
open Go.RowKit
set_option linter.unusedVariables false

theorem lim_show {w : World} {v : Value} {ls : List Nat} (h : Lim w v ls) : ∃ A n c, v = .slice A n c := by
  obtain ⟨⟨A, cA, rfl, _⟩, _⟩ := h
  exact ⟨_, _, _, rfl⟩
set_option maxHeartbeats 1000000 in
theorem limbs_eq (v u : Value) (ls : List Nat) (w : World) (h1 : Lim w v ls) (h2 : Lim w u ls) :
    Calls Try.prog 17 #[v, u] w fun e w' => e = .returned (.bool true) ∧ ∃ d, w' = w.drewN d := by
  obtain ⟨⟨A, c, rfl, hc, hm, hs⟩, _⟩ := h1
  obtain ⟨⟨B, c', rfl, hc', hm', hs'⟩, _⟩ := h2
  obtain ⟨n, hn⟩ : ∃ n, n = ls.length := ⟨_, rfl⟩
  rw [← hn] at hs hs' hc hc' ⊢
  unfold maxLen at hm hm'
  have HN := Lib.hid hn
  clear hn
  have hnn : ((n : Int) != (n : Int)) = false := by simp
  go_enter Try.func17, Try.ntmps17
  go_wp2
  go_loopw [5] (fun i wr => ∃ k : Nat, k ≤ n ∧ i = .int .i64 (k : Int) ∧ ∃ d, wr = w.drewN d) (fun i _ => n - (intOf i).toNat)
  case atStart => exact ⟨0, by omega, rfl, 0, rfl⟩
  case round =>
    obtain ⟨k, hk, rfl, d, rfl⟩ := hrel
    by_cases hlt : k < n
    · obtain ⟨b, o, rfl, hb, hcell⟩ := hs.lim hlt
      obtain ⟨b', o', rfl, hb', hcell'⟩ := hs'.lim hlt
      have g1 := hcell k hlt
      have g2 := hcell' k hlt
      clear hcell hcell'
      generalize ls.getD k 0 = z at *
      have hne : ((z : Int) != (z : Int)) = false := by simp
      go_wp2
      go_quiet (fail)
      go_wp2
      go_roundw
      case rel => exact ⟨k + 1, by omega, by go_num, _, rfl⟩
      case measure => simp [intOf]; omega
    · go_wp2
      go_ret
      exact ⟨rfl, _, rfl⟩

set_option maxHeartbeats 4000000 in
theorem qsame_yes (v u : Value) (p : Int) (q L M b b' : Nat) (w : World) (h1 : RatF b w v p q L) (h2 : RatF b' w u p q M) :
    Calls Try.prog 21 #[v, u] w fun e w' => e = .returned (.bool true) ∧ Below w.heap.size w w' := by
  obtain ⟨mv, dv, rfl, hm, hd, fm, fd⟩ := h1
  obtain ⟨mu, du, rfl, hm', hd', fm', fd'⟩ := h2
  obtain ⟨ls, a1, a2, _⟩ := hm.same hm'
  obtain ⟨ld, b1, b2, _⟩ := hd.same hd'
  obtain ⟨A, kA, cA, rfl⟩ := lim_show a1
  obtain ⟨A', kA', cA', rfl⟩ := lim_show a2
  obtain ⟨B, kB, cB, rfl⟩ := lim_show b1
  obtain ⟨B', kB', cB', rfl⟩ := lim_show b2
  obtain ⟨W0, hW0⟩ : ∃ W0 : World, W0 = (w.alloc (.cells #[.bool (decide (p < 0)), .slice A kA cA, .slice B kB cB] 42)).alloc (.cells #[.bool (decide (p < 0)), .slice A' kA' cA', .slice B' kB' cB'] 42) := ⟨_, rfl⟩
  have r0 : Row W0 w.heap.size 42 [.bool (decide (p < 0)), .slice A kA cA, .slice B kB cB] := by
    rw [hW0]
    have := Row.alloc (Row.new w 42 [.bool (decide (p < 0)), .slice A kA cA, .slice B kB cB]) (.cells #[.bool (decide (p < 0)), .slice A' kA' cA', .slice B' kB' cB'] 42)
    simpa using this
  have r1 : Row W0 (w.heap.size + 1) 42 [.bool (decide (p < 0)), .slice A' kA' cA', .slice B' kB' cB'] := by
    rw [hW0]
    have := Row.new (w.alloc (.cells #[.bool (decide (p < 0)), .slice A kA cA, .slice B kB cB] 42)) 42 [.bool (decide (p < 0)), .slice A' kA' cA', .slice B' kB' cB']
    simpa using this
  have B0 : Below w.heap.size w W0 := by rw [hW0]; exact (((Below.refl _ _).alloc (Nat.le_refl _) _).alloc (by simp) _)
  have x0 : W0.cell? ⟨w.heap.size, 0, none⟩ = some (.bool (decide (p < 0))) := r0.cell 0
  have x1 : W0.cell? ⟨w.heap.size, 1, none⟩ = some (.slice A kA cA) := r0.cell 1
  have x2 : W0.cell? ⟨w.heap.size, 2, none⟩ = some (.slice B kB cB) := r0.cell 2
  have y0 : W0.cell? ⟨w.heap.size + 1, 0, none⟩ = some (.bool (decide (p < 0))) := r1.cell 0
  have y1 : W0.cell? ⟨w.heap.size + 1, 1, none⟩ = some (.slice A' kA' cA') := r1.cell 1
  have y2 : W0.cell? ⟨w.heap.size + 1, 2, none⟩ = some (.slice B' kB' cB') := r1.cell 2
  have hE : (decide (p < 0) == decide (p < 0)) = true := by simp
  have H1 := Lib.hid (limbs_eq _ _ ls _ (a1.below B0) (a2.below B0))
  have H2 := Lib.hid (fun d => limbs_eq _ _ ld (W0.drewN d) (b1.below (below_drewN B0 d)) (b2.below (below_drewN B0 d)))
  generalize decide (p < 0) = s at *
  go_enter Try.func21, Try.ntmps21
  go_wp2_with fail
  rw [← hW0]
  clear hW0
  go_wp2_with fail
  refine H1.out.mono ?_
  rintro e w' ⟨rfl, d1, rfl⟩
  go_wp2_with fail
  refine (H2.out d1).mono ?_
  rintro e w' ⟨rfl, d2, rfl⟩
  go_wp2_with fail
  go_ret
  exact ⟨rfl, below_drewN B0 _⟩
end Go.Proofs.Ytdmjgildgjpmcaa
