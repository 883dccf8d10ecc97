/- Same, SameInt and SameRatio of the references, at equal numbers in normal form. No condition beyond these. -/
import Derived.Test.YtompckomogmhiaaDoorRatG
import Derived.Deep.QuietTactic
import Derived.BigQuiet
namespace Go.Proofs.YtompckomogmhiaaDoor
open Go.RowKit
set_option linter.unusedVariables false

theorem lim_shows {w : World} {v : Value} {ls : List Nat} (h : Lim w v ls) : ∃ A n c, v = .slice A n c := by
  obtain ⟨⟨A, cA, rfl, _⟩, _⟩ := h
  exact ⟨_, _, _, rfl⟩
set_option maxHeartbeats 1000000 in
theorem r1same_yes (v u : Value) (ls : List Nat) (w : World) (h1 : Lim w v ls) (h2 : Lim w u ls) :
    Calls Tryd.prog 34 #[v, u] w fun e w' => e = .returned (.bool true) ∧ Below w.heap.size w w' := by
  obtain ⟨⟨A, c, rfl, hc, hm, hs⟩, _⟩ := h1
  obtain ⟨⟨B, c', rfl, hc', hm', hs'⟩, _⟩ := h2
  obtain ⟨n, hn⟩ : ∃ n, n = ls.length := ⟨_, rfl⟩
  rw [← hn] at hs hs' hc hc' ⊢
  unfold maxLen at hm hm'
  have HN := Lib.hid hn
  clear hn
  have hnn : ((n : Int) != (n : Int)) = false := by simp
  go_enter Tryd.func34, Tryd.ntmps34
  go_wp2
  go_loopw [5] (fun i wr => ∃ k : Nat, k ≤ n ∧ i = .int .i64 (k : Int) ∧ ∃ d, wr = w.drewN d) (fun i _ => n - (intOf i).toNat)
  case atStart => exact ⟨0, by omega, rfl, 0, rfl⟩
  case round =>
    obtain ⟨k, hk, rfl, d, rfl⟩ := hrel
    by_cases hlt : k < n
    · obtain ⟨b, o, rfl, hb, hcell⟩ := hs.lim hlt
      obtain ⟨b', o', rfl, hb', hcell'⟩ := hs'.lim hlt
      have g1 := hcell k hlt
      have g2 := hcell' k hlt
      clear hcell hcell'
      generalize ls.getD k 0 = z at *
      have hne : ((z : Int) != (z : Int)) = false := by simp
      go_wp2
      go_quiet (fail)
      go_wp2
      go_roundw
      case rel => exact ⟨k + 1, by omega, by go_num, _, rfl⟩
      case measure => simp [intOf]; omega
    · go_wp2
      go_ret
      exact ⟨rfl, below_drewN (Below.refl _ _) _⟩


set_option maxHeartbeats 4000000 in
theorem sint_yes (v u : Value) (p : Int) (L M b b' : Nat) (w : World) (h1 : IntF b w v p L) (h2 : IntF b' w u p M) :
    Calls Tryd.prog 33 #[v, u] w fun e w' => e = .returned (.bool true) ∧ Below w.heap.size w w' := by
  obtain ⟨mv, rfl, hm, fm⟩ := h1
  obtain ⟨mu, rfl, hm', fm'⟩ := h2
  obtain ⟨ls, a1, a2, _⟩ := hm.same hm'
  obtain ⟨A, kA, cA, rfl⟩ := lim_shows a1
  obtain ⟨A', kA', cA', rfl⟩ := lim_shows a2
  clear hm hm' fm fm'
  obtain ⟨W0, hW0⟩ : ∃ W0 : World, W0 = (w.alloc (.cells #[.bool (decide (p < 0)), .slice A kA cA] 29)).alloc (.cells #[.bool (decide (p < 0)), .slice A' kA' cA'] 29) := ⟨_, rfl⟩
  have r0 : Row W0 w.heap.size 29 [.bool (decide (p < 0)), .slice A kA cA] := by
    rw [hW0]
    have := Row.alloc (Row.new w 29 [.bool (decide (p < 0)), .slice A kA cA]) (.cells #[.bool (decide (p < 0)), .slice A' kA' cA'] 29)
    simpa using this
  have r1 : Row W0 (w.heap.size + 1) 29 [.bool (decide (p < 0)), .slice A' kA' cA'] := by
    rw [hW0]
    have := Row.new (w.alloc (.cells #[.bool (decide (p < 0)), .slice A kA cA] 29)) 29 [.bool (decide (p < 0)), .slice A' kA' cA']
    simpa using this
  have B0 : Below w.heap.size w W0 := by rw [hW0]; exact (((Below.refl _ _).alloc (Nat.le_refl _) _).alloc (by simp) _)
  have x0 : W0.cell? ⟨w.heap.size, 0, none⟩ = some (.bool (decide (p < 0))) := r0.cell 0
  have x1 : W0.cell? ⟨w.heap.size, 1, none⟩ = some (.slice A kA cA) := r0.cell 1
  have y0 : W0.cell? ⟨w.heap.size + 1, 0, none⟩ = some (.bool (decide (p < 0))) := r1.cell 0
  have y1 : W0.cell? ⟨w.heap.size + 1, 1, none⟩ = some (.slice A' kA' cA') := r1.cell 1
  have hE : (decide (p < 0) == decide (p < 0)) = true := by simp
  have H1 := Lib.hid (r1same_yes _ _ ls _ (a1.below B0) (a2.below B0))
  clear a1 a2
  generalize decide (p < 0) = s at *
  go_enter Tryd.func33, Tryd.ntmps33
  go_wp2_with fail
  rw [← hW0]
  clear hW0
  go_wp2_with fail
  refine H1.out.mono ?_
  rintro e w' ⟨rfl, hb⟩
  go_wp2_with fail
  go_ret
  exact ⟨rfl, B0.trans (hb.mono B0.size)⟩

set_option maxHeartbeats 4000000 in
theorem srat_yes (v u : Value) (p : Int) (q L M b b' : Nat) (w : World) (h1 : RatF b w v p q L) (h2 : RatF b' w u p q M) :
    Calls Tryd.prog 12 #[v, u] w fun e w' => e = .returned (.bool true) ∧ Below w.heap.size w w' := by
  obtain ⟨mv, dv, rfl, hm, hd, fm, fd⟩ := h1
  obtain ⟨mu, du, rfl, hm', hd', fm', fd'⟩ := h2
  have i1 : IntF b w (.agg #[.bool (decide (p < 0)), mv]) p L := ⟨mv, rfl, hm, fm⟩
  have i2 : IntF b' w (.agg #[.bool (decide (p < 0)), mu]) p M := ⟨mu, rfl, hm', fm'⟩
  obtain ⟨ld, b1, b2, _⟩ := hd.same hd'
  obtain ⟨A, kA, cA, rfl⟩ := hm.lim1.choose_spec.1.show_
  obtain ⟨A', kA', cA', rfl⟩ := hm'.lim1.choose_spec.1.show_
  obtain ⟨B, kB, cB, rfl⟩ := lim_shows b1
  obtain ⟨B', kB', cB', rfl⟩ := lim_shows b2
  clear hm hm' fm fm' hd hd' fd fd'
  obtain ⟨W0, hW0⟩ : ∃ W0 : World, W0 = (w.alloc (.cells #[.bool (decide (p < 0)), .slice A kA cA, .slice B kB cB] 31)).alloc (.cells #[.bool (decide (p < 0)), .slice A' kA' cA', .slice B' kB' cB'] 31) := ⟨_, rfl⟩
  have r0 : Row W0 w.heap.size 31 [.bool (decide (p < 0)), .slice A kA cA, .slice B kB cB] := by
    rw [hW0]
    have := Row.alloc (Row.new w 31 [.bool (decide (p < 0)), .slice A kA cA, .slice B kB cB]) (.cells #[.bool (decide (p < 0)), .slice A' kA' cA', .slice B' kB' cB'] 31)
    simpa using this
  have r1 : Row W0 (w.heap.size + 1) 31 [.bool (decide (p < 0)), .slice A' kA' cA', .slice B' kB' cB'] := by
    rw [hW0]
    have := Row.new (w.alloc (.cells #[.bool (decide (p < 0)), .slice A kA cA, .slice B kB cB] 31)) 31 [.bool (decide (p < 0)), .slice A' kA' cA', .slice B' kB' cB']
    simpa using this
  have B0 : Below w.heap.size w W0 := by rw [hW0]; exact (((Below.refl _ _).alloc (Nat.le_refl _) _).alloc (by simp) _)
  have x0 : W0.cell? ⟨w.heap.size, 0, none⟩ = some (.bool (decide (p < 0))) := r0.cell 0
  have x1 : W0.cell? ⟨w.heap.size, 1, none⟩ = some (.slice A kA cA) := r0.cell 1
  have x2 : W0.cell? ⟨w.heap.size, 2, none⟩ = some (.slice B kB cB) := r0.cell 2
  have y0 : W0.cell? ⟨w.heap.size + 1, 0, none⟩ = some (.bool (decide (p < 0))) := r1.cell 0
  have y1 : W0.cell? ⟨w.heap.size + 1, 1, none⟩ = some (.slice A' kA' cA') := r1.cell 1
  have y2 : W0.cell? ⟨w.heap.size + 1, 2, none⟩ = some (.slice B' kB' cB') := r1.cell 2
  have hE : (decide (p < 0) == decide (p < 0)) = true := by simp
  have H1 := Lib.hid (sint_yes _ _ p L M b b' _ (i1.below B0) (i2.below B0))
  have H2 := Lib.hid (fun (W : World) (h : Below w.heap.size w W) => r1same_yes _ _ ld W (b1.below h) (b2.below h))
  clear i1 i2 b1 b2
  go_enter Tryd.func12, Tryd.ntmps12
  go_wp2_with fail
  rw [← hW0]
  clear hW0
  have z0 := r0.lt
  have z1 := r1.lt
  go_wp2_with fail
  refine H1.out.mono ?_
  rintro e w1 ⟨rfl, hb⟩
  replace r0 := r0.keep hb
  replace r1 := r1.keep hb
  replace B0 : Below w.heap.size w w1 := B0.trans (hb.mono B0.size)
  clear hb x0 x1 x2 y0 y1 y2 z0 z1
  have x0 : w1.cell? ⟨w.heap.size, 0, none⟩ = some (.bool (decide (p < 0))) := r0.cell 0
  have x1 : w1.cell? ⟨w.heap.size, 1, none⟩ = some (.slice A kA cA) := r0.cell 1
  have x2 : w1.cell? ⟨w.heap.size, 2, none⟩ = some (.slice B kB cB) := r0.cell 2
  have y0 : w1.cell? ⟨w.heap.size + 1, 0, none⟩ = some (.bool (decide (p < 0))) := r1.cell 0
  have y1 : w1.cell? ⟨w.heap.size + 1, 1, none⟩ = some (.slice A' kA' cA') := r1.cell 1
  have y2 : w1.cell? ⟨w.heap.size + 1, 2, none⟩ = some (.slice B' kB' cB') := r1.cell 2
  have z0 := r0.lt
  have z1 := r1.lt
  go_wp2_with fail
  refine (H2.out _ B0).mono ?_
  rintro e w2 ⟨rfl, hb⟩
  go_wp2_with fail
  go_ret
  exact ⟨rfl, B0.trans (hb.mono B0.size)⟩

end Go.Proofs.YtompckomogmhiaaDoor
