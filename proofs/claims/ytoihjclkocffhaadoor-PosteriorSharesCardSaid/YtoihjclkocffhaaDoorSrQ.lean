/- Same, SameInt and SameRatio of the references, at equal numbers in normal form. No condition beyond these. Lists of fractions that are collected by append; the walk of SameList at equal lists (package examboardref07). -/
import Derived.Test.YtoihjclkocffhaaDoorRatQ
import Derived.Deep.QuietTactic
import Derived.BigQuiet
import Derived.Test.YtoihjclkocffhaaDoorPoF
import Derived.Deep.AppendLies
import Derived.Deep.RegionHeld3
namespace Go.Proofs.YtoihjclkocffhaaDoor
open Go.RowKit
set_option linter.unusedVariables false

theorem lim_shows {w : World} {v : Value} {ls : List Nat} (h : Lim w v ls) : ∃ A n c, v = .slice A n c := by
  obtain ⟨⟨A, cA, rfl, _⟩, _⟩ := h
  exact ⟨_, _, _, rfl⟩
set_option maxHeartbeats 1000000 in
theorem r1same_yes (v u : Value) (ls : List Nat) (w : World) (h1 : Lim w v ls) (h2 : Lim w u ls) :
    Calls Tryd.prog 41 #[v, u] w fun e w' => e = .returned (.bool true) ∧ Below w.heap.size w w' := by
  obtain ⟨⟨A, c, rfl, hc, hm, hs⟩, _⟩ := h1
  obtain ⟨⟨B, c', rfl, hc', hm', hs'⟩, _⟩ := h2
  obtain ⟨n, hn⟩ : ∃ n, n = ls.length := ⟨_, rfl⟩
  rw [← hn] at hs hs' hc hc' ⊢
  unfold maxLen at hm hm'
  have HN := Lib.hid hn
  clear hn
  have hnn : ((n : Int) != (n : Int)) = false := by simp
  go_enter Tryd.func41, Tryd.ntmps41
  go_wp2
  go_loopw [5] (fun i wr => ∃ k : Nat, k ≤ n ∧ i = .int .i64 (k : Int) ∧ ∃ d, wr = w.drewN d) (fun i _ => n - (intOf i).toNat)
  case atStart => exact ⟨0, by omega, rfl, 0, rfl⟩
  case round =>
    obtain ⟨k, hk, rfl, d, rfl⟩ := hrel
    by_cases hlt : k < n
    · obtain ⟨b, o, rfl, hb, hcell⟩ := hs.lim hlt
      obtain ⟨b', o', rfl, hb', hcell'⟩ := hs'.lim hlt
      have g1 := hcell k hlt
      have g2 := hcell' k hlt
      clear hcell hcell'
      generalize ls.getD k 0 = z at *
      have hne : ((z : Int) != (z : Int)) = false := by simp
      go_wp2
      go_quiet (fail)
      go_wp2
      go_roundw
      case rel => exact ⟨k + 1, by omega, by go_num, _, rfl⟩
      case measure => simp [intOf]; omega
    · go_wp2
      go_ret
      exact ⟨rfl, below_drewN (Below.refl _ _) _⟩


set_option maxHeartbeats 4000000 in
theorem sint_yes (v u : Value) (p : Int) (L M b b' : Nat) (w : World) (h1 : IntF b w v p L) (h2 : IntF b' w u p M) :
    Calls Tryd.prog 93 #[v, u] w fun e w' => e = .returned (.bool true) ∧ Below w.heap.size w w' := by
  obtain ⟨mv, rfl, hm, fm⟩ := h1
  obtain ⟨mu, rfl, hm', fm'⟩ := h2
  obtain ⟨ls, a1, a2, _⟩ := hm.same hm'
  obtain ⟨A, kA, cA, rfl⟩ := lim_shows a1
  obtain ⟨A', kA', cA', rfl⟩ := lim_shows a2
  clear hm hm' fm fm'
  obtain ⟨W0, hW0⟩ : ∃ W0 : World, W0 = (w.alloc (.cells #[.bool (decide (p < 0)), .slice A kA cA] 52)).alloc (.cells #[.bool (decide (p < 0)), .slice A' kA' cA'] 52) := ⟨_, rfl⟩
  have r0 : Row W0 w.heap.size 52 [.bool (decide (p < 0)), .slice A kA cA] := by
    rw [hW0]
    have := Row.alloc (Row.new w 52 [.bool (decide (p < 0)), .slice A kA cA]) (.cells #[.bool (decide (p < 0)), .slice A' kA' cA'] 52)
    simpa using this
  have r1 : Row W0 (w.heap.size + 1) 52 [.bool (decide (p < 0)), .slice A' kA' cA'] := by
    rw [hW0]
    have := Row.new (w.alloc (.cells #[.bool (decide (p < 0)), .slice A kA cA] 52)) 52 [.bool (decide (p < 0)), .slice A' kA' cA']
    simpa using this
  have B0 : Below w.heap.size w W0 := by rw [hW0]; exact (((Below.refl _ _).alloc (Nat.le_refl _) _).alloc (by simp) _)
  have x0 : W0.cell? ⟨w.heap.size, 0, none⟩ = some (.bool (decide (p < 0))) := r0.cell 0
  have x1 : W0.cell? ⟨w.heap.size, 1, none⟩ = some (.slice A kA cA) := r0.cell 1
  have y0 : W0.cell? ⟨w.heap.size + 1, 0, none⟩ = some (.bool (decide (p < 0))) := r1.cell 0
  have y1 : W0.cell? ⟨w.heap.size + 1, 1, none⟩ = some (.slice A' kA' cA') := r1.cell 1
  have hE : (decide (p < 0) == decide (p < 0)) = true := by simp
  have H1 := Lib.hid (r1same_yes _ _ ls _ (a1.below B0) (a2.below B0))
  clear a1 a2
  generalize decide (p < 0) = s at *
  go_enter Tryd.func93, Tryd.ntmps93
  go_wp2_with fail
  rw [← hW0]
  clear hW0
  go_wp2_with fail
  refine H1.out.mono ?_
  rintro e w' ⟨rfl, hb⟩
  go_wp2_with fail
  go_ret
  exact ⟨rfl, B0.trans (hb.mono B0.size)⟩

set_option maxHeartbeats 4000000 in
theorem srat_yes (v u : Value) (p : Int) (q L M b b' : Nat) (w : World) (h1 : RatF b w v p q L) (h2 : RatF b' w u p q M) :
    Calls Tryd.prog 61 #[v, u] w fun e w' => e = .returned (.bool true) ∧ Below w.heap.size w w' := by
  obtain ⟨mv, dv, rfl, hm, hd, fm, fd⟩ := h1
  obtain ⟨mu, du, rfl, hm', hd', fm', fd'⟩ := h2
  have i1 : IntF b w (.agg #[.bool (decide (p < 0)), mv]) p L := ⟨mv, rfl, hm, fm⟩
  have i2 : IntF b' w (.agg #[.bool (decide (p < 0)), mu]) p M := ⟨mu, rfl, hm', fm'⟩
  obtain ⟨ld, b1, b2, _⟩ := hd.same hd'
  obtain ⟨A, kA, cA, rfl⟩ := hm.lim1.choose_spec.1.show_
  obtain ⟨A', kA', cA', rfl⟩ := hm'.lim1.choose_spec.1.show_
  obtain ⟨B, kB, cB, rfl⟩ := lim_shows b1
  obtain ⟨B', kB', cB', rfl⟩ := lim_shows b2
  clear hm hm' fm fm' hd hd' fd fd'
  obtain ⟨W0, hW0⟩ : ∃ W0 : World, W0 = (w.alloc (.cells #[.bool (decide (p < 0)), .slice A kA cA, .slice B kB cB] 54)).alloc (.cells #[.bool (decide (p < 0)), .slice A' kA' cA', .slice B' kB' cB'] 54) := ⟨_, rfl⟩
  have r0 : Row W0 w.heap.size 54 [.bool (decide (p < 0)), .slice A kA cA, .slice B kB cB] := by
    rw [hW0]
    have := Row.alloc (Row.new w 54 [.bool (decide (p < 0)), .slice A kA cA, .slice B kB cB]) (.cells #[.bool (decide (p < 0)), .slice A' kA' cA', .slice B' kB' cB'] 54)
    simpa using this
  have r1 : Row W0 (w.heap.size + 1) 54 [.bool (decide (p < 0)), .slice A' kA' cA', .slice B' kB' cB'] := by
    rw [hW0]
    have := Row.new (w.alloc (.cells #[.bool (decide (p < 0)), .slice A kA cA, .slice B kB cB] 54)) 54 [.bool (decide (p < 0)), .slice A' kA' cA', .slice B' kB' cB']
    simpa using this
  have B0 : Below w.heap.size w W0 := by rw [hW0]; exact (((Below.refl _ _).alloc (Nat.le_refl _) _).alloc (by simp) _)
  have x0 : W0.cell? ⟨w.heap.size, 0, none⟩ = some (.bool (decide (p < 0))) := r0.cell 0
  have x1 : W0.cell? ⟨w.heap.size, 1, none⟩ = some (.slice A kA cA) := r0.cell 1
  have x2 : W0.cell? ⟨w.heap.size, 2, none⟩ = some (.slice B kB cB) := r0.cell 2
  have y0 : W0.cell? ⟨w.heap.size + 1, 0, none⟩ = some (.bool (decide (p < 0))) := r1.cell 0
  have y1 : W0.cell? ⟨w.heap.size + 1, 1, none⟩ = some (.slice A' kA' cA') := r1.cell 1
  have y2 : W0.cell? ⟨w.heap.size + 1, 2, none⟩ = some (.slice B' kB' cB') := r1.cell 2
  have hE : (decide (p < 0) == decide (p < 0)) = true := by simp
  have H1 := Lib.hid (sint_yes _ _ p L M b b' _ (i1.below B0) (i2.below B0))
  have H2 := Lib.hid (fun (W : World) (h : Below w.heap.size w W) => r1same_yes _ _ ld W (b1.below h) (b2.below h))
  clear i1 i2 b1 b2
  go_enter Tryd.func61, Tryd.ntmps61
  go_wp2_with fail
  rw [← hW0]
  clear hW0
  have z0 := r0.lt
  have z1 := r1.lt
  go_wp2_with fail
  refine H1.out.mono ?_
  rintro e w1 ⟨rfl, hb⟩
  replace r0 := r0.keep hb
  replace r1 := r1.keep hb
  replace B0 : Below w.heap.size w w1 := B0.trans (hb.mono B0.size)
  clear hb x0 x1 x2 y0 y1 y2 z0 z1
  have x0 : w1.cell? ⟨w.heap.size, 0, none⟩ = some (.bool (decide (p < 0))) := r0.cell 0
  have x1 : w1.cell? ⟨w.heap.size, 1, none⟩ = some (.slice A kA cA) := r0.cell 1
  have x2 : w1.cell? ⟨w.heap.size, 2, none⟩ = some (.slice B kB cB) := r0.cell 2
  have y0 : w1.cell? ⟨w.heap.size + 1, 0, none⟩ = some (.bool (decide (p < 0))) := r1.cell 0
  have y1 : w1.cell? ⟨w.heap.size + 1, 1, none⟩ = some (.slice A' kA' cA') := r1.cell 1
  have y2 : w1.cell? ⟨w.heap.size + 1, 2, none⟩ = some (.slice B' kB' cB') := r1.cell 2
  have z0 := r0.lt
  have z1 := r1.lt
  go_wp2_with fail
  refine (H2.out _ B0).mono ?_
  rintro e w2 ⟨rfl, hb⟩
  go_wp2_with fail
  go_ret
  exact ⟨rfl, B0.trans (hb.mono B0.size)⟩

end Go.Proofs.YtoihjclkocffhaaDoor
namespace Go.Proofs.YtoihjclkocffhaaDoor
open Go.RowKit
set_option linter.unusedVariables false
set_option maxRecDepth 100000

/-- A fraction in three cells, none of its slices in the row's own block. -/
def RatAt (w : World) (u : T3) (z : Int × Nat) (L : Nat) : Prop := u.1 = .bool (decide (z.1 < 0)) ∧ NatAt w u.2.1 z.1.natAbs L ∧ NatAt w u.2.2 z.2 L
theorem RatAt.ratF {w : World} {u : T3} {z : Int × Nat} {L : Nat} (h : RatAt w u z L) : RatF 0 w (.agg #[u.1, u.2.1, u.2.2]) z.1 z.2 L := by
  obtain ⟨h1, h2, h3⟩ := h
  have f : ∀ {v : Value} {n : Nat}, NatAt w v n L → Fresh 0 v := fun {v n} h => by
    obtain ⟨ls, ⟨⟨A, c, e2, _⟩, _⟩, _⟩ := h
    rw [e2]
    unfold Fresh
    split
    · exact Nat.zero_le _
    · trivial
  exact ⟨u.2.1, u.2.2, by rw [h1], h2, h3, f h2, f h3⟩
theorem RatF.ratAt {b : Nat} {w : World} {x y z : Value} {p : Int} {q L : Nat} (h : RatF b w (.agg #[x, y, z]) p q L) : RatAt w (x, y, z) (p, q) L ∧ Fresh b y ∧ Fresh b z := by
  obtain ⟨m, d, e, h1, h2, h3, h4⟩ := h
  injection e with e
  simp only [Array.mk.injEq, List.cons.injEq, and_true] at e
  obtain ⟨rfl, rfl, rfl⟩ := e
  exact ⟨⟨rfl, h1, h2⟩, h3, h4⟩
/-- What has been collected by append: the first k of the fractions. -/
def RatO (w : World) (us : List T3) (zs : List (Int × Nat)) (k L : Nat) (row : Option Nat) : Prop := us.length = k ∧ ∀ i u, us[i]? = some u → RatAt w u (zs.getD i (0, 1)) L ∧ Off row u.2.1 ∧ Off row u.2.2
theorem RatO.zero (w : World) (zs : List (Int × Nat)) (L : Nat) (row : Option Nat) : RatO w [] zs 0 L row := ⟨rfl, fun i u h => by simp at h⟩
theorem RatO.below {w w' : World} {us : List T3} {zs : List (Int × Nat)} {k L : Nat} {row : Option Nat} (h : RatO w us zs k L row) (hb : Below w.heap.size w w') : RatO w' us zs k L row :=
  ⟨h.1, fun i u hi => by
    obtain ⟨⟨a, b, c⟩, d⟩ := h.2 i u hi
    exact ⟨⟨a, b.below hb, c.below hb⟩, d⟩⟩
theorem RatO.snoc {w : World} {us : List T3} {zs : List (Int × Nat)} {k L : Nat} {row : Option Nat} {u : T3} (h : RatO w us zs k L row) (hx : RatAt w u (zs.getD k (0, 1)) L) (h1 : Off row u.2.1) (h2 : Off row u.2.2) : RatO w (us ++ [u]) zs (k + 1) L row := by
  refine ⟨by rw [List.length_append, h.1]; rfl, fun i v hi => ?_⟩
  rcases Nat.lt_or_ge i us.length with hl | hl
  · rw [List.getElem?_append_left hl] at hi
    exact h.2 i v hi
  · rw [List.getElem?_append_right hl] at hi
    have : i - us.length = 0 := by
      rcases Nat.eq_zero_or_pos (i - us.length) with h0 | h0
      · exact h0
      · rw [List.getElem?_eq_none (by simp; omega)] at hi; cases hi
    rw [this] at hi
    simp at hi
    subst hi
    have : i = k := by have := h.1; omega
    subst this
    exact ⟨hx, h1, h2⟩
theorem RatO.grown {w w' : World} {us : List T3} {zs : List (Int × Nat)} {k L : Nat} {row row' : Option Nat} (h : RatO w us zs k L row) (hg : w.grownBy w' row) (hr : row' = row ∨ ∃ j, row' = some j ∧ w.heap.size ≤ j) : RatO w' us zs k L row' := by
  refine ⟨h.1, fun i u hi => ?_⟩
  obtain ⟨⟨h0, h1, h2⟩, h3, h4⟩ := h.2 i u hi
  refine ⟨⟨h0, h1.grown hg h3, h2.grown hg h4⟩, ?_⟩
  rcases hr with rfl | ⟨j, rfl, hj⟩
  · exact ⟨h3, h4⟩
  · exact ⟨h1.off hj, h2.off hj⟩
/-- A slice of fractions, at the start of its block. -/
def RatLs (w : World) (v : Value) (zs : List (Int × Nat)) (L : Nat) : Prop := ∃ g c us, v = .slice (some ⟨g, 0, none⟩) zs.length c ∧ g < w.heap.size ∧ us.length = zs.length ∧ (∀ j u, (flat us)[j]? = some u → w.cell? ⟨g, j, none⟩ = some u) ∧ ∀ i u, us[i]? = some u → RatF 0 w (.agg #[u.1, u.2.1, u.2.2]) (zs.getD i (0, 1)).1 (zs.getD i (0, 1)).2 L
theorem RatLs.below {w w' : World} {v : Value} {zs : List (Int × Nat)} {L : Nat} (h : RatLs w v zs L) (hb : Below w.heap.size w w') : RatLs w' v zs L := by
  obtain ⟨g, c, us, hv, hg, hl, hc, hu⟩ := h
  exact ⟨g, c, us, hv, Nat.lt_of_lt_of_le hg hb.size, hl, fun j u hj => (hb.cell (p := ⟨g, j, none⟩) hg).trans (hc j u hj), fun i u hi => (hu i u hi).below hb⟩
theorem RatO.ls {w : World} {us : List T3} {zs : List (Int × Nat)} {L base e n : Nat} {v : Value} {row : Option Nat} (h : RatO w us zs n L row) (hn : zs.length = n) (h0 : 0 < n) (ho : w.ownsRow base e 3 v n (flat us)) : RatLs w v zs L := by
  obtain ⟨hl, ho⟩ := ho
  rcases ho with ⟨rfl, rfl⟩ | ⟨g, cap, cur, rfl, _, hh, hnc, hm, hs, hx⟩
  · omega
  · subst hn
    refine ⟨g, cap, us, rfl, ?_, h.1, ?_, fun i u hi => (h.2 i u hi).1.ratF⟩
    · rcases Nat.lt_or_ge g w.heap.size with hlt | hge
      · exact hlt
      · rw [Array.getElem?_eq_none hge] at hh; cases hh
    · intro j u hu
      rw [cell_of_row w g j cur e (0, 0) hh]
      rw [← hx, List.getElem?_take] at hu
      split at hu
      · simpa using hu
      · cases hu
theorem RatC.ls {w : World} {us : List T3} {zs : List (Int × Nat)} {L g t n base : Nat} (h : RatC w us zs n L base) (hn : zs.length = n) (hr : Row w g t (flat us)) : RatLs w (.slice (some ⟨g, 0, none⟩) n n) zs L := by
  subst hn
  exact ⟨g, zs.length, us, rfl, hr.lt, h.1, fun j u hj => by rw [hr.cell, hj], fun i u hi => (h.2 i u hi).base (Nat.zero_le _)⟩
theorem own_zero3 (w : World) (base e : Nat) : w.ownsRow base e 3 (.slice none 0 0) 0 (flat []) := ⟨rfl, .inl ⟨rfl, rfl⟩⟩
theorem off_own3 {w : World} {base e k : Nat} {gv v : Value} {xs : List Value} (h : w.ownsRow base e 3 gv k xs) (hf : Fresh w.heap.size v) : Off gv.ownBlock v := by
  rcases hg : gv.ownBlock with _ | q
  · exact Off.none_ _
  · exact Off.of_fresh hf ((h.lt q hg).2)
theorem own_slice3 {w : World} {base e size n : Nat} {v : Value} {xs : List Value} (h : w.ownsRow base e size v n xs) : ∃ A c, v = .slice A n c := by
  rcases h.2 with ⟨rfl, rfl⟩ | ⟨g, cap, cur, rfl, _⟩
  · exact ⟨none, 0, rfl⟩
  · exact ⟨_, _, rfl⟩
theorem info_parts3 {P : Program} {e : TypeId} {cs : Array Value} {s b : Nat} (h : (P.info? e).map (fun i => (i.zero.map (·.cells), i.size, i.bytes)) = some (some cs, s, b)) : ∃ i z, P.info? e = some i ∧ i.zero = some z ∧ i.size = s ∧ i.bytes = b ∧ z.cells = cs := by
  rcases hi : P.info? e with _ | i
  · rw [hi] at h; simp at h
  · rw [hi] at h
    simp only [Option.map_some, Option.some.injEq, Prod.mk.injEq] at h
    obtain ⟨h1, h2, h3⟩ := h
    rcases hz : i.zero with _ | z
    · rw [hz] at h1; simp at h1
    · rw [hz] at h1
      simp only [Option.map_some, Option.some.injEq] at h1
      exact ⟨i, z, rfl, hz, h2, h3, h1⟩
/-- The three cells of an element. -/
theorem RatLs.at_ {w : World} {g n : Nat} {us : List T3} {zs : List (Int × Nat)} {L k : Nat} (hl : us.length = n) (hc : ∀ j u, (flat us)[j]? = some u → w.cell? ⟨g, j, none⟩ = some u) (hu : ∀ i u, us[i]? = some u → RatF 0 w (.agg #[u.1, u.2.1, u.2.2]) (zs.getD i (0, 1)).1 (zs.getD i (0, 1)).2 L) (hk : k < n) :
    ∃ A a c B b d, w.cell? ⟨g, k * 3, none⟩ = some (.bool (decide ((zs.getD k (0, 1)).1 < 0))) ∧ w.cell? ⟨g, k * 3 + 1, none⟩ = some (.slice A a c) ∧ w.cell? ⟨g, k * 3 + 2, none⟩ = some (.slice B b d) ∧ RatF 0 w (.agg #[.bool (decide ((zs.getD k (0, 1)).1 < 0)), .slice A a c, .slice B b d]) (zs.getD k (0, 1)).1 (zs.getD k (0, 1)).2 L := by
  obtain ⟨u, hu0⟩ : ∃ u, us[k]? = some u := ⟨us[k]'(by omega), List.getElem?_eq_getElem _⟩
  have h := hu k u hu0
  obtain ⟨e0, e1, e2⟩ := flat_get hu0
  have q0 := hc _ _ e0
  have q1 := hc _ _ e1
  have q2 := hc _ _ e2
  rw [Nat.mul_comm] at q0 q1 q2
  obtain ⟨x, y, z⟩ := u
  obtain ⟨⟨h1, h2, h3⟩, _⟩ := h.ratAt
  simp only at h1 h2 h3 q0 q1 q2 h
  subst h1
  obtain ⟨A, a, c, rfl⟩ := h2.lim1.choose_spec.1.show_
  obtain ⟨B, b, d, rfl⟩ := h3.lim1.choose_spec.1.show_
  exact ⟨A, a, c, B, b, d, q0, q1, q2, h⟩
end Go.Proofs.YtoihjclkocffhaaDoor
