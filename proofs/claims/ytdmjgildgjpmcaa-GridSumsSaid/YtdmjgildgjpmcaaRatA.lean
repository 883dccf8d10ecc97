/- The walks of ratio's reduce, parts, whole, zero. -/
import Derived.Test.YtdmjgildgjpmcaaIntC
import Derived.Test.YtdmjgildgjpmcaaNatE
namespace Go.Proofs.Ytdmjgildgjpmcaa
open Go.RowKit
set_option linter.unusedVariables false

/-- Any form of a fraction. -/
def RatA (w : World) (v : Value) (p : Int) (q : Nat) (L : Nat) : Prop := ∃ neg mv ls dv ld, v = .agg #[.bool neg, mv, dv] ∧ Lim w mv ls ∧ Lim w dv ld ∧ ls.length ≤ L ∧ ld.length ≤ L ∧
  (p = if val ld = 0 then 0 else sg neg (val ls)) ∧ (q = if val ld = 0 then 1 else val ld)
/-- A fraction whose parts are in normal form, in memory from block base on. -/
def RatF (base : Nat) (w : World) (v : Value) (p : Int) (q : Nat) (L : Nat) : Prop := ∃ mv dv, v = .agg #[.bool (decide (p < 0)), mv, dv] ∧ NatAt w mv p.natAbs L ∧ NatAt w dv q L ∧ Fresh base mv ∧ Fresh base dv
theorem RatF.ratA {base : Nat} {w : World} {v : Value} {p : Int} {q L : Nat} (h : RatF base w v p q L) (hq : 0 < q) : RatA w v p q L := by
  obtain ⟨mv, dv, rfl, ⟨ls, h1, _, h3, h4⟩, ⟨ld, k1, _, k3, k4⟩, _, _⟩ := h
  refine ⟨_, mv, ls, dv, ld, rfl, h1, k1, h4, k4, ?_, ?_⟩
  · rw [k3, if_neg (by omega), h3]
    unfold sg
    split
    · rename_i h; have := of_decide_eq_true h; omega
    · rename_i h; have : ¬ p < 0 := by simpa using h
      omega
  · rw [k3, if_neg (by omega)]
theorem RatA.pos {w : World} {v : Value} {p : Int} {q L : Nat} (h : RatA w v p q L) : 0 < q := by
  obtain ⟨_, _, _, _, _, _, _, _, _, _, _, h⟩ := h
  rw [h]; split <;> omega
theorem RatA.below {w w' : World} {v : Value} {p : Int} {q L : Nat} (h : RatA w v p q L) (hb : Below w.heap.size w w') : RatA w' v p q L := by
  obtain ⟨a, b, c, d, e, h1, h2, h3, h4, h5, h6, h7⟩ := h
  exact ⟨a, b, c, d, e, h1, h2.below hb, h3.below hb, h4, h5, h6, h7⟩
theorem RatA.mono {w : World} {v : Value} {p : Int} {q L L' : Nat} (h : RatA w v p q L) (hL : L ≤ L') : RatA w v p q L' := by
  obtain ⟨a, b, c, d, e, h1, h2, h3, h4, h5, h6, h7⟩ := h
  exact ⟨a, b, c, d, e, h1, h2, h3, Nat.le_trans h4 hL, Nat.le_trans h5 hL, h6, h7⟩
theorem RatF.below {base : Nat} {w w' : World} {v : Value} {p : Int} {q L : Nat} (h : RatF base w v p q L) (hb : Below w.heap.size w w') : RatF base w' v p q L := by
  obtain ⟨a, b, h1, h2, h3, h4, h5⟩ := h
  exact ⟨a, b, h1, h2.below hb, h3.below hb, h4, h5⟩
theorem RatF.base {b b' : Nat} {w : World} {v : Value} {p : Int} {q L : Nat} (h : RatF b w v p q L) (hb : b' ≤ b) : RatF b' w v p q L := by
  obtain ⟨x, y, h1, h2, h3, h4, h5⟩ := h
  exact ⟨x, y, h1, h2, h3, h4.mono hb, h5.mono hb⟩
theorem RatF.mono {b : Nat} {w : World} {v : Value} {p : Int} {q L L' : Nat} (h : RatF b w v p q L) (hL : L ≤ L') : RatF b w v p q L' := by
  obtain ⟨x, y, h1, h2, h3, h4, h5⟩ := h
  exact ⟨x, y, h1, h2.mono hL, h3.mono hL, h4, h5⟩
theorem RatF.set_ {b : Nat} {w : World} {v : Value} {p : Int} {q L : Nat} (h : RatF b w v p q L) {a : Addr} (ha : a.block < b) (x : Value) : RatF b (w.setCell a x) v p q L := by
  obtain ⟨c, d, h1, h2, h3, h4, h5⟩ := h
  exact ⟨c, d, h1, h2.set_ h4 ha x, h3.set_ h5 ha x, h4, h5⟩
theorem NatAt.lim1 {w : World} {v : Value} {n L : Nat} (h : NatAt w v n L) : ∃ ls, Lim w v ls ∧ val ls = n ∧ ls.length ≤ L := by
  obtain ⟨ls, h1, _, h3, h4⟩ := h
  exact ⟨ls, h1, h3, h4⟩
theorem sg_redP (neg : Bool) (n q : Nat) (p : Int) (h : p = sg neg n) : sg neg (n / Nat.gcd n q) = redP p q := by
  have e : p.natAbs = n := by rw [h, sg_abs]
  unfold redP
  rw [e, h]
  cases neg
  · simp [sg]
  · simp only [sg, if_true]
    rw [Int.neg_ediv_of_dvd (Int.natCast_dvd_natCast.2 (Nat.gcd_dvd_left _ _))]
    simp

set_option maxHeartbeats 4000000 in
theorem reduce_any (v u : Value) (p : Int) (lq : List Nat) (L : Nat) (w : World) (ha : IntA w v p L) (hu : Lim w u lq) (hL : L ≤ 70368744177600) (hM : lq.length ≤ L) (hq : 0 < val lq) :
    Calls Try.prog 53 #[v, u] w fun e w' => ∃ x, e = .returned x ∧ RatF w.heap.size w' x (redP p (val lq)) (redQ p (val lq)) L ∧ Below w.heap.size w w' := by
  obtain ⟨neg, mv, ls, rfl, hls, hk, HA⟩ := ha
  have hls' := hls
  have hu' := hu
  obtain ⟨⟨A, cA, rfl, _, _, _⟩, _⟩ := hls'
  obtain ⟨⟨B, cB, rfl, _, _, _⟩, _⟩ := hu'
  obtain ⟨W0, hW0⟩ : ∃ W0 : World, W0 = (w.alloc (.cells #[.bool neg, .slice A ls.length cA] 40)).alloc (.cells #[.bool false, .slice none 0 0, .slice none 0 0] 42) := ⟨_, rfl⟩
  have r0 : Row W0 w.heap.size 40 [.bool neg, .slice A ls.length cA] := by rw [hW0]; exact (Row.new w 40 [.bool neg, .slice A ls.length cA]).alloc _
  have r1 : Row W0 (w.heap.size + 1) 42 [.bool false, .slice none 0 0, .slice none 0 0] := by
    rw [hW0]
    have := Row.new (w.alloc (.cells #[.bool neg, .slice A ls.length cA] 40)) 42 [.bool false, .slice none 0 0, .slice none 0 0]
    simpa using this
  have B0 : Below w.heap.size w W0 := by rw [hW0]; exact ((Below.refl _ _).alloc (Nat.le_refl _) _).alloc (by simp) _
  have z1 := r1.lt
  have HP : Hid (p.natAbs = val ls) := by unfold Hid; rw [HA, sg_abs]
  have HSG := Lib.hid (sg_redP neg (val ls) (val lq) p HA)
  have HRQ : Hid (redQ p (val lq) = val lq / Nat.gcd (val ls) (val lq)) := by unfold Hid redQ; rw [HP.out]
  have hg0 : 0 < Nat.gcd (val ls) (val lq) := Nat.gcd_pos_of_pos_right _ hq
  clear HA
  have a1 : W0.cell? ⟨w.heap.size, 1, none⟩ = some (.slice A ls.length cA) := r0.cell 1
  go_enter Try.func53, Try.ntmps53
  go_wp2_with fail
  rw [← hW0]
  clear hW0
  go_wp2_with fail
  refine (gcd_all _ _ ls lq _ (hls.below B0) (hu.below B0) (by omega) (by omega)).mono ?_
  rintro e w1 ⟨g, rfl, hg, fg, hb1⟩
  have B1 := B0.trans (hb1.mono B0.size)
  have hg' := hg
  obtain ⟨lg, hlg, hvg, hkg⟩ := hg'.lim1
  have hlg' := hlg
  obtain ⟨⟨G, cG, rfl, _, _, _⟩, _⟩ := hlg'
  have a11 : w1.cell? ⟨w.heap.size, 1, none⟩ = some (.slice A ls.length cA) := (r0.keep hb1).cell 1
  have HVG := Lib.hid hvg
  have hlgn : lg.length ≤ L := by omega
  go_wp2_with fail
  refine (divmod_all _ _ ls lg _ (hls.below B1) hlg (by omega) (by omega) (by rw [HVG.out]; exact hg0)).mono ?_
  rintro e w2 ⟨q1, r1', rfl, ⟨hq1, fq1⟩, ⟨hr1, fr1⟩, hb2⟩
  have B2 := B1.trans (hb2.mono B1.size)
  rw [HVG.out] at hq1 hr1
  obtain ⟨l2, hl2, hv2, hk2⟩ := hq1.lim1
  have hl2' := hl2
  obtain ⟨⟨Q1, c1, rfl, _, _, _⟩, _⟩ := hl2'
  have hr1' := hr1
  obtain ⟨_, ⟨⟨R1, c1r, rfl, _, _, _⟩, _⟩, _, _, _⟩ := hr1'
  go_wp2_with fail
  refine (divmod_all _ _ lq lg _ (hu.below B2) (hlg.below hb2) (by omega) (by omega) (by rw [HVG.out]; exact hg0)).mono ?_
  rintro e w3 ⟨q2, r2', rfl, ⟨hq2, fq2⟩, ⟨hr2, fr2⟩, hb3⟩
  have B3 := B2.trans (hb3.mono B2.size)
  rw [HVG.out] at hq2 hr2
  have hq2' := hq2
  obtain ⟨l3, ⟨⟨Q2, c2, rfl, _, _, _⟩, _⟩, _, _, hk3⟩ := hq2'
  have hr2' := hr2
  obtain ⟨_, ⟨⟨R2, c2r, rfl, _, _, _⟩, _⟩, _, _, _⟩ := hr2'
  have B03 : Below W0.heap.size W0 w3 := hb1.trans ((hb2.trans (hb3.mono hb2.size)).mono hb1.size)
  have a03 : w3.cell? ⟨w.heap.size, 0, none⟩ = some (.bool neg) := (r0.keep B03).cell 0
  go_wp2_with fail
  refine (imake_any neg _ l2 _ (hl2.below hb3) (by omega)).mono ?_
  rintro e w6 ⟨v6, rfl, ⟨mv6, rfl, hn6, hf6⟩, h6⟩
  have hn6' := hn6
  obtain ⟨l6, ⟨⟨A6, c6, rfl, _, _, _⟩, _⟩, _⟩ := hn6'
  have B06 := B03.trans (h6.mono B03.size)
  have B6 := B0.trans (B06.mono B0.size)
  have hr6 := r1.keep B06
  have d0 : w6.cell? ⟨w.heap.size + 1, 0, none⟩ = some (.bool false) := hr6.cell 0
  have d1 : w6.cell? ⟨w.heap.size + 1, 1, none⟩ = some (.slice none 0 0) := hr6.cell 1
  have d2 : w6.cell? ⟨w.heap.size + 1, 2, none⟩ = some (.slice none 0 0) := hr6.cell 2
  have f0 := hr6.frozen 0
  have f1 := hr6.frozen 1
  have f2 := hr6.frozen 2
  have hPQ : sg neg (val l2) = redP p (val lq) := by rw [hv2]; exact HSG.out
  have hz : w.heap.size + 2 ≤ W0.heap.size := z1
  have hn7 : NatAt w6 (.slice A6 l6.length c6) (redP p (val lq)).natAbs L := by rw [← hPQ]; exact hn6.mono (by omega)
  have hf7 : Fresh (w.heap.size + 2) (.slice A6 l6.length c6) := hf6.mono (Nat.le_trans hz B03.size)
  have hd7 : NatAt w6 (.slice Q2 l3.length c2) (redQ p (val lq)) L := by rw [HRQ.out]; exact (hq2.below h6).mono hM
  have hfd7 : Fresh (w.heap.size + 2) (.slice Q2 l3.length c2) := fq2.mono (by have := hb1.size; have := hb2.size; omega)
  rw [hPQ]
  clear hr6
  go_wp2_with fail
  refine bodyPost_ret (v := .agg #[.bool (decide (redP p (val lq) < 0)), .slice A6 l6.length c6, .slice Q2 l3.length c2]) (by simp [results, Try.results53, go_sem, d0, d1, d2]) rfl ⟨_, rfl, ⟨_, _, rfl, ?_, ?_, hf7.mono (by omega), hfd7.mono (by omega)⟩, ((B6.setCell (by simp) _).setCell (by simp) _).setCell (by simp) _⟩
  · exact ((hn7.set_ hf7 (by simp) _).set_ hf7 (by simp) _).set_ hf7 (by simp) _
  · exact ((hd7.set_ hfd7 (by simp) _).set_ hfd7 (by simp) _).set_ hfd7 (by simp) _
end Go.Proofs.Ytdmjgildgjpmcaa
