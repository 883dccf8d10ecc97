/- The walks of ratio's reduce, parts, whole, zero. The walks of ratio's zero, whole, parts, Norm, Make, Of. The walks of ratio's Make, Of, Norm, Sign. The walks of ratio's Norm and Sign. The walk of ratio's Cmp. The walk of ratio's Add. -/
import Derived.Test.YtoihjclkocffhaaDoorIntC
import Derived.Test.YtoihjclkocffhaaDoorNatE
import Derived.RegionTactic
import Derived.BigRegion
import Derived.Deep.CutRange
import Derived.Deep.DeepCutAuto
import Derived.Deep.Light
namespace Go.Proofs.YtoihjclkocffhaaDoor
open Go.RowKit
set_option linter.unusedVariables false

/-- Any form of a fraction. -/
def RatA (w : World) (v : Value) (p : Int) (q : Nat) (L : Nat) : Prop := ∃ neg mv ls dv ld, v = .agg #[.bool neg, mv, dv] ∧ Lim w mv ls ∧ Lim w dv ld ∧ ls.length ≤ L ∧ ld.length ≤ L ∧
  (p = if val ld = 0 then 0 else sg neg (val ls)) ∧ (q = if val ld = 0 then 1 else val ld)
/-- A fraction whose parts are in normal form, in memory from block base on. -/
def RatF (base : Nat) (w : World) (v : Value) (p : Int) (q : Nat) (L : Nat) : Prop := ∃ mv dv, v = .agg #[.bool (decide (p < 0)), mv, dv] ∧ NatAt w mv p.natAbs L ∧ NatAt w dv q L ∧ Fresh base mv ∧ Fresh base dv
theorem RatF.ratA {base : Nat} {w : World} {v : Value} {p : Int} {q L : Nat} (h : RatF base w v p q L) (hq : 0 < q) : RatA w v p q L := by
  obtain ⟨mv, dv, rfl, ⟨ls, h1, _, h3, h4⟩, ⟨ld, k1, _, k3, k4⟩, _, _⟩ := h
  refine ⟨_, mv, ls, dv, ld, rfl, h1, k1, h4, k4, ?_, ?_⟩
  · rw [k3, if_neg (by omega), h3]
    unfold sg
    split
    · rename_i h; have := of_decide_eq_true h; omega
    · rename_i h; have : ¬ p < 0 := by simpa using h
      omega
  · rw [k3, if_neg (by omega)]
theorem RatA.pos {w : World} {v : Value} {p : Int} {q L : Nat} (h : RatA w v p q L) : 0 < q := by
  obtain ⟨_, _, _, _, _, _, _, _, _, _, _, h⟩ := h
  rw [h]; split <;> omega
theorem RatA.below {w w' : World} {v : Value} {p : Int} {q L : Nat} (h : RatA w v p q L) (hb : Below w.heap.size w w') : RatA w' v p q L := by
  obtain ⟨a, b, c, d, e, h1, h2, h3, h4, h5, h6, h7⟩ := h
  exact ⟨a, b, c, d, e, h1, h2.below hb, h3.below hb, h4, h5, h6, h7⟩
theorem RatA.mono {w : World} {v : Value} {p : Int} {q L L' : Nat} (h : RatA w v p q L) (hL : L ≤ L') : RatA w v p q L' := by
  obtain ⟨a, b, c, d, e, h1, h2, h3, h4, h5, h6, h7⟩ := h
  exact ⟨a, b, c, d, e, h1, h2, h3, Nat.le_trans h4 hL, Nat.le_trans h5 hL, h6, h7⟩
theorem RatF.below {base : Nat} {w w' : World} {v : Value} {p : Int} {q L : Nat} (h : RatF base w v p q L) (hb : Below w.heap.size w w') : RatF base w' v p q L := by
  obtain ⟨a, b, h1, h2, h3, h4, h5⟩ := h
  exact ⟨a, b, h1, h2.below hb, h3.below hb, h4, h5⟩
theorem RatF.base {b b' : Nat} {w : World} {v : Value} {p : Int} {q L : Nat} (h : RatF b w v p q L) (hb : b' ≤ b) : RatF b' w v p q L := by
  obtain ⟨x, y, h1, h2, h3, h4, h5⟩ := h
  exact ⟨x, y, h1, h2, h3, h4.mono hb, h5.mono hb⟩
theorem RatF.mono {b : Nat} {w : World} {v : Value} {p : Int} {q L L' : Nat} (h : RatF b w v p q L) (hL : L ≤ L') : RatF b w v p q L' := by
  obtain ⟨x, y, h1, h2, h3, h4, h5⟩ := h
  exact ⟨x, y, h1, h2.mono hL, h3.mono hL, h4, h5⟩
theorem RatF.set_ {b : Nat} {w : World} {v : Value} {p : Int} {q L : Nat} (h : RatF b w v p q L) {a : Addr} (ha : a.block < b) (x : Value) : RatF b (w.setCell a x) v p q L := by
  obtain ⟨c, d, h1, h2, h3, h4, h5⟩ := h
  exact ⟨c, d, h1, h2.set_ h4 ha x, h3.set_ h5 ha x, h4, h5⟩
theorem NatAt.lim1 {w : World} {v : Value} {n L : Nat} (h : NatAt w v n L) : ∃ ls, Lim w v ls ∧ val ls = n ∧ ls.length ≤ L := by
  obtain ⟨ls, h1, _, h3, h4⟩ := h
  exact ⟨ls, h1, h3, h4⟩
theorem sg_redP (neg : Bool) (n q : Nat) (p : Int) (h : p = sg neg n) : sg neg (n / Nat.gcd n q) = redP p q := by
  have e : p.natAbs = n := by rw [h, sg_abs]
  unfold redP
  rw [e, h]
  cases neg
  · simp [sg]
  · simp only [sg, if_true]
    rw [Int.neg_ediv_of_dvd (Int.natCast_dvd_natCast.2 (Nat.gcd_dvd_left _ _))]
    simp

set_option maxHeartbeats 4000000 in
theorem reduce_any (v u : Value) (p : Int) (lq : List Nat) (L : Nat) (w : World) (ha : IntA w v p L) (hu : Lim w u lq) (hL : L ≤ 70368744177600) (hM : lq.length ≤ L) (hq : 0 < val lq) :
    Calls Tryd.prog 75 #[v, u] w fun e w' => ∃ x, e = .returned x ∧ RatF w.heap.size w' x (redP p (val lq)) (redQ p (val lq)) L ∧ Below w.heap.size w w' := by
  obtain ⟨neg, mv, ls, rfl, hls, hk, HA⟩ := ha
  have hls' := hls
  have hu' := hu
  obtain ⟨⟨A, cA, rfl, _, _, _⟩, _⟩ := hls'
  obtain ⟨⟨B, cB, rfl, _, _, _⟩, _⟩ := hu'
  obtain ⟨W0, hW0⟩ : ∃ W0 : World, W0 = (w.alloc (.cells #[.bool neg, .slice A ls.length cA] 52)).alloc (.cells #[.bool false, .slice none 0 0, .slice none 0 0] 54) := ⟨_, rfl⟩
  have r0 : Row W0 w.heap.size 52 [.bool neg, .slice A ls.length cA] := by rw [hW0]; exact (Row.new w 52 [.bool neg, .slice A ls.length cA]).alloc _
  have r1 : Row W0 (w.heap.size + 1) 54 [.bool false, .slice none 0 0, .slice none 0 0] := by
    rw [hW0]
    have := Row.new (w.alloc (.cells #[.bool neg, .slice A ls.length cA] 52)) 54 [.bool false, .slice none 0 0, .slice none 0 0]
    simpa using this
  have B0 : Below w.heap.size w W0 := by rw [hW0]; exact ((Below.refl _ _).alloc (Nat.le_refl _) _).alloc (by simp) _
  have z1 := r1.lt
  have HP : Hid (p.natAbs = val ls) := by unfold Hid; rw [HA, sg_abs]
  have HSG := Lib.hid (sg_redP neg (val ls) (val lq) p HA)
  have HRQ : Hid (redQ p (val lq) = val lq / Nat.gcd (val ls) (val lq)) := by unfold Hid redQ; rw [HP.out]
  have hg0 : 0 < Nat.gcd (val ls) (val lq) := Nat.gcd_pos_of_pos_right _ hq
  clear HA
  have a1 : W0.cell? ⟨w.heap.size, 1, none⟩ = some (.slice A ls.length cA) := r0.cell 1
  go_enter Tryd.func75, Tryd.ntmps75
  go_wp2_with fail
  rw [← hW0]
  clear hW0
  go_wp2_with fail
  refine (gcd_all _ _ ls lq _ (hls.below B0) (hu.below B0) (by omega) (by omega)).mono ?_
  rintro e w1 ⟨g, rfl, hg, fg, hb1⟩
  have B1 := B0.trans (hb1.mono B0.size)
  have hg' := hg
  obtain ⟨lg, hlg, hvg, hkg⟩ := hg'.lim1
  have hlg' := hlg
  obtain ⟨⟨G, cG, rfl, _, _, _⟩, _⟩ := hlg'
  have a11 : w1.cell? ⟨w.heap.size, 1, none⟩ = some (.slice A ls.length cA) := (r0.keep hb1).cell 1
  have HVG := Lib.hid hvg
  have hlgn : lg.length ≤ L := by omega
  go_wp2_with fail
  refine (divmod_all _ _ ls lg _ (hls.below B1) hlg (by omega) (by omega) (by rw [HVG.out]; exact hg0)).mono ?_
  rintro e w2 ⟨q1, r1', rfl, ⟨hq1, fq1⟩, ⟨hr1, fr1⟩, hb2⟩
  have B2 := B1.trans (hb2.mono B1.size)
  rw [HVG.out] at hq1 hr1
  obtain ⟨l2, hl2, hv2, hk2⟩ := hq1.lim1
  have hl2' := hl2
  obtain ⟨⟨Q1, c1, rfl, _, _, _⟩, _⟩ := hl2'
  have hr1' := hr1
  obtain ⟨_, ⟨⟨R1, c1r, rfl, _, _, _⟩, _⟩, _, _, _⟩ := hr1'
  go_wp2_with fail
  refine (divmod_all _ _ lq lg _ (hu.below B2) (hlg.below hb2) (by omega) (by omega) (by rw [HVG.out]; exact hg0)).mono ?_
  rintro e w3 ⟨q2, r2', rfl, ⟨hq2, fq2⟩, ⟨hr2, fr2⟩, hb3⟩
  have B3 := B2.trans (hb3.mono B2.size)
  rw [HVG.out] at hq2 hr2
  have hq2' := hq2
  obtain ⟨l3, ⟨⟨Q2, c2, rfl, _, _, _⟩, _⟩, _, _, hk3⟩ := hq2'
  have hr2' := hr2
  obtain ⟨_, ⟨⟨R2, c2r, rfl, _, _, _⟩, _⟩, _, _, _⟩ := hr2'
  have B03 : Below W0.heap.size W0 w3 := hb1.trans ((hb2.trans (hb3.mono hb2.size)).mono hb1.size)
  have a03 : w3.cell? ⟨w.heap.size, 0, none⟩ = some (.bool neg) := (r0.keep B03).cell 0
  go_wp2_with fail
  refine (imake_any neg _ l2 _ (hl2.below hb3) (by omega)).mono ?_
  rintro e w6 ⟨v6, rfl, ⟨mv6, rfl, hn6, hf6⟩, h6⟩
  have hn6' := hn6
  obtain ⟨l6, ⟨⟨A6, c6, rfl, _, _, _⟩, _⟩, _⟩ := hn6'
  have B06 := B03.trans (h6.mono B03.size)
  have B6 := B0.trans (B06.mono B0.size)
  have hr6 := r1.keep B06
  have d0 : w6.cell? ⟨w.heap.size + 1, 0, none⟩ = some (.bool false) := hr6.cell 0
  have d1 : w6.cell? ⟨w.heap.size + 1, 1, none⟩ = some (.slice none 0 0) := hr6.cell 1
  have d2 : w6.cell? ⟨w.heap.size + 1, 2, none⟩ = some (.slice none 0 0) := hr6.cell 2
  have f0 := hr6.frozen 0
  have f1 := hr6.frozen 1
  have f2 := hr6.frozen 2
  have hPQ : sg neg (val l2) = redP p (val lq) := by rw [hv2]; exact HSG.out
  have hz : w.heap.size + 2 ≤ W0.heap.size := z1
  have hn7 : NatAt w6 (.slice A6 l6.length c6) (redP p (val lq)).natAbs L := by rw [← hPQ]; exact hn6.mono (by omega)
  have hf7 : Fresh (w.heap.size + 2) (.slice A6 l6.length c6) := hf6.mono (Nat.le_trans hz B03.size)
  have hd7 : NatAt w6 (.slice Q2 l3.length c2) (redQ p (val lq)) L := by rw [HRQ.out]; exact (hq2.below h6).mono hM
  have hfd7 : Fresh (w.heap.size + 2) (.slice Q2 l3.length c2) := fq2.mono (by have := hb1.size; have := hb2.size; omega)
  rw [hPQ]
  clear hr6
  go_wp2_with fail
  refine bodyPost_ret (v := .agg #[.bool (decide (redP p (val lq) < 0)), .slice A6 l6.length c6, .slice Q2 l3.length c2]) (by simp [results, Tryd.results75, go_sem, d0, d1, d2]) rfl ⟨_, rfl, ⟨_, _, rfl, ?_, ?_, hf7.mono (by omega), hfd7.mono (by omega)⟩, ((B6.setCell (by simp) _).setCell (by simp) _).setCell (by simp) _⟩
  · exact ((hn7.set_ hf7 (by simp) _).set_ hf7 (by simp) _).set_ hf7 (by simp) _
  · exact ((hd7.set_ hfd7 (by simp) _).set_ hfd7 (by simp) _).set_ hfd7 (by simp) _
end Go.Proofs.YtoihjclkocffhaaDoor
namespace Go.Proofs.YtoihjclkocffhaaDoor
open Go.RowKit
set_option linter.unusedVariables false

set_option maxHeartbeats 2000000 in
theorem whole_any (v : Value) (ls : List Nat) (w : World) (h : Lim w v ls) (hl : ls.length ≤ 70368744177650) :
    Calls Tryd.prog 74 #[v] w fun e w' => ∃ u, e = .returned u ∧ IntF w.heap.size w' u (val ls : Int) ls.length ∧ Below w.heap.size w w' := by
  have hgb := Row.new w 52 [.bool false, .slice none 0 0]
  have B0 : Below w.heap.size w (w.alloc (.cells #[.bool false, .slice none 0 0] 52)) := (Below.refl _ _).alloc (Nat.le_refl _) _
  have z0 := hgb.lt
  have hz : (w.alloc (.cells #[.bool false, .slice none 0 0] 52)).heap.size = w.heap.size + 1 := by simp
  have HZ := Lib.hid hz
  have h' := h
  obtain ⟨⟨B, cB, rfl, _, _, _⟩, _⟩ := h'
  clear hz
  go_enter Tryd.func74, Tryd.ntmps74
  go_wp2_with fail
  refine (imake_any false _ ls _ (h.below B0) hl).mono ?_
  rintro e w6 ⟨v6, rfl, ⟨mv6, rfl, hn6, hf6⟩, h6⟩
  have hn6' := hn6
  obtain ⟨l6, ⟨⟨A6, c6, rfl, _, _, _⟩, _⟩, _⟩ := hn6'
  have B6 := B0.trans (h6.mono B0.size)
  replace hgb := hgb.keep h6
  have hPQ : sg false (val ls) = (val ls : Int) := rfl
  have d60 : w6.cell? ⟨w.heap.size, 0, none⟩ = some (.bool false) := hgb.cell 0
  have d61 : w6.cell? ⟨w.heap.size, 1, none⟩ = some (.slice none 0 0) := hgb.cell 1
  have f60 := hgb.frozen 0
  have f61 := hgb.frozen 1
  have hn7 : NatAt w6 (.slice A6 l6.length c6) ((val ls : Nat) : Int).natAbs ls.length := hn6
  have hf7 : Fresh (w.heap.size + 1) (.slice A6 l6.length c6) := by have := hf6; rw [HZ.out] at this; exact this
  rw [hPQ]
  go_wp2_with fail
  refine bodyPost_ret (v := .agg #[.bool (decide ((val ls : Int) < 0)), .slice A6 l6.length c6]) (by simp [results, Tryd.results74, go_sem, d60, d61]) rfl ⟨_, rfl, ⟨_, rfl, ?_, hf7.mono (by omega)⟩, (B6.setCell (Nat.le_refl _) _).setCell (Nat.le_refl _) _⟩
  exact (hn7.set_ hf7 (by simp) _).set_ hf7 (by simp) _

set_option maxHeartbeats 2000000 in
theorem rzero_any (w : World) :
    Calls Tryd.prog 67 #[] w fun e w' => ∃ x, e = .returned x ∧ RatF w.heap.size w' x 0 1 2 ∧ Below w.heap.size w w' := by
  have hgb := Row.new w 54 [.bool false, .slice none 0 0, .slice none 0 0]
  have B0 : Below w.heap.size w (w.alloc (.cells #[.bool false, .slice none 0 0, .slice none 0 0] 54)) := (Below.refl _ _).alloc (Nat.le_refl _) _
  have hz : (w.alloc (.cells #[.bool false, .slice none 0 0, .slice none 0 0] 54)).heap.size = w.heap.size + 1 := by simp
  have HZ := Lib.hid hz
  clear hz
  go_enter Tryd.func67, Tryd.ntmps67
  go_wp2_with fail
  refine (of_any 1 _ (by omega)).mono ?_
  rintro e w6 ⟨v6, rfl, l6, hl6, nt6, hv6, hk6, hf6, h6⟩
  have hn6 : NatAt w6 v6 1 2 := ⟨l6, hl6, nt6, hv6, hk6⟩
  have hl6' := hl6
  obtain ⟨⟨A6, c6, rfl, _, _, _⟩, _⟩ := hl6'
  have B6 := B0.trans (h6.mono B0.size)
  replace hgb := hgb.keep h6
  have d60 : w6.cell? ⟨w.heap.size, 0, none⟩ = some (.bool false) := hgb.cell 0
  have d61 : w6.cell? ⟨w.heap.size, 1, none⟩ = some (.slice none 0 0) := hgb.cell 1
  have d62 : w6.cell? ⟨w.heap.size, 2, none⟩ = some (.slice none 0 0) := hgb.cell 2
  have f60 := hgb.frozen 0
  have f61 := hgb.frozen 1
  have f62 := hgb.frozen 2
  have hf7 : Fresh (w.heap.size + 1) (.slice A6 l6.length c6) := by have := hf6; rw [HZ.out] at this; exact this
  go_wp2_with fail
  refine bodyPost_ret (v := .agg #[.bool false, .slice none 0 0, .slice A6 l6.length c6]) (by simp [results, Tryd.results67, go_sem, d60, d61, d62]) rfl ⟨_, rfl, ⟨_, _, rfl, natAt_nilD _ _, ?_, trivial, hf7.mono (by omega)⟩, ((B6.setCell (Nat.le_refl _) _).setCell (Nat.le_refl _) _).setCell (Nat.le_refl _) _⟩
  exact ((hn6.set_ hf7 (by simp) _).set_ hf7 (by simp) _).set_ hf7 (by simp) _

set_option maxHeartbeats 4000000 in
theorem parts_any (v : Value) (p : Int) (q L : Nat) (w : World) (h : RatA w v p q L) (hL : 2 ≤ L) :
    Calls Tryd.prog 71 #[v] w fun e w' => ∃ x y lq, e = .returned (.tuple #[x, y]) ∧ IntA w' x p L ∧ Lim w' y lq ∧ val lq = q ∧ lq.length ≤ L ∧ Below w.heap.size w w' := by
  obtain ⟨neg, mv, ls, dv, ld, rfl, hls, hld, k1, k2, hp, hq⟩ := h
  have hls' := hls
  have hld' := hld
  obtain ⟨⟨A, cA, rfl, _, _, _⟩, _⟩ := hls'
  obtain ⟨⟨B, cB, rfl, _, _, _⟩, _⟩ := hld'
  obtain ⟨W0, hW0⟩ : ∃ W0 : World, W0 = (w.alloc (.cells #[.bool neg, .slice A ls.length cA, .slice B ld.length cB] 54)).alloc (.cells #[.bool false, .slice none 0 0] 52) := ⟨_, rfl⟩
  have r0 : Row W0 w.heap.size 54 [.bool neg, .slice A ls.length cA, .slice B ld.length cB] := by rw [hW0]; exact (Row.new w 54 [.bool neg, .slice A ls.length cA, .slice B ld.length cB]).alloc _
  have r1 : Row W0 (w.heap.size + 1) 52 [.bool false, .slice none 0 0] := by
    rw [hW0]
    have := Row.new (w.alloc (.cells #[.bool neg, .slice A ls.length cA, .slice B ld.length cB] 54)) 52 [.bool false, .slice none 0 0]
    simpa using this
  have B0 : Below w.heap.size w W0 := by rw [hW0]; exact ((Below.refl _ _).alloc (Nat.le_refl _) _).alloc (by simp) _
  have hz : w.heap.size + 2 ≤ W0.heap.size := r1.lt
  have HC := Lib.hid (cmp_any _ _ ld [] _ (hld.below B0) (Lim.nil _))
  have a0 : W0.cell? ⟨w.heap.size, 0, none⟩ = some (.bool neg) := r0.cell 0
  have a1 : W0.cell? ⟨w.heap.size, 1, none⟩ = some (.slice A ls.length cA) := r0.cell 1
  have a2 : W0.cell? ⟨w.heap.size, 2, none⟩ = some (.slice B ld.length cB) := r0.cell 2
  go_enter Tryd.func71, Tryd.ntmps71
  go_wp2_with fail
  rw [← hW0]
  clear hW0
  go_wp2_with fail
  refine HC.out.mono ?_
  rintro e w' ⟨rfl, d, rfl⟩
  rw [show val ([] : List Nat) = 0 from rfl]
  clear HC
  by_cases h0 : val ld = 0
  · rw [if_pos h0] at hp hq
    have f1 : (cmpN (val ld) 0 == 0) = true := by rw [h0]; rfl
    subst hp hq
    clear h0
    generalize cmpN (val ld) 0 = cm at *
    obtain ⟨W1, hW1⟩ : ∃ W1 : World, W1 = W0.drewN d := ⟨_, rfl⟩
    have B1 : Below w.heap.size w W1 := by rw [hW1]; exact below_drewN B0 d
    have r1' : Row W1 (w.heap.size + 1) 52 [.bool false, .slice none 0 0] := by rw [hW1]; exact r1
    have hz1 : w.heap.size + 2 ≤ W1.heap.size := by rw [hW1]; exact hz
    rw [← hW1]
    clear hW1
    go_wp2_with fail
    refine (of_any 1 _ (by omega)).mono ?_
    rintro e w6 ⟨v6, rfl, l6, hl6, nt6, hv6, hk6, hf6, h6⟩
    have hl6' := hl6
    obtain ⟨⟨A6, c6, rfl, _, _, _⟩, _⟩ := hl6'
    have B6 := B1.trans (h6.mono B1.size)
    have hgb := r1'.keep h6
    have d60 : w6.cell? ⟨w.heap.size + 1, 0, none⟩ = some (.bool false) := hgb.cell 0
    have d61 : w6.cell? ⟨w.heap.size + 1, 1, none⟩ = some (.slice none 0 0) := hgb.cell 1
    have f60 := hgb.frozen 0
    have f61 := hgb.frozen 1
    have hf7 : Fresh (w.heap.size + 2) (.slice A6 l6.length c6) := hf6.mono hz1
    go_wp2_with fail
    refine bodyPost_ret (v := .tuple #[.agg #[.bool false, .slice none 0 0], .slice A6 l6.length c6]) (by simp [results, Tryd.results71, go_sem, d60, d61]) rfl ⟨_, _, l6, rfl, ⟨false, _, [], rfl, Lim.nil _, by simp, rfl⟩, ?_, hv6, by omega, (B6.setCell (by simp) _).setCell (by simp) _⟩
    exact (hl6.set_ hf7 (by simp) _).set_ hf7 (by simp) _
  · rw [if_neg h0] at hp hq
    have f1 : (cmpN (val ld) 0 == 0) = false := by rw [cmpN_gt (by omega)]; rfl
    clear h0
    generalize cmpN (val ld) 0 = cm at *
    obtain ⟨W1, hW1⟩ : ∃ W1 : World, W1 = W0.drewN d := ⟨_, rfl⟩
    have B1 : Below w.heap.size w W1 := by rw [hW1]; exact below_drewN B0 d
    have r1' : Row W1 (w.heap.size + 1) 52 [.bool false, .slice none 0 0] := by rw [hW1]; exact r1
    have a01 : W1.cell? ⟨w.heap.size, 0, none⟩ = some (.bool neg) := by rw [hW1]; exact a0
    have a11 : W1.cell? ⟨w.heap.size, 1, none⟩ = some (.slice A ls.length cA) := by rw [hW1]; exact a1
    have a21 : W1.cell? ⟨w.heap.size, 2, none⟩ = some (.slice B ld.length cB) := by rw [hW1]; exact a2
    rw [← hW1]
    clear hW1 a0 a1 a2 r0 r1
    have d60 : W1.cell? ⟨w.heap.size + 1, 0, none⟩ = some (.bool false) := r1'.cell 0
    have d61 : W1.cell? ⟨w.heap.size + 1, 1, none⟩ = some (.slice none 0 0) := r1'.cell 1
    have f60 := r1'.frozen 0
    have f61 := r1'.frozen 1
    go_wp2_with fail
    go_region
    obtain ⟨W2, hW2⟩ : ∃ W2 : World, W2 = ((W1.setCell ⟨w.heap.size + 1, 0, none⟩ (.bool neg)).setCell ⟨w.heap.size + 1, 1, none⟩ (.slice A ls.length cA)).drew := ⟨_, rfl⟩
    have B2 : Below w.heap.size w W2 := by rw [hW2]; exact ((B1.setCell (p := ⟨w.heap.size + 1, 0, none⟩) (by simp) _).setCell (p := ⟨w.heap.size + 1, 1, none⟩) (by simp) _).drew
    have r2 : Row W2 (w.heap.size + 1) 52 [.bool neg, .slice A ls.length cA] := by rw [hW2]; exact (r1'.set_ 0 (.bool neg)).set_ 1 (.slice A ls.length cA)
    have e0 : W2.cell? ⟨w.heap.size + 1, 0, none⟩ = some (.bool neg) := r2.cell 0
    have e1 : W2.cell? ⟨w.heap.size + 1, 1, none⟩ = some (.slice A ls.length cA) := r2.cell 1
    rw [← hW2]
    clear hW2 d60 d61 f60 f61 a01 a11 a21
    go_wp2_with fail
    exact bodyPost_ret (v := .tuple #[.agg #[.bool neg, .slice A ls.length cA], .slice B ld.length cB]) (by simp [results, Tryd.results71, go_sem, e0, e1]) rfl ⟨_, _, ld, rfl, ⟨neg, _, ls, rfl, hls.below B2, k1, hp⟩, hld.below B2, hq.symm, k2, B2⟩
end Go.Proofs.YtoihjclkocffhaaDoor
namespace Go.Proofs.YtoihjclkocffhaaDoor
open Go.RowKit
set_option linter.unusedVariables false

theorem keep4t {w : World} {g : Nat} {x y z x1 x2 x3 x4 : Value} (h : w.cell? ⟨g, 0, none⟩ = some x1 ∧ w.cell? ⟨g, 1, none⟩ = some x2 ∧ w.cell? ⟨g + 1, 0, none⟩ = some x3 ∧ w.cell? ⟨g + 1, 1, none⟩ = some x4) :
    (((w.setCell ⟨g + 2, 0, none⟩ x).setCell ⟨g + 2, 1, none⟩ y).setCell ⟨g + 2, 2, none⟩ z).cell? ⟨g, 0, none⟩ = some x1 ∧ (((w.setCell ⟨g + 2, 0, none⟩ x).setCell ⟨g + 2, 1, none⟩ y).setCell ⟨g + 2, 2, none⟩ z).cell? ⟨g, 1, none⟩ = some x2 ∧ (((w.setCell ⟨g + 2, 0, none⟩ x).setCell ⟨g + 2, 1, none⟩ y).setCell ⟨g + 2, 2, none⟩ z).cell? ⟨g + 1, 0, none⟩ = some x3 ∧ (((w.setCell ⟨g + 2, 0, none⟩ x).setCell ⟨g + 2, 1, none⟩ y).setCell ⟨g + 2, 2, none⟩ z).cell? ⟨g + 1, 1, none⟩ = some x4 := by
  obtain ⟨h1, h2, h3, h4⟩ := h
  have n1 : ∀ (w : World) (a b k : Nat) (z : Value), a < g + 2 → (w.setCell ⟨g + 2, b, none⟩ z).cell? ⟨a, k, none⟩ = w.cell? ⟨a, k, none⟩ := fun w a b k z ha => World.cell?_setCell_other _ _ _ _ (fun e => by injection e with e _ _; omega)
  refine ⟨?_, ?_, ?_, ?_⟩
  · rw [n1 _ _ _ _ _ (by omega), n1 _ _ _ _ _ (by omega), n1 _ _ _ _ _ (by omega)]; exact h1
  · rw [n1 _ _ _ _ _ (by omega), n1 _ _ _ _ _ (by omega), n1 _ _ _ _ _ (by omega)]; exact h2
  · rw [n1 _ _ _ _ _ (by omega), n1 _ _ _ _ _ (by omega), n1 _ _ _ _ _ (by omega)]; exact h3
  · rw [n1 _ _ _ _ _ (by omega), n1 _ _ _ _ _ (by omega), n1 _ _ _ _ _ (by omega)]; exact h4
/-- The numerator when the denominator's sign goes into it. -/
def flipZ (p s : Int) : Int := if s < 0 then -p else p
theorem sg_flip (na nb : Bool) (a b : Nat) (hb : 0 < b) : sg (!na == nb) a = flipZ (sg na a) (sg nb b) := by
  unfold flipZ sg
  cases na <;> cases nb <;> simp <;> omega

set_option maxHeartbeats 4000000 in
theorem qmake_no (v u : Value) (p : Int) (L M : Nat) (w : World) (ha : IntA w v p L) (hb : IntA w u 0 M) :
    Calls Tryd.prog 90 #[v, u] w fun e w' => ∃ x, e = .returned (.tuple #[x, .bool false]) ∧ RatF w.heap.size w' x 0 1 2 ∧ Below w.heap.size w w' := by
  have ha0 := ha
  have hb0 := hb
  obtain ⟨na, av, la, rfl, hla, kla, HA⟩ := ha
  obtain ⟨nb, bv, lb, rfl, hlb, klb, HB⟩ := hb
  have hla' := hla
  have hlb' := hlb
  obtain ⟨⟨A, cA, rfl, _, _, _⟩, _⟩ := hla'
  obtain ⟨⟨B, cB, rfl, _, _, _⟩, _⟩ := hlb'
  obtain ⟨W0, hW0⟩ : ∃ W0 : World, W0 = ((w.alloc (.cells #[.bool na, .slice A la.length cA] 52)).alloc (.cells #[.bool nb, .slice B lb.length cB] 52)).alloc (.cells #[.bool false, .slice none 0 0, .slice none 0 0] 54) := ⟨_, rfl⟩
  have r0 : Row W0 w.heap.size 52 [.bool na, .slice A la.length cA] := by rw [hW0]; exact ((Row.new w 52 [.bool na, .slice A la.length cA]).alloc _).alloc _
  have r1 : Row W0 (w.heap.size + 1) 52 [.bool nb, .slice B lb.length cB] := by
    rw [hW0]
    have := (Row.new (w.alloc (.cells #[.bool na, .slice A la.length cA] 52)) 52 [.bool nb, .slice B lb.length cB]).alloc (.cells #[.bool false, .slice none 0 0, .slice none 0 0] 54)
    simpa using this
  have r2 : Row W0 (w.heap.size + 2) 54 [.bool false, .slice none 0 0, .slice none 0 0] := by
    rw [hW0]
    have := Row.new ((w.alloc (.cells #[.bool na, .slice A la.length cA] 52)).alloc (.cells #[.bool nb, .slice B lb.length cB] 52)) 54 [.bool false, .slice none 0 0, .slice none 0 0]
    simpa using this
  have B0 : Below w.heap.size w W0 := by rw [hW0]; exact (((Below.refl _ _).alloc (Nat.le_refl _) _).alloc (by simp) _).alloc (by simp; omega) _
  have a0 : W0.cell? ⟨w.heap.size, 0, none⟩ = some (.bool na) := r0.cell 0
  have a1 : W0.cell? ⟨w.heap.size, 1, none⟩ = some (.slice A la.length cA) := r0.cell 1
  have b0 : W0.cell? ⟨w.heap.size + 1, 0, none⟩ = some (.bool nb) := r1.cell 0
  have b1 : W0.cell? ⟨w.heap.size + 1, 1, none⟩ = some (.slice B lb.length cB) := r1.cell 1
  have d0 : W0.cell? ⟨w.heap.size + 2, 0, none⟩ = some (.bool false) := r2.cell 0
  have d1 : W0.cell? ⟨w.heap.size + 2, 1, none⟩ = some (.slice none 0 0) := r2.cell 1
  have d2 : W0.cell? ⟨w.heap.size + 2, 2, none⟩ = some (.slice none 0 0) := r2.cell 2
  have e2 : W0.frozen? ⟨w.heap.size + 2, 2, none⟩ = false := r2.frozen 2
  have e0 : W0.frozen? ⟨w.heap.size + 2, 0, none⟩ = false := r2.frozen 0
  have e1 : W0.frozen? ⟨w.heap.size + 2, 1, none⟩ = false := r2.frozen 1
  have z0 := r0.lt
  have z1 := r1.lt
  have z2 := r2.lt
  have hz : w.heap.size + 3 ≤ W0.heap.size := z2
  have hla2 := hla.below B0
  have hlb2 := hlb.below B0
  go_enter Tryd.func90, Tryd.ntmps90
  go_wp2_with fail
  rw [← hW0]
  clear hW0
  go_wp2_with fail
  refine (isign_any _ 0 M _ (hb0.below B0)).mono ?_
  rintro e w5 ⟨rfl, h5⟩
  rw [show sgnZ 0 = 0 from rfl]
  go_wp2_with fail
  refine (rzero_any _).mono ?_
  rintro e w6 ⟨v6, rfl, ⟨mv, dv, rfl, hm, hd, fm, fd⟩, h6⟩
  have B6' : Below W0.heap.size W0 w6 := h5.trans (h6.mono h5.size)
  have hm' := hm
  have hd' := hd
  obtain ⟨l6, ⟨⟨A6, c6, rfl, _, _, _⟩, _⟩, _⟩ := hm'
  obtain ⟨l7, ⟨⟨A7, c7, rfl, _, _, _⟩, _⟩, _⟩ := hd'
  have r6 := r2.keep B6'
  have d60 : w6.cell? ⟨w.heap.size + 2, 0, none⟩ = some (.bool false) := r6.cell 0
  have d61 : w6.cell? ⟨w.heap.size + 2, 1, none⟩ = some (.slice none 0 0) := r6.cell 1
  have d62 : w6.cell? ⟨w.heap.size + 2, 2, none⟩ = some (.slice none 0 0) := r6.cell 2
  have f60 := r6.frozen 0
  have f61 := r6.frozen 1
  have f62 := r6.frozen 2
  have hfm : Fresh (w.heap.size + 3) (.slice A6 l6.length c6) := fm.mono (Nat.le_trans hz h5.size)
  have hfd : Fresh (w.heap.size + 3) (.slice A7 l7.length c7) := fd.mono (Nat.le_trans hz h5.size)
  clear r6
  go_wp2_with fail
  refine bodyPost_ret (v := .tuple #[.agg #[.bool false, .slice A6 l6.length c6, .slice A7 l7.length c7], .bool false]) (by simp [results, Tryd.results90, go_sem, d60, d61, d62]) rfl ⟨_, rfl, ⟨_, _, rfl, ?_, ?_, hfm.mono (by omega), hfd.mono (by omega)⟩, (((B0.trans (B6'.mono B0.size)).setCell (by simp; omega) _).setCell (by simp; omega) _).setCell (by simp; omega) _⟩
  · exact ((hm.set_ hfm (by simp) _).set_ hfm (by simp) _).set_ hfm (by simp) _
  · exact ((hd.set_ hfd (by simp) _).set_ hfd (by simp) _).set_ hfd (by simp) _

set_option maxHeartbeats 8000000 in
theorem qmake_any (v u : Value) (p s : Int) (L M : Nat) (w : World) (ha : IntA w v p L) (hb : IntA w u s M) (hL : L ≤ 70368744177600) (hM : M ≤ 70368744177600) (hs : s ≠ 0) :
    Calls Tryd.prog 90 #[v, u] w fun e w' => ∃ x, e = .returned (.tuple #[x, .bool true]) ∧ RatF w.heap.size w' x (redP (flipZ p s) s.natAbs) (redQ (flipZ p s) s.natAbs) (max L M) ∧ Below w.heap.size w w' := by
  have ha0 := ha
  have hb0 := hb
  obtain ⟨na, av, la, rfl, hla, kla, HA⟩ := ha
  obtain ⟨nb, bv, lb, rfl, hlb, klb, HB⟩ := hb
  have hla' := hla
  have hlb' := hlb
  obtain ⟨⟨A, cA, rfl, _, _, _⟩, _⟩ := hla'
  obtain ⟨⟨B, cB, rfl, _, _, _⟩, _⟩ := hlb'
  obtain ⟨W0, hW0⟩ : ∃ W0 : World, W0 = ((w.alloc (.cells #[.bool na, .slice A la.length cA] 52)).alloc (.cells #[.bool nb, .slice B lb.length cB] 52)).alloc (.cells #[.bool false, .slice none 0 0, .slice none 0 0] 54) := ⟨_, rfl⟩
  have r0 : Row W0 w.heap.size 52 [.bool na, .slice A la.length cA] := by rw [hW0]; exact ((Row.new w 52 [.bool na, .slice A la.length cA]).alloc _).alloc _
  have r1 : Row W0 (w.heap.size + 1) 52 [.bool nb, .slice B lb.length cB] := by
    rw [hW0]
    have := (Row.new (w.alloc (.cells #[.bool na, .slice A la.length cA] 52)) 52 [.bool nb, .slice B lb.length cB]).alloc (.cells #[.bool false, .slice none 0 0, .slice none 0 0] 54)
    simpa using this
  have r2 : Row W0 (w.heap.size + 2) 54 [.bool false, .slice none 0 0, .slice none 0 0] := by
    rw [hW0]
    have := Row.new ((w.alloc (.cells #[.bool na, .slice A la.length cA] 52)).alloc (.cells #[.bool nb, .slice B lb.length cB] 52)) 54 [.bool false, .slice none 0 0, .slice none 0 0]
    simpa using this
  have B0 : Below w.heap.size w W0 := by rw [hW0]; exact (((Below.refl _ _).alloc (Nat.le_refl _) _).alloc (by simp) _).alloc (by simp; omega) _
  have hsa : s.natAbs = val lb := by rw [HB, sg_abs]
  have HSA := Lib.hid hsa
  have hpos : 0 < val lb := by omega
  have HF : Hid (sg (!na == nb) (val la) = flipZ p s) := by unfold Hid; rw [HA, HB]; exact sg_flip na nb _ _ hpos
  have hsn : (sgnZ s == 0) = false := by
    rw [beq_eq_false_iff_ne]; unfold sgnZ
    split
    · decide
    · decide
  have hka : la.length ≤ 70368744177650 := by omega
  have hmax1 : la.length ≤ max L M := by omega
  have hmax2 : lb.length ≤ max L M := by omega
  have hmax3 : max L M ≤ 70368744177600 := by omega
  have hlb0 := hlb
  clear HA HB hs hsa
  go_enter Tryd.func90, Tryd.ntmps90
  go_wp2_with fail
  rw [← hW0]
  clear hW0
  have a0 : W0.cell? ⟨w.heap.size, 0, none⟩ = some (.bool na) := r0.cell 0
  have a1 : W0.cell? ⟨w.heap.size, 1, none⟩ = some (.slice A la.length cA) := r0.cell 1
  have b0 : W0.cell? ⟨w.heap.size + 1, 0, none⟩ = some (.bool nb) := r1.cell 0
  have b1 : W0.cell? ⟨w.heap.size + 1, 1, none⟩ = some (.slice B lb.length cB) := r1.cell 1
  have d0 : W0.cell? ⟨w.heap.size + 2, 0, none⟩ = some (.bool false) := r2.cell 0
  have d1 : W0.cell? ⟨w.heap.size + 2, 1, none⟩ = some (.slice none 0 0) := r2.cell 1
  have d2 : W0.cell? ⟨w.heap.size + 2, 2, none⟩ = some (.slice none 0 0) := r2.cell 2
  have e2 : W0.frozen? ⟨w.heap.size + 2, 2, none⟩ = false := r2.frozen 2
  have e0 : W0.frozen? ⟨w.heap.size + 2, 0, none⟩ = false := r2.frozen 0
  have e1 : W0.frozen? ⟨w.heap.size + 2, 1, none⟩ = false := r2.frozen 1
  have z0 := r0.lt
  have z1 := r1.lt
  have z2 := r2.lt
  have hz : w.heap.size + 3 ≤ W0.heap.size := z2
  have hla2 := hla.below B0
  have hlb2 := hlb.below B0
  go_wp2_with fail
  refine (isign_any _ s M _ (hb0.below B0)).mono ?_
  rintro e w1 ⟨rfl, hb1⟩
  generalize sgnZ s = ss at *
  have k0 := (hb1.cell (p := ⟨w.heap.size, 0, none⟩) z0).trans a0
  have k1 := (hb1.cell (p := ⟨w.heap.size, 1, none⟩) z0).trans a1
  have k2 := (hb1.cell (p := ⟨w.heap.size + 1, 0, none⟩) z1).trans b0
  have k3 := (hb1.cell (p := ⟨w.heap.size + 1, 1, none⟩) z1).trans b1
  have j0 := (hb1.cell (p := ⟨w.heap.size + 2, 0, none⟩) z2).trans d0
  have j1 := (hb1.cell (p := ⟨w.heap.size + 2, 1, none⟩) z2).trans d1
  have j2 := (hb1.cell (p := ⟨w.heap.size + 2, 2, none⟩) z2).trans d2
  have i0 := (hb1.frozen (p := ⟨w.heap.size + 2, 0, none⟩) z2).trans e0
  have i1 := (hb1.frozen (p := ⟨w.heap.size + 2, 1, none⟩) z2).trans e1
  have i2 := (hb1.frozen (p := ⟨w.heap.size + 2, 2, none⟩) z2).trans e2
  have y0 : w.heap.size < w1.heap.size := Nat.lt_of_lt_of_le z0 hb1.size
  have y1 : w.heap.size + 1 < w1.heap.size := Nat.lt_of_lt_of_le z1 hb1.size
  have y2 : w.heap.size + 2 < w1.heap.size := Nat.lt_of_lt_of_le z2 hb1.size
  have B1 := B0.trans (hb1.mono B0.size)
  have hla3 := hla.below B1
  have hlb3 := hlb.below B1
  clear a0 a1 b0 b1 d0 d1 d2 e0 e1 e2
  go_wp2_with fail
  go_region_held3 (fun w' => w'.cell? ⟨w.heap.size, 0, none⟩ = some (.bool na) ∧ w'.cell? ⟨w.heap.size, 1, none⟩ = some (.slice A la.length cA) ∧ w'.cell? ⟨w.heap.size + 1, 0, none⟩ = some (.bool nb) ∧ w'.cell? ⟨w.heap.size + 1, 1, none⟩ = some (.slice B lb.length cB))
    (first
      | (refine keep4c y0 y0 y1 y1 k0 k1 k2 k3 ?_; (repeat (first | with_reducible exact Below.refl _ _ | with_reducible refine bl_call h5 ?_ | with_reducible refine bl_call h6 ?_ | with_reducible refine bl_drew ?_)); done)
      | (refine keep4t (keep4c y0 y0 y1 y1 k0 k1 k2 k3 ?_); (repeat (first | with_reducible exact Below.refl _ _ | with_reducible refine bl_call h5 ?_ | with_reducible refine bl_call h6 ?_ | with_reducible refine bl_drew ?_)); done))
    (first
      | (go_at_call 91; ((with_reducible refine (imake_any _ _ la _ (hla3.below ?_) hka).mono ?_); ((repeat (first | with_reducible exact Below.refl _ _ | with_reducible refine bl_call h5 ?_ | with_reducible refine bl_call h6 ?_ | with_reducible refine bl_drew ?_))); rintro e w5 ⟨v5, rfl, hI5, h5⟩; have hI5' := hI5.intA; obtain ⟨mv5, rfl, hn5, hf5⟩ := hI5))
      | (go_at_call 75; ((with_reducible refine (reduce_any _ _ _ lb (max L M) _ (hI5'.mono hmax1) (hlb3.below ?_) hmax3 hmax2 hpos).mono ?_); ((repeat (first | with_reducible exact Below.refl _ _ | with_reducible refine bl_call h5 ?_ | with_reducible refine bl_call h6 ?_ | with_reducible refine bl_drew ?_))); rintro e w6 ⟨v6, rfl, ⟨mv6, dv6, rfl, hm6, hd6, fm6, fd6⟩, h6⟩; have hm6' := hm6; have hd6' := hd6; obtain ⟨l6, ⟨⟨A6, c6, rfl, _, _, _⟩, _⟩, _⟩ := hm6'; obtain ⟨l7, ⟨⟨A7, c7, rfl, _, _, _⟩, _⟩, _⟩ := hd6'; have B6 : Below w1.heap.size w1 w6 := bl_call h6 (bl_call h5 (bl_drew (Below.refl _ _))); have d60 := (B6.cell (p := ⟨w.heap.size + 2, 0, none⟩) y2).trans j0; have d61 := (B6.cell (p := ⟨w.heap.size + 2, 1, none⟩) y2).trans j1; have d62 := (B6.cell (p := ⟨w.heap.size + 2, 2, none⟩) y2).trans j2; have f60 := (B6.frozen (p := ⟨w.heap.size + 2, 0, none⟩) y2).trans i0; have f61 := (B6.frozen (p := ⟨w.heap.size + 2, 1, none⟩) y2).trans i1; have f62 := (B6.frozen (p := ⟨w.heap.size + 2, 2, none⟩) y2).trans i2)))
  have hm7 : NatAt w6 (.slice A6 l6.length c6) (redP (flipZ p s) s.natAbs).natAbs (max L M) := by rw [HSA.out, ← HF.out]; exact hm6
  have hd7 : NatAt w6 (.slice A7 l7.length c7) (redQ (flipZ p s) s.natAbs) (max L M) := by rw [HSA.out, ← HF.out]; exact hd6
  have B16 : Below w1.heap.size w1 w6 := bl_call h6 (bl_call h5 (bl_drew (Below.refl _ _)))
  have y3 : w.heap.size + 3 ≤ w1.heap.size := y2
  have hfm : Fresh (w.heap.size + 3) (.slice A6 l6.length c6) := fm6.mono (Nat.le_trans y3 (bl_call h5 (bl_drew (Below.refl _ _))).size)
  have hfd : Fresh (w.heap.size + 3) (.slice A7 l7.length c7) := fd6.mono (Nat.le_trans y3 (bl_call h5 (bl_drew (Below.refl _ _))).size)
  have HP7 : Hid (redP (sg (!na == nb) (val la)) (val lb) = redP (flipZ p s) s.natAbs) := by unfold Hid; rw [HSA.out, HF.out]
  rw [HP7.out]
  go_wp2_with fail
  refine bodyPost_ret (v := .tuple #[.agg #[.bool (decide (redP (flipZ p s) s.natAbs < 0)), .slice A6 l6.length c6, .slice A7 l7.length c7], .bool true]) (by simp [results, Tryd.results90, go_sem, d60, d61, d62]) rfl ⟨_, rfl, ⟨_, _, rfl, ?_, ?_, hfm.mono (by omega), hfd.mono (by omega)⟩, (((B1.trans (B16.mono B1.size)).setCell (by simp; omega) _).setCell (by simp; omega) _).setCell (by simp; omega) _⟩
  · exact ((hm7.set_ hfm (by simp) _).set_ hfm (by simp) _).set_ hfm (by simp) _
  · exact ((hd7.set_ hfd (by simp) _).set_ hfd (by simp) _).set_ hfd (by simp) _

set_option maxHeartbeats 4000000 in
theorem qof_any (n d : Int) (w : World) (h1 : -9223372036854775808 ≤ n) (h2 : n ≤ 9223372036854775807) (hd0 : 0 < d) (hd1 : d ≤ 9223372036854775807) :
    Calls Tryd.prog 70 #[.int .i64 n, .int .i64 d] w fun e w' => ∃ x, e = .returned (.tuple #[x, .bool true]) ∧ RatF w.heap.size w' x (redP n d.toNat) (redQ n d.toNat) 2 ∧ Below w.heap.size w w' := by
  have hgb := Row.new w 54 [.bool false, .slice none 0 0, .slice none 0 0]
  have B0 : Below w.heap.size w (w.alloc (.cells #[.bool false, .slice none 0 0, .slice none 0 0] 54)) := (Below.refl _ _).alloc (Nat.le_refl _) _
  have hz : (w.alloc (.cells #[.bool false, .slice none 0 0, .slice none 0 0] 54)).heap.size = w.heap.size + 1 := by simp
  have HZ := Lib.hid hz
  have HFL : Hid (flipZ n d = n ∧ d.natAbs = d.toNat) := ⟨if_neg (by omega), by omega⟩
  clear hz
  go_enter Tryd.func70, Tryd.ntmps70
  go_wp2_with fail
  refine (iof_any n _ h1 h2).mono ?_
  rintro e w1 ⟨v1, rfl, hI1, hb1⟩
  have B1 := B0.trans (hb1.mono B0.size)
  have hI1' := hI1
  obtain ⟨mv1, rfl, hn1, hf1⟩ := hI1'
  go_wp2_with fail
  refine (iof_any d _ (by omega) (by omega)).mono ?_
  rintro e w2 ⟨v2, rfl, hI2, hb2⟩
  have B2 := B1.trans (hb2.mono B1.size)
  have hI2' := hI2
  obtain ⟨mv2, rfl, hn2, hf2⟩ := hI2'
  go_wp2_with fail
  refine (qmake_any _ _ n d 2 2 _ (hI1.intA.below hb2) hI2.intA (by omega) (by omega) (by omega)).mono ?_
  rintro e w6 ⟨x, rfl, hx, h6⟩
  rw [HFL.out.1, HFL.out.2] at hx
  have hx' := hx
  obtain ⟨mv6, dv6, rfl, hm6, hd6, fm6, fd6⟩ := hx'
  have hm6' := hm6
  have hd6' := hd6
  obtain ⟨l6, ⟨⟨A6, c6, rfl, _, _, _⟩, _⟩, _⟩ := hm6'
  obtain ⟨l7, ⟨⟨A7, c7, rfl, _, _, _⟩, _⟩, _⟩ := hd6'
  have B06 := hb1.trans ((hb2.trans (h6.mono hb2.size)).mono hb1.size)
  have B6 := B0.trans (B06.mono B0.size)
  have r6 := hgb.keep B06
  have d60 : w6.cell? ⟨w.heap.size, 0, none⟩ = some (.bool false) := r6.cell 0
  have d61 : w6.cell? ⟨w.heap.size, 1, none⟩ = some (.slice none 0 0) := r6.cell 1
  have d62 : w6.cell? ⟨w.heap.size, 2, none⟩ = some (.slice none 0 0) := r6.cell 2
  have f60 := r6.frozen 0
  have f61 := r6.frozen 1
  have f62 := r6.frozen 2
  have hs1 := hb1.size
  have hs2 := hb2.size
  rw [HZ.out] at hs1
  have hfm : Fresh (w.heap.size + 1) (.slice A6 l6.length c6) := fm6.mono (by omega)
  have hfd : Fresh (w.heap.size + 1) (.slice A7 l7.length c7) := fd6.mono (by omega)
  clear r6
  go_wp2_with fail
  refine bodyPost_ret (v := .tuple #[.agg #[.bool (decide (redP n d.toNat < 0)), .slice A6 l6.length c6, .slice A7 l7.length c7], .bool true]) (by simp [results, Tryd.results70, go_sem, d60, d61, d62]) rfl ⟨_, rfl, ⟨_, _, rfl, ?_, ?_, hfm.mono (by omega), hfd.mono (by omega)⟩, ((B6.setCell (Nat.le_refl _) _).setCell (Nat.le_refl _) _).setCell (Nat.le_refl _) _⟩
  · exact ((hm6.set_ hfm (by simp) _).set_ hfm (by simp) _).set_ hfm (by simp) _
  · exact ((hd6.set_ hfd (by simp) _).set_ hfd (by simp) _).set_ hfd (by simp) _
end Go.Proofs.YtoihjclkocffhaaDoor
namespace Go.Proofs.YtoihjclkocffhaaDoor
open Go.RowKit
set_option linter.unusedVariables false

/-- The struct of a fraction, its slices shown. -/
theorem RatA.show_ {w : World} {v : Value} {p : Int} {q L : Nat} (h : RatA w v p q L) : ∃ neg A n cA B k cB, v = .agg #[.bool neg, .slice A n cA, .slice B k cB] := by
  obtain ⟨neg, mv, ls, dv, ld, rfl, ⟨⟨A, cA, rfl, _⟩, _⟩, ⟨⟨B, cB, rfl, _⟩, _⟩, _⟩ := h
  exact ⟨_, _, _, _, _, _, _, rfl⟩
theorem IntA.show_ {w : World} {v : Value} {p : Int} {L : Nat} (h : IntA w v p L) : ∃ neg A n cA, v = .agg #[.bool neg, .slice A n cA] := by
  obtain ⟨neg, mv, ls, rfl, ⟨⟨A, cA, rfl, _⟩, _⟩, _⟩ := h
  exact ⟨_, _, _, _, rfl⟩
theorem Lim.show_ {w : World} {v : Value} {ls : List Nat} (h : Lim w v ls) : ∃ A n c, v = .slice A n c := by
  obtain ⟨⟨A, cA, rfl, _⟩, _⟩ := h
  exact ⟨_, _, _, rfl⟩

set_option maxHeartbeats 4000000 in
theorem qnorm_any (v : Value) (p : Int) (q L : Nat) (w : World) (h : RatA w v p q L) (hL : 2 ≤ L) (hM : L ≤ 70368744177600) :
    Calls Tryd.prog 64 #[v] w fun e w' => ∃ x, e = .returned x ∧ RatF w.heap.size w' x (redP p q) (redQ p q) L ∧ Below w.heap.size w w' := by
  have hq := h.pos
  obtain ⟨neg, A, n, cA, B, k, cB, rfl⟩ := h.show_
  obtain ⟨W0, hW0⟩ : ∃ W0 : World, W0 = (w.alloc (.cells #[.bool neg, .slice A n cA, .slice B k cB] 54)).alloc (.cells #[.bool false, .slice none 0 0, .slice none 0 0] 54) := ⟨_, rfl⟩
  have r0 : Row W0 w.heap.size 54 [.bool neg, .slice A n cA, .slice B k cB] := by rw [hW0]; exact (Row.new w 54 [.bool neg, .slice A n cA, .slice B k cB]).alloc _
  have r1 : Row W0 (w.heap.size + 1) 54 [.bool false, .slice none 0 0, .slice none 0 0] := by
    rw [hW0]
    have := Row.new (w.alloc (.cells #[.bool neg, .slice A n cA, .slice B k cB] 54)) 54 [.bool false, .slice none 0 0, .slice none 0 0]
    simpa using this
  have B0 : Below w.heap.size w W0 := by rw [hW0]; exact ((Below.refl _ _).alloc (Nat.le_refl _) _).alloc (by simp) _
  have hz : w.heap.size + 2 ≤ W0.heap.size := r1.lt
  have a0 : W0.cell? ⟨w.heap.size, 0, none⟩ = some (.bool neg) := r0.cell 0
  have a1 : W0.cell? ⟨w.heap.size, 1, none⟩ = some (.slice A n cA) := r0.cell 1
  have a2 : W0.cell? ⟨w.heap.size, 2, none⟩ = some (.slice B k cB) := r0.cell 2
  go_enter Tryd.func64, Tryd.ntmps64
  go_wp2_with fail
  rw [← hW0]
  clear hW0
  go_wp2_with fail
  refine (parts_any _ p q L _ (h.below B0) hL).mono ?_
  rintro e w1 ⟨x, y, lq, rfl, hx, hy, hvq, hlq, hb1⟩
  go_wp2_with fail
  refine (reduce_any _ _ p lq L _ hx hy hM hlq (by rw [hvq]; exact hq)).mono ?_
  rw [hvq]
  rintro e w6 ⟨x6, rfl, ⟨mv, dv, rfl, hm, hd, fm, fd⟩, h6⟩
  obtain ⟨A6, n6, c6, rfl⟩ := hm.lim1.choose_spec.1.show_
  obtain ⟨A7, n7, c7, rfl⟩ := hd.lim1.choose_spec.1.show_
  have B6' : Below W0.heap.size W0 w6 := hb1.trans (h6.mono hb1.size)
  have B6 := B0.trans (B6'.mono B0.size)
  have r6 := r1.keep B6'
  have d60 : w6.cell? ⟨w.heap.size + 1, 0, none⟩ = some (.bool false) := r6.cell 0
  have d61 : w6.cell? ⟨w.heap.size + 1, 1, none⟩ = some (.slice none 0 0) := r6.cell 1
  have d62 : w6.cell? ⟨w.heap.size + 1, 2, none⟩ = some (.slice none 0 0) := r6.cell 2
  have f60 := r6.frozen 0
  have f61 := r6.frozen 1
  have f62 := r6.frozen 2
  have hfm : Fresh (w.heap.size + 2) (.slice A6 n6 c6) := fm.mono (Nat.le_trans hz hb1.size)
  have hfd : Fresh (w.heap.size + 2) (.slice A7 n7 c7) := fd.mono (Nat.le_trans hz hb1.size)
  clear r6
  go_wp2_with fail
  refine bodyPost_ret (v := .agg #[.bool (decide (redP p q < 0)), .slice A6 n6 c6, .slice A7 n7 c7]) (by simp [results, Tryd.results64, go_sem, d60, d61, d62]) rfl ⟨_, rfl, ⟨_, _, rfl, ?_, ?_, hfm.mono (by omega), hfd.mono (by omega)⟩, ((B6.setCell (by simp) _).setCell (by simp) _).setCell (by simp) _⟩
  · exact ((hm.set_ hfm (by simp) _).set_ hfm (by simp) _).set_ hfm (by simp) _
  · exact ((hd.set_ hfd (by simp) _).set_ hfd (by simp) _).set_ hfd (by simp) _

end Go.Proofs.YtoihjclkocffhaaDoor
namespace Go.Proofs.YtoihjclkocffhaaDoor
open Go.RowKit
set_option linter.unusedVariables false

set_option maxHeartbeats 8000000 in
theorem qcmp_any (v u : Value) (p p' : Int) (q q' L : Nat) (w : World) (ha : RatA w v p q L) (hb : RatA w u p' q' L) (hL : 2 ≤ L) (hM : L ≤ 35184372088800) :
    Calls Tryd.prog 30 #[v, u] w fun e w' => e = .returned (.int .i64 (cmpZ (p * (q' : Int)) (p' * (q : Int)))) ∧ Below w.heap.size w w' := by
  have hp1 := ha.pos
  have hp2 := hb.pos
  obtain ⟨na, A, n, cA, B, k, cB, rfl⟩ := ha.show_
  obtain ⟨nb, A', n', cA', B', k', cB', rfl⟩ := hb.show_
  obtain ⟨W0, hW0⟩ : ∃ W0 : World, W0 = (w.alloc (.cells #[.bool na, .slice A n cA, .slice B k cB] 54)).alloc (.cells #[.bool nb, .slice A' n' cA', .slice B' k' cB'] 54) := ⟨_, rfl⟩
  have r0 : Row W0 w.heap.size 54 [.bool na, .slice A n cA, .slice B k cB] := by rw [hW0]; exact (Row.new w 54 [.bool na, .slice A n cA, .slice B k cB]).alloc _
  have r1 : Row W0 (w.heap.size + 1) 54 [.bool nb, .slice A' n' cA', .slice B' k' cB'] := by
    rw [hW0]
    have := (Row.new (w.alloc (.cells #[.bool na, .slice A n cA, .slice B k cB] 54)) 54 [.bool nb, .slice A' n' cA', .slice B' k' cB'])
    simpa using this
  have B0 : Below w.heap.size w W0 := by rw [hW0]; exact ((Below.refl _ _).alloc (Nat.le_refl _) _).alloc (by simp) _
  have hz : w.heap.size + 2 ≤ W0.heap.size := r1.lt
  have a0 : W0.cell? ⟨w.heap.size, 0, none⟩ = some (.bool na) := r0.cell 0
  have a1 : W0.cell? ⟨w.heap.size, 1, none⟩ = some (.slice A n cA) := r0.cell 1
  have a2 : W0.cell? ⟨w.heap.size, 2, none⟩ = some (.slice B k cB) := r0.cell 2
  go_enter Tryd.func30, Tryd.ntmps30
  go_wp2_with fail
  rw [← hW0]
  clear hW0
  go_wp2_with fail
  refine (parts_any _ p q L _ (ha.below B0) hL).mono ?_
  rintro e w1 ⟨x1, y1, lq1, rfl, hx1, hy1, hv1, hk1, hb1⟩
  obtain ⟨nx, X, kx, cx, rfl⟩ := hx1.show_
  obtain ⟨Y, ky, cy, rfl⟩ := hy1.show_
  have B1 := B0.trans (hb1.mono B0.size)
  obtain ⟨W1, hW1⟩ : ∃ W1 : World, W1 = w1.alloc (.cells #[.bool nx, .slice X kx cx] 52) := ⟨_, rfl⟩
  have r5 : Row W1 w1.heap.size 52 [.bool nx, .slice X kx cx] := by rw [hW1]; exact Row.new w1 52 [.bool nx, .slice X kx cx]
  have B1' : Below w1.heap.size w1 W1 := by rw [hW1]; exact (Below.refl _ _).alloc (Nat.le_refl _) _
  have B01 : Below W0.heap.size W0 W1 := hb1.trans (B1'.mono hb1.size)
  have s1 := r1.keep B01
  have b0 : W1.cell? ⟨w.heap.size + 1, 0, none⟩ = some (.bool nb) := s1.cell 0
  have b1 : W1.cell? ⟨w.heap.size + 1, 1, none⟩ = some (.slice A' n' cA') := s1.cell 1
  have b2 : W1.cell? ⟨w.heap.size + 1, 2, none⟩ = some (.slice B' k' cB') := s1.cell 2
  have b0' := b0
  have b1' := b1
  have b2' := b2
  rw [hW1] at b0' b1' b2'
  have BW1 := B0.trans (B01.mono B0.size)
  clear s1 a0 a1 a2
  go_wp2_with fail
  rw [← hW1]
  clear b0' b1' b2' hW1
  go_wp2_with fail
  refine (parts_any _ p' q' L _ (hb.below BW1) hL).mono ?_
  rintro e w2 ⟨x2, y2, lq2, rfl, hx2, hy2, hv2, hk2, hb2⟩
  obtain ⟨nu, U, ku, cu, rfl⟩ := hx2.show_
  obtain ⟨V, kv, cv, rfl⟩ := hy2.show_
  have B2 := BW1.trans (hb2.mono BW1.size)
  obtain ⟨W2, hW2⟩ : ∃ W2 : World, W2 = w2.alloc (.cells #[.bool nu, .slice U ku cu] 52) := ⟨_, rfl⟩
  have r7 : Row W2 w2.heap.size 52 [.bool nu, .slice U ku cu] := by rw [hW2]; exact Row.new w2 52 [.bool nu, .slice U ku cu]
  have B2' : Below w2.heap.size w2 W2 := by rw [hW2]; exact (Below.refl _ _).alloc (Nat.le_refl _) _
  have B12 : Below W1.heap.size W1 W2 := hb2.trans (B2'.mono hb2.size)
  have BW2 := BW1.trans (B12.mono BW1.size)
  have r5' := r5.keep B12
  have c0 : W2.cell? ⟨w1.heap.size, 0, none⟩ = some (.bool nx) := r5'.cell 0
  have c1 : W2.cell? ⟨w1.heap.size, 1, none⟩ = some (.slice X kx cx) := r5'.cell 1
  have d0 : W2.cell? ⟨w2.heap.size, 0, none⟩ = some (.bool nu) := r7.cell 0
  have d1 : W2.cell? ⟨w2.heap.size, 1, none⟩ = some (.slice U ku cu) := r7.cell 1
  have z5 := r5'.lt
  have z7 := r7.lt
  have hX1 := (hx1.below B1').below B12
  have hY1 := (hy1.below B1').below B12
  have hX2 := hx2.below B2'
  have hY2 := hy2.below B2'
  have i1 : lq1.length ≤ 70368744177650 := by omega
  have i2 : lq2.length ≤ 70368744177650 := by omega
  have i3 : L + L ≤ 70368744177600 := by omega
  have i4 : L ≤ 35184372088820 := by omega
  have HV1 := Lib.hid hv1
  have HV2 := Lib.hid hv2
  clear b0 b1 b2 r5 hx1 hx2 hy1 hy2 B1 B2 B01 ha hb r0 r1 B1' B2' B12 BW1 B0 hb1 hb2 r5' hv1 hv2
  go_wp2_with fail
  rw [← hW2]
  clear hW2
  go_wp2_with fail
  go_region_held3 (fun w' => w'.cell? ⟨w1.heap.size, 0, none⟩ = some (.bool nx) ∧ w'.cell? ⟨w1.heap.size, 1, none⟩ = some (.slice X kx cx) ∧ w'.cell? ⟨w2.heap.size, 0, none⟩ = some (.bool nu) ∧ w'.cell? ⟨w2.heap.size, 1, none⟩ = some (.slice U ku cu))
      ((refine keep4c z5 z5 z7 z7 c0 c1 d0 d1 ?_; (repeat (first | with_reducible exact Below.refl _ _ | with_reducible refine bl_call h9 ?_ | with_reducible refine bl_call h8 ?_ | with_reducible refine bl_call h7 ?_ | with_reducible refine bl_call h6 ?_ | with_reducible refine bl_call h5 ?_ | with_reducible refine bl_drew ?_)); done))
      (first
        | (go_at_call 74; ((with_reducible refine (whole_any (.slice V kv cv) lq2 _ (hY2.below ?_) i2).mono ?_); ((repeat (first | with_reducible exact Below.refl _ _ | with_reducible refine bl_call h9 ?_ | with_reducible refine bl_call h8 ?_ | with_reducible refine bl_call h7 ?_ | with_reducible refine bl_call h6 ?_ | with_reducible refine bl_call h5 ?_ | with_reducible refine bl_drew ?_))); rintro e w5 ⟨v5, rfl, hI5, h5⟩; rw [HV2.out] at hI5; have hJ5 := hI5.intA.mono hk2; clear hI5))
        | (go_at_call 73; ((with_reducible refine (imul_any (.agg #[.bool nx, .slice X kx cx]) _ p _ L L _ (hX1.below ?_) (hJ5.below ?_) i4 i4).mono ?_); ((repeat (first | with_reducible exact Below.refl _ _ | with_reducible refine bl_call h9 ?_ | with_reducible refine bl_call h8 ?_ | with_reducible refine bl_call h7 ?_ | with_reducible refine bl_call h6 ?_ | with_reducible refine bl_call h5 ?_ | with_reducible refine bl_drew ?_))); ((repeat (first | with_reducible exact Below.refl _ _ | with_reducible refine bl_call h9 ?_ | with_reducible refine bl_call h8 ?_ | with_reducible refine bl_call h7 ?_ | with_reducible refine bl_call h6 ?_ | with_reducible refine bl_call h5 ?_ | with_reducible refine bl_drew ?_))); rintro e w6 ⟨v6, rfl, hI6, h6⟩; have hJ6 := hI6.intA; clear hI6))
        | (go_at_call 74; ((with_reducible refine (whole_any (.slice Y ky cy) lq1 _ (hY1.below ?_) i1).mono ?_); ((repeat (first | with_reducible exact Below.refl _ _ | with_reducible refine bl_call h9 ?_ | with_reducible refine bl_call h8 ?_ | with_reducible refine bl_call h7 ?_ | with_reducible refine bl_call h6 ?_ | with_reducible refine bl_call h5 ?_ | with_reducible refine bl_drew ?_))); rintro e w7 ⟨v7, rfl, hI7, h7⟩; rw [HV1.out] at hI7; have hJ7 := hI7.intA.mono hk1; clear hI7))
        | (go_at_call 73; ((with_reducible refine (imul_any (.agg #[.bool nu, .slice U ku cu]) _ p' _ L L _ (hX2.below ?_) (hJ7.below ?_) i4 i4).mono ?_); ((repeat (first | with_reducible exact Below.refl _ _ | with_reducible refine bl_call h9 ?_ | with_reducible refine bl_call h8 ?_ | with_reducible refine bl_call h7 ?_ | with_reducible refine bl_call h6 ?_ | with_reducible refine bl_call h5 ?_ | with_reducible refine bl_drew ?_))); ((repeat (first | with_reducible exact Below.refl _ _ | with_reducible refine bl_call h9 ?_ | with_reducible refine bl_call h8 ?_ | with_reducible refine bl_call h7 ?_ | with_reducible refine bl_call h6 ?_ | with_reducible refine bl_call h5 ?_ | with_reducible refine bl_drew ?_))); rintro e w8 ⟨v8, rfl, hI8, h8⟩; have hJ8 := hI8.intA; clear hI8))
        | (go_at_call 72; ((with_reducible refine (icmp_any _ _ _ _ _ _ _ (hJ6.below ?_) (hJ8.below ?_)).mono ?_); ((repeat (first | with_reducible exact Below.refl _ _ | with_reducible refine bl_call h9 ?_ | with_reducible refine bl_call h8 ?_ | with_reducible refine bl_call h7 ?_ | with_reducible refine bl_call h6 ?_ | with_reducible refine bl_call h5 ?_ | with_reducible refine bl_drew ?_))); ((repeat (first | with_reducible exact Below.refl _ _ | with_reducible refine bl_call h9 ?_ | with_reducible refine bl_call h8 ?_ | with_reducible refine bl_call h7 ?_ | with_reducible refine bl_call h6 ?_ | with_reducible refine bl_call h5 ?_ | with_reducible refine bl_drew ?_))); rintro e w9 ⟨rfl, h9⟩)))
  go_wp2_with fail
  go_ret
  refine ⟨rfl, BW2.trans (Below.mono ?_ BW2.size)⟩
  (repeat (first | with_reducible exact Below.refl _ _ | with_reducible refine bl_call h9 ?_ | with_reducible refine bl_call h8 ?_ | with_reducible refine bl_call h7 ?_ | with_reducible refine bl_call h6 ?_ | with_reducible refine bl_call h5 ?_ | with_reducible refine bl_drew ?_))
end Go.Proofs.YtoihjclkocffhaaDoor
namespace Go.Proofs.YtoihjclkocffhaaDoor
open Go.RowKit
set_option linter.unusedVariables false

theorem bl_alloc {a w : World} (h : Below a.heap.size a w) (o : Obj) : Below a.heap.size a (w.alloc o) := h.alloc h.size o
theorem bl_set {a w : World} (h : Below a.heap.size a w) {p : Addr} (hp : a.heap.size ≤ p.block) (x : Value) : Below a.heap.size a (w.setCell p x) := h.setCell hp x
theorem keep2c {W w' : World} {p1 p2 : Addr} {x1 x2 : Value} (l1 : p1.block < W.heap.size) (l2 : p2.block < W.heap.size) (h1 : W.cell? p1 = some x1) (h2 : W.cell? p2 = some x2) (hb : Below W.heap.size W w') :
    w'.cell? p1 = some x1 ∧ w'.cell? p2 = some x2 := ⟨(hb.cell l1).trans h1, (hb.cell l2).trans h2⟩
theorem keep2t {w : World} {g b : Nat} {x y z x1 x2 : Value} (hne : b < g) (h : w.cell? ⟨g, 0, none⟩ = some x1 ∧ w.cell? ⟨g, 1, none⟩ = some x2) :
    (((w.setCell ⟨b, 0, none⟩ x).setCell ⟨b, 1, none⟩ y).setCell ⟨b, 2, none⟩ z).cell? ⟨g, 0, none⟩ = some x1 ∧ (((w.setCell ⟨b, 0, none⟩ x).setCell ⟨b, 1, none⟩ y).setCell ⟨b, 2, none⟩ z).cell? ⟨g, 1, none⟩ = some x2 := by
  obtain ⟨h1, h2⟩ := h
  have n1 : ∀ (w : World) (k k' : Nat) (z : Value), (w.setCell ⟨b, k', none⟩ z).cell? ⟨g, k, none⟩ = w.cell? ⟨g, k, none⟩ := fun w k k' z => World.cell?_setCell_other _ _ _ _ (fun e => by injection e with e _ _; omega)
  refine ⟨?_, ?_⟩
  · rw [n1, n1, n1]; exact h1
  · rw [n1, n1, n1]; exact h2

theorem NatAt.tight {w : World} {v : Value} {n M L : Nat} (h : NatAt w v n M) (hn : n < bp L) : NatAt w v n L := by
  obtain ⟨ls, h1, h2, h3, h4⟩ := h
  refine ⟨ls, h1, h2, h3, ?_⟩
  rcases Nat.lt_or_ge L ls.length with hlt | hge
  · exfalso
    have hge := NoTop.ge h2 (by omega)
    have hm : bp L ≤ bp (ls.length - 1) := bp_mono (by omega)
    omega
  · exact hge
theorem IntF.tight {b : Nat} {w : World} {v : Value} {p : Int} {M L : Nat} (h : IntF b w v p M) (hp : p.natAbs < bp L) : IntF b w v p L := by
  obtain ⟨mv, e, h1, f1⟩ := h
  exact ⟨mv, e, h1.tight hp, f1⟩
theorem RatF.tight {b : Nat} {w : World} {v : Value} {p : Int} {q M L : Nat} (h : RatF b w v p q M) (hp : p.natAbs < bp L) (hq : q < bp L) : RatF b w v p q L := by
  obtain ⟨mv, dv, e, h1, h2, f1, f2⟩ := h
  exact ⟨mv, dv, e, h1.tight hp, h2.tight hq, f1, f2⟩
theorem RatA.lt {w : World} {v : Value} {p : Int} {q L : Nat} (h : RatA w v p q L) (hL : 1 ≤ L) : p.natAbs < bp L ∧ q < bp L := by
  obtain ⟨neg, mv, ls, dv, ld, rfl, h1, h2, h3, h4, hp, hq⟩ := h
  have b1 : 1 < bp L := Nat.lt_of_lt_of_le (by rw [bp_one]; decide) (bp_mono hL)
  have a1 := Nat.lt_of_lt_of_le (val_lt h1.2) (bp_mono h3)
  have a2 := Nat.lt_of_lt_of_le (val_lt h2.2) (bp_mono h4)
  constructor
  · rw [hp]
    split
    · simp; omega
    · rw [sg_abs]; exact a1
  · rw [hq]
    split
    · exact b1
    · exact a2
theorem add_lt {p p' : Int} {q q' L : Nat} (h1 : p.natAbs < bp L ∧ q < bp L) (h2 : p'.natAbs < bp L ∧ q' < bp L) : (p * (q' : Int) + p' * (q : Int)).natAbs < bp (L + L + 1) := by
  have a1 : p.natAbs * q' ≤ bp L * bp L := Nat.mul_le_mul (Nat.le_of_lt h1.1) (Nat.le_of_lt h2.2)
  have a2 : p'.natAbs * q ≤ bp L * bp L := Nat.mul_le_mul (Nat.le_of_lt h2.1) (Nat.le_of_lt h1.2)
  have a3 : (p * (q' : Int) + p' * (q : Int)).natAbs ≤ p.natAbs * q' + p'.natAbs * q := by
    have := Int.natAbs_add_le (p * (q' : Int)) (p' * (q : Int))
    rw [Int.natAbs_mul, Int.natAbs_mul, Int.natAbs_natCast, Int.natAbs_natCast] at this
    exact this
  have a4 : bp (L + L + 1) = bp L * bp L * 4294967296 := by rw [bp_succ, bp_add]
  have a5 : 0 < bp L * bp L := Nat.mul_pos (bp_pos _) (bp_pos _)
  omega

set_option maxHeartbeats 16000000 in
theorem qadd_wide (v u : Value) (p p' : Int) (q q' L : Nat) (w : World) (ha : RatA w v p q L) (hb : RatA w u p' q' L) (hL : 2 ≤ L) (hM : L ≤ 35184372088700) :
    Calls Tryd.prog 68 #[v, u] w fun e w' => ∃ x, e = .returned x ∧ RatF w.heap.size w' x (redP (p * (q' : Int) + p' * (q : Int)) (q * q')) (redQ (p * (q' : Int) + p' * (q : Int)) (q * q')) (L + L + 1) ∧ Below w.heap.size w w' := by
  have hp1 := ha.pos
  have HTB := Lib.hid (add_lt (ha.lt (by omega)) (hb.lt (by omega)))
  have hp2 := hb.pos
  obtain ⟨na, A, n, cA, B, k, cB, rfl⟩ := ha.show_
  obtain ⟨nb, A', n', cA', B', k', cB', rfl⟩ := hb.show_
  obtain ⟨W0, hW0⟩ : ∃ W0 : World, W0 = ((w.alloc (.cells #[.bool na, .slice A n cA, .slice B k cB] 54)).alloc (.cells #[.bool nb, .slice A' n' cA', .slice B' k' cB'] 54)).alloc (.cells #[.bool false, .slice none 0 0, .slice none 0 0] 54) := ⟨_, rfl⟩
  have r0 : Row W0 w.heap.size 54 [.bool na, .slice A n cA, .slice B k cB] := by rw [hW0]; exact ((Row.new w 54 [.bool na, .slice A n cA, .slice B k cB]).alloc _).alloc _
  have r1 : Row W0 (w.heap.size + 1) 54 [.bool nb, .slice A' n' cA', .slice B' k' cB'] := by
    rw [hW0]
    have := (Row.new (w.alloc (.cells #[.bool na, .slice A n cA, .slice B k cB] 54)) 54 [.bool nb, .slice A' n' cA', .slice B' k' cB']).alloc (.cells #[.bool false, .slice none 0 0, .slice none 0 0] 54)
    simpa using this
  have r2 : Row W0 (w.heap.size + 2) 54 [.bool false, .slice none 0 0, .slice none 0 0] := by
    rw [hW0]
    have := Row.new ((w.alloc (.cells #[.bool na, .slice A n cA, .slice B k cB] 54)).alloc (.cells #[.bool nb, .slice A' n' cA', .slice B' k' cB'] 54)) 54 [.bool false, .slice none 0 0, .slice none 0 0]
    simpa using this
  have B0 : Below w.heap.size w W0 := by rw [hW0]; exact (((Below.refl _ _).alloc (Nat.le_refl _) _).alloc (by simp) _).alloc (by simp; omega) _
  have hz : w.heap.size + 3 ≤ W0.heap.size := r2.lt
  have a0 : W0.cell? ⟨w.heap.size, 0, none⟩ = some (.bool na) := r0.cell 0
  have a1 : W0.cell? ⟨w.heap.size, 1, none⟩ = some (.slice A n cA) := r0.cell 1
  have a2 : W0.cell? ⟨w.heap.size, 2, none⟩ = some (.slice B k cB) := r0.cell 2
  go_enter Tryd.func68, Tryd.ntmps68
  go_wp2_with fail
  rw [← hW0]
  clear hW0
  go_wp2_with fail
  refine (parts_any _ p q L _ (ha.below B0) hL).mono ?_
  rintro e w1 ⟨x1, y1, lq1, rfl, hx1, hy1, hv1, hk1, hb1⟩
  obtain ⟨nx, X, kx, cx, rfl⟩ := hx1.show_
  obtain ⟨Y, ky, cy, rfl⟩ := hy1.show_
  have B1 := B0.trans (hb1.mono B0.size)
  obtain ⟨W1, hW1⟩ : ∃ W1 : World, W1 = w1.alloc (.cells #[.bool nx, .slice X kx cx] 52) := ⟨_, rfl⟩
  have r5 : Row W1 w1.heap.size 52 [.bool nx, .slice X kx cx] := by rw [hW1]; exact Row.new w1 52 [.bool nx, .slice X kx cx]
  have B1' : Below w1.heap.size w1 W1 := by rw [hW1]; exact (Below.refl _ _).alloc (Nat.le_refl _) _
  have B01 : Below W0.heap.size W0 W1 := hb1.trans (B1'.mono hb1.size)
  have s1 := r1.keep B01
  have b0 : W1.cell? ⟨w.heap.size + 1, 0, none⟩ = some (.bool nb) := s1.cell 0
  have b1 : W1.cell? ⟨w.heap.size + 1, 1, none⟩ = some (.slice A' n' cA') := s1.cell 1
  have b2 : W1.cell? ⟨w.heap.size + 1, 2, none⟩ = some (.slice B' k' cB') := s1.cell 2
  have b0' := b0
  have b1' := b1
  have b2' := b2
  rw [hW1] at b0' b1' b2'
  have BW1 := B0.trans (B01.mono B0.size)
  clear s1 a0 a1 a2
  go_wp2_with fail
  rw [← hW1]
  clear b0' b1' b2' hW1
  go_wp2_with fail
  refine (parts_any _ p' q' L _ (hb.below BW1) hL).mono ?_
  rintro e w2 ⟨x2, y2, lq2, rfl, hx2, hy2, hv2, hk2, hb2⟩
  obtain ⟨nu, U, ku, cu, rfl⟩ := hx2.show_
  obtain ⟨V, kv, cv, rfl⟩ := hy2.show_
  have B2 := BW1.trans (hb2.mono BW1.size)
  obtain ⟨W2, hW2⟩ : ∃ W2 : World, W2 = w2.alloc (.cells #[.bool nu, .slice U ku cu] 52) := ⟨_, rfl⟩
  have r7 : Row W2 w2.heap.size 52 [.bool nu, .slice U ku cu] := by rw [hW2]; exact Row.new w2 52 [.bool nu, .slice U ku cu]
  have B2' : Below w2.heap.size w2 W2 := by rw [hW2]; exact (Below.refl _ _).alloc (Nat.le_refl _) _
  have B12 : Below W1.heap.size W1 W2 := hb2.trans (B2'.mono hb2.size)
  have BW2 := BW1.trans (B12.mono BW1.size)
  have r5' := r5.keep B12
  have c0 : W2.cell? ⟨w1.heap.size, 0, none⟩ = some (.bool nx) := r5'.cell 0
  have c1 : W2.cell? ⟨w1.heap.size, 1, none⟩ = some (.slice X kx cx) := r5'.cell 1
  have d0 : W2.cell? ⟨w2.heap.size, 0, none⟩ = some (.bool nu) := r7.cell 0
  have d1 : W2.cell? ⟨w2.heap.size, 1, none⟩ = some (.slice U ku cu) := r7.cell 1
  have z5 := r5'.lt
  have z7 := r7.lt
  have hX1 := (hx1.below B1').below B12
  have hY1 := (hy1.below B1').below B12
  have hX2 := hx2.below B2'
  have hY2 := hy2.below B2'
  have i12 : lq1.length + lq2.length ≤ 70368744177650 := by omega
  have i1 : lq1.length ≤ 70368744177650 := by omega
  have i2 : lq2.length ≤ 70368744177650 := by omega
  have i3 : L + L ≤ 70368744177600 := by omega
  have i4 : L ≤ 35184372088820 := by omega
  have B02 : Below W0.heap.size W0 W2 := B01.trans (B12.mono B01.size)
  have r2' := r2.keep B02
  have HV1 := Lib.hid hv1
  have HV2 := Lib.hid hv2
  clear b0 b1 b2 r5 hx1 hx2 hy1 hy2 B1 B2 B01 ha hb r0 r1 B1' B2' B12 BW1 B0 hb1 hb2 r5' hv1 hv2
  go_wp2_with fail
  rw [← hW2]
  clear hW2
  go_wp2_with fail
  have HL : Hid (∀ l : List Nat, l.length ≤ lq1.length + lq2.length → l.length ≤ (L + L + 1)) := fun l h => by omega
  have i5 : (L + L + 1) ≤ 70368744177600 := by omega
  have HQQ : Hid (∀ l : List Nat, val l = val lq1 * val lq2 → 0 < val l ∧ val l = q * q') := fun l h => by
    rw [HV1.out, HV2.out] at h
    exact ⟨by rw [h]; exact Nat.mul_pos hp1 hp2, h⟩
  have z2 : w.heap.size + 2 < W2.heap.size := r2'.lt
  go_cut [9] (fun s9 wx => ∃ (g : Nat) (nz : Bool) (Z : Option Addr) (kz cz : Nat), s9 = .pointer (some ⟨g, 0, none⟩) ∧ W2.heap.size ≤ g ∧ Row wx g 52 [.bool nz, .slice Z kz cz] ∧ IntA wx (.agg #[.bool nz, .slice Z kz cz]) (p * (q' : Int) + p' * (q : Int)) (L + L + 1) ∧ Below W2.heap.size W2 wx)
  case first =>
    go_region_held3 (fun w' => w'.cell? ⟨w1.heap.size, 0, none⟩ = some (.bool nx) ∧ w'.cell? ⟨w1.heap.size, 1, none⟩ = some (.slice X kx cx) ∧ w'.cell? ⟨w2.heap.size, 0, none⟩ = some (.bool nu) ∧ w'.cell? ⟨w2.heap.size, 1, none⟩ = some (.slice U ku cu))
      ((refine keep4c z5 z5 z7 z7 c0 c1 d0 d1 ?_; (repeat (first | with_reducible exact Below.refl _ _ | ((with_reducible refine bl_set ?_ ?_ _); rotate_left; (first | exact Nat.le_refl _ | exact g5 | exact g6 | exact g7 | exact g8 | exact g9)) | with_reducible refine bl_call h9 ?_ | with_reducible refine bl_call h8 ?_ | with_reducible refine bl_call h7 ?_ | with_reducible refine bl_call h6 ?_ | with_reducible refine bl_call h5 ?_ | with_reducible refine bl_alloc ?_ _ | with_reducible refine bl_drew ?_)); done))
      (first
        | (go_at_call 74; ((with_reducible refine (whole_any (.slice V kv cv) lq2 _ (hY2.below ?_) i2).mono ?_); ((repeat (first | with_reducible exact Below.refl _ _ | ((with_reducible refine bl_set ?_ ?_ _); rotate_left; (first | exact Nat.le_refl _ | exact g5 | exact g6 | exact g7 | exact g8 | exact g9)) | with_reducible refine bl_call h9 ?_ | with_reducible refine bl_call h8 ?_ | with_reducible refine bl_call h7 ?_ | with_reducible refine bl_call h6 ?_ | with_reducible refine bl_call h5 ?_ | with_reducible refine bl_alloc ?_ _ | with_reducible refine bl_drew ?_))); rintro e w5 ⟨v5, rfl, hI5, h5⟩; have g5 : W2.heap.size ≤ w5.heap.size := (bl_call h5 (by (repeat (first | with_reducible exact Below.refl _ _ | ((with_reducible refine bl_set ?_ ?_ _); rotate_left; (first | exact Nat.le_refl _ | exact g5 | exact g6 | exact g7 | exact g8 | exact g9)) | with_reducible refine bl_call h9 ?_ | with_reducible refine bl_call h8 ?_ | with_reducible refine bl_call h7 ?_ | with_reducible refine bl_call h6 ?_ | with_reducible refine bl_call h5 ?_ | with_reducible refine bl_alloc ?_ _ | with_reducible refine bl_drew ?_))) : Below W2.heap.size W2 w5).size; rw [HV2.out] at hI5; have hJ5 := hI5.intA.mono hk2; clear hI5))
        | (go_at_call 73; ((with_reducible refine (imul_any (.agg #[.bool nx, .slice X kx cx]) _ p _ L L _ (hX1.below ?_) (hJ5.below ?_) i4 i4).mono ?_); ((repeat (first | with_reducible exact Below.refl _ _ | ((with_reducible refine bl_set ?_ ?_ _); rotate_left; (first | exact Nat.le_refl _ | exact g5 | exact g6 | exact g7 | exact g8 | exact g9)) | with_reducible refine bl_call h9 ?_ | with_reducible refine bl_call h8 ?_ | with_reducible refine bl_call h7 ?_ | with_reducible refine bl_call h6 ?_ | with_reducible refine bl_call h5 ?_ | with_reducible refine bl_alloc ?_ _ | with_reducible refine bl_drew ?_))); ((repeat (first | with_reducible exact Below.refl _ _ | ((with_reducible refine bl_set ?_ ?_ _); rotate_left; (first | exact Nat.le_refl _ | exact g5 | exact g6 | exact g7 | exact g8 | exact g9)) | with_reducible refine bl_call h9 ?_ | with_reducible refine bl_call h8 ?_ | with_reducible refine bl_call h7 ?_ | with_reducible refine bl_call h6 ?_ | with_reducible refine bl_call h5 ?_ | with_reducible refine bl_alloc ?_ _ | with_reducible refine bl_drew ?_))); rintro e w6 ⟨v6, rfl, hI6, h6⟩; have g6 : W2.heap.size ≤ w6.heap.size := (bl_call h6 (by (repeat (first | with_reducible exact Below.refl _ _ | ((with_reducible refine bl_set ?_ ?_ _); rotate_left; (first | exact Nat.le_refl _ | exact g5 | exact g6 | exact g7 | exact g8 | exact g9)) | with_reducible refine bl_call h9 ?_ | with_reducible refine bl_call h8 ?_ | with_reducible refine bl_call h7 ?_ | with_reducible refine bl_call h6 ?_ | with_reducible refine bl_call h5 ?_ | with_reducible refine bl_alloc ?_ _ | with_reducible refine bl_drew ?_))) : Below W2.heap.size W2 w6).size; have hJ6 := hI6.intA; clear hI6))
        | (go_at_call 74; ((with_reducible refine (whole_any (.slice Y ky cy) lq1 _ (hY1.below ?_) i1).mono ?_); ((repeat (first | with_reducible exact Below.refl _ _ | ((with_reducible refine bl_set ?_ ?_ _); rotate_left; (first | exact Nat.le_refl _ | exact g5 | exact g6 | exact g7 | exact g8 | exact g9)) | with_reducible refine bl_call h9 ?_ | with_reducible refine bl_call h8 ?_ | with_reducible refine bl_call h7 ?_ | with_reducible refine bl_call h6 ?_ | with_reducible refine bl_call h5 ?_ | with_reducible refine bl_alloc ?_ _ | with_reducible refine bl_drew ?_))); rintro e w7 ⟨v7, rfl, hI7, h7⟩; have g7 : W2.heap.size ≤ w7.heap.size := (bl_call h7 (by (repeat (first | with_reducible exact Below.refl _ _ | ((with_reducible refine bl_set ?_ ?_ _); rotate_left; (first | exact Nat.le_refl _ | exact g5 | exact g6 | exact g7 | exact g8 | exact g9)) | with_reducible refine bl_call h9 ?_ | with_reducible refine bl_call h8 ?_ | with_reducible refine bl_call h7 ?_ | with_reducible refine bl_call h6 ?_ | with_reducible refine bl_call h5 ?_ | with_reducible refine bl_alloc ?_ _ | with_reducible refine bl_drew ?_))) : Below W2.heap.size W2 w7).size; rw [HV1.out] at hI7; have hJ7 := hI7.intA.mono hk1; clear hI7))
        | (go_at_call 73; ((with_reducible refine (imul_any (.agg #[.bool nu, .slice U ku cu]) _ p' _ L L _ (hX2.below ?_) (hJ7.below ?_) i4 i4).mono ?_); ((repeat (first | with_reducible exact Below.refl _ _ | ((with_reducible refine bl_set ?_ ?_ _); rotate_left; (first | exact Nat.le_refl _ | exact g5 | exact g6 | exact g7 | exact g8 | exact g9)) | with_reducible refine bl_call h9 ?_ | with_reducible refine bl_call h8 ?_ | with_reducible refine bl_call h7 ?_ | with_reducible refine bl_call h6 ?_ | with_reducible refine bl_call h5 ?_ | with_reducible refine bl_alloc ?_ _ | with_reducible refine bl_drew ?_))); ((repeat (first | with_reducible exact Below.refl _ _ | ((with_reducible refine bl_set ?_ ?_ _); rotate_left; (first | exact Nat.le_refl _ | exact g5 | exact g6 | exact g7 | exact g8 | exact g9)) | with_reducible refine bl_call h9 ?_ | with_reducible refine bl_call h8 ?_ | with_reducible refine bl_call h7 ?_ | with_reducible refine bl_call h6 ?_ | with_reducible refine bl_call h5 ?_ | with_reducible refine bl_alloc ?_ _ | with_reducible refine bl_drew ?_))); rintro e w8 ⟨v8, rfl, hI8, h8⟩; have g8 : W2.heap.size ≤ w8.heap.size := (bl_call h8 (by (repeat (first | with_reducible exact Below.refl _ _ | ((with_reducible refine bl_set ?_ ?_ _); rotate_left; (first | exact Nat.le_refl _ | exact g5 | exact g6 | exact g7 | exact g8 | exact g9)) | with_reducible refine bl_call h9 ?_ | with_reducible refine bl_call h8 ?_ | with_reducible refine bl_call h7 ?_ | with_reducible refine bl_call h6 ?_ | with_reducible refine bl_call h5 ?_ | with_reducible refine bl_alloc ?_ _ | with_reducible refine bl_drew ?_))) : Below W2.heap.size W2 w8).size; have hJ8 := hI8.intA; clear hI8))
        | (go_at_call 97; ((with_reducible refine (iadd_any _ _ _ _ _ _ _ (hJ6.below ?_) (hJ8.below ?_) i3 i3).mono ?_); ((repeat (first | with_reducible exact Below.refl _ _ | ((with_reducible refine bl_set ?_ ?_ _); rotate_left; (first | exact Nat.le_refl _ | exact g5 | exact g6 | exact g7 | exact g8 | exact g9)) | with_reducible refine bl_call h9 ?_ | with_reducible refine bl_call h8 ?_ | with_reducible refine bl_call h7 ?_ | with_reducible refine bl_call h6 ?_ | with_reducible refine bl_call h5 ?_ | with_reducible refine bl_alloc ?_ _ | with_reducible refine bl_drew ?_))); ((repeat (first | with_reducible exact Below.refl _ _ | ((with_reducible refine bl_set ?_ ?_ _); rotate_left; (first | exact Nat.le_refl _ | exact g5 | exact g6 | exact g7 | exact g8 | exact g9)) | with_reducible refine bl_call h9 ?_ | with_reducible refine bl_call h8 ?_ | with_reducible refine bl_call h7 ?_ | with_reducible refine bl_call h6 ?_ | with_reducible refine bl_call h5 ?_ | with_reducible refine bl_alloc ?_ _ | with_reducible refine bl_drew ?_))); rintro e w9 ⟨v9, rfl, hI9, h9⟩; replace hI9 := hI9.tight HTB.out; have g9 : W2.heap.size ≤ w9.heap.size := (bl_call h9 (by (repeat (first | with_reducible exact Below.refl _ _ | ((with_reducible refine bl_set ?_ ?_ _); rotate_left; (first | exact Nat.le_refl _ | exact g5 | exact g6 | exact g7 | exact g8 | exact g9)) | with_reducible refine bl_call h9 ?_ | with_reducible refine bl_call h8 ?_ | with_reducible refine bl_call h7 ?_ | with_reducible refine bl_call h6 ?_ | with_reducible refine bl_call h5 ?_ | with_reducible refine bl_alloc ?_ _ | with_reducible refine bl_drew ?_))) : Below W2.heap.size W2 w9).size; have hI9' := hI9; obtain ⟨mv9, rfl, hn9, hf9⟩ := hI9'; obtain ⟨Z, kz, cz, rfl⟩ := hn9.lim1.choose_spec.1.show_; (first | (have R8 : Row w8 W2.heap.size 52 [.bool false, .slice none 0 0] := ((((Row.new _ 52 [.bool false, .slice none 0 0]).keep h5).keep h6).keep h7).keep h8) | (have R8 : Row w8 W2.heap.size 52 [.bool false, .slice none 0 0] := (((((Row.new W2 52 [.bool false, .slice none 0 0]).drew).keep h5).keep h6).keep h7).keep h8) | (have R8 : Row w8 w5.heap.size 52 [.bool false, .slice none 0 0] := (((Row.new _ 52 [.bool false, .slice none 0 0]).keep h6).keep h7).keep h8) | (have R8 : Row w8 w6.heap.size 52 [.bool false, .slice none 0 0] := ((Row.new _ 52 [.bool false, .slice none 0 0]).keep h7).keep h8) | (have R8 : Row w8 w7.heap.size 52 [.bool false, .slice none 0 0] := (Row.new _ 52 [.bool false, .slice none 0 0]).keep h8) | (have R8 : Row (w8.alloc (.cells #[.bool false, .slice none 0 0] 52)) w8.heap.size 52 [.bool false, .slice none 0 0] := Row.new _ _ _; have R8' := R8.keep h9) | (have R9 : Row (w9.alloc (.cells #[.bool false, .slice none 0 0] 52)) w9.heap.size 52 [.bool false, .slice none 0 0] := Row.new _ _ _; have e0 := R9.cell 0; have e1 := R9.cell 1; simp only [List.getElem?_cons_zero, List.getElem?_cons_succ] at e0 e1; have f0 := R9.frozen 0; have f1 := R9.frozen 1; have f2 := R9.lt)); (try (have R9 := R8.keep h9; have zg := R8.lt; have e0 := R9.cell 0; have e1 := R9.cell 1; simp only [List.getElem?_cons_zero, List.getElem?_cons_succ] at e0 e1; have f0 := R9.frozen 0; have f1 := R9.frozen 1)))))
    all_goals go_wp2_with fail
    all_goals go_meet
    all_goals go_light
    all_goals
      refine ⟨_, decide ((p * (q' : Int) + p' * (q : Int)) < 0), Z, kz, cz, rfl, ?_, ?_, ?_, ?_⟩
      · (first | exact Nat.le_refl _ | exact g5 | exact g6 | exact g7 | exact g8 | exact g9)
      · (first | exact Row.new _ _ _ | exact (R9.set_ 0 _).set_ 1 _)
      · (first | exact hI9.intA.below ((Below.refl _ _).alloc (Nat.le_refl _) _) | exact ((hI9.set_ zg _).set_ zg _).intA)
      · (repeat (first | with_reducible exact Below.refl _ _ | ((with_reducible refine bl_set ?_ ?_ _); rotate_left; (first | exact Nat.le_refl _ | exact g5 | exact g6 | exact g7 | exact g8 | exact g9)) | with_reducible refine bl_call h9 ?_ | with_reducible refine bl_call h8 ?_ | with_reducible refine bl_call h7 ?_ | with_reducible refine bl_call h6 ?_ | with_reducible refine bl_call h5 ?_ | with_reducible refine bl_alloc ?_ _ | with_reducible refine bl_drew ?_))
  case rest =>
    obtain ⟨g, nz, Z, kz, cz, rfl, hg2, hrg, hIz, hbc⟩ := hcut
    have r2c := r2'.keep hbc
    have hYc1 := hY1.below hbc
    have hYc2 := hY2.below hbc
    have BC := BW2.trans (hbc.mono BW2.size)
    have j0 : wc.cell? ⟨w.heap.size + 2, 0, none⟩ = some (.bool false) := r2c.cell 0
    have j1 : wc.cell? ⟨w.heap.size + 2, 1, none⟩ = some (.slice none 0 0) := r2c.cell 1
    have j2 : wc.cell? ⟨w.heap.size + 2, 2, none⟩ = some (.slice none 0 0) := r2c.cell 2
    have k0 := r2c.frozen 0
    have k1 := r2c.frozen 1
    have k2 := r2c.frozen 2
    have y2 : w.heap.size + 2 < wc.heap.size := r2c.lt
    have y3 : w.heap.size + 3 ≤ wc.heap.size := y2
    have o0 : wc.cell? ⟨g, 0, none⟩ = some (.bool nz) := hrg.cell 0
    have o1 : wc.cell? ⟨g, 1, none⟩ = some (.slice Z kz cz) := hrg.cell 1
    have zg : g < wc.heap.size := hrg.lt
    have zb : w.heap.size + 2 < g := Nat.lt_of_lt_of_le z2 hg2
    clear c0 c1 d0 d1 hX1 hX2 hY1 hY2 r7 r2' hbc hrg r2c z5 z7 hg2
    go_wp2_with fail
    go_region_held3 (fun w' => w'.cell? ⟨g, 0, none⟩ = some (.bool nz) ∧ w'.cell? ⟨g, 1, none⟩ = some (.slice Z kz cz))
      (first
        | (refine keep2c zg zg o0 o1 ?_; (repeat (first | with_reducible exact Below.refl _ _ | with_reducible refine bl_call m6 ?_ | with_reducible refine bl_call m5 ?_ | with_reducible refine bl_drew ?_)); done)
        | (refine keep2t zb (keep2c zg zg o0 o1 ?_); (repeat (first | with_reducible exact Below.refl _ _ | with_reducible refine bl_call m6 ?_ | with_reducible refine bl_call m5 ?_ | with_reducible refine bl_drew ?_)); done))
      (first
        | (go_at_call 33; ((with_reducible refine (mul_wide _ _ lq1 lq2 _ (hYc1.below ?_) (hYc2.below ?_) i12).mono ?_); ((repeat (first | with_reducible exact Below.refl _ _ | with_reducible refine bl_call m6 ?_ | with_reducible refine bl_call m5 ?_ | with_reducible refine bl_drew ?_))); ((repeat (first | with_reducible exact Below.refl _ _ | with_reducible refine bl_call m6 ?_ | with_reducible refine bl_call m5 ?_ | with_reducible refine bl_drew ?_))); rintro e w5 ⟨v5, rfl, l5, hl5, nt5, hv5, hk5, hf5, m5⟩; have HM := Lib.hid (HQQ.out l5 hv5); have hk5' := HL.out l5 hk5; clear hv5 hk5))
        | (go_at_call 75; ((with_reducible refine (reduce_any _ _ _ l5 (L + L + 1) _ (hIz.below ?_) hl5 i5 hk5' HM.out.1).mono ?_); ((repeat (first | with_reducible exact Below.refl _ _ | with_reducible refine bl_call m6 ?_ | with_reducible refine bl_call m5 ?_ | with_reducible refine bl_drew ?_))); rintro e w6 ⟨v6, rfl, ⟨mv6, dv6, rfl, hm6, hd6, fm6, fd6⟩, m6⟩; have hm6' := hm6; have hd6' := hd6; obtain ⟨l6, ⟨⟨A6, c6, rfl, _, _, _⟩, _⟩, _⟩ := hm6'; obtain ⟨l7, ⟨⟨A7, c7, rfl, _, _, _⟩, _⟩, _⟩ := hd6'; have B6 : Below wc.heap.size wc w6 := bl_call m6 (bl_call m5 (bl_drew (Below.refl _ _))); have d60 := (B6.cell (p := ⟨w.heap.size + 2, 0, none⟩) y2).trans j0; have d61 := (B6.cell (p := ⟨w.heap.size + 2, 1, none⟩) y2).trans j1; have d62 := (B6.cell (p := ⟨w.heap.size + 2, 2, none⟩) y2).trans j2; have f60 := (B6.frozen (p := ⟨w.heap.size + 2, 0, none⟩) y2).trans k0; have f61 := (B6.frozen (p := ⟨w.heap.size + 2, 1, none⟩) y2).trans k1; have f62 := (B6.frozen (p := ⟨w.heap.size + 2, 2, none⟩) y2).trans k2)))
    have hm7 := hm6
    have hd7 := hd6
    rw [HM.out.2] at hm7 hd7
    have B16 : Below wc.heap.size wc w6 := bl_call m6 (bl_call m5 (bl_drew (Below.refl _ _)))
    have hfm : Fresh (w.heap.size + 3) (.slice A6 l6.length c6) := fm6.mono (Nat.le_trans y3 (bl_call m5 (bl_drew (Below.refl _ _))).size)
    have hfd : Fresh (w.heap.size + 3) (.slice A7 l7.length c7) := fd6.mono (Nat.le_trans y3 (bl_call m5 (bl_drew (Below.refl _ _))).size)
    rw [HM.out.2]
    go_wp2_with fail
    refine bodyPost_ret (v := .agg #[.bool (decide (redP (p * (q' : Int) + p' * (q : Int)) (q * q') < 0)), .slice A6 l6.length c6, .slice A7 l7.length c7]) (by simp [results, Tryd.results68, go_sem, d60, d61, d62]) rfl ⟨_, rfl, ⟨_, _, rfl, ?_, ?_, hfm.mono (by omega), hfd.mono (by omega)⟩, (((BC.trans (B16.mono BC.size)).setCell (by simp; omega) _).setCell (by simp; omega) _).setCell (by simp; omega) _⟩
    · exact ((hm7.set_ hfm (by simp) _).set_ hfm (by simp) _).set_ hfm (by simp) _
    · exact ((hd7.set_ hfd (by simp) _).set_ hfd (by simp) _).set_ hfd (by simp) _
theorem qadd_any (v u : Value) (p p' : Int) (q q' L : Nat) (w : World) (ha : RatA w v p q L) (hb : RatA w u p' q' L) (hL : 2 ≤ L) (hM : L ≤ 17592186044000) :
    Calls Tryd.prog 68 #[v, u] w fun e w' => ∃ x, e = .returned x ∧ RatF w.heap.size w' x (redP (p * (q' : Int) + p' * (q : Int)) (q * q')) (redQ (p * (q' : Int) + p' * (q : Int)) (q * q')) (L + L + (L + L) + 1) ∧ Below w.heap.size w w' := by
  refine (qadd_wide v u p p' q q' L w ha hb hL (by omega)).mono ?_
  rintro e w' ⟨x, he, hx, hb⟩
  exact ⟨x, he, hx.mono (by omega), hb⟩

end Go.Proofs.YtoihjclkocffhaaDoor
