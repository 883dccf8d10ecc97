/- The walks of integer's Make, Of, Sign, Cmp. -/
import Derived.Test.YtoihjclkocffhaaDoorNatD
namespace Go.Proofs.YtoihjclkocffhaaDoor
open Go.RowKit
set_option linter.unusedVariables false

/-- The whole number with this sign and magnitude. -/
def sg (neg : Bool) (n : Nat) : Int := if neg then -(n : Int) else (n : Int)
theorem sg_abs (b : Bool) (n : Nat) : (sg b n).natAbs = n := by cases b <;> simp [sg]
/-- Any form of a whole number. -/
def IntA (w : World) (v : Value) (p : Int) (L : Nat) : Prop := ∃ neg mv ls, v = .agg #[.bool neg, mv] ∧ Lim w mv ls ∧ ls.length ≤ L ∧ p = sg neg (val ls)
/-- A whole number in normal form, in memory from block base on. -/
def IntF (base : Nat) (w : World) (v : Value) (p : Int) (L : Nat) : Prop := ∃ mv, v = .agg #[.bool (decide (p < 0)), mv] ∧ NatAt w mv p.natAbs L ∧ Fresh base mv
theorem IntF.intA {base : Nat} {w : World} {v : Value} {p : Int} {L : Nat} (h : IntF base w v p L) : IntA w v p L := by
  obtain ⟨mv, rfl, ⟨ls, h1, _, h3, h4⟩, _⟩ := h
  refine ⟨_, mv, ls, rfl, h1, h4, ?_⟩
  rw [h3]
  unfold sg
  split
  · rename_i h; have := of_decide_eq_true h; omega
  · rename_i h; have : ¬ p < 0 := by simpa using h
    omega
theorem IntA.below {w w' : World} {v : Value} {p : Int} {L : Nat} (h : IntA w v p L) (hb : Below w.heap.size w w') : IntA w' v p L := by
  obtain ⟨neg, mv, ls, h1, h2, h3, h4⟩ := h
  exact ⟨neg, mv, ls, h1, h2.below hb, h3, h4⟩
theorem IntA.mono {w : World} {v : Value} {p : Int} {L L' : Nat} (h : IntA w v p L) (hL : L ≤ L') : IntA w v p L' := by
  obtain ⟨neg, mv, ls, h1, h2, h3, h4⟩ := h
  exact ⟨neg, mv, ls, h1, h2, Nat.le_trans h3 hL, h4⟩
theorem IntF.below {base : Nat} {w w' : World} {v : Value} {p : Int} {L : Nat} (h : IntF base w v p L) (hb : Below w.heap.size w w') : IntF base w' v p L := by
  obtain ⟨mv, h1, h2, h3⟩ := h
  exact ⟨mv, h1, h2.below hb, h3⟩
theorem IntF.set_ {base : Nat} {w : World} {v : Value} {p : Int} {L : Nat} (h : IntF base w v p L) {q : Addr} (hq : q.block < base) (x : Value) : IntF base (w.setCell q x) v p L := by
  obtain ⟨mv, h1, h2, h3⟩ := h
  exact ⟨mv, h1, h2.set_ h3 hq x, h3⟩
theorem IntF.base {b b' : Nat} {w : World} {v : Value} {p : Int} {L : Nat} (h : IntF b w v p L) (hb : b' ≤ b) : IntF b' w v p L := by
  obtain ⟨mv, h1, h2, h3⟩ := h
  exact ⟨mv, h1, h2, h3.mono hb⟩
theorem IntF.mono {b : Nat} {w : World} {v : Value} {p : Int} {L L' : Nat} (h : IntF b w v p L) (hL : L ≤ L') : IntF b w v p L' := by
  obtain ⟨mv, h1, h2, h3⟩ := h
  exact ⟨mv, h1, h2.mono hL, h3⟩
theorem sg_neg (neg : Bool) (n : Nat) : decide (sg neg n < 0) = (neg && decide (0 < n)) := by
  cases neg
  · simp [sg]
  · simp only [sg, Bool.true_and]
    rw [Bool.eq_iff_iff]; simp
theorem natAt_pos {w : World} {v : Value} {n L : Nat} (h : NatAt w v n L) : ∃ A k c, v = .slice A k c ∧ (0 < k ↔ 0 < n) ∧ k ≤ 9223372036854775807 := by
  obtain ⟨ls, ⟨⟨A, c, rfl, h1, h2, _⟩, _⟩, nt, hv, _⟩ := h
  refine ⟨A, _, c, rfl, ?_, by unfold maxLen at h2; omega⟩
  constructor
  · intro h
    have := nt.ge h
    have := bp_pos (ls.length - 1)
    omega
  · intro h
    rcases Nat.eq_zero_or_pos ls.length with h0 | h0
    · have := List.eq_nil_of_length_eq_zero h0; subst this; simp [val] at hv; omega
    · exact h0

set_option maxHeartbeats 2000000 in
theorem imake_any (neg : Bool) (v : Value) (ls : List Nat) (w : World) (h : Lim w v ls) (hl : ls.length ≤ 70368744177650) :
    Calls Tryd.prog 91 #[.bool neg, v] w fun e w' => ∃ u, e = .returned u ∧ IntF w.heap.size w' u (sg neg (val ls)) ls.length ∧ Below w.heap.size w w' := by
  have hgb := Row.new w 52 [.bool false, .slice none 0 0]
  have B0 : Below w.heap.size w (w.alloc (.cells #[.bool false, .slice none 0 0] 52)) := (Below.refl _ _).alloc (Nat.le_refl _) _
  have h0 := h.below B0
  have HSN := Lib.hid (sg_neg neg (val ls))
  have HSA := Lib.hid (sg_abs neg (val ls))
  go_enter Tryd.func91, Tryd.ntmps91
  go_wp2_with fail
  refine (norm_any v ls _ h0 (by omega)).mono ?_
  rintro e w1 ⟨v1, rfl, hN⟩
  have hb1 := hN.bel
  have B1 : Below w.heap.size w w1 := B0.trans (hb1.mono B0.size)
  replace hgb := hgb.keep hb1
  have hf := hN.fresh
  have hn := hN.nat
  obtain ⟨A, k, c, rfl, hk, hk2⟩ := natAt_pos hn
  have zb : w.heap.size < w1.heap.size := hgb.lt
  have c0 := hgb.cell 0
  have c1 := hgb.cell 1
  have f0 := hgb.frozen 0
  have f1 := hgb.frozen 1
  simp only [List.getElem?_cons_zero, List.getElem?_cons_succ] at c0 c1
  rw [show (w.alloc (.cells #[.bool false, .slice none 0 0] 52)).heap.size = w.heap.size + 1 by simp] at hf
  have HK : Hid (decide (0 < k) = decide (0 < val ls)) := by unfold Hid; rw [Bool.eq_iff_iff]; simpa using hk
  clear hk hN
  cases neg
  · go_wp2_with fail
    refine bodyPost_ret (v := .agg #[.bool false, .slice A k c]) (by simp [results, Tryd.results91, go_sem, c0, c1]) rfl ⟨_, rfl, ⟨.slice A k c, by rw [HSN.out]; rfl, ?_, hf.mono (by omega)⟩, (B1.setCell (Nat.le_refl _) _).setCell (Nat.le_refl _) _⟩
    rw [HSA.out]
    exact (hn.set_ hf (by simp) _).set_ hf (by simp) _
  · rcases hd : decide (0 < k) with _ | _
    · go_wp2_with fail
      refine bodyPost_ret (v := .agg #[.bool false, .slice A k c]) (by simp [results, Tryd.results91, go_sem, c0, c1]) rfl ⟨_, rfl, ⟨.slice A k c, by rw [HSN.out, ← HK.out, hd]; rfl, ?_, hf.mono (by omega)⟩, (B1.setCell (Nat.le_refl _) _).setCell (Nat.le_refl _) _⟩
      rw [HSA.out]
      exact (hn.set_ hf (by simp) _).set_ hf (by simp) _
    · go_wp2_with fail
      refine bodyPost_ret (v := .agg #[.bool true, .slice A k c]) (by simp [results, Tryd.results91, go_sem, c0, c1]) rfl ⟨_, rfl, ⟨.slice A k c, by rw [HSN.out, ← HK.out, hd]; rfl, ?_, hf.mono (by omega)⟩, (B1.setCell (Nat.le_refl _) _).setCell (Nat.le_refl _) _⟩
      rw [HSA.out]
      exact (hn.set_ hf (by simp) _).set_ hf (by simp) _
end Go.Proofs.YtoihjclkocffhaaDoor
