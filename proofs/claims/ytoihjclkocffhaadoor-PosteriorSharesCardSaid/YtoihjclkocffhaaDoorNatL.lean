/- Lists of natural numbers in memory. -/
import Derived.Test.YtoihjclkocffhaaDoorNatB
namespace Go.Proofs.YtoihjclkocffhaaDoor
open Go.RowKit
set_option linter.unusedVariables false

/-- The value u is the number n in normal form, in at most L limbs. -/
def NatAt (w : World) (u : Value) (n L : Nat) : Prop := ∃ ls, Lim w u ls ∧ NoTop ls ∧ val ls = n ∧ ls.length ≤ L
theorem NatAt.below {w w' : World} {u : Value} {n L : Nat} (h : NatAt w u n L) (hb : Below w.heap.size w w') : NatAt w' u n L := by
  obtain ⟨ls, h1, h2, h3, h4⟩ := h
  exact ⟨ls, h1.below hb, h2, h3, h4⟩
theorem Lim.set_ {w : World} {v : Value} {ls : List Nat} (h : Lim w v ls) {base : Nat} (hf : Fresh base v) {p : Addr} (hp : p.block < base) (u : Value) : Lim (w.setCell p u) v ls := by
  obtain ⟨⟨A, c, rfl, h1, h2, hs⟩, ha⟩ := h
  exact ⟨⟨A, c, rfl, h1, h2, hs.set_ hf hp u⟩, ha⟩
theorem Lim.grown {w w' : World} {v : Value} {ls : List Nat} {row : Option Nat} (h : Lim w v ls) (hg : w.grownBy w' row) (ho : Off row v) : Lim w' v ls := by
  obtain ⟨⟨A, c, rfl, h1, h2, hs⟩, ha⟩ := h
  exact ⟨⟨A, c, rfl, h1, h2, hs.grown hg ho⟩, ha⟩
theorem NatAt.set_ {w : World} {v : Value} {n L : Nat} (h : NatAt w v n L) {base : Nat} (hf : Fresh base v) {p : Addr} (hp : p.block < base) (u : Value) : NatAt (w.setCell p u) v n L := by
  obtain ⟨ls, h1, h2, h3, h4⟩ := h
  exact ⟨ls, h1.set_ hf hp u, h2, h3, h4⟩
theorem NatAt.grown {w w' : World} {v : Value} {n L : Nat} {row : Option Nat} (h : NatAt w v n L) (hg : w.grownBy w' row) (ho : Off row v) : NatAt w' v n L := by
  obtain ⟨ls, h1, h2, h3, h4⟩ := h
  exact ⟨ls, h1.grown hg ho, h2, h3, h4⟩
theorem NatAt.mono {w : World} {v : Value} {n L L' : Nat} (h : NatAt w v n L) (hl : L ≤ L') : NatAt w v n L' := by
  obtain ⟨ls, h1, h2, h3, h4⟩ := h
  exact ⟨ls, h1, h2, h3, by omega⟩
theorem NRes.nat {w w' : World} {v : Value} {n L : Nat} (h : NRes w w' v n L) : NatAt w' v n L := by
  obtain ⟨ls, h1, h2, h3, h4, _, _⟩ := h
  exact ⟨ls, h1, h2, h3, h4⟩
theorem NRes.fresh {w w' : World} {v : Value} {n L : Nat} (h : NRes w w' v n L) : Fresh w.heap.size v := by
  obtain ⟨ls, _, _, _, _, h5, _⟩ := h
  exact h5
theorem NRes.bel {w w' : World} {v : Value} {n L : Nat} (h : NRes w w' v n L) : Below w.heap.size w w' := by
  obtain ⟨ls, _, _, _, _, _, h6⟩ := h
  exact h6
/-- A number that is less than bp k has at most k limbs. -/
theorem NatAt.short {w : World} {v : Value} {n L k : Nat} (h : NatAt w v n L) (hn : n < bp k) : NatAt w v n k := by
  obtain ⟨ls, h1, h2, h3, h4⟩ := h
  refine ⟨ls, h1, h2, h3, ?_⟩
  rcases Nat.lt_or_ge k ls.length with hl | hl
  · have := h2.ge (by omega)
    have := bp_mono (show k ≤ ls.length - 1 by omega)
    omega
  · exact hl
/-- Two values of one number hold the same limbs. -/
theorem NatAt.same {w : World} {v u : Value} {n L L' : Nat} (h : NatAt w v n L) (h' : NatAt w u n L') : ∃ ls, Lim w v ls ∧ Lim w u ls ∧ ls.length ≤ L := by
  obtain ⟨ls, h1, h2, h3, h4⟩ := h
  obtain ⟨ms, g1, g2, g3, g4⟩ := h'
  have := norm_inj h1.all g1.all h2 g2 (by rw [h3, g3])
  subst this
  exact ⟨ls, h1, g1, h4⟩

/-- The slice v holds these numbers, each in normal form and in at most L limbs. -/
def CanL (w : World) (v : Value) (ns : List Nat) (L : Nat) : Prop :=
  ∃ A c us, v = .slice A ns.length c ∧ ns.length ≤ c ∧ c ≤ maxLen ∧ Sl w A ns.length us ∧ ∀ i u, us[i]? = some u → NatAt w u (ns.getD i 0) L
theorem CanL.below {w w' : World} {v : Value} {ns : List Nat} {L : Nat} (h : CanL w v ns L) (hb : Below w.heap.size w w') : CanL w' v ns L := by
  obtain ⟨A, c, us, hv, h1, h2, hs, hu⟩ := h
  exact ⟨A, c, us, hv, h1, h2, hs.below hb, fun i u hi => (hu i u hi).below hb⟩
theorem CanL.drewN {w : World} {v : Value} {ns : List Nat} {L : Nat} (h : CanL w v ns L) (d : Nat) : CanL (w.drewN d) v ns L := h
theorem CanL.nil (w : World) (L : Nat) : CanL w (.slice none 0 0) [] L := ⟨none, 0, [], rfl, by simp, by simp, Sl.nil, fun i u h => by simp at h⟩
/-- The slice v holds these lists of limbs. -/
def LimL (w : World) (v : Value) (lss : List (List Nat)) : Prop :=
  ∃ A c us, v = .slice A lss.length c ∧ lss.length ≤ c ∧ c ≤ maxLen ∧ Sl w A lss.length us ∧ ∀ i u, us[i]? = some u → Lim w u (lss.getD i [])
theorem LimL.below {w w' : World} {v : Value} {lss : List (List Nat)} (h : LimL w v lss) (hb : Below w.heap.size w w') : LimL w' v lss := by
  obtain ⟨A, c, us, hv, h1, h2, hs, hu⟩ := h
  exact ⟨A, c, us, hv, h1, h2, hs.below hb, fun i u hi => (hu i u hi).below hb⟩
theorem LimL.drewN {w : World} {v : Value} {lss : List (List Nat)} (h : LimL w v lss) (d : Nat) : LimL (w.drewN d) v lss := h

def nilv : Value := .slice none 0 0
theorem infoNat : (Tryd.prog.info? 50).map (fun i => (i.zero, i.size, i.bytes)) = some (some (.slice none 0 0), 1, 24) := by kernel_rfl
theorem padv_set (l : List Value) (z : Value) (n k : Nat) (x : Value) (hl : l.length = k) (hk : k < n) : (l ++ List.replicate (n - k) z).set k x = (l ++ [x]) ++ List.replicate (n - (k + 1)) z := by
  subst hl
  rw [List.set_append_right _ _ (by omega), Nat.sub_self]
  obtain ⟨m, hm⟩ : ∃ m, n - l.length = m + 1 := ⟨n - l.length - 1, by omega⟩
  rw [hm, List.replicate_succ, List.set_cons_zero, show n - (l.length + 1) = m by omega]
  simp
theorem padv_get (l : List Value) (z : Value) (n k : Nat) (hl : l.length = k) (hk : k < n) : (l ++ List.replicate (n - k) z)[k]? = some z := by
  subst hl
  rw [List.getElem?_append_right (by omega), Nat.sub_self, List.getElem?_replicate, if_pos (by omega)]
/-- What has been collected: the first k of the numbers, in memory from base on. -/
def Coll (w : World) (us : List Value) (ns : List Nat) (k L base : Nat) : Prop := us.length = k ∧ ∀ i u, us[i]? = some u → NatAt w u (ns.getD i 0) L ∧ Fresh base u
theorem Coll.zero (w : World) (ns : List Nat) (L base : Nat) : Coll w [] ns 0 L base := ⟨rfl, fun i u h => by simp at h⟩
theorem Coll.below {w w' : World} {us : List Value} {ns : List Nat} {k L base : Nat} (h : Coll w us ns k L base) (hb : Below w.heap.size w w') : Coll w' us ns k L base :=
  ⟨h.1, fun i u hi => ⟨(h.2 i u hi).1.below hb, (h.2 i u hi).2⟩⟩
theorem Coll.set_ {w : World} {us : List Value} {ns : List Nat} {k L base : Nat} (h : Coll w us ns k L base) {p : Addr} (hp : p.block < base) (x : Value) : Coll (w.setCell p x) us ns k L base :=
  ⟨h.1, fun i u hi => ⟨(h.2 i u hi).1.set_ (h.2 i u hi).2 hp x, (h.2 i u hi).2⟩⟩
theorem Coll.snoc {w : World} {us : List Value} {ns : List Nat} {k L base : Nat} {x : Value} (h : Coll w us ns k L base) (hx : NatAt w x (ns.getD k 0) L) (hf : Fresh base x) : Coll w (us ++ [x]) ns (k + 1) L base := by
  refine ⟨by rw [List.length_append, h.1]; rfl, fun i u hi => ?_⟩
  rcases Nat.lt_or_ge i us.length with hl | hl
  · rw [List.getElem?_append_left hl] at hi
    exact h.2 i u hi
  · rw [List.getElem?_append_right hl] at hi
    have : i - us.length = 0 := by
      rcases Nat.eq_zero_or_pos (i - us.length) with h0 | h0
      · exact h0
      · rw [List.getElem?_eq_none (by simp; omega)] at hi; cases hi
    rw [this] at hi
    simp at hi
    subst hi
    have : i = k := by have := h.1; omega
    subst this
    exact ⟨hx, hf⟩
theorem Coll.can_row {w : World} {us : List Value} {ns : List Nat} {L base g t : Nat} (h : Coll w us ns ns.length L base) (hr : Row w g t us) (hm : ns.length ≤ maxLen) : CanL w (.slice (some ⟨g, 0, none⟩) ns.length ns.length) ns L := by
  have := hr.sl
  rw [h.1] at this
  exact ⟨_, _, us, rfl, Nat.le_refl _, hm, this, fun i u hi => (h.2 i u hi).1⟩

theorem NatAt.off {w : World} {v : Value} {n L : Nat} (h : NatAt w v n L) {k : Nat} (hk : w.heap.size ≤ k) : Off (some k) v := by
  obtain ⟨ls, ⟨⟨A, c, rfl, _, _, hs⟩, _⟩, _⟩ := h
  exact hs.off hk
/-- What has been collected by append: the first k of the numbers, none in the row's own block. -/
def CollO (w : World) (us : List Value) (ns : List Nat) (k L : Nat) (row : Option Nat) : Prop := us.length = k ∧ ∀ i u, us[i]? = some u → NatAt w u (ns.getD i 0) L ∧ Off row u
theorem CollO.zero (w : World) (ns : List Nat) (L : Nat) (row : Option Nat) : CollO w [] ns 0 L row := ⟨rfl, fun i u h => by simp at h⟩
theorem CollO.below {w w' : World} {us : List Value} {ns : List Nat} {k L : Nat} {row : Option Nat} (h : CollO w us ns k L row) (hb : Below w.heap.size w w') : CollO w' us ns k L row :=
  ⟨h.1, fun i u hi => ⟨(h.2 i u hi).1.below hb, (h.2 i u hi).2⟩⟩
theorem CollO.snoc {w : World} {us : List Value} {ns : List Nat} {k L : Nat} {row : Option Nat} {x : Value} (h : CollO w us ns k L row) (hx : NatAt w x (ns.getD k 0) L) (hf : Off row x) : CollO w (us ++ [x]) ns (k + 1) L row := by
  refine ⟨by rw [List.length_append, h.1]; rfl, fun i u hi => ?_⟩
  rcases Nat.lt_or_ge i us.length with hl | hl
  · rw [List.getElem?_append_left hl] at hi
    exact h.2 i u hi
  · rw [List.getElem?_append_right hl] at hi
    have : i - us.length = 0 := by
      rcases Nat.eq_zero_or_pos (i - us.length) with h0 | h0
      · exact h0
      · rw [List.getElem?_eq_none (by simp; omega)] at hi; cases hi
    rw [this] at hi
    simp at hi
    subst hi
    have : i = k := by have := h.1; omega
    subst this
    exact ⟨hx, hf⟩
theorem CollO.grown {w w' : World} {us : List Value} {ns : List Nat} {k L : Nat} {row row' : Option Nat} (h : CollO w us ns k L row) (hg : w.grownBy w' row) (hr : row' = row ∨ ∃ j, row' = some j ∧ w.heap.size ≤ j) : CollO w' us ns k L row' := by
  refine ⟨h.1, fun i u hi => ?_⟩
  obtain ⟨h1, h2⟩ := h.2 i u hi
  refine ⟨h1.grown hg h2, ?_⟩
  rcases hr with rfl | ⟨j, rfl, hj⟩
  · exact h2
  · exact h1.off hj
theorem CollO.can {w : World} {us : List Value} {ns : List Nat} {L base e : Nat} {v : Value} {row : Option Nat} (h : CollO w us ns ns.length L row) (ho : w.ownsRow base e 1 v ns.length us) : CanL w v ns L := by
  obtain ⟨A, c, hv, h1, h2, hs⟩ := Sl.of_own ho
  exact ⟨A, c, us, hv, h1, h2, hs, fun i u hi => (h.2 i u hi).1⟩
end Go.Proofs.YtoihjclkocffhaaDoor
