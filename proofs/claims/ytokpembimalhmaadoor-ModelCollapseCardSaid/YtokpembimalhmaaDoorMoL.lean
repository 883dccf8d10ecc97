/- Plain functions: monotone models, by sums of upper weights. -/
import Derived.Test.YtokpembimalhmaaDoorMoZ
namespace Go.Proofs.YtokpembimalhmaaDoor
open Go.RowKit
set_option linter.unusedVariables false

def sfx (r : List Int) (k : Nat) : Int := (r.drop k).sum
def leS (m : Nat) (a b : List Int) : Bool := (List.range m).all fun k => decide (sfx a k ≤ sfx b k)
def monoL (m : Nat) (rows : List (List Int)) : Bool := (List.range (rows.length - 1)).all fun i => leS m (rows.getD i []) (rows.getD (i + 1) [])
def monoB (v : Int) (m : Nat) (rows : List (List Int)) : Bool := v == 0 && monoL m rows
theorem monoB_no {v : Int} {m : Nat} {rows : List (List Int)} (h : v ≠ 0) : monoB v m rows = false := by unfold monoB; simp [h]
theorem monoB_eq {v : Int} {m : Nat} {rows : List (List Int)} (h : v = 0) : monoB v m rows = monoL m rows := by unfold monoB; simp [h]
theorem leS_iff {m : Nat} {a b : List Int} : leS m a b = true ↔ ∀ k, k < m → sfx a k ≤ sfx b k := by
  unfold leS; simp [List.all_eq_true]
theorem monoL_iff {m : Nat} {rows : List (List Int)} : monoL m rows = true ↔ ∀ i, i + 1 < rows.length → leS m (rows.getD i []) (rows.getD (i + 1) []) = true := by
  unfold monoL
  rw [List.all_eq_true]
  constructor
  · intro h i hi; exact h i (by simp; omega)
  · intro h i hi; exact h i (by have := List.mem_range.1 hi; omega)
theorem monoL_no {m : Nat} {rows : List (List Int)} {i k : Nat} (hi : i + 1 < rows.length) (hk : k < m) (h : sfx (rows.getD (i + 1) []) k < sfx (rows.getD i []) k) : monoL m rows = false := by
  rw [← Bool.not_eq_true, monoL_iff]
  intro hh
  have := leS_iff.1 (hh i hi) k hk
  omega
theorem sfx_step {r : List Int} {k : Nat} (h : k < r.length) : sfx r k = r.getD k 0 + sfx r (k + 1) := by
  unfold sfx; rw [drop_cons r 0 h, List.sum_cons]
theorem sfx_end {r : List Int} {k : Nat} (h : r.length ≤ k) : sfx r k = 0 := by
  unfold sfx; rw [List.drop_eq_nil_of_le h]; rfl
theorem sfx_bd {r : List Int} (h : ∀ x ∈ r, 1 ≤ x ∧ x ≤ 1000) : ∀ (n k : Nat), n + k = r.length → 0 ≤ sfx r k ∧ sfx r k ≤ 1000 * (n : Int)
  | 0, k, hk => by rw [sfx_end (by omega)]; omega
  | n + 1, k, hk => by
    have a := sfx_bd h n (k + 1) (by omega)
    have b := h _ (mem_getD 0 (show k < r.length by omega))
    rw [sfx_step (by omega)]
    omega
theorem sfx_in {r : List Int} (h : ∀ x ∈ r, 1 ≤ x ∧ x ≤ 1000) (hl : r.length ≤ 6) (k : Nat) : 0 ≤ sfx r k ∧ sfx r k ≤ 6000 := by
  rcases Nat.lt_or_ge r.length k with h1 | h1
  · rw [sfx_end (by omega)]; omega
  · have := sfx_bd h (r.length - k) k (by omega); omega
/-- The row while its sums are formed from above: those from k on are done. -/
def psum (r : List Int) (K : Nat) : List Int := (List.range r.length).map fun k => if K ≤ k then sfx r k else r.getD k 0
theorem psum_len (r : List Int) (K : Nat) : (psum r K).length = r.length := by simp [psum]
theorem psum_get {r : List Int} {K k : Nat} (h : k < r.length) : (psum r K).getD k 0 = if K ≤ k then sfx r k else r.getD k 0 := by
  unfold psum
  simp [List.getD_eq_getElem?_getD, List.getElem?_eq_getElem (show k < (List.range r.length).length by simpa using h)]
theorem ext_g {l m : List Int} (hn : l.length = m.length) (h : ∀ i, i < l.length → l.getD i 0 = m.getD i 0) : l = m := by
  apply List.ext_getElem hn
  intro i h1 h2
  have := h i h1
  simpa [List.getD_eq_getElem?_getD, List.getElem?_eq_getElem h1, List.getElem?_eq_getElem h2] using this
theorem psum_full {r : List Int} {K : Nat} (h : r.length ≤ K + 1) : psum r K = r := by
  refine ext_g (psum_len _ _) fun i hi => ?_
  rw [psum_len] at hi
  rw [psum_get hi]
  split
  · rw [sfx_step hi, sfx_end (by omega)]; omega
  · rfl
theorem psum_set {r : List Int} {K : Nat} (h : K + 1 < r.length) : (psum r (K + 1)).set K (r.getD K 0 + sfx r (K + 1)) = psum r K := by
  refine ext_g (by rw [List.length_set, psum_len, psum_len]) fun i hi => ?_
  rw [List.length_set, psum_len] at hi
  rw [getD_set' (by rw [psum_len]; omega), psum_get hi, psum_get hi]
  by_cases h1 : i = K
  · subst h1; rw [if_pos rfl, if_pos (Nat.le_refl _), sfx_step hi]
  · rw [if_neg h1]
    by_cases h2 : K + 1 ≤ i
    · rw [if_pos h2, if_pos (by omega)]
    · rw [if_neg h2, if_neg (by omega)]
/-- What the next row is compared with. -/
def prevL (m : Nat) (rows : List (List Int)) (q : Nat) : List Int := if q = 0 then List.replicate m 0 else psum (rows.getD (q - 1) []) 0
theorem prevL_zero (m : Nat) (rows : List (List Int)) : prevL m rows 0 = List.replicate m 0 := rfl
theorem prevL_succ (m : Nat) (rows : List (List Int)) (q : Nat) : prevL m rows (q + 1) = psum (rows.getD q []) 0 := by
  unfold prevL; rw [if_neg (by omega)]; rfl
theorem prevL_len {m : Nat} {rows : List (List Int)} {q : Nat} (h : ∀ r ∈ rows, r.length = m) (hq : q ≤ rows.length) : (prevL m rows q).length = m := by
  cases q with
  | zero => rw [prevL_zero]; simp
  | succ q => rw [prevL_succ, psum_len, h _ (mem_getD [] (show q < rows.length by omega))]
/-- A weight below the one before: the model is not monotone. -/
theorem prev_bad {m : Nat} {rows : List (List Int)} {q k : Nat} (h : ∀ r ∈ rows, r.length = m ∧ ∀ x ∈ r, 1 ≤ x ∧ x ≤ 1000) (hm : m ≤ 6) (hq : q < rows.length) (hk : k < m) (hb : sfx (rows.getD q []) k < (prevL m rows q).getD k 0) : monoL m rows = false := by
  cases q with
  | zero =>
    rw [prevL_zero] at hb
    obtain ⟨h1, h2⟩ := h _ (mem_getD [] hq)
    have := sfx_in h2 (by omega) k
    simp only [List.getD_eq_getElem?_getD, List.getElem?_replicate, if_pos hk, Option.getD_some] at hb this
    omega
  | succ q =>
    rw [prevL_succ, psum_get (by rw [(h _ (mem_getD [] (show q < rows.length by omega))).1]; exact hk), if_pos (Nat.zero_le _)] at hb
    exact monoL_no hq hk hb
theorem prev_ok {m : Nat} {rows : List (List Int)} {q : Nat} (h : ∀ r ∈ rows, r.length = m ∧ ∀ x ∈ r, 1 ≤ x ∧ x ≤ 1000) (hq : q < rows.length) (hb : ∀ k, k < m → (prevL m rows q).getD k 0 ≤ sfx (rows.getD q []) k) (h0 : 0 < q) : leS m (rows.getD (q - 1) []) (rows.getD q []) = true := by
  obtain ⟨p, rfl⟩ : ∃ p, q = p + 1 := ⟨q - 1, by omega⟩
  rw [leS_iff]
  intro k hk
  have := hb k hk
  rw [prevL_succ, psum_get (by rw [(h _ (mem_getD [] (show p < rows.length by omega))).1]; exact hk), if_pos (Nat.zero_le _)] at this
  exact this
theorem monoL_upto {m : Nat} {rows : List (List Int)} (h : ∀ q, q < rows.length → 0 < q → leS m (rows.getD (q - 1) []) (rows.getD q []) = true) : monoL m rows = true := by
  rw [monoL_iff]
  intro i hi
  exact h (i + 1) hi (by omega)
end Go.Proofs.YtokpembimalhmaaDoor
