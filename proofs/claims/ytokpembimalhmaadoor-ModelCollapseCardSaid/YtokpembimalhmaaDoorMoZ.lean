/- Plain functions: what Collapse returns. -/
import Derived.Test.YtokpembimalhmaaDoorMoQ
namespace Go.Proofs.YtokpembimalhmaaDoor
open Go.RowKit
set_option linter.unusedVariables false

/-- Each is a number of 64 bits. -/
def I64 (l : List Int) : Prop := ∀ z ∈ l, (Lit.int .i64 z).wf = true
theorem i64_in {z : Int} (h : (Lit.int .i64 z).wf = true) : -9223372036854775808 ≤ z ∧ z ≤ 9223372036854775807 := bounds_i64 h
/-- Each target is the one before or the next one. -/
def toOk (to : List Int) : Bool := (List.range (to.length - 1)).all fun i => to.getD (i + 1) 0 == to.getD i 0 || to.getD (i + 1) 0 == to.getD i 0 + 1
def lastOf (to : List Int) : Int := to.getD (to.length - 1) 0
def colE (v : Int) (cats : Nat) (to : List Int) : Int :=
  if v ≠ 0 then v else if to.length ≠ cats ∨ to.getD 0 0 ≠ 0 then 1 else if toOk to = false then 1 else if lastOf to = 0 then 19 else 0
/-- The weights added after j categories. -/
def accC (to row : List Int) (n : Nat) : Nat → List Int
  | 0 => List.replicate n 0
  | j + 1 => (accC to row n j).set (to.getD j 0).toNat ((accC to row n j).getD (to.getD j 0).toNat 0 + row.getD j 0)
def colR (to row : List Int) : List Int := accC to row ((lastOf to).toNat + 1) to.length
def colL (rows : List (List Int)) (to : List Int) : List (List Int) := rows.map (colR to)
theorem accC_len (to row : List Int) (n : Nat) : ∀ j, (accC to row n j).length = n
  | 0 => by simp [accC]
  | j + 1 => by rw [accC, List.length_set, accC_len to row n j]
theorem colL_len (rows : List (List Int)) (to : List Int) : (colL rows to).length = rows.length := by simp [colL]
theorem colL_get {rows : List (List Int)} {to : List Int} {k : Nat} (h : k < rows.length) : (colL rows to).getD k [] = colR to (rows.getD k []) := getD_map _ rows [] [] h
theorem getD_set' {l : List Int} {i k : Nat} {x : Int} (hi : i < l.length) : (l.set i x).getD k 0 = if k = i then x else l.getD k 0 := by
  simp only [List.getD_eq_getElem?_getD, List.getElem?_set]
  by_cases h : i = k
  · subst h; simp [hi]
  · rw [if_neg h, if_neg (fun e => h e.symm)]
theorem accC_get {to row : List Int} {n j k : Nat} (hj : (to.getD j 0).toNat < n) : (accC to row n (j + 1)).getD k 0 = if k = (to.getD j 0).toNat then (accC to row n j).getD k 0 + row.getD j 0 else (accC to row n j).getD k 0 := by
  rw [accC, getD_set' (by rw [accC_len]; exact hj)]
  by_cases h : k = (to.getD j 0).toNat
  · rw [if_pos h, if_pos h, h]
  · rw [if_neg h, if_neg h]
theorem accC_bd {to row : List Int} {n : Nat} (hr : ∀ x ∈ row, 1 ≤ x ∧ x ≤ 1000) (ht : ∀ i, i < to.length → (to.getD i 0).toNat < n) : ∀ j, j ≤ to.length → j ≤ row.length → ∀ k, 0 ≤ (accC to row n j).getD k 0 ∧ (accC to row n j).getD k 0 ≤ 1000 * (j : Int)
  | 0, _, _, k => by
    have : (accC to row n 0).getD k 0 = 0 := by
      simp only [accC, List.getD_eq_getElem?_getD, List.getElem?_replicate]
      split <;> rfl
    omega
  | j + 1, h1, h2, k => by
    obtain ⟨a, b⟩ := accC_bd hr ht j (by omega) (by omega) k
    have hx := hr (row.getD j 0) (by rw [List.getD_eq_getElem?_getD, List.getElem?_eq_getElem (show j < row.length by omega)]; exact List.getElem_mem _)
    rw [accC_get (ht j (by omega))]
    split <;> omega
theorem toOk_no {to : List Int} {k : Nat} (hk : k + 1 < to.length) (h1 : to.getD (k + 1) 0 ≠ to.getD k 0) (h2 : to.getD (k + 1) 0 ≠ to.getD k 0 + 1) : toOk to = false := by
  unfold toOk
  rw [List.all_eq_false]
  exact ⟨k, by simp; omega, by simp only [Bool.or_eq_true, beq_iff_eq]; omega⟩
theorem toOk_yes {to : List Int} (h : ∀ k, k + 1 < to.length → to.getD (k + 1) 0 = to.getD k 0 ∨ to.getD (k + 1) 0 = to.getD k 0 + 1) : toOk to = true := by
  unfold toOk
  rw [List.all_eq_true]
  intro i hi
  have := h i (by have := List.mem_range.1 hi; omega)
  simp only [Bool.or_eq_true, beq_iff_eq]
  exact this
theorem toOk_at {to : List Int} (h : toOk to = true) {k : Nat} (hk : k + 1 < to.length) : to.getD (k + 1) 0 = to.getD k 0 ∨ to.getD (k + 1) 0 = to.getD k 0 + 1 := by
  unfold toOk at h
  rw [List.all_eq_true] at h
  have := h k (by simp; omega)
  simpa only [Bool.or_eq_true, beq_iff_eq] using this
theorem to_mono {to : List Int} (h : toOk to = true) : ∀ (j i : Nat), i ≤ j → j < to.length → to.getD i 0 ≤ to.getD j 0 ∧ to.getD j 0 ≤ to.getD i 0 + ((j - i : Nat) : Int)
  | 0, i, hi, _ => by
    obtain rfl : i = 0 := by omega
    omega
  | j + 1, i, hi, hj => by
    rcases Nat.lt_or_ge j i with h1 | h1
    · obtain rfl : i = j + 1 := by omega
      omega
    · have a := to_mono h j i h1 (by omega)
      have b := toOk_at h hj
      omega
theorem to_in {to : List Int} (h : toOk to = true) (h0 : to.getD 0 0 = 0) {i : Nat} (hi : i < to.length) : 0 ≤ to.getD i 0 ∧ to.getD i 0 ≤ lastOf to ∧ lastOf to ≤ (to.length : Int) - 1 := by
  have a := to_mono h i 0 (by omega) hi
  have b := to_mono h (to.length - 1) i (by omega) (by omega)
  have c := to_mono h (to.length - 1) 0 (by omega) (by omega)
  unfold lastOf
  omega
theorem colE_v {v : Int} {cats : Nat} {to : List Int} (h : v ≠ 0) : colE v cats to = v := if_pos h
theorem colE_1 {v : Int} {cats : Nat} {to : List Int} (h0 : v = 0) (h : to.length ≠ cats ∨ to.getD 0 0 ≠ 0) : colE v cats to = 1 := by unfold colE; rw [if_neg (by omega), if_pos h]
theorem colE_2 {v : Int} {cats : Nat} {to : List Int} (h0 : v = 0) (h : ¬ (to.length ≠ cats ∨ to.getD 0 0 ≠ 0)) (h1 : toOk to = false) : colE v cats to = 1 := by unfold colE; rw [if_neg (by omega), if_neg h, if_pos h1]
theorem colE_3 {v : Int} {cats : Nat} {to : List Int} (h0 : v = 0) (h : ¬ (to.length ≠ cats ∨ to.getD 0 0 ≠ 0)) (h1 : toOk to = true) (h2 : lastOf to = 0) : colE v cats to = 19 := by
  unfold colE; rw [if_neg (by omega), if_neg h, if_neg (by simp [h1]), if_pos h2]
theorem colE_ok {v : Int} {cats : Nat} {to : List Int} (h0 : v = 0) (h : ¬ (to.length ≠ cats ∨ to.getD 0 0 ≠ 0)) (h1 : toOk to = true) (h2 : lastOf to ≠ 0) : colE v cats to = 0 := by
  unfold colE; rw [if_neg (by omega), if_neg h, if_neg (by simp [h1]), if_neg h2]
theorem colE_zero {v : Int} {cats : Nat} {to : List Int} (h : colE v cats to = 0) : v = 0 ∧ to.length = cats ∧ to.getD 0 0 = 0 ∧ toOk to = true ∧ lastOf to ≠ 0 := by
  unfold colE at h
  split at h
  · omega
  · split at h
    · omega
    · split at h
      · omega
      · split at h
        · omega
        · rename_i a b c d
          exact ⟨by omega, by omega, by omega, by simpa using c, d⟩
theorem mem_getD {α : Type} {l : List α} (d : α) {k : Nat} (h : k < l.length) : l.getD k d ∈ l := by
  rw [List.getD_eq_getElem?_getD, List.getElem?_eq_getElem h]; exact List.getElem_mem _
theorem mid_get {us rest : List Value} {v : Value} {q : Nat} (h : us.length = q) : ((us ++ [v]) ++ rest)[q]? = some v := by
  subst h; simp
theorem map_get {l : List Int} {k : Nat} (h : k < l.length) : (l.map (Value.int .i64))[k]? = some (.int .i64 (l.getD k 0)) := by
  simp [List.getD_eq_getElem?_getD, List.getElem?_eq_getElem h]
theorem accC_step (to row : List Int) (n j : Nat) {t x a : Int} {T : Nat} (ht : to.getD j 0 = t) (hT : t.toNat = T) (hx : row.getD j 0 = x) (ha : (accC to row n j).getD T 0 = a) : accC to row n (j + 1) = (accC to row n j).set T (a + x) := by
  subst ht hT hx ha; rfl
theorem row_add {w : World} {g t i : Nat} {l : List Int} {x : Int} (h : Row w g t (l.map (Value.int .i64))) : Row (w.setCell ⟨g, i, none⟩ (.int .i64 x)) g t ((l.set i x).map (Value.int .i64)) := by
  have := h.set_ i (.int .i64 x)
  rwa [← List.map_set] at this
end Go.Proofs.YtokpembimalhmaaDoor
