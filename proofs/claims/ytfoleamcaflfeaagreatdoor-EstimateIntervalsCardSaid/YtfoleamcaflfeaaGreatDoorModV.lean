/- The walks of model.Valid, model.Categories and of the reference's: they return plain functions of the model's rows. -/
import Derived.Test.YtfoleamcaflfeaaGreatDoorLst
import Derived.WalkKit
import Derived.LoopTactic
import Derived.WalkSpells
namespace Go.Proofs.YtfoleamcaflfeaaGreatDoor
open Go.RowKit
set_option linter.unusedVariables false

def scanE : List Int → Int → Int
  | [], s => if s = 1000 then 0 else 19
  | x :: xs, s => if x < 1 ∨ 1000 < x then 3 else scanE xs (s + x)
def rowE (cats : Nat) (row : List Int) : Int := if row.length ≠ cats then 1 else scanE row 0
def rowsE (cats : Nat) : List (List Int) → Int
  | [] => 0
  | r :: rs => if rowE cats r = 0 then rowsE cats rs else rowE cats r
def catsOf (rows : List (List Int)) : Nat := (rows.getD 0 []).length
/-- The first rule that a model violates for a grid with n points. -/
def modE (rows : List (List Int)) (n : Int) : Int :=
  if n < 1 ∨ 21 < n ∨ (rows.length : Int) ≠ n then 1 else if catsOf rows < 2 ∨ 6 < catsOf rows then 3 else rowsE (catsOf rows) rows
theorem drop_cons {α : Type} (l : List α) (d : α) {k : Nat} (h : k < l.length) : l.drop k = l.getD k d :: l.drop (k + 1) := by
  rw [List.drop_eq_getElem_cons h, List.getD_eq_getElem?_getD, List.getElem?_eq_getElem h]; rfl
theorem scanE_bad {l : List Int} {k : Nat} {s : Int} (h : k < l.length) (hx : l.getD k 0 < 1 ∨ 1000 < l.getD k 0) : scanE (l.drop k) s = 3 := by
  rw [drop_cons l 0 h, scanE, if_pos hx]
theorem scanE_step {l : List Int} {k : Nat} {s : Int} (h : k < l.length) (h1 : 1 ≤ l.getD k 0) (h2 : l.getD k 0 ≤ 1000) : scanE (l.drop k) s = scanE (l.drop (k + 1)) (s + l.getD k 0) := by
  rw [drop_cons l 0 h, scanE, if_neg (by omega)]
theorem scanE_end {l : List Int} {k : Nat} {s : Int} (h : l.length ≤ k) : scanE (l.drop k) s = if s = 1000 then 0 else 19 := by
  rw [List.drop_eq_nil_of_le h, scanE]
theorem rowsE_bad {c : Nat} {l : List (List Int)} {k : Nat} {e : Int} (h : k < l.length) (hx : rowE c (l.getD k []) = e) (he : e ≠ 0) : rowsE c (l.drop k) = e := by
  rw [drop_cons l [] h, rowsE, hx, if_neg he]
theorem rowsE_step {c : Nat} {l : List (List Int)} {k : Nat} (h : k < l.length) (hx : rowE c (l.getD k []) = 0) : rowsE c (l.drop k) = rowsE c (l.drop (k + 1)) := by
  rw [drop_cons l [] h, rowsE, if_pos hx]
theorem rowsE_end {c : Nat} {l : List (List Int)} {k : Nat} (h : l.length ≤ k) : rowsE c (l.drop k) = 0 := by
  rw [List.drop_eq_nil_of_le h, rowsE]
theorem rowE_len {c : Nat} {r : List Int} (h : r.length ≠ c) : rowE c r = 1 := by unfold rowE; rw [if_pos h]
theorem rowE_scan {c : Nat} {r : List Int} (h : r.length = c) : rowE c r = scanE r 0 := by unfold rowE; rw [if_neg (by omega)]
theorem modE_n {rows : List (List Int)} {n : Int} (h : n < 1 ∨ 21 < n ∨ (rows.length : Int) ≠ n) : modE rows n = 1 := if_pos h
theorem modE_c {rows : List (List Int)} {n : Int} (h1 : 1 ≤ n) (h2 : n ≤ 21) (h3 : (rows.length : Int) = n) (h : catsOf rows < 2 ∨ 6 < catsOf rows) : modE rows n = 3 := by
  unfold modE; rw [if_neg (by omega), if_pos h]
theorem modE_rows {rows : List (List Int)} {n : Int} (h1 : 1 ≤ n) (h2 : n ≤ 21) (h3 : (rows.length : Int) = n) (h4 : 2 ≤ catsOf rows) (h5 : catsOf rows ≤ 6) : modE rows n = rowsE (catsOf rows) rows := by
  unfold modE; rw [if_neg (by omega), if_neg (by omega)]
theorem scanE_zero : ∀ {l : List Int} {s : Int}, scanE l s = 0 → (∀ x ∈ l, 1 ≤ x ∧ x ≤ 1000) ∧ s + l.sum = 1000
  | [], s, h => by
    rw [scanE] at h
    split at h
    · rename_i hs; exact ⟨fun x hx => by simp at hx, by simp [hs]⟩
    · omega
  | x :: l, s, h => by
    rw [scanE] at h
    split at h
    · omega
    · rename_i hx
      obtain ⟨h1, h2⟩ := scanE_zero h
      refine ⟨fun y hy => ?_, by simp only [List.sum_cons]; omega⟩
      rcases List.mem_cons.1 hy with rfl | hy
      · omega
      · exact h1 y hy
theorem rowsE_zero {c : Nat} : ∀ {l : List (List Int)}, rowsE c l = 0 → ∀ r ∈ l, rowE c r = 0
  | [], _, r, hr => by simp at hr
  | a :: l, h, r, hr => by
    rw [rowsE] at h
    split at h
    · rename_i ha
      rcases List.mem_cons.1 hr with rfl | hr
      · exact ha
      · exact rowsE_zero h r hr
    · rename_i ha; exact absurd h ha
/-- What a valid model is. -/
theorem modE_zero {rows : List (List Int)} {n : Int} (h : modE rows n = 0) : 1 ≤ n ∧ n ≤ 21 ∧ (rows.length : Int) = n ∧ 2 ≤ catsOf rows ∧ catsOf rows ≤ 6 ∧ ∀ r ∈ rows, r.length = catsOf rows ∧ (∀ x ∈ r, 1 ≤ x ∧ x ≤ 1000) ∧ r.sum = 1000 := by
  unfold modE at h
  split at h
  · omega
  · split at h
    · omega
    · rename_i h1 h2
      refine ⟨by omega, by omega, by omega, by omega, by omega, fun r hr => ?_⟩
      have := rowsE_zero h r hr
      unfold rowE at this
      split at this
      · omega
      · rename_i hl
        obtain ⟨h3, h4⟩ := scanE_zero this
        exact ⟨by omega, h3, by omega⟩


end Go.Proofs.YtfoleamcaflfeaaGreatDoor
