/- Plain functions: what Steps returns. -/
import Derived.Test.YtokpembimalhmaaDoorMoP
namespace Go.Proofs.YtokpembimalhmaaDoor
open Go.RowKit
set_option linter.unusedVariables false

/-! ### Steps -/
def stepsW (m k d s p above : Int) : Int := max (m - k + 1) (min (500 + s * (p - d) / 100) (min (1000 - k) (above - 1)))
/-- The weights from category k on (1 ≤ k), where above is the last cumulative weight. -/
def stepsR (m : Nat) (s p : Int) : Nat → Int → List Int → List Int
  | _, above, [] => [above]
  | k, above, d :: ds => (above - stepsW (m : Int) (k : Int) d s p above) :: stepsR m s p (k + 1) (stepsW (m : Int) (k : Int) d s p above) ds
def inD (ds : List Int) : Bool := ds.all fun d => decide (-1000 ≤ d) && decide (d ≤ 1000)
def stepsE (g : Int) (ds : List Int) (s : Int) : Int :=
  if g ≠ 0 then g else if ds.length < 1 ∨ 5 < ds.length ∨ s < 0 ∨ 2000 < s then 3 else if inD ds = false then 3 else if riseOk ds = false then 23 else 0
def stepsL (ps : List Int) (ds : List Int) (s : Int) : List (List Int) := ps.map fun p => stepsR ds.length s p 1 1000 ds
theorem stepsW_in {m k d s p above : Int} (h1 : 1 ≤ k) (h2 : k ≤ m) (h3 : m ≤ 5) (h4 : above ≤ 1000) : 1 ≤ stepsW m k d s p above ∧ stepsW m k d s p above ≤ 999 := by unfold stepsW; omega
theorem stepsR_len (m : Nat) (s p : Int) : ∀ (ds : List Int) (k : Nat) (above : Int), (stepsR m s p k above ds).length = ds.length + 1
  | [], _, _ => rfl
  | d :: ds, k, above => by rw [stepsR, List.length_cons, stepsR_len m s p ds, List.length_cons]
theorem drop_hd {α : Type} {L : List α} (d : α) {j : Nat} {x : α} {r : List α} (h : L.drop j = x :: r) : j < L.length ∧ L.getD j d = x ∧ L.drop (j + 1) = r := by
  have hj : j < L.length := by
    rcases Nat.lt_or_ge j L.length with h1 | h1
    · exact h1
    · rw [List.drop_eq_nil_of_le h1] at h; cases h
  rw [drop_cons L d hj] at h
  injection h with h1 h2
  exact ⟨hj, h1, h2⟩
theorem stepsR_at {m : Nat} {s p : Int} {ds R : List Int} {j : Nat} {above : Int} (h : R.drop j = stepsR m s p (j + 1) above (ds.drop j)) (hj : j < ds.length) :
    R.getD j 0 = above - stepsW (m : Int) ((j : Int) + 1) (ds.getD j 0) s p above ∧ R.drop (j + 1) = stepsR m s p (j + 1 + 1) (stepsW (m : Int) ((j : Int) + 1) (ds.getD j 0) s p above) (ds.drop (j + 1)) := by
  rw [drop_cons ds 0 hj, stepsR, show ((j + 1 : Nat) : Int) = (j : Int) + 1 by omega] at h
  exact (drop_hd 0 h).2
theorem stepsR_end {m : Nat} {s p : Int} {ds R : List Int} {above : Int} (h : R.drop ds.length = stepsR m s p (ds.length + 1) above (ds.drop ds.length)) : R.getD ds.length 0 = above ∧ R.length = ds.length + 1 := by
  rw [List.drop_eq_nil_of_le (Nat.le_refl _), stepsR] at h
  obtain ⟨h1, h2, h3⟩ := drop_hd 0 h
  refine ⟨h2, ?_⟩
  have := congrArg List.length h
  simp only [List.length_drop, List.length_cons, List.length_nil] at this
  omega
theorem stepsE_g {g : Int} {ds : List Int} {s : Int} (h : g ≠ 0) : stepsE g ds s = g := if_pos h
theorem stepsE_3 {g : Int} {ds : List Int} {s : Int} (h0 : g = 0) (h : ds.length < 1 ∨ 5 < ds.length ∨ s < 0 ∨ 2000 < s) : stepsE g ds s = 3 := by unfold stepsE; rw [if_neg (by omega), if_pos h]
theorem inD_no {ds : List Int} {k : Nat} (hk : k < ds.length) (h : ds.getD k 0 < -1000 ∨ 1000 < ds.getD k 0) : inD ds = false := by
  unfold inD
  rw [List.all_eq_false]
  refine ⟨ds.getD k 0, ?_, by simp only [Bool.and_eq_true, decide_eq_true_eq]; omega⟩
  rw [List.getD_eq_getElem?_getD, List.getElem?_eq_getElem hk]; exact List.getElem_mem _
theorem inD_yes {ds : List Int} (h : ∀ j, j < ds.length → -1000 ≤ ds.getD j 0 ∧ ds.getD j 0 ≤ 1000) : inD ds = true := by
  unfold inD
  rw [List.all_eq_true]
  intro x hx
  obtain ⟨i, hi, rfl⟩ := List.mem_iff_getElem.1 hx
  have := h i hi
  rw [List.getD_eq_getElem?_getD, List.getElem?_eq_getElem hi] at this
  simpa using this
theorem inD_at {ds : List Int} (h : inD ds = true) {j : Nat} (hj : j < ds.length) : -1000 ≤ ds.getD j 0 ∧ ds.getD j 0 ≤ 1000 := by
  unfold inD at h
  rw [List.all_eq_true] at h
  have := h (ds.getD j 0) (by rw [List.getD_eq_getElem?_getD, List.getElem?_eq_getElem hj]; exact List.getElem_mem _)
  simpa using this
theorem stepsE_4 {g : Int} {ds : List Int} {s : Int} (h0 : g = 0) (h : ¬ (ds.length < 1 ∨ 5 < ds.length ∨ s < 0 ∨ 2000 < s)) (h1 : inD ds = false) : stepsE g ds s = 3 := by
  unfold stepsE; rw [if_neg (by omega), if_neg h, if_pos h1]
theorem stepsE_23 {g : Int} {ds : List Int} {s : Int} (h0 : g = 0) (h : ¬ (ds.length < 1 ∨ 5 < ds.length ∨ s < 0 ∨ 2000 < s)) (h1 : inD ds = true) (h2 : riseOk ds = false) : stepsE g ds s = 23 := by
  unfold stepsE; rw [if_neg (by omega), if_neg h, if_neg (by simp [h1]), if_pos h2]
theorem stepsE_ok {g : Int} {ds : List Int} {s : Int} (h0 : g = 0) (h : ¬ (ds.length < 1 ∨ 5 < ds.length ∨ s < 0 ∨ 2000 < s)) (h1 : inD ds = true) (h2 : riseOk ds = true) : stepsE g ds s = 0 := by
  unfold stepsE; rw [if_neg (by omega), if_neg h, if_neg (by simp [h1]), if_neg (by simp [h2])]
theorem stepsL_len (ps ds : List Int) (s : Int) : (stepsL ps ds s).length = ps.length := by simp [stepsL]
theorem stepsL_get {ps ds : List Int} {s : Int} {k : Nat} (h : k < ps.length) : (stepsL ps ds s).getD k [] = stepsR ds.length s (ps.getD k 0) 1 1000 ds := getD_map _ ps 0 [] h
theorem take_upG {R : List Int} {j : Nat} (h : j < R.length) : R.take (j + 1) = R.take j ++ [R.getD j 0] := by
  rw [List.take_succ_eq_append_getElem h, List.getD_eq_getElem?_getD, List.getElem?_eq_getElem h]; rfl
/-- The row's next cell is filled. -/
theorem row_put {w : World} {g t m j : Nat} {R : List Int} {x : Int} (h : Row w g t ((R.take j).map (Value.int .i64) ++ List.replicate (m - j) (.int .i64 0))) (hR : R.length = m) (hj : j < m) (hx : R.getD j 0 = x) :
    Row (w.setCell ⟨g, j, none⟩ (.int .i64 x)) g t ((R.take (j + 1)).map (Value.int .i64) ++ List.replicate (m - (j + 1)) (.int .i64 0)) := by
  have := h.set_ j (.int .i64 x)
  rw [padv_set _ _ _ _ _ (by rw [List.length_map, List.length_take]; omega) hj] at this
  rw [take_upG (by omega), hx, List.map_append]
  exact this
theorem row_full {w : World} {g t m : Nat} {R : List Int} (h : Row w g t ((R.take m).map (Value.int .i64) ++ List.replicate (m - m) (.int .i64 0))) (hR : R.length = m) (hm : m ≤ maxLen) : Nums .i64 w (.slice (some ⟨g, 0, none⟩) m m) R := by
  have h' : Row w g t (R.map (Value.int .i64)) := by simpa [List.take_of_length_le (Nat.le_of_eq hR)] using h
  have := Nums.of_row h' (by omega)
  rwa [hR] at this
end Go.Proofs.YtokpembimalhmaaDoor
