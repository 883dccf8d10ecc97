/- Plain functions: what Steps returns. Plain functions: what Collapse returns. Plain functions: monotone models, by sums of upper weights. Plain functions: expected scores. Plain law: the models of Ramp and Steps are valid and monotone, and agree for one difficulty. -/
import Derived.Test.YtompckomogmhiaaDoorMoP
namespace Go.Proofs.YtompckomogmhiaaDoor
open Go.RowKit
set_option linter.unusedVariables false

/-! ### Steps -/
def stepsW (m k d s p above : Int) : Int := max (m - k + 1) (min (500 + s * (p - d) / 100) (min (1000 - k) (above - 1)))
/-- The weights from category k on (1 ≤ k), where above is the last cumulative weight. -/
def stepsR (m : Nat) (s p : Int) : Nat → Int → List Int → List Int
  | _, above, [] => [above]
  | k, above, d :: ds => (above - stepsW (m : Int) (k : Int) d s p above) :: stepsR m s p (k + 1) (stepsW (m : Int) (k : Int) d s p above) ds
def inD (ds : List Int) : Bool := ds.all fun d => decide (-1000 ≤ d) && decide (d ≤ 1000)
def stepsE (g : Int) (ds : List Int) (s : Int) : Int :=
  if g ≠ 0 then g else if ds.length < 1 ∨ 5 < ds.length ∨ s < 0 ∨ 2000 < s then 3 else if inD ds = false then 3 else if riseOk ds = false then 23 else 0
def stepsL (ps : List Int) (ds : List Int) (s : Int) : List (List Int) := ps.map fun p => stepsR ds.length s p 1 1000 ds
theorem stepsW_in {m k d s p above : Int} (h1 : 1 ≤ k) (h2 : k ≤ m) (h3 : m ≤ 5) (h4 : above ≤ 1000) : 1 ≤ stepsW m k d s p above ∧ stepsW m k d s p above ≤ 999 := by unfold stepsW; omega
theorem stepsR_len (m : Nat) (s p : Int) : ∀ (ds : List Int) (k : Nat) (above : Int), (stepsR m s p k above ds).length = ds.length + 1
  | [], _, _ => rfl
  | d :: ds, k, above => by rw [stepsR, List.length_cons, stepsR_len m s p ds, List.length_cons]
theorem drop_hd {α : Type} {L : List α} (d : α) {j : Nat} {x : α} {r : List α} (h : L.drop j = x :: r) : j < L.length ∧ L.getD j d = x ∧ L.drop (j + 1) = r := by
  have hj : j < L.length := by
    rcases Nat.lt_or_ge j L.length with h1 | h1
    · exact h1
    · rw [List.drop_eq_nil_of_le h1] at h; cases h
  rw [drop_cons L d hj] at h
  injection h with h1 h2
  exact ⟨hj, h1, h2⟩
theorem stepsR_at {m : Nat} {s p : Int} {ds R : List Int} {j : Nat} {above : Int} (h : R.drop j = stepsR m s p (j + 1) above (ds.drop j)) (hj : j < ds.length) :
    R.getD j 0 = above - stepsW (m : Int) ((j : Int) + 1) (ds.getD j 0) s p above ∧ R.drop (j + 1) = stepsR m s p (j + 1 + 1) (stepsW (m : Int) ((j : Int) + 1) (ds.getD j 0) s p above) (ds.drop (j + 1)) := by
  rw [drop_cons ds 0 hj, stepsR, show ((j + 1 : Nat) : Int) = (j : Int) + 1 by omega] at h
  exact (drop_hd 0 h).2
theorem stepsR_end {m : Nat} {s p : Int} {ds R : List Int} {above : Int} (h : R.drop ds.length = stepsR m s p (ds.length + 1) above (ds.drop ds.length)) : R.getD ds.length 0 = above ∧ R.length = ds.length + 1 := by
  rw [List.drop_eq_nil_of_le (Nat.le_refl _), stepsR] at h
  obtain ⟨h1, h2, h3⟩ := drop_hd 0 h
  refine ⟨h2, ?_⟩
  have := congrArg List.length h
  simp only [List.length_drop, List.length_cons, List.length_nil] at this
  omega
theorem stepsE_g {g : Int} {ds : List Int} {s : Int} (h : g ≠ 0) : stepsE g ds s = g := if_pos h
theorem stepsE_3 {g : Int} {ds : List Int} {s : Int} (h0 : g = 0) (h : ds.length < 1 ∨ 5 < ds.length ∨ s < 0 ∨ 2000 < s) : stepsE g ds s = 3 := by unfold stepsE; rw [if_neg (by omega), if_pos h]
theorem inD_no {ds : List Int} {k : Nat} (hk : k < ds.length) (h : ds.getD k 0 < -1000 ∨ 1000 < ds.getD k 0) : inD ds = false := by
  unfold inD
  rw [List.all_eq_false]
  refine ⟨ds.getD k 0, ?_, by simp only [Bool.and_eq_true, decide_eq_true_eq]; omega⟩
  rw [List.getD_eq_getElem?_getD, List.getElem?_eq_getElem hk]; exact List.getElem_mem _
theorem inD_yes {ds : List Int} (h : ∀ j, j < ds.length → -1000 ≤ ds.getD j 0 ∧ ds.getD j 0 ≤ 1000) : inD ds = true := by
  unfold inD
  rw [List.all_eq_true]
  intro x hx
  obtain ⟨i, hi, rfl⟩ := List.mem_iff_getElem.1 hx
  have := h i hi
  rw [List.getD_eq_getElem?_getD, List.getElem?_eq_getElem hi] at this
  simpa using this
theorem inD_at {ds : List Int} (h : inD ds = true) {j : Nat} (hj : j < ds.length) : -1000 ≤ ds.getD j 0 ∧ ds.getD j 0 ≤ 1000 := by
  unfold inD at h
  rw [List.all_eq_true] at h
  have := h (ds.getD j 0) (by rw [List.getD_eq_getElem?_getD, List.getElem?_eq_getElem hj]; exact List.getElem_mem _)
  simpa using this
theorem stepsE_4 {g : Int} {ds : List Int} {s : Int} (h0 : g = 0) (h : ¬ (ds.length < 1 ∨ 5 < ds.length ∨ s < 0 ∨ 2000 < s)) (h1 : inD ds = false) : stepsE g ds s = 3 := by
  unfold stepsE; rw [if_neg (by omega), if_neg h, if_pos h1]
theorem stepsE_23 {g : Int} {ds : List Int} {s : Int} (h0 : g = 0) (h : ¬ (ds.length < 1 ∨ 5 < ds.length ∨ s < 0 ∨ 2000 < s)) (h1 : inD ds = true) (h2 : riseOk ds = false) : stepsE g ds s = 23 := by
  unfold stepsE; rw [if_neg (by omega), if_neg h, if_neg (by simp [h1]), if_pos h2]
theorem stepsE_ok {g : Int} {ds : List Int} {s : Int} (h0 : g = 0) (h : ¬ (ds.length < 1 ∨ 5 < ds.length ∨ s < 0 ∨ 2000 < s)) (h1 : inD ds = true) (h2 : riseOk ds = true) : stepsE g ds s = 0 := by
  unfold stepsE; rw [if_neg (by omega), if_neg h, if_neg (by simp [h1]), if_neg (by simp [h2])]
theorem stepsL_len (ps ds : List Int) (s : Int) : (stepsL ps ds s).length = ps.length := by simp [stepsL]
theorem stepsL_get {ps ds : List Int} {s : Int} {k : Nat} (h : k < ps.length) : (stepsL ps ds s).getD k [] = stepsR ds.length s (ps.getD k 0) 1 1000 ds := getD_map _ ps 0 [] h
theorem take_upG {R : List Int} {j : Nat} (h : j < R.length) : R.take (j + 1) = R.take j ++ [R.getD j 0] := by
  rw [List.take_succ_eq_append_getElem h, List.getD_eq_getElem?_getD, List.getElem?_eq_getElem h]; rfl
/-- The row's next cell is filled. -/
theorem row_put {w : World} {g t m j : Nat} {R : List Int} {x : Int} (h : Row w g t ((R.take j).map (Value.int .i64) ++ List.replicate (m - j) (.int .i64 0))) (hR : R.length = m) (hj : j < m) (hx : R.getD j 0 = x) :
    Row (w.setCell ⟨g, j, none⟩ (.int .i64 x)) g t ((R.take (j + 1)).map (Value.int .i64) ++ List.replicate (m - (j + 1)) (.int .i64 0)) := by
  have := h.set_ j (.int .i64 x)
  rw [padv_set _ _ _ _ _ (by rw [List.length_map, List.length_take]; omega) hj] at this
  rw [take_upG (by omega), hx, List.map_append]
  exact this
theorem row_full {w : World} {g t m : Nat} {R : List Int} (h : Row w g t ((R.take m).map (Value.int .i64) ++ List.replicate (m - m) (.int .i64 0))) (hR : R.length = m) (hm : m ≤ maxLen) : Nums .i64 w (.slice (some ⟨g, 0, none⟩) m m) R := by
  have h' : Row w g t (R.map (Value.int .i64)) := by simpa [List.take_of_length_le (Nat.le_of_eq hR)] using h
  have := Nums.of_row h' (by omega)
  rwa [hR] at this
end Go.Proofs.YtompckomogmhiaaDoor
namespace Go.Proofs.YtompckomogmhiaaDoor
open Go.RowKit
set_option linter.unusedVariables false

/-- Each is a number of 64 bits. -/
def I64 (l : List Int) : Prop := ∀ z ∈ l, (Lit.int .i64 z).wf = true
theorem i64_in {z : Int} (h : (Lit.int .i64 z).wf = true) : -9223372036854775808 ≤ z ∧ z ≤ 9223372036854775807 := bounds_i64 h
/-- Each target is the one before or the next one. -/
def toOk (to : List Int) : Bool := (List.range (to.length - 1)).all fun i => to.getD (i + 1) 0 == to.getD i 0 || to.getD (i + 1) 0 == to.getD i 0 + 1
def lastOf (to : List Int) : Int := to.getD (to.length - 1) 0
def colE (v : Int) (cats : Nat) (to : List Int) : Int :=
  if v ≠ 0 then v else if to.length ≠ cats ∨ to.getD 0 0 ≠ 0 then 1 else if toOk to = false then 1 else if lastOf to = 0 then 19 else 0
/-- The weights added after j categories. -/
def accC (to row : List Int) (n : Nat) : Nat → List Int
  | 0 => List.replicate n 0
  | j + 1 => (accC to row n j).set (to.getD j 0).toNat ((accC to row n j).getD (to.getD j 0).toNat 0 + row.getD j 0)
def colR (to row : List Int) : List Int := accC to row ((lastOf to).toNat + 1) to.length
def colL (rows : List (List Int)) (to : List Int) : List (List Int) := rows.map (colR to)
theorem accC_len (to row : List Int) (n : Nat) : ∀ j, (accC to row n j).length = n
  | 0 => by simp [accC]
  | j + 1 => by rw [accC, List.length_set, accC_len to row n j]
theorem colL_len (rows : List (List Int)) (to : List Int) : (colL rows to).length = rows.length := by simp [colL]
theorem colL_get {rows : List (List Int)} {to : List Int} {k : Nat} (h : k < rows.length) : (colL rows to).getD k [] = colR to (rows.getD k []) := getD_map _ rows [] [] h
theorem getD_set' {l : List Int} {i k : Nat} {x : Int} (hi : i < l.length) : (l.set i x).getD k 0 = if k = i then x else l.getD k 0 := by
  simp only [List.getD_eq_getElem?_getD, List.getElem?_set]
  by_cases h : i = k
  · subst h; simp [hi]
  · rw [if_neg h, if_neg (fun e => h e.symm)]
theorem accC_get {to row : List Int} {n j k : Nat} (hj : (to.getD j 0).toNat < n) : (accC to row n (j + 1)).getD k 0 = if k = (to.getD j 0).toNat then (accC to row n j).getD k 0 + row.getD j 0 else (accC to row n j).getD k 0 := by
  rw [accC, getD_set' (by rw [accC_len]; exact hj)]
  by_cases h : k = (to.getD j 0).toNat
  · rw [if_pos h, if_pos h, h]
  · rw [if_neg h, if_neg h]
theorem accC_bd {to row : List Int} {n : Nat} (hr : ∀ x ∈ row, 1 ≤ x ∧ x ≤ 1000) (ht : ∀ i, i < to.length → (to.getD i 0).toNat < n) : ∀ j, j ≤ to.length → j ≤ row.length → ∀ k, 0 ≤ (accC to row n j).getD k 0 ∧ (accC to row n j).getD k 0 ≤ 1000 * (j : Int)
  | 0, _, _, k => by
    have : (accC to row n 0).getD k 0 = 0 := by
      simp only [accC, List.getD_eq_getElem?_getD, List.getElem?_replicate]
      split <;> rfl
    omega
  | j + 1, h1, h2, k => by
    obtain ⟨a, b⟩ := accC_bd hr ht j (by omega) (by omega) k
    have hx := hr (row.getD j 0) (by rw [List.getD_eq_getElem?_getD, List.getElem?_eq_getElem (show j < row.length by omega)]; exact List.getElem_mem _)
    rw [accC_get (ht j (by omega))]
    split <;> omega
theorem toOk_no {to : List Int} {k : Nat} (hk : k + 1 < to.length) (h1 : to.getD (k + 1) 0 ≠ to.getD k 0) (h2 : to.getD (k + 1) 0 ≠ to.getD k 0 + 1) : toOk to = false := by
  unfold toOk
  rw [List.all_eq_false]
  exact ⟨k, by simp; omega, by simp only [Bool.or_eq_true, beq_iff_eq]; omega⟩
theorem toOk_yes {to : List Int} (h : ∀ k, k + 1 < to.length → to.getD (k + 1) 0 = to.getD k 0 ∨ to.getD (k + 1) 0 = to.getD k 0 + 1) : toOk to = true := by
  unfold toOk
  rw [List.all_eq_true]
  intro i hi
  have := h i (by have := List.mem_range.1 hi; omega)
  simp only [Bool.or_eq_true, beq_iff_eq]
  exact this
theorem toOk_at {to : List Int} (h : toOk to = true) {k : Nat} (hk : k + 1 < to.length) : to.getD (k + 1) 0 = to.getD k 0 ∨ to.getD (k + 1) 0 = to.getD k 0 + 1 := by
  unfold toOk at h
  rw [List.all_eq_true] at h
  have := h k (by simp; omega)
  simpa only [Bool.or_eq_true, beq_iff_eq] using this
theorem to_mono {to : List Int} (h : toOk to = true) : ∀ (j i : Nat), i ≤ j → j < to.length → to.getD i 0 ≤ to.getD j 0 ∧ to.getD j 0 ≤ to.getD i 0 + ((j - i : Nat) : Int)
  | 0, i, hi, _ => by
    obtain rfl : i = 0 := by omega
    omega
  | j + 1, i, hi, hj => by
    rcases Nat.lt_or_ge j i with h1 | h1
    · obtain rfl : i = j + 1 := by omega
      omega
    · have a := to_mono h j i h1 (by omega)
      have b := toOk_at h hj
      omega
theorem to_in {to : List Int} (h : toOk to = true) (h0 : to.getD 0 0 = 0) {i : Nat} (hi : i < to.length) : 0 ≤ to.getD i 0 ∧ to.getD i 0 ≤ lastOf to ∧ lastOf to ≤ (to.length : Int) - 1 := by
  have a := to_mono h i 0 (by omega) hi
  have b := to_mono h (to.length - 1) i (by omega) (by omega)
  have c := to_mono h (to.length - 1) 0 (by omega) (by omega)
  unfold lastOf
  omega
theorem colE_v {v : Int} {cats : Nat} {to : List Int} (h : v ≠ 0) : colE v cats to = v := if_pos h
theorem colE_1 {v : Int} {cats : Nat} {to : List Int} (h0 : v = 0) (h : to.length ≠ cats ∨ to.getD 0 0 ≠ 0) : colE v cats to = 1 := by unfold colE; rw [if_neg (by omega), if_pos h]
theorem colE_2 {v : Int} {cats : Nat} {to : List Int} (h0 : v = 0) (h : ¬ (to.length ≠ cats ∨ to.getD 0 0 ≠ 0)) (h1 : toOk to = false) : colE v cats to = 1 := by unfold colE; rw [if_neg (by omega), if_neg h, if_pos h1]
theorem colE_3 {v : Int} {cats : Nat} {to : List Int} (h0 : v = 0) (h : ¬ (to.length ≠ cats ∨ to.getD 0 0 ≠ 0)) (h1 : toOk to = true) (h2 : lastOf to = 0) : colE v cats to = 19 := by
  unfold colE; rw [if_neg (by omega), if_neg h, if_neg (by simp [h1]), if_pos h2]
theorem colE_ok {v : Int} {cats : Nat} {to : List Int} (h0 : v = 0) (h : ¬ (to.length ≠ cats ∨ to.getD 0 0 ≠ 0)) (h1 : toOk to = true) (h2 : lastOf to ≠ 0) : colE v cats to = 0 := by
  unfold colE; rw [if_neg (by omega), if_neg h, if_neg (by simp [h1]), if_neg h2]
theorem colE_zero {v : Int} {cats : Nat} {to : List Int} (h : colE v cats to = 0) : v = 0 ∧ to.length = cats ∧ to.getD 0 0 = 0 ∧ toOk to = true ∧ lastOf to ≠ 0 := by
  unfold colE at h
  split at h
  · omega
  · split at h
    · omega
    · split at h
      · omega
      · split at h
        · omega
        · rename_i a b c d
          exact ⟨by omega, by omega, by omega, by simpa using c, d⟩
theorem mem_getD {α : Type} {l : List α} (d : α) {k : Nat} (h : k < l.length) : l.getD k d ∈ l := by
  rw [List.getD_eq_getElem?_getD, List.getElem?_eq_getElem h]; exact List.getElem_mem _
theorem mid_get {us rest : List Value} {v : Value} {q : Nat} (h : us.length = q) : ((us ++ [v]) ++ rest)[q]? = some v := by
  subst h; simp
theorem map_get {l : List Int} {k : Nat} (h : k < l.length) : (l.map (Value.int .i64))[k]? = some (.int .i64 (l.getD k 0)) := by
  simp [List.getD_eq_getElem?_getD, List.getElem?_eq_getElem h]
theorem accC_step (to row : List Int) (n j : Nat) {t x a : Int} {T : Nat} (ht : to.getD j 0 = t) (hT : t.toNat = T) (hx : row.getD j 0 = x) (ha : (accC to row n j).getD T 0 = a) : accC to row n (j + 1) = (accC to row n j).set T (a + x) := by
  subst ht hT hx ha; rfl
theorem row_add {w : World} {g t i : Nat} {l : List Int} {x : Int} (h : Row w g t (l.map (Value.int .i64))) : Row (w.setCell ⟨g, i, none⟩ (.int .i64 x)) g t ((l.set i x).map (Value.int .i64)) := by
  have := h.set_ i (.int .i64 x)
  rwa [← List.map_set] at this
end Go.Proofs.YtompckomogmhiaaDoor
namespace Go.Proofs.YtompckomogmhiaaDoor
open Go.RowKit
set_option linter.unusedVariables false

def sfx (r : List Int) (k : Nat) : Int := (r.drop k).sum
def leS (m : Nat) (a b : List Int) : Bool := (List.range m).all fun k => decide (sfx a k ≤ sfx b k)
def monoL (m : Nat) (rows : List (List Int)) : Bool := (List.range (rows.length - 1)).all fun i => leS m (rows.getD i []) (rows.getD (i + 1) [])
def monoB (v : Int) (m : Nat) (rows : List (List Int)) : Bool := v == 0 && monoL m rows
theorem monoB_no {v : Int} {m : Nat} {rows : List (List Int)} (h : v ≠ 0) : monoB v m rows = false := by unfold monoB; simp [h]
theorem monoB_eq {v : Int} {m : Nat} {rows : List (List Int)} (h : v = 0) : monoB v m rows = monoL m rows := by unfold monoB; simp [h]
theorem leS_iff {m : Nat} {a b : List Int} : leS m a b = true ↔ ∀ k, k < m → sfx a k ≤ sfx b k := by
  unfold leS; simp [List.all_eq_true]
theorem monoL_iff {m : Nat} {rows : List (List Int)} : monoL m rows = true ↔ ∀ i, i + 1 < rows.length → leS m (rows.getD i []) (rows.getD (i + 1) []) = true := by
  unfold monoL
  rw [List.all_eq_true]
  constructor
  · intro h i hi; exact h i (by simp; omega)
  · intro h i hi; exact h i (by have := List.mem_range.1 hi; omega)
theorem monoL_no {m : Nat} {rows : List (List Int)} {i k : Nat} (hi : i + 1 < rows.length) (hk : k < m) (h : sfx (rows.getD (i + 1) []) k < sfx (rows.getD i []) k) : monoL m rows = false := by
  rw [← Bool.not_eq_true, monoL_iff]
  intro hh
  have := leS_iff.1 (hh i hi) k hk
  omega
theorem sfx_step {r : List Int} {k : Nat} (h : k < r.length) : sfx r k = r.getD k 0 + sfx r (k + 1) := by
  unfold sfx; rw [drop_cons r 0 h, List.sum_cons]
theorem sfx_end {r : List Int} {k : Nat} (h : r.length ≤ k) : sfx r k = 0 := by
  unfold sfx; rw [List.drop_eq_nil_of_le h]; rfl
theorem sfx_bd {r : List Int} (h : ∀ x ∈ r, 1 ≤ x ∧ x ≤ 1000) : ∀ (n k : Nat), n + k = r.length → 0 ≤ sfx r k ∧ sfx r k ≤ 1000 * (n : Int)
  | 0, k, hk => by rw [sfx_end (by omega)]; omega
  | n + 1, k, hk => by
    have a := sfx_bd h n (k + 1) (by omega)
    have b := h _ (mem_getD 0 (show k < r.length by omega))
    rw [sfx_step (by omega)]
    omega
theorem sfx_in {r : List Int} (h : ∀ x ∈ r, 1 ≤ x ∧ x ≤ 1000) (hl : r.length ≤ 6) (k : Nat) : 0 ≤ sfx r k ∧ sfx r k ≤ 6000 := by
  rcases Nat.lt_or_ge r.length k with h1 | h1
  · rw [sfx_end (by omega)]; omega
  · have := sfx_bd h (r.length - k) k (by omega); omega
/-- The row while its sums are formed from above: those from k on are done. -/
def psum (r : List Int) (K : Nat) : List Int := (List.range r.length).map fun k => if K ≤ k then sfx r k else r.getD k 0
theorem psum_len (r : List Int) (K : Nat) : (psum r K).length = r.length := by simp [psum]
theorem psum_get {r : List Int} {K k : Nat} (h : k < r.length) : (psum r K).getD k 0 = if K ≤ k then sfx r k else r.getD k 0 := by
  unfold psum
  simp [List.getD_eq_getElem?_getD, List.getElem?_eq_getElem (show k < (List.range r.length).length by simpa using h)]
theorem ext_g {l m : List Int} (hn : l.length = m.length) (h : ∀ i, i < l.length → l.getD i 0 = m.getD i 0) : l = m := by
  apply List.ext_getElem hn
  intro i h1 h2
  have := h i h1
  simpa [List.getD_eq_getElem?_getD, List.getElem?_eq_getElem h1, List.getElem?_eq_getElem h2] using this
theorem psum_full {r : List Int} {K : Nat} (h : r.length ≤ K + 1) : psum r K = r := by
  refine ext_g (psum_len _ _) fun i hi => ?_
  rw [psum_len] at hi
  rw [psum_get hi]
  split
  · rw [sfx_step hi, sfx_end (by omega)]; omega
  · rfl
theorem psum_set {r : List Int} {K : Nat} (h : K + 1 < r.length) : (psum r (K + 1)).set K (r.getD K 0 + sfx r (K + 1)) = psum r K := by
  refine ext_g (by rw [List.length_set, psum_len, psum_len]) fun i hi => ?_
  rw [List.length_set, psum_len] at hi
  rw [getD_set' (by rw [psum_len]; omega), psum_get hi, psum_get hi]
  by_cases h1 : i = K
  · subst h1; rw [if_pos rfl, if_pos (Nat.le_refl _), sfx_step hi]
  · rw [if_neg h1]
    by_cases h2 : K + 1 ≤ i
    · rw [if_pos h2, if_pos (by omega)]
    · rw [if_neg h2, if_neg (by omega)]
/-- What the next row is compared with. -/
def prevL (m : Nat) (rows : List (List Int)) (q : Nat) : List Int := if q = 0 then List.replicate m 0 else psum (rows.getD (q - 1) []) 0
theorem prevL_zero (m : Nat) (rows : List (List Int)) : prevL m rows 0 = List.replicate m 0 := rfl
theorem prevL_succ (m : Nat) (rows : List (List Int)) (q : Nat) : prevL m rows (q + 1) = psum (rows.getD q []) 0 := by
  unfold prevL; rw [if_neg (by omega)]; rfl
theorem prevL_len {m : Nat} {rows : List (List Int)} {q : Nat} (h : ∀ r ∈ rows, r.length = m) (hq : q ≤ rows.length) : (prevL m rows q).length = m := by
  cases q with
  | zero => rw [prevL_zero]; simp
  | succ q => rw [prevL_succ, psum_len, h _ (mem_getD [] (show q < rows.length by omega))]
/-- A weight below the one before: the model is not monotone. -/
theorem prev_bad {m : Nat} {rows : List (List Int)} {q k : Nat} (h : ∀ r ∈ rows, r.length = m ∧ ∀ x ∈ r, 1 ≤ x ∧ x ≤ 1000) (hm : m ≤ 6) (hq : q < rows.length) (hk : k < m) (hb : sfx (rows.getD q []) k < (prevL m rows q).getD k 0) : monoL m rows = false := by
  cases q with
  | zero =>
    rw [prevL_zero] at hb
    obtain ⟨h1, h2⟩ := h _ (mem_getD [] hq)
    have := sfx_in h2 (by omega) k
    simp only [List.getD_eq_getElem?_getD, List.getElem?_replicate, if_pos hk, Option.getD_some] at hb this
    omega
  | succ q =>
    rw [prevL_succ, psum_get (by rw [(h _ (mem_getD [] (show q < rows.length by omega))).1]; exact hk), if_pos (Nat.zero_le _)] at hb
    exact monoL_no hq hk hb
theorem prev_ok {m : Nat} {rows : List (List Int)} {q : Nat} (h : ∀ r ∈ rows, r.length = m ∧ ∀ x ∈ r, 1 ≤ x ∧ x ≤ 1000) (hq : q < rows.length) (hb : ∀ k, k < m → (prevL m rows q).getD k 0 ≤ sfx (rows.getD q []) k) (h0 : 0 < q) : leS m (rows.getD (q - 1) []) (rows.getD q []) = true := by
  obtain ⟨p, rfl⟩ : ∃ p, q = p + 1 := ⟨q - 1, by omega⟩
  rw [leS_iff]
  intro k hk
  have := hb k hk
  rw [prevL_succ, psum_get (by rw [(h _ (mem_getD [] (show p < rows.length by omega))).1]; exact hk), if_pos (Nat.zero_le _)] at this
  exact this
theorem monoL_upto {m : Nat} {rows : List (List Int)} (h : ∀ q, q < rows.length → 0 < q → leS m (rows.getD (q - 1) []) (rows.getD q []) = true) : monoL m rows = true := by
  rw [monoL_iff]
  intro i hi
  exact h (i + 1) hi (by omega)
end Go.Proofs.YtompckomogmhiaaDoor
namespace Go.Proofs.YtompckomogmhiaaDoor
open Go.RowKit
set_option linter.unusedVariables false

def scOk (sc : List Int) : Bool := sc.all fun x => decide (-1000000 ≤ x) && decide (x ≤ 1000000)
def expE (cats : Nat) (sc : List Int) : Int := if sc.length ≠ cats then 1 else if scOk sc = false then 3 else 0
/-- Weight times score, the first k. -/
def expS (r sc : List Int) : Nat → Int
  | 0 => 0
  | k + 1 => expS r sc k + r.getD k 0 * sc.getD k 0
theorem expE_1 {cats : Nat} {sc : List Int} (h : sc.length ≠ cats) : expE cats sc = 1 := if_pos h
theorem expE_3 {cats : Nat} {sc : List Int} (h : sc.length = cats) (h1 : scOk sc = false) : expE cats sc = 3 := by unfold expE; rw [if_neg (by omega), if_pos h1]
theorem expE_ok {cats : Nat} {sc : List Int} (h : sc.length = cats) (h1 : scOk sc = true) : expE cats sc = 0 := by unfold expE; rw [if_neg (by omega), if_neg (by simp [h1])]
theorem expE_zero {cats : Nat} {sc : List Int} (h : expE cats sc = 0) : sc.length = cats ∧ scOk sc = true := by
  unfold expE at h
  split at h
  · omega
  · split at h
    · omega
    · rename_i h1 h2; exact ⟨by omega, by simpa using h2⟩
theorem scOk_no {sc : List Int} {k : Nat} (hk : k < sc.length) (h : sc.getD k 0 < -1000000 ∨ 1000000 < sc.getD k 0) : scOk sc = false := by
  unfold scOk
  rw [List.all_eq_false]
  exact ⟨_, mem_getD 0 hk, by simp only [Bool.and_eq_true, decide_eq_true_eq]; omega⟩
theorem scOk_yes {sc : List Int} (h : ∀ j, j < sc.length → -1000000 ≤ sc.getD j 0 ∧ sc.getD j 0 ≤ 1000000) : scOk sc = true := by
  unfold scOk
  rw [List.all_eq_true]
  intro x hx
  obtain ⟨i, hi, rfl⟩ := List.mem_iff_getElem.1 hx
  have := h i hi
  rw [List.getD_eq_getElem?_getD, List.getElem?_eq_getElem hi] at this
  simpa using this
theorem scOk_at {sc : List Int} (h : scOk sc = true) {j : Nat} (hj : j < sc.length) : -1000000 ≤ sc.getD j 0 ∧ sc.getD j 0 ≤ 1000000 := by
  unfold scOk at h
  rw [List.all_eq_true] at h
  have := h _ (mem_getD 0 hj)
  simpa only [Bool.and_eq_true, decide_eq_true_eq] using this
theorem prod_bd {x y : Int} (h1 : 0 ≤ x) (h2 : x ≤ 1000) (h3 : -1000000 ≤ y) (h4 : y ≤ 1000000) : -1000000000 ≤ x * y ∧ x * y ≤ 1000000000 := by
  have a : x * y ≤ x * 1000000 := Int.mul_le_mul_of_nonneg_left h4 h1
  have b : x * (-1000000) ≤ x * y := Int.mul_le_mul_of_nonneg_left h3 h1
  omega
theorem expS_bd' {r sc : List Int} {K : Nat} (h1 : ∀ x ∈ r, 1 ≤ x ∧ x ≤ 1000) (h2 : ∀ j, j < K → -1000000 ≤ sc.getD j 0 ∧ sc.getD j 0 ≤ 1000000) : ∀ k, k ≤ K → k ≤ r.length → -1000000000 * (k : Int) ≤ expS r sc k ∧ expS r sc k ≤ 1000000000 * (k : Int)
  | 0, _, _ => by simp [expS]
  | k + 1, a, b => by
    have h := expS_bd' h1 h2 k (by omega) (by omega)
    have x := h1 _ (mem_getD 0 (show k < r.length by omega))
    have y := h2 k (by omega)
    have p := prod_bd (x := r.getD k 0) (y := sc.getD k 0) (by omega) x.2 y.1 y.2
    rw [expS]
    omega
end Go.Proofs.YtompckomogmhiaaDoor
namespace Go.Proofs.YtompckomogmhiaaDoor
open Go.RowKit
set_option linter.unusedVariables false

theorem scanE_mk : ∀ {l : List Int} {s : Int}, (∀ x ∈ l, 1 ≤ x ∧ x ≤ 1000) → s + l.sum = 1000 → scanE l s = 0
  | [], s, _, h => by simp only [List.sum_nil] at h; rw [scanE, if_pos (by omega)]
  | x :: l, s, hx, h => by
    have := hx x (by simp)
    rw [scanE, if_neg (by omega)]
    exact scanE_mk (fun y hy => hx y (by simp [hy])) (by simp only [List.sum_cons] at h; omega)
theorem rowsE_mk {c : Nat} : ∀ {l : List (List Int)}, (∀ r ∈ l, r.length = c ∧ (∀ x ∈ r, 1 ≤ x ∧ x ≤ 1000) ∧ r.sum = 1000) → rowsE c l = 0
  | [], _ => rfl
  | r :: l, h => by
    obtain ⟨h1, h2, h3⟩ := h r (by simp)
    rw [rowsE, if_pos (by rw [rowE_scan h1]; exact scanE_mk h2 (by omega))]
    exact rowsE_mk fun y hy => h y (by simp [hy])
/-- A valid model. -/
theorem modE_mk {rows : List (List Int)} {n c : Nat} (hn : rows.length = n) (h1 : 1 ≤ n) (h2 : n ≤ 21) (h3 : 2 ≤ c) (h4 : c ≤ 6) (h : ∀ r ∈ rows, r.length = c ∧ (∀ x ∈ r, 1 ≤ x ∧ x ≤ 1000) ∧ r.sum = 1000) : modE rows (n : Int) = 0 ∧ catsOf rows = c := by
  have hc : catsOf rows = c := (h _ (mem_getD [] (show 0 < rows.length by omega))).1
  refine ⟨?_, hc⟩
  rw [modE_rows (by omega) (by omega) (by omega) (by omega) (by omega), hc]
  exact rowsE_mk h
theorem mem_map_rows {ps : List Int} {f : Int → List Int} {r : List Int} (h : r ∈ ps.map f) : ∃ j, j < ps.length ∧ r = f (ps.getD j 0) := by
  obtain ⟨p, hp, rfl⟩ := List.mem_map.1 h
  obtain ⟨i, hi, rfl⟩ := List.mem_iff_getElem.1 hp
  exact ⟨i, hi, by rw [List.getD_eq_getElem?_getD, List.getElem?_eq_getElem hi]; rfl⟩
/-- A model made point by point out of a rising function is monotone. -/
theorem mono_map {ps : List Int} {f : Int → List Int} {m : Nat} (hps : ∀ j, j + 1 < ps.length → ps.getD j 0 < ps.getD (j + 1) 0) (hf : ∀ p p', p ≤ p' → ∀ k, sfx (f p) k ≤ sfx (f p') k) : monoL m (ps.map f) = true := by
  rw [monoL_iff]
  intro i hi
  rw [List.length_map] at hi
  rw [getD_map f ps 0 [] (by omega), getD_map f ps 0 [] hi, leS_iff]
  intro k _
  exact hf _ _ (Int.le_of_lt (hps i hi)) k
theorem floor_mono {s p p' d : Int} (hs : 0 ≤ s) (h : p ≤ p') : s * (p - d) / 100 ≤ s * (p' - d) / 100 := by
  have : s * (p - d) ≤ s * (p' - d) := Int.mul_le_mul_of_nonneg_left (by omega) hs
  omega
/-! ### Ramp -/
theorem ramp_mono {ps : List Int} {d s lo hi : Int} {m : Nat} (hps : ∀ j, j + 1 < ps.length → ps.getD j 0 < ps.getD (j + 1) 0) (hs : 0 ≤ s) (h2 : hi ≤ 999) (h1 : lo ≤ hi) : monoL m (rampL ps d s lo hi) = true := by
  refine mono_map hps fun p p' hp k => ?_
  have := floor_mono (d := d) hs hp
  have hw : rampW d s lo hi p ≤ rampW d s lo hi p' := by unfold rampW; omega
  match k with
  | 0 => simp [sfx]
  | 1 => simp [sfx]; exact hw
  | k + 2 => simp [sfx]
theorem ramp_valid {ps : List Int} {d s lo hi : Int} (h1 : 1 ≤ ps.length) (h2 : ps.length ≤ 21) (h3 : 1 ≤ lo) (h4 : lo ≤ hi) (h5 : hi ≤ 999) : modE (rampL ps d s lo hi) (ps.length : Int) = 0 ∧ catsOf (rampL ps d s lo hi) = 2 := by
  refine modE_mk (rampL_len _ _ _ _ _) h1 h2 (by omega) (by omega) fun r hr => ?_
  obtain ⟨j, _, rfl⟩ := mem_map_rows hr
  have := rampW_in (d := d) (s := s) (p := ps.getD j 0) h4
  refine ⟨rfl, fun x hx => ?_, by simp⟩
  simp only [List.mem_cons, List.not_mem_nil, or_false] at hx
  omega
/-! ### Steps -/
theorem stepsR_ok {m : Nat} {s p : Int} (hm : m ≤ 5) : ∀ (ds : List Int) (k : Nat) (above : Int), 1 ≤ k → k + ds.length = m + 1 → (m : Int) - k + 2 ≤ above → above ≤ 1000 →
    (∀ x ∈ stepsR m s p k above ds, 1 ≤ x ∧ x ≤ 1000) ∧ (stepsR m s p k above ds).sum = above
  | [], k, above, h1, h2, h3, h4 => by
    simp only [List.length_nil] at h2
    refine ⟨fun x hx => ?_, by simp [stepsR]⟩
    simp only [stepsR, List.mem_cons, List.not_mem_nil, or_false] at hx
    omega
  | d :: ds, k, above, h1, h2, h3, h4 => by
    simp only [List.length_cons] at h2
    have hw : (m : Int) - k + 1 ≤ stepsW m k d s p above ∧ stepsW m k d s p above ≤ above - 1 := by unfold stepsW; omega
    obtain ⟨a, b⟩ := stepsR_ok (s := s) (p := p) hm ds (k + 1) (stepsW m k d s p above) (by omega) (by omega) (by omega) (by omega)
    refine ⟨fun x hx => ?_, ?_⟩
    · rw [stepsR, List.mem_cons] at hx
      rcases hx with rfl | hx
      · omega
      · exact a x hx
    · rw [stepsR, List.sum_cons, b]; omega
theorem stepsR_mono {m : Nat} {s p p' : Int} (hs : 0 ≤ s) (hp : p ≤ p') (hm : m ≤ 5) : ∀ (ds : List Int) (k : Nat) (above above' : Int), above ≤ above' → 1 ≤ k → k + ds.length = m + 1 → (m : Int) - k + 2 ≤ above → above' ≤ 1000 → ∀ j, sfx (stepsR m s p k above ds) j ≤ sfx (stepsR m s p' k above' ds) j
  | [], k, above, above', h, _, _, _, _, j => by
    match j with
    | 0 => simpa [sfx, stepsR] using h
    | j + 1 => simp [sfx, stepsR]
  | d :: ds, k, above, above', h, h1, h2, h3, h4, j => by
    match j with
    | 0 =>
      have a := (stepsR_ok (s := s) (p := p) hm (d :: ds) k above h1 h2 h3 (by omega)).2
      have b := (stepsR_ok (s := s) (p := p') hm (d :: ds) k above' h1 h2 (by omega) (by omega)).2
      unfold sfx
      rw [List.drop_zero, List.drop_zero, a, b]
      exact h
    | j + 1 =>
      have hf := floor_mono (d := d) hs hp
      simp only [List.length_cons] at h2
      have hw : stepsW m k d s p above ≤ stepsW m k d s p' above' := by unfold stepsW; omega
      have hw1 : (m : Int) - k + 1 ≤ stepsW m k d s p above := by unfold stepsW; omega
      have hw2 : stepsW m k d s p' above' ≤ 1000 := by unfold stepsW; omega
      have := stepsR_mono hs hp hm ds (k + 1) _ _ hw (by omega) (by omega) (by omega) hw2 j
      simpa [sfx, stepsR] using this
theorem steps_mono {ps ds : List Int} {s : Int} {m : Nat} (hps : ∀ j, j + 1 < ps.length → ps.getD j 0 < ps.getD (j + 1) 0) (hs : 0 ≤ s) (h1 : 1 ≤ ds.length) (h5 : ds.length ≤ 5) : monoL m (stepsL ps ds s) = true :=
  mono_map hps fun p p' hp k => stepsR_mono hs hp h5 ds 1 1000 1000 (Int.le_refl _) (Nat.le_refl _) (by omega) (by omega) (Int.le_refl _) k
theorem steps_valid {ps ds : List Int} {s : Int} (h1 : 1 ≤ ps.length) (h2 : ps.length ≤ 21) (h3 : 1 ≤ ds.length) (h5 : ds.length ≤ 5) : modE (stepsL ps ds s) (ps.length : Int) = 0 ∧ catsOf (stepsL ps ds s) = ds.length + 1 := by
  refine modE_mk (stepsL_len _ _ _) h1 h2 (by omega) (by omega) fun r hr => ?_
  obtain ⟨j, _, rfl⟩ := mem_map_rows hr
  obtain ⟨a, b⟩ := stepsR_ok (s := s) (p := ps.getD j 0) h5 ds 1 1000 (Nat.le_refl _) (by omega) (by omega) (by omega)
  exact ⟨stepsR_len _ _ _ _ _ _, a, b⟩
theorem stepsE_zero {g : Int} {ds : List Int} {s : Int} (h : stepsE g ds s = 0) : g = 0 ∧ 1 ≤ ds.length ∧ ds.length ≤ 5 ∧ 0 ≤ s ∧ s ≤ 2000 := by
  unfold stepsE at h
  split at h
  · omega
  · split at h
    · omega
    · omega
/-! ### One difficulty -/
theorem one_E (g d s : Int) : stepsE g [d] s = rampE g d s 1 999 := by
  have h3 : riseOk [d] = true := by rfl
  have h4 : inD [d] = (decide (-1000 ≤ d) && decide (d ≤ 1000)) := by simp [inD]
  unfold stepsE rampE
  rw [h3, h4]
  by_cases h0 : g = 0
  · subst h0
    have a : ¬ ((0 : Int) ≠ 0) := by simp
    rw [if_neg a, if_neg a]
    by_cases hs : s < 0 ∨ 2000 < s
    · have b : [d].length < 1 ∨ 5 < [d].length ∨ s < 0 ∨ 2000 < s := .inr (.inr hs)
      have c : d < -1000 ∨ 1000 < d ∨ s < 0 ∨ 2000 < s ∨ (1 : Int) < 1 ∨ (999 : Int) < 1 ∨ (999 : Int) < 999 := by omega
      rw [if_pos b, if_pos c]
    · have b : ¬ ([d].length < 1 ∨ 5 < [d].length ∨ s < 0 ∨ 2000 < s) := by simp only [List.length_cons, List.length_nil]; omega
      rw [if_neg b]
      by_cases hd : -1000 ≤ d ∧ d ≤ 1000
      · have c : ¬ (d < -1000 ∨ 1000 < d ∨ s < 0 ∨ 2000 < s ∨ (1 : Int) < 1 ∨ (999 : Int) < 1 ∨ (999 : Int) < 999) := by omega
        have e : (decide (-1000 ≤ d) && decide (d ≤ 1000)) = true := by simp [hd]
        rw [e, if_neg c, if_neg (by simp), if_neg (by simp)]
      · have c : d < -1000 ∨ 1000 < d ∨ s < 0 ∨ 2000 < s ∨ (1 : Int) < 1 ∨ (999 : Int) < 1 ∨ (999 : Int) < 999 := by omega
        have e : (decide (-1000 ≤ d) && decide (d ≤ 1000)) = false := by rw [← Bool.not_eq_true]; simp only [Bool.and_eq_true, decide_eq_true_eq]; exact hd
        rw [e, if_pos c, if_pos rfl]
  · rw [if_pos h0, if_pos h0]
theorem one_L (ps : List Int) (d s : Int) : stepsL ps [d] s = rampL ps d s 1 999 := by
  unfold stepsL rampL
  refine List.map_congr_left fun p _ => ?_
  have : stepsW 1 1 d s p 1000 = rampW d s 1 999 p := by unfold stepsW rampW; omega
  show [1000 - stepsW 1 1 d s p 1000, stepsW 1 1 d s p 1000] = _
  rw [this]
end Go.Proofs.YtompckomogmhiaaDoor
