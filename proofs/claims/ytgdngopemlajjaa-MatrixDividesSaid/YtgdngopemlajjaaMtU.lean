/- The plain functions of the matrix chapter: unions and merged matrices; no program in sight. -/
import Derived.Test.YtgdngopemlajjaaMtP
namespace Go.Proofs.Ytgdngopemlajjaa
open Go.RowKit
set_option linter.unusedVariables false

theorem ris_iff (l : List Int) : ris l = true ↔ l.Pairwise (· < ·) ∧ ∀ n ∈ l, 1 ≤ n := by
  constructor
  · intro h
    refine ⟨?_, fun n hn => ?_⟩
    · rw [List.pairwise_iff_getElem]
      intro i j hi hj hij
      have := ris_lt h j hj i hij
      rwa [getD_get _ _ hi, getD_get _ _ hj] at this
    · obtain ⟨i, hi, rfl⟩ := mem_getD 0 hn
      exact ris_pos h i hi
  · rintro ⟨h1, h2⟩
    rw [List.pairwise_iff_getElem] at h1
    refine ris_of (fun j hj => h2 _ (getD_mem _ _ hj)) fun j hj i hi => ?_
    have := h1 i j (by omega) hj hi
    rwa [getD_get _ _ hj, getD_get _ _ (show i < l.length by omega)]

def uni : List Int → List Int → List Int
  | [], b => b
  | x :: a, [] => x :: a
  | x :: a, y :: b => if x < y then x :: uni a (y :: b) else if y < x then y :: uni (x :: a) b else x :: uni a b
termination_by a b => a.length + b.length
theorem uni_nil_left (b : List Int) : uni [] b = b := by unfold uni; rfl
theorem uni_nil_right (a : List Int) : uni a [] = a := by cases a <;> (unfold uni; rfl)
theorem uni_lt {x y : Int} (a b : List Int) (h : x < y) : uni (x :: a) (y :: b) = x :: uni a (y :: b) := by rw [uni, if_pos h]
theorem uni_gt {x y : Int} (a b : List Int) (h : y < x) : uni (x :: a) (y :: b) = y :: uni (x :: a) b := by rw [uni, if_neg (by omega), if_pos h]
theorem uni_eq {x y : Int} (a b : List Int) (h : x = y) : uni (x :: a) (y :: b) = x :: uni a b := by rw [uni, if_neg (by omega), if_neg (by omega)]
theorem uni_len : ∀ a b : List Int, (uni a b).length ≤ a.length + b.length
  | [], b => by rw [uni_nil_left]; simp
  | x :: a, [] => by rw [uni_nil_right]; simp
  | x :: a, y :: b => by
    rcases Int.lt_trichotomy x y with h | h | h
    · rw [uni_lt a b h]; have := uni_len a (y :: b); simp only [List.length_cons] at *; omega
    · rw [uni_eq a b h]; have := uni_len a b; simp only [List.length_cons] at *; omega
    · rw [uni_gt a b h]; have := uni_len (x :: a) b; simp only [List.length_cons] at *; omega
termination_by a b => a.length + b.length
theorem mem_uni (n : Int) : ∀ a b : List Int, n ∈ uni a b ↔ n ∈ a ∨ n ∈ b
  | [], b => by rw [uni_nil_left]; simp
  | x :: a, [] => by rw [uni_nil_right]; simp
  | x :: a, y :: b => by
    rcases Int.lt_trichotomy x y with h | h | h
    · rw [uni_lt a b h]; have := mem_uni n a (y :: b); simp only [List.mem_cons] at *; rw [this]; grind
    · rw [uni_eq a b h]; have := mem_uni n a b; simp only [List.mem_cons] at *; rw [this]; grind
    · rw [uni_gt a b h]; have := mem_uni n (x :: a) b; simp only [List.mem_cons] at *; rw [this]; grind
termination_by a b => a.length + b.length
theorem uni_comm : ∀ a b : List Int, uni a b = uni b a
  | [], b => by rw [uni_nil_left, uni_nil_right]
  | x :: a, [] => by rw [uni_nil_left, uni_nil_right]
  | x :: a, y :: b => by
    rcases Int.lt_trichotomy x y with h | h | h
    · rw [uni_lt a b h, uni_gt b a h, uni_comm a (y :: b)]
    · rw [uni_eq a b h, uni_eq b a h.symm, uni_comm a b, h]
    · rw [uni_gt a b h, uni_lt b a h, uni_comm (x :: a) b]
termination_by a b => a.length + b.length
theorem uni_self : ∀ a : List Int, uni a a = a
  | [] => uni_nil_left []
  | x :: a => by rw [uni_eq a a rfl, uni_self a]
theorem uni_pw : ∀ a b : List Int, a.Pairwise (· < ·) → b.Pairwise (· < ·) → (uni a b).Pairwise (· < ·)
  | [], b, _, hb => by rw [uni_nil_left]; exact hb
  | x :: a, [], ha, _ => by rw [uni_nil_right]; exact ha
  | x :: a, y :: b, ha, hb => by
    have ha' := List.pairwise_cons.1 ha
    have hb' := List.pairwise_cons.1 hb
    rcases Int.lt_trichotomy x y with h | h | h
    · rw [uni_lt a b h, List.pairwise_cons]
      refine ⟨fun n hn => ?_, uni_pw a (y :: b) ha'.2 hb⟩
      rcases (mem_uni n a (y :: b)).1 hn with h1 | h1
      · exact ha'.1 n h1
      · rcases List.mem_cons.1 h1 with rfl | h2
        · exact h
        · have := hb'.1 n h2; omega
    · rw [uni_eq a b h, List.pairwise_cons]
      refine ⟨fun n hn => ?_, uni_pw a b ha'.2 hb'.2⟩
      rcases (mem_uni n a b).1 hn with h1 | h1
      · exact ha'.1 n h1
      · have := hb'.1 n h1; omega
    · rw [uni_gt a b h, List.pairwise_cons]
      refine ⟨fun n hn => ?_, uni_pw (x :: a) b ha hb'.2⟩
      rcases (mem_uni n (x :: a) b).1 hn with h1 | h1
      · rcases List.mem_cons.1 h1 with rfl | h2
        · exact h
        · have := ha'.1 n h2; omega
      · exact hb'.1 n h1
termination_by a b => a.length + b.length
theorem uni_ris {a b : List Int} (ha : ris a = true) (hb : ris b = true) : ris (uni a b) = true := by
  rw [ris_iff] at *
  refine ⟨uni_pw a b ha.1 hb.1, fun n hn => ?_⟩
  rcases (mem_uni n a b).1 hn with h | h
  · exact ha.2 n h
  · exact hb.2 n h

/-- The cell of a person and an item. -/
def mcell (ps is : List Int) (cs : List (List Int)) (p i : Int) : Option Int :=
  match fidx ps p, fidx is i with
  | some a, some b => some ((cs.getD a []).getD b 0)
  | _, _ => none
/-- Two matrices have different cells at a person and an item of both. -/
def conf (pa ia : List Int) (ca : List (List Int)) (pb ib : List Int) (cb : List (List Int)) : Bool :=
  !decide (∀ p, p < pa.length → ∀ i, i < ia.length → (mcell pb ib cb (pa.getD p 0) (ia.getD i 0)).all (fun y => y == (ca.getD p []).getD i 0) = true)
theorem mcell_some {ps is : List Int} {cs : List (List Int)} {p i : Int} {x : Int} (h : mcell ps is cs p i = some x) : ∃ a b, fidx ps p = some a ∧ fidx is i = some b ∧ x = (cs.getD a []).getD b 0 := by
  unfold mcell at h
  split at h
  · rename_i a b h1 h2
    exact ⟨a, b, h1, h2, by injection h with h; exact h.symm⟩
  · cases h
theorem mcell_ris {ps is : List Int} {cs : List (List Int)} (hp : ris ps = true) (hi : ris is = true) {a b : Nat} (ha : a < ps.length) (hb : b < is.length) : mcell ps is cs (ps.getD a 0) (is.getD b 0) = some ((cs.getD a []).getD b 0) := by
  unfold mcell; rw [fidx_ris hp ha, fidx_ris hi hb]
section
variable {pa ia : List Int} {ca : List (List Int)} {pb ib : List Int} {cb : List (List Int)}
theorem conf_yes {p i : Nat} {y : Int} (hp : p < pa.length) (hi : i < ia.length) (h : mcell pb ib cb (pa.getD p 0) (ia.getD i 0) = some y) (hy : y ≠ (ca.getD p []).getD i 0) : conf pa ia ca pb ib cb = true := by
  unfold conf
  simp only [Bool.not_eq_true', decide_eq_false_iff_not]
  intro H
  have := H p hp i hi
  rw [h] at this
  simp only [Option.all_some, beq_iff_eq] at this
  exact hy this
theorem conf_no (H : ∀ p, p < pa.length → ∀ i, i < ia.length → ∀ y, mcell pb ib cb (pa.getD p 0) (ia.getD i 0) = some y → y = (ca.getD p []).getD i 0) : conf pa ia ca pb ib cb = false := by
  unfold conf
  simp only [Bool.not_eq_false', decide_eq_true_eq]
  intro p hp i hi
  cases h : mcell pb ib cb (pa.getD p 0) (ia.getD i 0) with
  | none => rfl
  | some y => simp only [Option.all_some, beq_iff_eq]; exact H p hp i hi y h
theorem conf_at (h : conf pa ia ca pb ib cb = false) : ∀ p, p < pa.length → ∀ i, i < ia.length → ∀ y, mcell pb ib cb (pa.getD p 0) (ia.getD i 0) = some y → y = (ca.getD p []).getD i 0 := by
  unfold conf at h
  simp only [Bool.not_eq_false', decide_eq_true_eq] at h
  intro p hp i hi y hy
  have := h p hp i hi
  rw [hy] at this
  simpa using this
/-- No conflict: the two cells of any person and item are the same. -/
theorem conf_same (h : conf pa ia ca pb ib cb = false) {p i x y : Int} (hx : mcell pa ia ca p i = some x) (hy : mcell pb ib cb p i = some y) : x = y := by
  obtain ⟨a, b, h1, h2, rfl⟩ := mcell_some hx
  obtain ⟨a1, a2, _⟩ := fidx_lt h1
  obtain ⟨b1, b2, _⟩ := fidx_lt h2
  exact (conf_at h a a1 b b1 y (by rw [a2, b2]; exact hy)).symm
theorem conf_comm (ha : ris pa = true) (ia' : ris ia = true) (hb : ris pb = true) (ib' : ris ib = true) : conf pa ia ca pb ib cb = conf pb ib cb pa ia ca := by
  have key : ∀ {pa ia : List Int} {ca : List (List Int)} {pb ib : List Int} {cb : List (List Int)}, ris pb = true → ris ib = true → conf pa ia ca pb ib cb = false → conf pb ib cb pa ia ca = false := by
    intro pa ia ca pb ib cb hb ib' h
    refine conf_no fun p hp i hi y hy => ?_
    exact conf_same h hy (mcell_ris hb ib' hp hi)
  cases h : conf pa ia ca pb ib cb
  · exact (key hb ib' h).symm
  · cases h2 : conf pb ib cb pa ia ca
    · rw [key ha ia' h2] at h; cases h
    · rfl
end
/-- The first error of Merge, and the merged cells. -/
def merE (pa ia : List Int) (ca : List (List Int)) (pb ib : List Int) (cb : List (List Int)) : Int :=
  if shp pa ia ca = false ∨ shp pb ib cb = false then 1 else if ris pa = false ∨ ris ia = false ∨ ris pb = false ∨ ris ib = false then 23 else
    if conf pa ia ca pb ib cb = true then 11 else if 200 < (uni pa pb).length ∨ 60 < (uni ia ib).length then 5 else 0
def mer1 (pa ia : List Int) (ca : List (List Int)) (pb ib : List Int) (cb : List (List Int)) (p i : Int) : Int :=
  match mcell pa ia ca p i with
  | some x => x
  | none => (mcell pb ib cb p i).getD (-1)
def merC (pa ia : List Int) (ca : List (List Int)) (pb ib : List Int) (cb : List (List Int)) : List (List Int) :=
  (uni pa pb).map fun p => (uni ia ib).map fun i => mer1 pa ia ca pb ib cb p i
end Go.Proofs.Ytgdngopemlajjaa
