/- Plain facts on natural numbers as lists of limbs (base 4294967296, the low limb first). No condition. -/
import Derived.RowKit
namespace Go.Proofs.YtoihjclkocffhaaDoor

def val : List Nat → Nat
  | [] => 0
  | x :: xs => x + 4294967296 * val xs
def AllB (l : List Nat) : Prop := ∀ x ∈ l, x < 4294967296
/-- No high zero limb. -/
def NoTop (l : List Nat) : Prop := l = [] ∨ ∃ m x, l = m ++ [x] ∧ 0 < x
def bp (k : Nat) : Nat := 4294967296 ^ k
theorem bp_zero : bp 0 = 1 := rfl
theorem bp_succ (k : Nat) : bp (k + 1) = bp k * 4294967296 := Nat.pow_succ ..
theorem bp_pos (k : Nat) : 0 < bp k := Nat.pow_pos (by omega)
theorem bp_add (i j : Nat) : bp (i + j) = bp i * bp j := Nat.pow_add ..
theorem bp_mono {i j : Nat} (h : i ≤ j) : bp i ≤ bp j := Nat.pow_le_pow_right (by omega) h
theorem bp_one : bp 1 = 4294967296 := rfl

theorem AllB.nil : AllB [] := fun _ h => by simp at h
theorem AllB.cons {x : Nat} {l : List Nat} (hx : x < 4294967296) (h : AllB l) : AllB (x :: l) := fun y hy => by
  rcases List.mem_cons.1 hy with rfl | h'
  · exact hx
  · exact h y h'
theorem AllB.head {x : Nat} {l : List Nat} (h : AllB (x :: l)) : x < 4294967296 := h x (by simp)
theorem AllB.tail {x : Nat} {l : List Nat} (h : AllB (x :: l)) : AllB l := fun y hy => h y (by simp [hy])
theorem AllB.append {l m : List Nat} (h : AllB l) (h' : AllB m) : AllB (l ++ m) := fun y hy => by
  rcases List.mem_append.1 hy with h1 | h1
  · exact h y h1
  · exact h' y h1
theorem AllB.left {l m : List Nat} (h : AllB (l ++ m)) : AllB l := fun y hy => h y (by simp [hy])
theorem AllB.right {l m : List Nat} (h : AllB (l ++ m)) : AllB m := fun y hy => h y (by simp [hy])
theorem AllB.snoc {l : List Nat} {x : Nat} (h : AllB l) (hx : x < 4294967296) : AllB (l ++ [x]) := h.append (AllB.cons hx AllB.nil)
theorem AllB.take {l : List Nat} (h : AllB l) (k : Nat) : AllB (l.take k) := fun y hy => h y (List.mem_of_mem_take hy)
theorem AllB.drop {l : List Nat} (h : AllB l) (k : Nat) : AllB (l.drop k) := fun y hy => h y (List.mem_of_mem_drop hy)
theorem AllB.zeros (n : Nat) : AllB (List.replicate n 0) := fun y hy => by rw [List.mem_replicate] at hy; omega
theorem AllB.getD {l : List Nat} (h : AllB l) (k : Nat) : l.getD k 0 < 4294967296 := by
  rw [List.getD_eq_getElem?_getD]
  rcases Nat.lt_or_ge k l.length with hk | hk
  · rw [List.getElem?_eq_getElem hk]; exact h _ (List.getElem_mem hk)
  · rw [List.getElem?_eq_none hk]; simp
theorem AllB.set {l : List Nat} (h : AllB l) (k : Nat) {x : Nat} (hx : x < 4294967296) : AllB (l.set k x) := fun y hy => by
  rcases List.mem_or_eq_of_mem_set hy with h1 | h1
  · exact h y h1
  · omega

theorem val_append (l m : List Nat) : val (l ++ m) = val l + bp l.length * val m := by
  induction l with
  | nil => simp [val, bp_zero]
  | cons x l ih => simp only [List.cons_append, val, ih, List.length_cons, bp_succ]; grind
theorem val_snoc (l : List Nat) (x : Nat) : val (l ++ [x]) = val l + bp l.length * x := by
  rw [val_append]; simp [val]
theorem val_zeros (n : Nat) : val (List.replicate n 0) = 0 := by
  induction n with
  | zero => rfl
  | succ n ih => rw [List.replicate_succ, val, ih]
theorem val_pad (l : List Nat) (n : Nat) : val (l ++ List.replicate n 0) = val l := by
  rw [val_append, val_zeros]; simp
theorem val_take_succ (l : List Nat) (k : Nat) : val (l.take (k + 1)) = val (l.take k) + bp k * l.getD k 0 := by
  rcases Nat.lt_or_ge k l.length with hk | hk
  · rw [List.take_succ_eq_append_getElem hk, val_snoc, List.length_take, Nat.min_eq_left (by omega), List.getD_eq_getElem?_getD, List.getElem?_eq_getElem hk]
    rfl
  · rw [List.take_of_length_le (by omega), List.take_of_length_le hk, List.getD_eq_getElem?_getD, List.getElem?_eq_none hk]
    simp
theorem val_take_all (l : List Nat) {k : Nat} (h : l.length ≤ k) : val (l.take k) = val l := by rw [List.take_of_length_le h]
theorem val_lt {l : List Nat} (h : AllB l) : val l < bp l.length := by
  induction l with
  | nil => simp [val, bp_zero]
  | cons x l ih =>
    have := ih h.tail
    have hx := h.head
    rw [val, List.length_cons, bp_succ]
    have : val l + 1 ≤ bp l.length := this
    have := Nat.mul_le_mul_right 4294967296 this
    grind
theorem val_drop_take (l : List Nat) (k : Nat) (h : k ≤ l.length) : val l = val (l.take k) + bp k * val (l.drop k) := by
  have := val_append (l.take k) (l.drop k)
  rw [List.take_append_drop, List.length_take, Nat.min_eq_left h] at this
  exact this

theorem NoTop.snoc {l : List Nat} {x : Nat} (h : NoTop (l ++ [x])) : 0 < x := by
  rcases h with h | ⟨m, y, e, hy⟩
  · simp at h
  · have := congrArg List.getLast? e
    simp at this
    omega
theorem noTop_snoc (l : List Nat) {x : Nat} (h : 0 < x) : NoTop (l ++ [x]) := .inr ⟨l, x, rfl, h⟩
theorem NoTop.ge {l : List Nat} (h : NoTop l) (hn : 0 < l.length) : bp (l.length - 1) ≤ val l := by
  rcases h with rfl | ⟨m, x, rfl, hx⟩
  · simp at hn
  · rw [val_snoc]
    simp
    have := Nat.mul_le_mul_left (bp m.length) hx
    omega
theorem NoTop.zero {l : List Nat} (h : NoTop l) (hv : val l = 0) : l = [] := by
  rcases h with rfl | ⟨m, x, rfl, hx⟩
  · rfl
  · rw [val_snoc] at hv
    have := bp_pos m.length
    have := Nat.mul_pos this hx
    omega
/-- The length of a normal number is fixed by its value. -/
theorem norm_length {l m : List Nat} (hl : AllB l) (hm : AllB m) (h1 : NoTop l) (h2 : NoTop m) (hv : val l = val m) : l.length = m.length := by
  rcases Nat.lt_trichotomy l.length m.length with h | h | h
  · have a := val_lt hl
    have b := h2.ge (by omega)
    have := bp_mono (show l.length ≤ m.length - 1 by omega)
    omega
  · exact h
  · have a := val_lt hm
    have b := h1.ge (by omega)
    have := bp_mono (show m.length ≤ l.length - 1 by omega)
    omega
theorem val_inj : ∀ {l m : List Nat}, AllB l → AllB m → l.length = m.length → val l = val m → l = m
  | [], [], _, _, _, _ => rfl
  | [], _ :: _, _, _, h, _ => by simp at h
  | _ :: _, [], _, _, h, _ => by simp at h
  | x :: l, y :: m, hl, hm, h, hv => by
    have hx := hl.head
    have hy := hm.head
    simp only [val] at hv
    have e1 : x = y := by omega
    have e2 : val l = val m := by omega
    rw [e1, val_inj hl.tail hm.tail (by simpa using h) e2]
/-- A normal number is fixed by its value. -/
theorem norm_inj {l m : List Nat} (hl : AllB l) (hm : AllB m) (h1 : NoTop l) (h2 : NoTop m) (hv : val l = val m) : l = m :=
  val_inj hl hm (norm_length hl hm h1 h2 hv) hv

/-- Without the high zero limbs. -/
def strip : List Nat → List Nat
  | [] => []
  | x :: l => match strip l with
    | [] => if x = 0 then [] else [x]
    | y :: r => x :: y :: r
theorem strip_cons (x : Nat) (l : List Nat) : strip (x :: l) = if strip l = [] then (if x = 0 then [] else [x]) else x :: strip l := by
  rw [strip]
  split
  · rename_i h; simp [h]
  · rename_i y r h; simp [h]
theorem strip_pad (l : List Nat) : ∃ n, l = strip l ++ List.replicate n 0 := by
  induction l with
  | nil => exact ⟨0, rfl⟩
  | cons x l ih =>
    obtain ⟨n, hn⟩ := ih
    rw [strip_cons]
    split
    · rename_i h
      rw [h] at hn
      split
      · rename_i hx; subst hx; exact ⟨n + 1, by rw [hn]; simp [List.replicate_succ]⟩
      · exact ⟨n, by rw [hn]; simp⟩
    · exact ⟨n, by rw [List.cons_append, ← hn]⟩
theorem strip_val (l : List Nat) : val (strip l) = val l := by
  obtain ⟨n, hn⟩ := strip_pad l
  conv => rhs; rw [hn, val_pad]
theorem strip_len (l : List Nat) : (strip l).length ≤ l.length := by
  obtain ⟨n, hn⟩ := strip_pad l
  have := congrArg List.length hn
  simp at this
  omega
theorem strip_take (l : List Nat) : l.take (strip l).length = strip l := by
  obtain ⟨n, hn⟩ := strip_pad l
  generalize strip l = r at *
  subst hn
  simp
theorem strip_all {l : List Nat} (h : AllB l) : AllB (strip l) := by rw [← strip_take]; exact h.take _
theorem strip_noTop (l : List Nat) : NoTop (strip l) := by
  induction l with
  | nil => exact .inl rfl
  | cons x l ih =>
    rw [strip_cons]
    split
    · split
      · exact .inl rfl
      · exact .inr ⟨[], x, rfl, by omega⟩
    · rename_i h
      rcases ih with ih | ⟨m, y, e, hy⟩
      · exact absurd ih h
      · exact .inr ⟨x :: m, y, by rw [e]; rfl, hy⟩
theorem strip_snoc_zero (l : List Nat) : strip (l ++ [0]) = strip l := by
  induction l with
  | nil => rfl
  | cons x l ih => rw [List.cons_append, strip_cons, strip_cons, ih]
theorem strip_snoc_pos (l : List Nat) {x : Nat} (h : 0 < x) : strip (l ++ [x]) = l ++ [x] := by
  induction l with
  | nil => rw [List.nil_append, strip_cons, strip, if_pos rfl, if_neg (by omega)]
  | cons y l ih => rw [List.cons_append, strip_cons, ih, if_neg (by simp)]
theorem strip_of_noTop {l : List Nat} (h : NoTop l) : strip l = l := by
  rcases h with rfl | ⟨m, x, rfl, hx⟩
  · rfl
  · exact strip_snoc_pos m hx
theorem strip_nil_of_zero {l : List Nat} (h : val l = 0) : strip l = [] := (strip_noTop l).zero (by rw [strip_val]; exact h)
theorem strip_ne_nil {l : List Nat} (h : 0 < val l) : 0 < (strip l).length := by
  rcases Nat.eq_zero_or_pos (strip l).length with h0 | h0
  · have := List.eq_nil_of_length_eq_zero h0
    have e := strip_val l
    rw [this] at e
    simp [val] at e
    omega
  · exact h0
theorem strip_take_len {l : List Nat} {k : Nat} (h : strip l = strip (l.take k)) (hk : k ≤ l.length) (h0 : k = 0 ∨ 0 < l.getD (k - 1) 0) : (strip l).length = k := by
  rcases Nat.eq_zero_or_pos k with rfl | hp
  · rw [h]; rfl
  · rcases h0 with h0 | h0
    · omega
    · have e : l.take k = l.take (k - 1) ++ [l.getD (k - 1) 0] := by
        conv => lhs; rw [show k = (k - 1) + 1 by omega]
        rw [List.take_succ_eq_append_getElem (by omega), List.getD_eq_getElem?_getD, List.getElem?_eq_getElem (by omega)]
        rfl
      rw [h, e, strip_snoc_pos _ h0]
      simp; omega
theorem strip_take_step {l : List Nat} {k : Nat} (hk : k < l.length) (h0 : l.getD k 0 = 0) : strip (l.take (k + 1)) = strip (l.take k) := by
  rw [List.take_succ_eq_append_getElem hk]
  rw [List.getD_eq_getElem?_getD, List.getElem?_eq_getElem hk] at h0
  simp at h0
  rw [h0, strip_snoc_zero]
end Go.Proofs.YtoihjclkocffhaaDoor
