/- Plain lists and numbers: a round of the long division, its start and its end. No condition. -/
import Derived.Test.YtdmjgildgjpmcaaDoorKnz
namespace Go.Proofs.YtdmjgildgjpmcaaDoor
set_option linter.unusedVariables false

theorem part_split (R : List Nat) (j n : Nat) : (R.take j ++ (R.drop j).take n) ++ R.drop (j + n) = R := by
  rw [List.append_assoc, ← List.drop_drop, List.take_append_drop, List.take_append_drop]

theorem dl_start {a V m n s : Nat} (ha : a < bp (m + n + 2)) (hs : s < 32) (hV : 2147483648 * bp (n + 1) ≤ V) : 2 ^ s * a < bp (m + 1) * V := by
  have h1 : 2 ^ s ≤ 2 ^ 31 := Nat.pow_le_pow_right (by omega) (by omega)
  have h2 : 2 ^ s * a < 2 ^ s * bp (m + n + 2) := Nat.mul_lt_mul_of_pos_left ha (Nat.pow_pos (by omega))
  have h3 : 2 ^ s * bp (m + n + 2) ≤ 2 ^ 31 * bp (m + n + 2) := Nat.mul_le_mul_right _ h1
  have h4 : bp (m + n + 2) = bp (m + 1) * bp (n + 1) := by rw [← bp_add]; congr 1; omega
  have h5 : bp (m + 1) * (2147483648 * bp (n + 1)) ≤ bp (m + 1) * V := Nat.mul_le_mul_left _ hV
  have h6 : bp (m + 1) * (2147483648 * bp (n + 1)) = 2 ^ 31 * (bp (m + 1) * bp (n + 1)) := by
    rw [Nat.mul_left_comm]
  rw [h4] at h2 h3
  omega

theorem dl_part {pre ps post : List Nat} {V n j : Nat} (hpre : pre.length = j) (hps : ps.length = n + 3) (hV : V < bp (n + 2)) (h : val (pre ++ ps ++ post) < bp (j + 1) * V) :
    val post = 0 ∧ val ps < 4294967296 * V := by
  have e : val (pre ++ ps ++ post) = val pre + bp j * val ps + bp (j + (n + 3)) * val post := by
    rw [val_append, val_append, List.length_append, hpre, hps]
  rw [e] at h
  have h0 : val post = 0 := by
    rcases Nat.eq_zero_or_pos (val post) with h0 | h0
    · exact h0
    · exfalso
      have h1 : bp (j + 1) * V < bp (j + 1) * bp (n + 2) := Nat.mul_lt_mul_of_pos_left hV (bp_pos _)
      rw [← bp_add, show j + 1 + (n + 2) = j + (n + 3) by omega] at h1
      have h2 : bp (j + (n + 3)) * 1 ≤ bp (j + (n + 3)) * val post := Nat.mul_le_mul_left _ h0
      omega
  refine ⟨h0, ?_⟩
  rw [h0, Nat.mul_zero, bp_succ, Nat.mul_assoc] at h
  exact Nat.lt_of_mul_lt_mul_left (a := bp j) (by omega)

theorem dl_step {pre ps post ps' Q : List Nat} {V n j r0 : Nat} (hpre : pre.length = j) (hps : ps.length = n + 3) (hps' : ps'.length = n + 3) (hall : AllB pre) (hpost : val post = 0) (hV : 0 < V)
    (h : r0 = val (pre ++ ps ++ post) + bp (j + 1) * (val Q * V)) (hp : val ps' = val ps % V) :
    r0 = val (pre ++ ps' ++ post) + bp j * (val (val ps / V :: Q) * V) ∧ val (pre ++ ps' ++ post) < bp j * V := by
  have e : val (pre ++ ps ++ post) = val pre + bp j * val ps := by
    rw [val_append, val_append, List.length_append, hpre, hps, hpost, Nat.mul_zero, Nat.add_zero]
  have e' : val (pre ++ ps' ++ post) = val pre + bp j * val ps' := by
    rw [val_append, val_append, List.length_append, hpre, hps', hpost, Nat.mul_zero, Nat.add_zero]
  rw [e'] 
  rw [e] at h
  rw [hp]
  have d := Nat.div_add_mod (val ps) V
  have hm := Nat.mod_lt (val ps) hV
  have hl := val_lt hall
  rw [hpre] at hl
  constructor
  · rw [h, bp_succ]
    show _ = _ + bp j * ((val ps / V + 4294967296 * val Q) * V)
    generalize val ps / V = q at *
    generalize val ps % V = r at *
    rw [← d]
    grind
  · have : bp j * (val ps % V + 1) ≤ bp j * V := Nat.mul_le_mul_left _ hm
    rw [Nat.mul_add] at this
    omega

theorem dl_end {a b r q P : Nat} (hP : 0 < P) (hb : 0 < b) (h : P * a = r + q * (P * b)) (hr : r < P * b) : q = a / b ∧ r / P = a % b := by
  have h1 : r = P * (a - q * b) := by
    rw [Nat.mul_sub, h]
    have : q * (P * b) = P * (q * b) := by rw [Nat.mul_left_comm]
    omega
  have h2 : q * b ≤ a := by
    have : P * (q * b) ≤ P * a := by rw [h, Nat.mul_left_comm P q b]; omega
    exact Nat.le_of_mul_le_mul_left this hP
  have h3 : a - q * b < b := by
    rw [h1] at hr
    exact Nat.lt_of_mul_lt_mul_left hr
  have h4 : a = b * q + (a - q * b) := by rw [Nat.mul_comm b q]; omega
  have h5 : a / b = q := by
    rw [h4, Nat.mul_add_div hb, Nat.div_eq_of_lt h3]; omega
  have h6 : a % b = a - q * b := by
    conv => lhs; rw [h4]
    rw [Nat.mul_add_mod, Nat.mod_eq_of_lt h3]
  exact ⟨h5.symm, by rw [h1, Nat.mul_div_cancel_left _ hP, h6]⟩

theorem dl_take {R : List Nat} {V n : Nat} (h : val R < V) (hV : V < bp n) (hn : n ≤ R.length) : val (R.take n) = val R := by
  have e := val_drop_take R n hn
  rcases Nat.eq_zero_or_pos (val (R.drop n)) with h0 | h0
  · rw [h0] at e; omega
  · have : bp n * 1 ≤ bp n * val (R.drop n) := Nat.mul_le_mul_left _ h0
    omega

/-- The shifted divisor. -/
theorem dl_div {dv ds : List Nat} {n s : Nat} (hl : dv.length = n + 2) (hd : AllB dv) (hls : ds.length = n + 3) (hds : AllB ds) (hv : val ds = 2 ^ s * val dv) (hs : s < 32) (h1 : 2147483648 ≤ dv.getD (n + 1) 0 * 2 ^ s) (h2 : dv.getD (n + 1) 0 * 2 ^ s < 4294967296) :
    val (ds.take (n + 2)) = 2 ^ s * val dv ∧ 2 ^ s * val dv < bp (n + 2) ∧ 2147483648 * bp (n + 1) ≤ 2 ^ s * val dv ∧ 2147483648 ≤ (ds.take (n + 2)).getD (n + 1) 0 := by
  have e := val_take_succ dv (n + 1)
  rw [show n + 1 + 1 = dv.length by omega, List.take_length] at e
  have hlow : val (dv.take (n + 1)) < bp (n + 1) := by
    have := val_lt (hd.take (n + 1))
    rwa [List.length_take, Nat.min_eq_left (by omega)] at this
  generalize dv.getD (n + 1) 0 = t at *
  generalize val (dv.take (n + 1)) = lo at *
  have hP : 0 < 2 ^ s := Nat.pow_pos (by omega)
  have hPk : ∃ k, 2 ^ s * k = 4294967296 := ⟨2 ^ (32 - s), by rw [Nat.mul_comm]; exact two_split hs⟩
  generalize 2 ^ s = P at *
  have e1 : P * val dv = P * lo + bp (n + 1) * (t * P) := by rw [e]; grind
  have h3 : bp (n + 1) * 2147483648 ≤ bp (n + 1) * (t * P) := Nat.mul_le_mul_left _ h1
  have hQ : P * val dv < bp (n + 2) := by
    have h4 : t * P + P ≤ 4294967296 := by
      obtain ⟨k, hk⟩ := hPk
      have : t < k := by
        rcases Nat.lt_or_ge t k with h | h
        · exact h
        · have : k * P ≤ t * P := Nat.mul_le_mul_right _ h
          rw [Nat.mul_comm] at hk; omega
      have : (t + 1) * P ≤ k * P := Nat.mul_le_mul_right _ this
      rw [Nat.add_mul, Nat.one_mul, Nat.mul_comm k, hk] at this
      exact this
    have h5 : P * lo + P ≤ P * bp (n + 1) := by
      have : P * (lo + 1) ≤ P * bp (n + 1) := Nat.mul_le_mul_left _ hlow
      rwa [Nat.mul_add, Nat.mul_one] at this
    have h6 : bp (n + 1) * (t * P + P) ≤ bp (n + 1) * 4294967296 := Nat.mul_le_mul_left _ h4
    rw [show n + 2 = n + 1 + 1 from rfl, bp_succ]
    rw [Nat.mul_add, Nat.mul_comm (bp (n + 1)) P] at h6
    omega
  have h7 : val (ds.take (n + 2)) = P * val dv := by
    have e2 := val_drop_take ds (n + 2) (by omega)
    rcases Nat.eq_zero_or_pos (val (ds.drop (n + 2))) with h0 | h0
    · rw [h0] at e2; omega
    · have : bp (n + 2) * 1 ≤ bp (n + 2) * val (ds.drop (n + 2)) := Nat.mul_le_mul_left _ h0
      omega
  refine ⟨h7, hQ, by rw [Nat.mul_comm]; omega, ?_⟩
  have e3 := val_take_succ (ds.take (n + 2)) (n + 1)
  rw [List.take_of_length_le (by rw [List.length_take]; omega), h7] at e3
  have h8 := val_lt ((hds.take (n + 2)).take (n + 1))
  rw [List.length_take, List.length_take, Nat.min_eq_left (by omega)] at h8
  rcases Nat.lt_or_ge ((ds.take (n + 2)).getD (n + 1) 0) 2147483648 with h9 | h9
  · exfalso
    have : bp (n + 1) * ((ds.take (n + 2)).getD (n + 1) 0 + 1) ≤ bp (n + 1) * 2147483648 := Nat.mul_le_mul_left _ h9
    rw [Nat.mul_add] at this
    omega
  · exact h9
end Go.Proofs.YtdmjgildgjpmcaaDoor
