/- Plain law: probabilities add up to 1, and bound the expected score. Plain law: collapsing adds weights and keeps expected scores. -/
import Derived.Test.YtompckomogmhiaaDoorMoPl
import Derived.Test.YtompckomogmhiaaDoorRatG
namespace Go.Proofs.YtompckomogmhiaaDoor
open Go.RowKit
set_option linter.unusedVariables false

/-- The first k weights. -/
def sumTo (r : List Int) : Nat → Int
  | 0 => 0
  | k + 1 => sumTo r k + r.getD k 0
theorem sumTo_sfx (r : List Int) : ∀ k, k ≤ r.length → sumTo r k + sfx r k = r.sum
  | 0, _ => by simp [sumTo, sfx]
  | k + 1, h => by
    have := sumTo_sfx r k (by omega)
    rw [sfx_step (by omega)] at this
    rw [sumTo]; omega
theorem sumTo_all {r : List Int} {n : Nat} (h : r.length = n) : sumTo r n = r.sum := by
  have := sumTo_sfx r n (by omega)
  rw [sfx_end (by omega)] at this
  omega
theorem sumTo_bd {r : List Int} (h : ∀ x ∈ r, 1 ≤ x ∧ x ≤ 1000) : ∀ k, k ≤ r.length → 0 ≤ sumTo r k ∧ sumTo r k ≤ 1000 * (k : Int)
  | 0, _ => by simp [sumTo]
  | k + 1, hk => by
    have a := sumTo_bd h k (by omega)
    have b := h _ (mem_getD 0 (show k < r.length by omega))
    rw [sumTo]; omega
theorem red_same (p : Int) (q : Nat) : p * (redQ p q : Int) = redP p q * (q : Int) := by
  obtain ⟨h1, h2⟩ := red_mul p q
  generalize hg : Nat.gcd p.natAbs q = g at h1 h2
  have e : (q : Int) = (redQ p q : Int) * (g : Int) := by rw [← Int.natCast_mul, ← h2]
  calc p * (redQ p q : Int) = redP p q * (g : Int) * (redQ p q : Int) := by rw [← h1]
    _ = redP p q * ((redQ p q : Int) * (g : Int)) := by rw [Int.mul_assoc, Int.mul_comm (g : Int)]
    _ = redP p q * (q : Int) := by rw [← e]
theorem redQ_le (p : Int) {q : Nat} : redQ p q ≤ q := Nat.div_le_self _ _
/-- Two fractions over one denominator. -/
theorem red_add (a b : Int) {q : Nat} (hq : 0 < q) : redP (redP a q * (redQ b q : Int) + redP b q * (redQ a q : Int)) (redQ a q * redQ b q) = redP (a + b) q ∧ redQ (redP a q * (redQ b q : Int) + redP b q * (redQ a q : Int)) (redQ a q * redQ b q) = redQ (a + b) q := by
  refine red_cross (Nat.mul_pos (redQ_pos hq) (redQ_pos hq)) hq ?_
  have h1 := red_same a q
  have h2 := red_same b q
  rw [Int.natCast_mul]
  generalize redP a q = pa at *
  generalize redP b q = pb at *
  generalize (redQ a q : Int) = qa at *
  generalize (redQ b q : Int) = qb at *
  generalize (q : Int) = Q at *
  grind
theorem redP_le {p : Int} {q : Nat} (hq : 0 < q) : (redP p q).natAbs ≤ p.natAbs := by rw [redP_abs]; exact Nat.div_le_self _ _
/-- Comparing with a whole number. -/
theorem cmp_lo {a p : Int} {q : Nat} (hq : 0 < q) (h : a * (q : Int) ≤ p) : a * (redQ p q : Int) ≤ redP p q := by
  have h1 := red_same p q
  have h2 : (0 : Int) < (redQ p q : Int) := by have := redQ_pos (p := p) hq; omega
  have h3 : (0 : Int) < (q : Int) := by omega
  generalize redP p q = P at *
  generalize (redQ p q : Int) = K at *
  generalize (q : Int) = Q at *
  have h4 : a * Q * K ≤ p * K := Int.mul_le_mul_of_nonneg_right h (by omega)
  have h5 : a * K * Q ≤ P * Q := by rw [← h1, Int.mul_assoc, Int.mul_comm K Q, ← Int.mul_assoc]; exact h4
  exact Int.le_of_mul_le_mul_right h5 h3
theorem cmp_hi {a p : Int} {q : Nat} (hq : 0 < q) (h : p ≤ a * (q : Int)) : redP p q ≤ a * (redQ p q : Int) := by
  have h1 := red_same p q
  have h2 : (0 : Int) < (redQ p q : Int) := by have := redQ_pos (p := p) hq; omega
  have h3 : (0 : Int) < (q : Int) := by omega
  generalize redP p q = P at *
  generalize (redQ p q : Int) = K at *
  generalize (q : Int) = Q at *
  have h4 : p * K ≤ a * Q * K := Int.mul_le_mul_of_nonneg_right h (by omega)
  have h5 : P * Q ≤ a * K * Q := by rw [← h1, Int.mul_assoc a, Int.mul_comm K Q, ← Int.mul_assoc]; exact h4
  exact Int.le_of_mul_le_mul_right h5 h3
theorem expS_lo {r sc : List Int} {lo : Int} (h : ∀ x ∈ r, 1 ≤ x ∧ x ≤ 1000) (hs : ∀ j, j < sc.length → lo ≤ sc.getD j 0) : ∀ k, k ≤ r.length → k ≤ sc.length → lo * sumTo r k ≤ expS r sc k
  | 0, _, _ => by simp [sumTo, expS]
  | k + 1, a, b => by
    have c := expS_lo h hs k (by omega) (by omega)
    have d := h _ (mem_getD 0 (show k < r.length by omega))
    have e := hs k (by omega)
    have f : r.getD k 0 * lo ≤ r.getD k 0 * sc.getD k 0 := Int.mul_le_mul_of_nonneg_left e (by omega)
    rw [sumTo, expS, Int.mul_add, Int.mul_comm lo (r.getD k 0)]
    omega
theorem expS_hi {r sc : List Int} {hi : Int} (h : ∀ x ∈ r, 1 ≤ x ∧ x ≤ 1000) (hs : ∀ j, j < sc.length → sc.getD j 0 ≤ hi) : ∀ k, k ≤ r.length → k ≤ sc.length → expS r sc k ≤ hi * sumTo r k
  | 0, _, _ => by simp [sumTo, expS]
  | k + 1, a, b => by
    have c := expS_hi h hs k (by omega) (by omega)
    have d := h _ (mem_getD 0 (show k < r.length by omega))
    have e := hs k (by omega)
    have f : r.getD k 0 * sc.getD k 0 ≤ r.getD k 0 * hi := Int.mul_le_mul_of_nonneg_left e (by omega)
    rw [sumTo, expS, Int.mul_add, Int.mul_comm hi (r.getD k 0)]
    omega
/-- The least and the greatest of the first k + 1 scores. -/
def minTo (sc : List Int) : Nat → Int
  | 0 => sc.getD 0 0
  | k + 1 => if sc.getD k 0 < minTo sc k then sc.getD k 0 else minTo sc k
def maxTo (sc : List Int) : Nat → Int
  | 0 => sc.getD 0 0
  | k + 1 => if maxTo sc k < sc.getD k 0 then sc.getD k 0 else maxTo sc k
theorem minTo_le (sc : List Int) : ∀ k j, j < k → minTo sc k ≤ sc.getD j 0
  | k + 1, j, h => by
    have := minTo_le sc k j
    rw [minTo]
    rcases Nat.lt_succ_iff_lt_or_eq.1 h with h1 | h1
    · have := this h1; split <;> omega
    · subst h1; split <;> omega
theorem le_maxTo (sc : List Int) : ∀ k j, j < k → sc.getD j 0 ≤ maxTo sc k
  | k + 1, j, h => by
    have := le_maxTo sc k j
    rw [maxTo]
    rcases Nat.lt_succ_iff_lt_or_eq.1 h with h1 | h1
    · have := this h1; split <;> omega
    · subst h1; split <;> omega
theorem minTo_in {sc : List Int} {a b : Int} (h0 : 0 < sc.length) (h : ∀ j, j < sc.length → a ≤ sc.getD j 0 ∧ sc.getD j 0 ≤ b) : ∀ k, k ≤ sc.length → a ≤ minTo sc k ∧ minTo sc k ≤ b
  | 0, _ => h 0 h0
  | k + 1, hk => by
    have := minTo_in h0 h k (by omega)
    have := h k (by omega)
    rw [minTo]; split <;> omega
theorem maxTo_in {sc : List Int} {a b : Int} (h0 : 0 < sc.length) (h : ∀ j, j < sc.length → a ≤ sc.getD j 0 ∧ sc.getD j 0 ≤ b) : ∀ k, k ≤ sc.length → a ≤ maxTo sc k ∧ maxTo sc k ≤ b
  | 0, _ => h 0 h0
  | k + 1, hk => by
    have := maxTo_in h0 h k (by omega)
    have := h k (by omega)
    rw [maxTo]; split <;> omega
theorem natAt_short {w : World} {v : Value} {n L : Nat} (h : NatAt w v n L) (hn : n < 4294967296) : NatAt w v n 1 := h.short (by unfold bp; omega)
theorem RatF.short {base : Nat} {w : World} {v : Value} {p : Int} {q L : Nat} (h : RatF base w v p q L) (hp : p.natAbs < 4294967296) (hq : q < 4294967296) : RatF base w v p q 2 := by
  obtain ⟨mv, dv, hv, h1, h2, f1, f2⟩ := h
  exact ⟨mv, dv, hv, (natAt_short h1 hp).mono (by omega), (natAt_short h2 hq).mono (by omega), f1, f2⟩
end Go.Proofs.YtompckomogmhiaaDoor
namespace Go.Proofs.YtompckomogmhiaaDoor
open Go.RowKit
set_option linter.unusedVariables false

/-- The weight that goes to j, out of the first k categories. -/
def mrg (tg row : List Int) (j : Int) : Nat → Int
  | 0 => 0
  | k + 1 => if tg.getD k 0 = j then mrg tg row j k + row.getD k 0 else mrg tg row j k
theorem acc_mrg {tg row : List Int} {n : Nat} (ht : ∀ i, i < tg.length → 0 ≤ tg.getD i 0 ∧ (tg.getD i 0).toNat < n) (j : Nat) : ∀ k, k ≤ tg.length → (accC tg row n k).getD j 0 = mrg tg row (j : Int) k
  | 0, _ => by
    simp only [accC, mrg, List.getD_eq_getElem?_getD, List.getElem?_replicate]
    split <;> rfl
  | k + 1, hk => by
    obtain ⟨h1, h2⟩ := ht k (by omega)
    rw [accC_get h2, mrg, acc_mrg ht j k (by omega)]
    by_cases h : j = (tg.getD k 0).toNat
    · rw [if_pos h, if_pos (by omega)]
    · rw [if_neg h, if_neg (by omega)]
theorem mrg_bd {tg row : List Int} (hr : ∀ x ∈ row, 1 ≤ x ∧ x ≤ 1000) (j : Int) : ∀ k, k ≤ row.length → 0 ≤ mrg tg row j k ∧ mrg tg row j k ≤ 1000 * (k : Int)
  | 0, _ => by simp [mrg]
  | k + 1, hk => by
    have a := mrg_bd (tg := tg) hr j k (by omega)
    have b := hr _ (mem_getD 0 (show k < row.length by omega))
    rw [mrg]; split <;> omega
theorem mrg_pos {tg row : List Int} (hr : ∀ x ∈ row, 1 ≤ x ∧ x ≤ 1000) (j : Int) {i : Nat} (hi : tg.getD i 0 = j) : ∀ k, k ≤ row.length → i < k → 1 ≤ mrg tg row j k
  | k + 1, hk, h => by
    have a := mrg_bd (tg := tg) hr j k (by omega)
    have b := hr _ (mem_getD 0 (show k < row.length by omega))
    rw [mrg]
    rcases Nat.lt_succ_iff_lt_or_eq.1 h with h1 | h1
    · have := mrg_pos hr j hi k (by omega) h1
      split <;> omega
    · subst h1
      rw [if_pos hi]; omega
theorem to_surj {tg : List Int} (h : toOk tg = true) (h0 : tg.getD 0 0 = 0) : ∀ k, k < tg.length → ∀ j : Int, 0 ≤ j → j ≤ tg.getD k 0 → ∃ i, i ≤ k ∧ tg.getD i 0 = j
  | 0, _, j, h1, h2 => ⟨0, Nat.le_refl _, by omega⟩
  | k + 1, hk, j, h1, h2 => by
    by_cases hj : j ≤ tg.getD k 0
    · obtain ⟨i, a, b⟩ := to_surj h h0 k (by omega) j h1 hj
      exact ⟨i, by omega, b⟩
    · have := toOk_at h hk
      exact ⟨k + 1, Nat.le_refl _, by omega⟩
theorem sum_set : ∀ (l : List Int) (i : Nat) (x : Int), i < l.length → (l.set i (l.getD i 0 + x)).sum = l.sum + x
  | a :: l, 0, x, _ => by simp; omega
  | a :: l, i + 1, x, h => by
    have := sum_set l i x (by simpa using h)
    simp only [List.set_cons_succ, List.sum_cons, List.getD_cons_succ]
    omega
theorem acc_sum {tg row : List Int} {n : Nat} (ht : ∀ i, i < tg.length → 0 ≤ tg.getD i 0 ∧ (tg.getD i 0).toNat < n) : ∀ k, k ≤ tg.length → (accC tg row n k).sum = sumTo row k
  | 0, _ => by
    have : ∀ n : Nat, (List.replicate n (0 : Int)).sum = 0 := fun n => by induction n with
      | zero => rfl
      | succ n ih => rw [List.replicate_succ, List.sum_cons, ih]; rfl
    simp only [accC, sumTo]
    exact this n
  | k + 1, hk => by
    rw [accC, sum_set _ _ _ (by rw [accC_len]; exact (ht k (by omega)).2), acc_sum ht k (by omega), sumTo]
theorem le_sum_of_pos : ∀ {l : List Int}, (∀ x ∈ l, 0 ≤ x) → (∀ x ∈ l, x ≤ l.sum) ∧ 0 ≤ l.sum
  | [], _ => ⟨fun x hx => by simp at hx, by simp⟩
  | a :: l, h => by
    obtain ⟨h1, h2⟩ := le_sum_of_pos (l := l) fun x hx => h x (by simp [hx])
    have h3 := h a (by simp)
    refine ⟨fun x hx => ?_, by simp only [List.sum_cons]; omega⟩
    rw [List.mem_cons] at hx
    simp only [List.sum_cons]
    rcases hx with rfl | hx
    · omega
    · have := h1 x hx; omega
theorem to_range {tg : List Int} (h : toOk tg = true) (h0 : tg.getD 0 0 = 0) : ∀ i, i < tg.length → 0 ≤ tg.getD i 0 ∧ (tg.getD i 0).toNat < (lastOf tg).toNat + 1 := fun i hi => by
  have := to_in h h0 hi
  omega
/-- A collapsed row is a row. -/
theorem colR_ok {tg row : List Int} (h : toOk tg = true) (h0 : tg.getD 0 0 = 0) (hl : row.length = tg.length) (h1 : 0 < tg.length) (hr : ∀ x ∈ row, 1 ≤ x ∧ x ≤ 1000) (hs : row.sum = 1000) :
    (colR tg row).length = (lastOf tg).toNat + 1 ∧ (∀ x ∈ colR tg row, 1 ≤ x ∧ x ≤ 1000) ∧ (colR tg row).sum = 1000 := by
  have ht := to_range h h0
  have hlen : (colR tg row).length = (lastOf tg).toNat + 1 := accC_len _ _ _ _
  have hsum : (colR tg row).sum = 1000 := by
    unfold colR
    rw [acc_sum ht _ (Nat.le_refl _), sumTo_all hl, hs]
  have hpos : ∀ x ∈ colR tg row, 1 ≤ x := fun x hx => by
    obtain ⟨j, hj, rfl⟩ := List.mem_iff_getElem.1 hx
    have hj' : j < (lastOf tg).toNat + 1 := by rw [← hlen]; exact hj
    have e : (colR tg row)[j] = mrg tg row (j : Int) tg.length := by
      rw [← acc_mrg ht j _ (Nat.le_refl _)]
      show _ = (colR tg row).getD j 0
      rw [List.getD_eq_getElem?_getD, List.getElem?_eq_getElem hj]; rfl
    rw [e]
    have b := to_in h h0 (i := 0) h1
    obtain ⟨i, hi, hij⟩ := to_surj h h0 (tg.length - 1) (by omega) (j : Int) (by omega) (by show (j : Int) ≤ lastOf tg; omega)
    exact mrg_pos hr _ hij _ (by omega) (by omega)
  refine ⟨hlen, fun x hx => ⟨hpos x hx, ?_⟩, hsum⟩
  have := (le_sum_of_pos (l := colR tg row) fun y hy => by have := hpos y hy; omega).1 x hx
  omega
theorem colR_get {tg row : List Int} (h : toOk tg = true) (h0 : tg.getD 0 0 = 0) (j : Nat) : (colR tg row).getD j 0 = mrg tg row (j : Int) tg.length := acc_mrg (to_range h h0) j _ (Nat.le_refl _)
/-- A collapsed model is valid. -/
theorem col_valid {rows : List (List Int)} {tg : List Int} (hv : modE rows (rows.length : Int) = 0) (hE : colE (modE rows (rows.length : Int)) (catsOf rows) tg = 0) :
    modE (colL rows tg) ((colL rows tg).length : Int) = 0 ∧ catsOf (colL rows tg) = (lastOf tg).toNat + 1 := by
  obtain ⟨_, c1, c2, c3, c4⟩ := colE_zero hE
  obtain ⟨m1, m2, _, m4, m5, m6⟩ := modE_zero hv
  have b := to_in c3 c2 (i := 0) (by omega)
  rw [colL_len]
  refine modE_mk (colL_len _ _) (by omega) (by omega) (by omega) (by omega) fun r hr => ?_
  obtain ⟨r', hr', rfl⟩ := List.mem_map.1 hr
  obtain ⟨h1, h2, h3⟩ := m6 _ hr'
  exact colR_ok c3 c2 (by omega) (by omega) h2 h3
/-! ### Expected scores -/
def wideL (tg sc : List Int) : List Int := tg.map fun t => sc.getD t.toNat 0
theorem wideL_len (tg sc : List Int) : (wideL tg sc).length = tg.length := by simp [wideL]
theorem wideL_get {tg sc : List Int} {k : Nat} (h : k < tg.length) : (wideL tg sc).getD k 0 = sc.getD (tg.getD k 0).toNat 0 := getD_map _ tg 0 0 h
theorem expS_set {l sc : List Int} {i : Nat} {x : Int} (hi : i < l.length) : ∀ n, expS (l.set i (l.getD i 0 + x)) sc n = expS l sc n + (if i < n then x * sc.getD i 0 else 0)
  | 0 => by simp [expS]
  | n + 1 => by
    rw [expS, expS, expS_set hi n, getD_set' hi]
    by_cases h : n = i
    · subst h
      rw [if_pos rfl, if_neg (by omega), if_pos (by omega), Int.add_mul]
      omega
    · rw [if_neg h]
      by_cases h2 : i < n
      · rw [if_pos h2, if_pos (by omega)]; omega
      · rw [if_neg h2, if_neg (by omega)]; omega
theorem acc_exp {tg row sc : List Int} {n : Nat} (ht : ∀ i, i < tg.length → 0 ≤ tg.getD i 0 ∧ (tg.getD i 0).toNat < n) : ∀ k, k ≤ tg.length → expS (accC tg row n k) sc n = expS row (wideL tg sc) k
  | 0, _ => by
    have h : ∀ m, expS (List.replicate n 0) sc m = 0 := fun m => by
      induction m with
      | zero => rfl
      | succ m ih =>
        have : (List.replicate n (0 : Int)).getD m 0 = 0 := by
          simp only [List.getD_eq_getElem?_getD, List.getElem?_replicate]
          split <;> rfl
        rw [expS, ih, this]; omega
    rw [accC, h]; rfl
  | k + 1, hk => by
    rw [accC, expS_set (by rw [accC_len]; exact (ht k (by omega)).2), if_pos (ht k (by omega)).2, acc_exp ht k (by omega), expS, wideL_get (by omega)]
theorem col_exp {tg row sc : List Int} (h : toOk tg = true) (h0 : tg.getD 0 0 = 0) : expS (colR tg row) sc ((lastOf tg).toNat + 1) = expS row (wideL tg sc) tg.length := acc_exp (to_range h h0) _ (Nat.le_refl _)
theorem wide_ok {tg sc : List Int} (h : toOk tg = true) (h0 : tg.getD 0 0 = 0) (h1 : 0 < tg.length) (hs : sc.length = (lastOf tg).toNat + 1) : scOk (wideL tg sc) = scOk sc := by
  cases e : scOk sc with
  | true =>
    refine scOk_yes fun j hj => ?_
    rw [wideL_len] at hj
    rw [wideL_get hj]
    exact scOk_at e (by rw [hs]; exact (to_range h h0 j hj).2)
  | false =>
    rw [← Bool.not_eq_true]
    intro hw
    have : scOk sc = true := scOk_yes fun j hj => by
      have b := to_in h h0 (i := 0) h1
      obtain ⟨i, hi, hij⟩ := to_surj h h0 (tg.length - 1) (by omega) (j : Int) (by omega) (by show (j : Int) ≤ lastOf tg; omega)
      have := scOk_at hw (j := i) (by rw [wideL_len]; omega)
      rwa [wideL_get (by omega), hij, Int.toNat_natCast] at this
    rw [e] at this
    cases this
theorem wide_E {tg sc : List Int} {c : Nat} (h : toOk tg = true) (h0 : tg.getD 0 0 = 0) (h1 : 0 < tg.length) (hs : sc.length = (lastOf tg).toNat + 1) (hc : tg.length = c) : expE c (wideL tg sc) = expE ((lastOf tg).toNat + 1) sc := by
  have a : ¬ ((wideL tg sc).length ≠ c) := by rw [wideL_len]; omega
  have b : ¬ (sc.length ≠ (lastOf tg).toNat + 1) := by omega
  unfold expE
  rw [if_neg a, if_neg b, wide_ok h h0 h1 hs]
end Go.Proofs.YtompckomogmhiaaDoor
