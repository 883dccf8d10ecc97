/- Plain facts of division by one limb, of greatest common divisors and of fractions in lowest terms. No condition. -/
import Derived.Test.YtoihjclkocffhaaDoorBig
namespace Go.Proofs.YtoihjclkocffhaaDoor
set_option linter.unusedVariables false

/-- One step of a division by one limb: the limbs above k are divided. -/
theorem div_step {Q R d x V : Nat} (hV : V = Q * d + R) (hR : R < d) (hd : d ≤ 4294967296) (hx : x < 4294967296) :
    x + 4294967296 * V = ((R * 4294967296 + x) / d + 4294967296 * Q) * d + (R * 4294967296 + x) % d ∧ (R * 4294967296 + x) / d < 4294967296 ∧ (R * 4294967296 + x) % d < d := by
  have h0 : 0 < d := by omega
  have h1 := Nat.div_add_mod (R * 4294967296 + x) d
  have h2 := Nat.mod_lt (R * 4294967296 + x) h0
  refine ⟨?_, ?_, h2⟩
  · subst hV
    generalize (R * 4294967296 + x) / d = q at *
    generalize (R * 4294967296 + x) % d = r at *
    rw [Nat.mul_add, Nat.add_mul, Nat.mul_assoc, Nat.mul_comm q d]
    omega
  · rw [Nat.div_lt_iff_lt_mul h0]
    have : R * 4294967296 + 4294967296 ≤ d * 4294967296 := by
      have : (R + 1) * 4294967296 ≤ d * 4294967296 := Nat.mul_le_mul_right _ hR
      omega
    omega

theorem gcd_step (a b : Nat) : Nat.gcd a b = Nat.gcd b (a % b) := by
  rw [Nat.gcd_comm a b, Nat.gcd_rec b a, Nat.gcd_comm]

/-- The fraction p/q in lowest terms. -/
def redP (p : Int) (q : Nat) : Int := p / ((Nat.gcd p.natAbs q : Nat) : Int)
def redQ (p : Int) (q : Nat) : Nat := q / Nat.gcd p.natAbs q
theorem gcd_pos {p : Int} {q : Nat} (hq : 0 < q) : 0 < Nat.gcd p.natAbs q := Nat.gcd_pos_of_pos_right _ hq
theorem redQ_pos {p : Int} {q : Nat} (hq : 0 < q) : 0 < redQ p q := Nat.div_pos (Nat.le_of_dvd hq (Nat.gcd_dvd_right _ _)) (gcd_pos hq)
theorem redP_abs (p : Int) (q : Nat) : (redP p q).natAbs = p.natAbs / Nat.gcd p.natAbs q := by
  unfold redP
  rw [Int.natAbs_ediv_of_dvd (Int.ofNat_dvd_left.2 (Nat.gcd_dvd_left _ _)), Int.natAbs_natCast]
theorem redP_neg (p : Int) (q : Nat) : redP p q < 0 ↔ p < 0 := by
  unfold redP
  have hd : ((Nat.gcd p.natAbs q : Nat) : Int) ∣ p := Int.ofNat_dvd_left.2 (Nat.gcd_dvd_left _ _)
  obtain ⟨c, hc⟩ := hd
  rcases Nat.eq_zero_or_pos (Nat.gcd p.natAbs q) with h | h
  · have : p = 0 := by rw [hc, h]; simp
    subst this; simp
  · have e : p / ((Nat.gcd p.natAbs q : Nat) : Int) = c := by
      conv => lhs; lhs; rw [hc]
      exact Int.mul_ediv_cancel_left c (by omega)
    rw [e]
    conv => rhs; rw [hc]
    constructor
    · intro h1; exact Int.mul_neg_of_pos_of_neg (by omega) h1
    · intro h1
      rcases (show c < 0 ∨ 0 ≤ c by omega) with h2 | h2
      · exact h2
      · have := Int.mul_nonneg (show (0 : Int) ≤ ((Nat.gcd p.natAbs q : Nat) : Int) by omega) h2
        omega
theorem redQ_one (p : Int) : redP p 1 = p ∧ redQ p 1 = 1 := by
  unfold redP redQ; simp
theorem red_mul (p : Int) (q : Nat) : p = redP p q * ((Nat.gcd p.natAbs q : Nat) : Int) ∧ q = redQ p q * Nat.gcd p.natAbs q := by
  unfold redP redQ
  exact ⟨(Int.ediv_mul_cancel (Int.ofNat_dvd_left.2 (Nat.gcd_dvd_left _ _))).symm, (Nat.div_mul_cancel (Nat.gcd_dvd_right _ _)).symm⟩
theorem red_coprime {p : Int} {q : Nat} (hq : 0 < q) : Nat.Coprime (redP p q).natAbs (redQ p q) := by
  rw [redP_abs]
  exact Nat.coprime_div_gcd_div_gcd (gcd_pos hq)
/-- Lowest terms depend on the value alone. -/
theorem low_unique {a b c d : Nat} (hb : 0 < b) (hd : 0 < d) (h1 : Nat.Coprime a b) (h2 : Nat.Coprime c d) (h : a * d = c * b) : a = c ∧ b = d := by
  have e1 : b ∣ d := by
    have : b ∣ a * d := by rw [h]; exact Nat.dvd_mul_left _ _
    exact (Nat.Coprime.symm h1).dvd_of_dvd_mul_left this
  have e2 : d ∣ b := by
    have : d ∣ c * b := by rw [← h]; exact Nat.dvd_mul_left _ _
    exact (Nat.Coprime.symm h2).dvd_of_dvd_mul_left this
  have e3 : b = d := Nat.dvd_antisymm e1 e2
  subst e3
  exact ⟨Nat.eq_of_mul_eq_mul_right hb h, rfl⟩
theorem red_cross {p p' : Int} {q q' : Nat} (hq : 0 < q) (hq' : 0 < q') (h : p * (q' : Int) = p' * (q : Int)) : redP p q = redP p' q' ∧ redQ p q = redQ p' q' := by
  obtain ⟨m1, m2⟩ := red_mul p q
  obtain ⟨m3, m4⟩ := red_mul p' q'
  have g1 := gcd_pos (p := p) hq
  have g2 := gcd_pos (p := p') hq'
  have n1 := redP_neg p q
  have n2 := redP_neg p' q'
  have c1 := red_coprime (p := p) hq
  have c2 := red_coprime (p := p') hq'
  have q1 := redQ_pos (p := p) hq
  have q2 := redQ_pos (p := p') hq'
  have hs : p < 0 ↔ p' < 0 := by
    constructor
    · intro h1
      rcases (show p' < 0 ∨ 0 ≤ p' by omega) with h2 | h2
      · exact h2
      · have e1 := Int.mul_neg_of_neg_of_pos h1 (show (0 : Int) < (q' : Int) by omega)
        have e2 := Int.mul_nonneg h2 (show (0 : Int) ≤ (q : Int) by omega)
        omega
    · intro h1
      rcases (show p < 0 ∨ 0 ≤ p by omega) with h2 | h2
      · exact h2
      · have e1 := Int.mul_neg_of_neg_of_pos h1 (show (0 : Int) < (q : Int) by omega)
        have e2 := Int.mul_nonneg h2 (show (0 : Int) ≤ (q' : Int) by omega)
        omega
  have ha : p.natAbs * q' = p'.natAbs * q := by
    have := congrArg Int.natAbs h
    rw [Int.natAbs_mul, Int.natAbs_mul, Int.natAbs_natCast, Int.natAbs_natCast] at this
    exact this
  have hx : (redP p q).natAbs * redQ p' q' = (redP p' q').natAbs * redQ p q := by
    have k1 : p.natAbs = (redP p q).natAbs * Nat.gcd p.natAbs q := by rw [redP_abs]; exact (Nat.div_mul_cancel (Nat.gcd_dvd_left _ _)).symm
    have k2 : p'.natAbs = (redP p' q').natAbs * Nat.gcd p'.natAbs q' := by rw [redP_abs]; exact (Nat.div_mul_cancel (Nat.gcd_dvd_left _ _)).symm
    generalize hA : (redP p q).natAbs = A at *
    generalize hB : (redP p' q').natAbs = B at *
    generalize redQ p q = C at *
    generalize redQ p' q' = D at *
    generalize Nat.gcd p.natAbs q = G at *
    generalize Nat.gcd p'.natAbs q' = H at *
    rw [k1, k2, m2, m4] at ha
    have : (A * D) * (G * H) = (B * C) * (G * H) := by
      exact (calc (A * D) * (G * H) = A * G * (D * H) := by rw [Nat.mul_assoc, Nat.mul_assoc, ← Nat.mul_assoc D G H, Nat.mul_comm D G, Nat.mul_assoc G D H]
        _ = B * H * (C * G) := ha
        _ = (B * C) * (G * H) := by rw [Nat.mul_assoc, Nat.mul_assoc, ← Nat.mul_assoc H C G, Nat.mul_comm H C, Nat.mul_assoc C H G, Nat.mul_comm H G])
    exact Nat.eq_of_mul_eq_mul_right (Nat.mul_pos g1 g2) this
  obtain ⟨r1, r2⟩ := low_unique q1 q2 c1 c2 hx
  refine ⟨?_, r2⟩
  omega
end Go.Proofs.YtoihjclkocffhaaDoor
