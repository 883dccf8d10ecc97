/- Plain numbers: division limb by limb (the estimate of a quotient's next limb). No condition. -/
import Derived.Test.YtdmjgildgjpmcaaDoorBig
namespace Go.Proofs.YtdmjgildgjpmcaaDoor
set_option linter.unusedVariables false

/-- The estimate is not too small at first. -/
theorem est_first {u v x y top u0 ul v1 v0 vl X : Nat} (hX : 0 < X) (hu : u = x * X + ul) (hx : x = top * 4294967296 + u0) (hul : ul < X) (hu0 : u0 < 4294967296) (hv : v = y * X + vl) (hy : y = v1 * 4294967296 + v0) (h1 : 0 < v1) : u / v ≤ top / v1 := by
  rw [Nat.le_div_iff_mul_le h1]
  have a : u / v * v ≤ u := Nat.div_mul_le_self u v
  generalize u / v = q at *
  have b : q * y * X ≤ q * v := by rw [Nat.mul_assoc]; exact Nat.mul_le_mul_left q (by omega)
  have c : u < (x + 1) * X := by rw [Nat.add_mul, Nat.one_mul]; omega
  have d : q * y < x + 1 := Nat.lt_of_mul_lt_mul_right (Nat.lt_of_le_of_lt (Nat.le_trans b a) c)
  have e : q * y = q * v1 * 4294967296 + q * v0 := by rw [hy, Nat.mul_add, Nat.mul_assoc]
  omega
/-- Where the test fails the estimate is too great. -/
theorem est_down {u v x y top u0 ul v1 v0 vl X q r : Nat} (hX : 0 < X) (hu : u = x * X + ul) (hx : x = top * 4294967296 + u0) (hul : ul < X) (hv : v = y * X + vl) (hy : y = v1 * 4294967296 + v0) (ht : top = q * v1 + r) (h : r * 4294967296 + u0 < q * v0) : u / v < q := by
  have hq : u < q * v := by
    have e : q * y = q * v1 * 4294967296 + q * v0 := by rw [hy, Nat.mul_add, Nat.mul_assoc]
    have a : x + 1 ≤ q * y := by omega
    have b : (x + 1) * X ≤ q * y * X := Nat.mul_le_mul_right X a
    have c : q * y * X ≤ q * v := by rw [Nat.mul_assoc]; exact Nat.mul_le_mul_left q (by omega)
    rw [Nat.add_mul, Nat.one_mul] at b
    omega
  have hv0 : 0 < v := by
    rcases Nat.eq_zero_or_pos v with h0 | h0
    · rw [h0, Nat.mul_zero] at hq; omega
    · exact h0
  exact (Nat.div_lt_iff_lt_mul hv0).2 hq
/-- Where the test holds the estimate is at most one too great. -/
theorem est_last {u v x y top u0 ul v1 v0 vl X q r : Nat} (hu : u = x * X + ul) (hx : x = top * 4294967296 + u0) (hv : v = y * X + vl) (hy : y = v1 * 4294967296 + v0) (hvl : vl < X) (h1 : 0 < v1) (ht : top = q * v1 + r) (hq : q < 4294967296) (h : q * v0 ≤ r * 4294967296 + u0) : q ≤ u / v + 1 := by
  have e : q * y = q * v1 * 4294967296 + q * v0 := by rw [hy, Nat.mul_add, Nat.mul_assoc]
  have a : q * y ≤ x := by omega
  have b : q * y * X ≤ x * X := Nat.mul_le_mul_right X a
  have c : q * vl ≤ 4294967296 * X := Nat.mul_le_mul (by omega) (by omega)
  have d : 4294967296 * X ≤ y * X := Nat.mul_le_mul_right X (by omega)
  have hv0 : 0 < v := by omega
  have f : q * v ≤ u + v := by
    have : q * v = q * y * X + q * vl := by rw [hv, Nat.mul_add, Nat.mul_assoc]
    omega
  have g : q ≤ (u + v) / v := (Nat.le_div_iff_mul_le hv0).2 f
  rwa [Nat.add_div_right u hv0] at g
/-- Where the rest leaves a limb the test would hold. -/
theorem est_break {top u0 v1 v0 u1 q r : Nat} (ht : top = q * v1 + r) (hr : 4294967296 ≤ r) (htop : top ≤ v1 * 4294967296 + u1) (hu1 : u1 < 4294967296) (hv0 : v0 < 4294967296) : q < 4294967296 ∧ q * v0 ≤ r * 4294967296 + u0 := by
  have hq : q < 4294967296 := by
    rcases Nat.lt_or_ge q 4294967296 with h | h
    · exact h
    · have : 4294967296 * v1 ≤ q * v1 := Nat.mul_le_mul_right v1 h
      omega
  refine ⟨hq, ?_⟩
  have : q * v0 ≤ 4294967296 * v0 := Nat.mul_le_mul_right v0 (by omega)
  omega
/-- The highest limbs of the part. -/
theorem est_top {u v x y u2 u1 u0 ul v1 v0 vl X : Nat} (hX : 0 < X) (hu : u = x * X + ul) (hx : x = (u2 * 4294967296 + u1) * 4294967296 + u0) (hv : v = y * X + vl) (hy : y = v1 * 4294967296 + v0) (hvl : vl < X) (hv0 : v0 < 4294967296) (h : u < 4294967296 * v) : u2 ≤ v1 := by
  rcases Nat.lt_or_ge v1 u2 with h1 | h1
  · exfalso
    have a : v < (y + 1) * X := by rw [Nat.add_mul, Nat.one_mul]; omega
    have b : (y + 1) * 4294967296 ≤ x := by omega
    have c : (y + 1) * 4294967296 * X ≤ x * X := Nat.mul_le_mul_right X b
    have d : (y + 1) * 4294967296 * X = 4294967296 * ((y + 1) * X) := by rw [Nat.mul_comm (y + 1), Nat.mul_assoc]
    have e : 4294967296 * v < 4294967296 * ((y + 1) * X) := Nat.mul_lt_mul_of_pos_left a (by omega)
    omega
  · exact h1
end Go.Proofs.YtdmjgildgjpmcaaDoor
