/- Plain lists of limbs: subtracting a multiple of a divisor from a part, and adding the divisor back; shifts. No condition. -/
import Derived.Test.YtdmjgildgjpmcaaDoorKnu
namespace Go.Proofs.YtdmjgildgjpmcaaDoor
set_option linter.unusedVariables false

theorem take_set_succ (l : List Nat) (i x : Nat) (h : i < l.length) : (l.set i x).take (i + 1) = l.take i ++ [x] := by
  rw [List.take_succ_eq_append_getElem (by simpa using h), List.take_set, List.set_eq_of_length_le (List.length_take_le _ _)]
  simp
theorem val_take_set (l : List Nat) (i x : Nat) (h : i < l.length) : val ((l.set i x).take (i + 1)) = val (l.take i) + bp i * x := by
  rw [take_set_succ l i x h, val_snoc, List.length_take, Nat.min_eq_left (by omega)]
theorem drop_set_succ (l : List Nat) (i x : Nat) : (l.set i x).drop (i + 1) = l.drop (i + 1) := by
  apply List.ext_getElem?
  intro j
  rw [List.getElem?_drop, List.getElem?_drop, List.getElem?_set, if_neg (by omega)]
/-- One limb of the subtraction. -/
theorem subq_step {part ps dv : List Nat} {i q c b x lo c' b' limb : Nat} (hp : i < part.length) (hps : ps.length = part.length) (hd : i < dv.length)
    (h : val (part.take i) + bp i * (c + b) = val (ps.take i) + q * val (dv.take i)) (hx : part.getD i 0 = x) (hpq : q * dv.getD i 0 + c = lo + 4294967296 * c') (ht : x + 4294967296 * b' = limb + lo + b) :
    val (part.take (i + 1)) + bp (i + 1) * (c' + b') = val ((ps.set i limb).take (i + 1)) + q * val (dv.take (i + 1)) := by
  rw [val_take_set ps i limb (by omega), val_take_succ, val_take_succ, bp_succ, hx]
  generalize val (part.take i) = A at *
  generalize val (ps.take i) = P at *
  generalize val (dv.take i) = D at *
  generalize dv.getD i 0 = d at *
  generalize bp i = K at *
  grind
/-- One limb of the addition. -/
theorem addb_step {part ps dv : List Nat} {i c x c' limb : Nat} (hp : i < part.length) (hps : ps.length = part.length) (hd : i < dv.length)
    (h : val (part.take i) + val (dv.take i) = val (ps.take i) + bp i * c) (hx : part.getD i 0 = x) (ht : x + dv.getD i 0 + c = limb + 4294967296 * c') :
    val (part.take (i + 1)) + val (dv.take (i + 1)) = val ((ps.set i limb).take (i + 1)) + bp (i + 1) * c' := by
  rw [val_take_set ps i limb (by omega), val_take_succ, val_take_succ, bp_succ, hx]
  generalize val (part.take i) = A at *
  generalize val (ps.take i) = P at *
  generalize val (dv.take i) = D at *
  generalize dv.getD i 0 = d at *
  generalize bp i = K at *
  grind
/-- What the subtraction leaves: the difference, or its complement where it is negative. -/
theorem subq_end {part ps dv : List Nat} {n q c b x b' limb : Nat} (hn : dv.length = n) (hp : part.length = n + 1) (hps : ps.length = n + 1)
    (h : val (part.take n) + bp n * (c + b) = val (ps.take n) + q * val (dv.take n)) (hx : part.getD n 0 = x) (ht : x + 4294967296 * b' = limb + c + b) :
    val part + bp (n + 1) * b' = val (ps.set n limb) + q * val dv := by
  have e1 : val part = val (part.take (n + 1)) := by rw [List.take_of_length_le (by omega)]
  have e2 : val (ps.set n limb) = val ((ps.set n limb).take (n + 1)) := by rw [List.take_of_length_le (by simp; omega)]
  have e3 : dv.take n = dv := List.take_of_length_le (by omega)
  rw [e1, e2, val_take_set ps n limb (by omega), val_take_succ, bp_succ, hx]
  rw [e3] at h
  generalize val (part.take n) = A at *
  generalize val (ps.take n) = P at *
  generalize val dv = D at *
  generalize bp n = K at *
  grind
theorem addb_end {part ps dv : List Nat} {n c x b' limb : Nat} (hn : dv.length = n) (hp : part.length = n + 1) (hps : ps.length = n + 1)
    (h : val (part.take n) + val (dv.take n) = val (ps.take n) + bp n * c) (hx : part.getD n 0 = x) (ht : x + c = limb + 4294967296 * b') :
    val part + val dv = val (ps.set n limb) + bp (n + 1) * b' := by
  have e1 : val part = val (part.take (n + 1)) := by rw [List.take_of_length_le (by omega)]
  have e2 : val (ps.set n limb) = val ((ps.set n limb).take (n + 1)) := by rw [List.take_of_length_le (by simp; omega)]
  have e3 : dv.take n = dv := List.take_of_length_le (by omega)
  rw [e1, e2, val_take_set ps n limb (by omega), val_take_succ, bp_succ, hx]
  rw [e3] at h
  generalize val (part.take n) = A at *
  generalize val (ps.take n) = P at *
  generalize val dv = D at *
  generalize bp n = K at *
  grind
/-- The estimate, the subtraction and the addition together: the part's rest, and the quotient's next limb. -/
theorem step_exact {u v q u' : Nat} {neg : Nat} {M : Nat} (hv : 0 < v) (h1 : u / v ≤ q) (h2 : q ≤ u / v + 1) (hM : u' < M) (hvM : v ≤ M) (h : u + M * neg = u' + q * v) (hneg : neg ≤ 1) :
    (neg = 0 → q = u / v ∧ u' = u % v) ∧ (neg = 1 → 1 ≤ q ∧ q - 1 = u / v ∧ u' + v = u % v + M) := by
  have a := Nat.div_add_mod u v
  have b := Nat.mod_lt u hv
  generalize u / v = Q at *
  generalize u % v = R at *
  rcases (by omega : q = Q ∨ q = Q + 1) with rfl | rfl
  · have : neg = 0 := by
      rcases (by omega : neg = 0 ∨ neg = 1) with e | e
      · exact e
      · exfalso
        subst e
        rw [Nat.mul_one, Nat.mul_comm q v] at h
        omega
    subst this
    rw [Nat.mul_zero, Nat.mul_comm q v] at h
    exact ⟨fun _ => ⟨rfl, by omega⟩, fun e => by omega⟩
  · have hq : (Q + 1) * v = v * Q + v := by rw [Nat.add_mul, Nat.one_mul, Nat.mul_comm Q v]
    rw [hq] at h
    have : neg = 1 := by
      rcases (by omega : neg = 0 ∨ neg = 1) with e | e
      · exfalso
        subst e
        omega
      · exact e
    subst this
    exact ⟨fun e => by omega, fun _ => ⟨by omega, by omega, by omega⟩⟩
end Go.Proofs.YtdmjgildgjpmcaaDoor
