/- Knuth's long division (nat.divLong), its plain law and its walk. No condition. -/
import Derived.Test.YtoihjclkocffhaaDoorBig
import Derived.Lib.BitFns
import Derived.Test.YtoihjclkocffhaaDoorNatD
import Derived.Deep.QuietTactic
import Derived.BigQuiet
import Derived.Test.YtoihjclkocffhaaDoorNatL
import Derived.Laws.BitsAllLaws
import Derived.Test.YtoihjclkocffhaaDoorShelf
import Derived.Deep.RegionWith
namespace Go.Proofs.YtoihjclkocffhaaDoor
set_option linter.unusedVariables false

/-- The estimate is not too small at first. -/
theorem est_first {u v x y top u0 ul v1 v0 vl X : Nat} (hX : 0 < X) (hu : u = x * X + ul) (hx : x = top * 4294967296 + u0) (hul : ul < X) (hu0 : u0 < 4294967296) (hv : v = y * X + vl) (hy : y = v1 * 4294967296 + v0) (h1 : 0 < v1) : u / v ≤ top / v1 := by
  rw [Nat.le_div_iff_mul_le h1]
  have a : u / v * v ≤ u := Nat.div_mul_le_self u v
  generalize u / v = q at *
  have b : q * y * X ≤ q * v := by rw [Nat.mul_assoc]; exact Nat.mul_le_mul_left q (by omega)
  have c : u < (x + 1) * X := by rw [Nat.add_mul, Nat.one_mul]; omega
  have d : q * y < x + 1 := Nat.lt_of_mul_lt_mul_right (Nat.lt_of_le_of_lt (Nat.le_trans b a) c)
  have e : q * y = q * v1 * 4294967296 + q * v0 := by rw [hy, Nat.mul_add, Nat.mul_assoc]
  omega
/-- Where the test fails the estimate is too great. -/
theorem est_down {u v x y top u0 ul v1 v0 vl X q r : Nat} (hX : 0 < X) (hu : u = x * X + ul) (hx : x = top * 4294967296 + u0) (hul : ul < X) (hv : v = y * X + vl) (hy : y = v1 * 4294967296 + v0) (ht : top = q * v1 + r) (h : r * 4294967296 + u0 < q * v0) : u / v < q := by
  have hq : u < q * v := by
    have e : q * y = q * v1 * 4294967296 + q * v0 := by rw [hy, Nat.mul_add, Nat.mul_assoc]
    have a : x + 1 ≤ q * y := by omega
    have b : (x + 1) * X ≤ q * y * X := Nat.mul_le_mul_right X a
    have c : q * y * X ≤ q * v := by rw [Nat.mul_assoc]; exact Nat.mul_le_mul_left q (by omega)
    rw [Nat.add_mul, Nat.one_mul] at b
    omega
  have hv0 : 0 < v := by
    rcases Nat.eq_zero_or_pos v with h0 | h0
    · rw [h0, Nat.mul_zero] at hq; omega
    · exact h0
  exact (Nat.div_lt_iff_lt_mul hv0).2 hq
/-- Where the test holds the estimate is at most one too great. -/
theorem est_last {u v x y top u0 ul v1 v0 vl X q r : Nat} (hu : u = x * X + ul) (hx : x = top * 4294967296 + u0) (hv : v = y * X + vl) (hy : y = v1 * 4294967296 + v0) (hvl : vl < X) (h1 : 0 < v1) (ht : top = q * v1 + r) (hq : q < 4294967296) (h : q * v0 ≤ r * 4294967296 + u0) : q ≤ u / v + 1 := by
  have e : q * y = q * v1 * 4294967296 + q * v0 := by rw [hy, Nat.mul_add, Nat.mul_assoc]
  have a : q * y ≤ x := by omega
  have b : q * y * X ≤ x * X := Nat.mul_le_mul_right X a
  have c : q * vl ≤ 4294967296 * X := Nat.mul_le_mul (by omega) (by omega)
  have d : 4294967296 * X ≤ y * X := Nat.mul_le_mul_right X (by omega)
  have hv0 : 0 < v := by omega
  have f : q * v ≤ u + v := by
    have : q * v = q * y * X + q * vl := by rw [hv, Nat.mul_add, Nat.mul_assoc]
    omega
  have g : q ≤ (u + v) / v := (Nat.le_div_iff_mul_le hv0).2 f
  rwa [Nat.add_div_right u hv0] at g
/-- Where the rest leaves a limb the test would hold. -/
theorem est_break {top u0 v1 v0 u1 q r : Nat} (ht : top = q * v1 + r) (hr : 4294967296 ≤ r) (htop : top ≤ v1 * 4294967296 + u1) (hu1 : u1 < 4294967296) (hv0 : v0 < 4294967296) : q < 4294967296 ∧ q * v0 ≤ r * 4294967296 + u0 := by
  have hq : q < 4294967296 := by
    rcases Nat.lt_or_ge q 4294967296 with h | h
    · exact h
    · have : 4294967296 * v1 ≤ q * v1 := Nat.mul_le_mul_right v1 h
      omega
  refine ⟨hq, ?_⟩
  have : q * v0 ≤ 4294967296 * v0 := Nat.mul_le_mul_right v0 (by omega)
  omega
/-- The highest limbs of the part. -/
theorem est_top {u v x y u2 u1 u0 ul v1 v0 vl X : Nat} (hX : 0 < X) (hu : u = x * X + ul) (hx : x = (u2 * 4294967296 + u1) * 4294967296 + u0) (hv : v = y * X + vl) (hy : y = v1 * 4294967296 + v0) (hvl : vl < X) (hv0 : v0 < 4294967296) (h : u < 4294967296 * v) : u2 ≤ v1 := by
  rcases Nat.lt_or_ge v1 u2 with h1 | h1
  · exfalso
    have a : v < (y + 1) * X := by rw [Nat.add_mul, Nat.one_mul]; omega
    have b : (y + 1) * 4294967296 ≤ x := by omega
    have c : (y + 1) * 4294967296 * X ≤ x * X := Nat.mul_le_mul_right X b
    have d : (y + 1) * 4294967296 * X = 4294967296 * ((y + 1) * X) := by rw [Nat.mul_comm (y + 1), Nat.mul_assoc]
    have e : 4294967296 * v < 4294967296 * ((y + 1) * X) := Nat.mul_lt_mul_of_pos_left a (by omega)
    omega
  · exact h1
end Go.Proofs.YtoihjclkocffhaaDoor

namespace Go.Proofs.YtoihjclkocffhaaDoor
set_option linter.unusedVariables false

theorem take_set_succ (l : List Nat) (i x : Nat) (h : i < l.length) : (l.set i x).take (i + 1) = l.take i ++ [x] := by
  rw [List.take_succ_eq_append_getElem (by simpa using h), List.take_set, List.set_eq_of_length_le (List.length_take_le _ _)]
  simp
theorem val_take_set (l : List Nat) (i x : Nat) (h : i < l.length) : val ((l.set i x).take (i + 1)) = val (l.take i) + bp i * x := by
  rw [take_set_succ l i x h, val_snoc, List.length_take, Nat.min_eq_left (by omega)]
theorem drop_set_succ (l : List Nat) (i x : Nat) : (l.set i x).drop (i + 1) = l.drop (i + 1) := by
  apply List.ext_getElem?
  intro j
  rw [List.getElem?_drop, List.getElem?_drop, List.getElem?_set, if_neg (by omega)]
/-- One limb of the subtraction. -/
theorem subq_step {part ps dv : List Nat} {i q c b x lo c' b' limb : Nat} (hp : i < part.length) (hps : ps.length = part.length) (hd : i < dv.length)
    (h : val (part.take i) + bp i * (c + b) = val (ps.take i) + q * val (dv.take i)) (hx : part.getD i 0 = x) (hpq : q * dv.getD i 0 + c = lo + 4294967296 * c') (ht : x + 4294967296 * b' = limb + lo + b) :
    val (part.take (i + 1)) + bp (i + 1) * (c' + b') = val ((ps.set i limb).take (i + 1)) + q * val (dv.take (i + 1)) := by
  rw [val_take_set ps i limb (by omega), val_take_succ, val_take_succ, bp_succ, hx]
  generalize val (part.take i) = A at *
  generalize val (ps.take i) = P at *
  generalize val (dv.take i) = D at *
  generalize dv.getD i 0 = d at *
  generalize bp i = K at *
  grind
/-- One limb of the addition. -/
theorem addb_step {part ps dv : List Nat} {i c x c' limb : Nat} (hp : i < part.length) (hps : ps.length = part.length) (hd : i < dv.length)
    (h : val (part.take i) + val (dv.take i) = val (ps.take i) + bp i * c) (hx : part.getD i 0 = x) (ht : x + dv.getD i 0 + c = limb + 4294967296 * c') :
    val (part.take (i + 1)) + val (dv.take (i + 1)) = val ((ps.set i limb).take (i + 1)) + bp (i + 1) * c' := by
  rw [val_take_set ps i limb (by omega), val_take_succ, val_take_succ, bp_succ, hx]
  generalize val (part.take i) = A at *
  generalize val (ps.take i) = P at *
  generalize val (dv.take i) = D at *
  generalize dv.getD i 0 = d at *
  generalize bp i = K at *
  grind
/-- What the subtraction leaves: the difference, or its complement where it is negative. -/
theorem subq_end {part ps dv : List Nat} {n q c b x b' limb : Nat} (hn : dv.length = n) (hp : part.length = n + 1) (hps : ps.length = n + 1)
    (h : val (part.take n) + bp n * (c + b) = val (ps.take n) + q * val (dv.take n)) (hx : part.getD n 0 = x) (ht : x + 4294967296 * b' = limb + c + b) :
    val part + bp (n + 1) * b' = val (ps.set n limb) + q * val dv := by
  have e1 : val part = val (part.take (n + 1)) := by rw [List.take_of_length_le (by omega)]
  have e2 : val (ps.set n limb) = val ((ps.set n limb).take (n + 1)) := by rw [List.take_of_length_le (by simp; omega)]
  have e3 : dv.take n = dv := List.take_of_length_le (by omega)
  rw [e1, e2, val_take_set ps n limb (by omega), val_take_succ, bp_succ, hx]
  rw [e3] at h
  generalize val (part.take n) = A at *
  generalize val (ps.take n) = P at *
  generalize val dv = D at *
  generalize bp n = K at *
  grind
theorem addb_end {part ps dv : List Nat} {n c x b' limb : Nat} (hn : dv.length = n) (hp : part.length = n + 1) (hps : ps.length = n + 1)
    (h : val (part.take n) + val (dv.take n) = val (ps.take n) + bp n * c) (hx : part.getD n 0 = x) (ht : x + c = limb + 4294967296 * b') :
    val part + val dv = val (ps.set n limb) + bp (n + 1) * b' := by
  have e1 : val part = val (part.take (n + 1)) := by rw [List.take_of_length_le (by omega)]
  have e2 : val (ps.set n limb) = val ((ps.set n limb).take (n + 1)) := by rw [List.take_of_length_le (by simp; omega)]
  have e3 : dv.take n = dv := List.take_of_length_le (by omega)
  rw [e1, e2, val_take_set ps n limb (by omega), val_take_succ, bp_succ, hx]
  rw [e3] at h
  generalize val (part.take n) = A at *
  generalize val (ps.take n) = P at *
  generalize val dv = D at *
  generalize bp n = K at *
  grind
/-- The estimate, the subtraction and the addition together: the part's rest, and the quotient's next limb. -/
theorem step_exact {u v q u' : Nat} {neg : Nat} {M : Nat} (hv : 0 < v) (h1 : u / v ≤ q) (h2 : q ≤ u / v + 1) (hM : u' < M) (hvM : v ≤ M) (h : u + M * neg = u' + q * v) (hneg : neg ≤ 1) :
    (neg = 0 → q = u / v ∧ u' = u % v) ∧ (neg = 1 → 1 ≤ q ∧ q - 1 = u / v ∧ u' + v = u % v + M) := by
  have a := Nat.div_add_mod u v
  have b := Nat.mod_lt u hv
  generalize u / v = Q at *
  generalize u % v = R at *
  rcases (by omega : q = Q ∨ q = Q + 1) with rfl | rfl
  · have : neg = 0 := by
      rcases (by omega : neg = 0 ∨ neg = 1) with e | e
      · exact e
      · exfalso
        subst e
        rw [Nat.mul_one, Nat.mul_comm q v] at h
        omega
    subst this
    rw [Nat.mul_zero, Nat.mul_comm q v] at h
    exact ⟨fun _ => ⟨rfl, by omega⟩, fun e => by omega⟩
  · have hq : (Q + 1) * v = v * Q + v := by rw [Nat.add_mul, Nat.one_mul, Nat.mul_comm Q v]
    rw [hq] at h
    have : neg = 1 := by
      rcases (by omega : neg = 0 ∨ neg = 1) with e | e
      · exfalso
        subst e
        omega
      · exact e
    subst this
    exact ⟨fun e => by omega, fun _ => ⟨by omega, by omega, by omega⟩⟩
end Go.Proofs.YtoihjclkocffhaaDoor

namespace Go.Proofs.YtoihjclkocffhaaDoor
open Go.RowKit
set_option linter.unusedVariables false

theorem two_split {s : Nat} (hs : s < 32) : 2 ^ (32 - s) * 2 ^ s = 4294967296 := by
  rw [← Nat.pow_add, Nat.sub_add_cancel (by omega)]

theorem shl_digit {c x s : Nat} (hs : s < 32) (hc : c < 2 ^ s) (hx : x < 4294967296) :
    c ||| (x * 2 ^ s % 4294967296) = c + x * 2 ^ s % 4294967296 ∧ c + x * 2 ^ s % 4294967296 < 4294967296 ∧ x * 2 ^ s / 4294967296 < 2 ^ s := by
  have e := two_split hs
  have m : x * 2 ^ s % 4294967296 = x % 2 ^ (32 - s) * 2 ^ s := by rw [← e, Nat.mul_mod_mul_right]
  have hp : 0 < 2 ^ (32 - s) := Nat.pow_pos (by omega)
  have hl : x % 2 ^ (32 - s) < 2 ^ (32 - s) := Nat.mod_lt _ hp
  refine ⟨?_, ?_, ?_⟩
  · rw [m, Nat.or_comm, Nat.add_comm]
    have h2 := Nat.shiftLeft_add_eq_or_of_lt (i := s) (b := c) hc (x % 2 ^ (32 - s))
    rw [Nat.shiftLeft_eq] at h2
    exact h2.symm
  · rw [m]
    have h3 : (x % 2 ^ (32 - s) + 1) * 2 ^ s ≤ 2 ^ (32 - s) * 2 ^ s := Nat.mul_le_mul_right _ hl
    rw [Nat.add_mul, Nat.one_mul] at h3
    omega
  · rw [Nat.div_lt_iff_lt_mul (by omega)]
    have h4 : 0 < 2 ^ s := Nat.pow_pos (by omega)
    rw [Nat.mul_comm]
    exact Nat.mul_lt_mul_of_pos_left hx h4

theorem shl_step {so c lo hi x p A v : Nat} (P : Nat) (h : so + c * p = P * A) (e : lo + hi * 4294967296 = c + x * P) (hv : v = A + p * x) : (so + p * lo) + hi * (p * 4294967296) = P * v := by
  subst hv
  grind

theorem shr_digit {x y s : Nat} (hs : s < 32) (hx : x < 4294967296) :
    (x + y * 4294967296) / 2 ^ s % 4294967296 * 2 ^ s + x % 2 ^ s = x + y % 2 ^ s * 4294967296 := by
  have e := two_split hs
  have hP : 0 < 2 ^ s := Nat.pow_pos (by omega)
  generalize 2 ^ s = P at *
  generalize 2 ^ (32 - s) = Q at *
  rw [← e] at hx ⊢
  have a : (x + y * (Q * P)) / P = x / P + y * Q := by rw [← Nat.mul_assoc, Nat.add_mul_div_right _ _ hP]
  have b := Nat.div_add_mod y P
  have c := Nat.div_add_mod x P
  have hxq : x / P < Q := (Nat.div_lt_iff_lt_mul hP).2 hx
  have hy : y % P < P := Nat.mod_lt _ hP
  have d : (x / P + y * Q) % (Q * P) = x / P + y % P * Q := by
    have f : x / P + y * Q = (x / P + y % P * Q) + (Q * P) * (y / P) := by
      generalize y / P = yd at *
      generalize y % P = ym at *
      subst b
      grind
    rw [f, Nat.add_mul_mod_self_left, Nat.mod_eq_of_lt]
    have g : (y % P + 1) * Q ≤ P * Q := Nat.mul_le_mul_right _ hy
    rw [Nat.add_mul, Nat.one_mul, Nat.mul_comm P Q] at g
    omega
  rw [a, d]
  generalize x / P = xd at *
  generalize x % P = xm at *
  generalize y % P = ym at *
  subst c
  grind

theorem shr_step {so d x y0 y x0 p A P : Nat} (h : so * P + x0 = A + y0 * p) (e : d * P + y0 = x + y * 4294967296) : (so + p * d) * P + x0 = (A + p * x) + y * (p * 4294967296) := by
  grind

theorem shr_end {so P x0 v : Nat} (h : so * P + x0 = v) (hx : x0 < P) : so = v / P := by
  subst h
  rw [Nat.add_comm, Nat.add_mul_div_right _ _ (by omega), Nat.div_eq_of_lt hx, Nat.zero_add]
end Go.Proofs.YtoihjclkocffhaaDoor

namespace Go.Proofs.YtoihjclkocffhaaDoor
set_option linter.unusedVariables false

theorem part_split (R : List Nat) (j n : Nat) : (R.take j ++ (R.drop j).take n) ++ R.drop (j + n) = R := by
  rw [List.append_assoc, ← List.drop_drop, List.take_append_drop, List.take_append_drop]

theorem dl_start {a V m n s : Nat} (ha : a < bp (m + n + 2)) (hs : s < 32) (hV : 2147483648 * bp (n + 1) ≤ V) : 2 ^ s * a < bp (m + 1) * V := by
  have h1 : 2 ^ s ≤ 2 ^ 31 := Nat.pow_le_pow_right (by omega) (by omega)
  have h2 : 2 ^ s * a < 2 ^ s * bp (m + n + 2) := Nat.mul_lt_mul_of_pos_left ha (Nat.pow_pos (by omega))
  have h3 : 2 ^ s * bp (m + n + 2) ≤ 2 ^ 31 * bp (m + n + 2) := Nat.mul_le_mul_right _ h1
  have h4 : bp (m + n + 2) = bp (m + 1) * bp (n + 1) := by rw [← bp_add]; congr 1; omega
  have h5 : bp (m + 1) * (2147483648 * bp (n + 1)) ≤ bp (m + 1) * V := Nat.mul_le_mul_left _ hV
  have h6 : bp (m + 1) * (2147483648 * bp (n + 1)) = 2 ^ 31 * (bp (m + 1) * bp (n + 1)) := by
    rw [Nat.mul_left_comm]
  rw [h4] at h2 h3
  omega

theorem dl_part {pre ps post : List Nat} {V n j : Nat} (hpre : pre.length = j) (hps : ps.length = n + 3) (hV : V < bp (n + 2)) (h : val (pre ++ ps ++ post) < bp (j + 1) * V) :
    val post = 0 ∧ val ps < 4294967296 * V := by
  have e : val (pre ++ ps ++ post) = val pre + bp j * val ps + bp (j + (n + 3)) * val post := by
    rw [val_append, val_append, List.length_append, hpre, hps]
  rw [e] at h
  have h0 : val post = 0 := by
    rcases Nat.eq_zero_or_pos (val post) with h0 | h0
    · exact h0
    · exfalso
      have h1 : bp (j + 1) * V < bp (j + 1) * bp (n + 2) := Nat.mul_lt_mul_of_pos_left hV (bp_pos _)
      rw [← bp_add, show j + 1 + (n + 2) = j + (n + 3) by omega] at h1
      have h2 : bp (j + (n + 3)) * 1 ≤ bp (j + (n + 3)) * val post := Nat.mul_le_mul_left _ h0
      omega
  refine ⟨h0, ?_⟩
  rw [h0, Nat.mul_zero, bp_succ, Nat.mul_assoc] at h
  exact Nat.lt_of_mul_lt_mul_left (a := bp j) (by omega)

theorem dl_step {pre ps post ps' Q : List Nat} {V n j r0 : Nat} (hpre : pre.length = j) (hps : ps.length = n + 3) (hps' : ps'.length = n + 3) (hall : AllB pre) (hpost : val post = 0) (hV : 0 < V)
    (h : r0 = val (pre ++ ps ++ post) + bp (j + 1) * (val Q * V)) (hp : val ps' = val ps % V) :
    r0 = val (pre ++ ps' ++ post) + bp j * (val (val ps / V :: Q) * V) ∧ val (pre ++ ps' ++ post) < bp j * V := by
  have e : val (pre ++ ps ++ post) = val pre + bp j * val ps := by
    rw [val_append, val_append, List.length_append, hpre, hps, hpost, Nat.mul_zero, Nat.add_zero]
  have e' : val (pre ++ ps' ++ post) = val pre + bp j * val ps' := by
    rw [val_append, val_append, List.length_append, hpre, hps', hpost, Nat.mul_zero, Nat.add_zero]
  rw [e'] 
  rw [e] at h
  rw [hp]
  have d := Nat.div_add_mod (val ps) V
  have hm := Nat.mod_lt (val ps) hV
  have hl := val_lt hall
  rw [hpre] at hl
  constructor
  · rw [h, bp_succ]
    show _ = _ + bp j * ((val ps / V + 4294967296 * val Q) * V)
    generalize val ps / V = q at *
    generalize val ps % V = r at *
    rw [← d]
    grind
  · have : bp j * (val ps % V + 1) ≤ bp j * V := Nat.mul_le_mul_left _ hm
    rw [Nat.mul_add] at this
    omega

theorem dl_end {a b r q P : Nat} (hP : 0 < P) (hb : 0 < b) (h : P * a = r + q * (P * b)) (hr : r < P * b) : q = a / b ∧ r / P = a % b := by
  have h1 : r = P * (a - q * b) := by
    rw [Nat.mul_sub, h]
    have : q * (P * b) = P * (q * b) := by rw [Nat.mul_left_comm]
    omega
  have h2 : q * b ≤ a := by
    have : P * (q * b) ≤ P * a := by rw [h, Nat.mul_left_comm P q b]; omega
    exact Nat.le_of_mul_le_mul_left this hP
  have h3 : a - q * b < b := by
    rw [h1] at hr
    exact Nat.lt_of_mul_lt_mul_left hr
  have h4 : a = b * q + (a - q * b) := by rw [Nat.mul_comm b q]; omega
  have h5 : a / b = q := by
    rw [h4, Nat.mul_add_div hb, Nat.div_eq_of_lt h3]; omega
  have h6 : a % b = a - q * b := by
    conv => lhs; rw [h4]
    rw [Nat.mul_add_mod, Nat.mod_eq_of_lt h3]
  exact ⟨h5.symm, by rw [h1, Nat.mul_div_cancel_left _ hP, h6]⟩

theorem dl_take {R : List Nat} {V n : Nat} (h : val R < V) (hV : V < bp n) (hn : n ≤ R.length) : val (R.take n) = val R := by
  have e := val_drop_take R n hn
  rcases Nat.eq_zero_or_pos (val (R.drop n)) with h0 | h0
  · rw [h0] at e; omega
  · have : bp n * 1 ≤ bp n * val (R.drop n) := Nat.mul_le_mul_left _ h0
    omega

/-- The shifted divisor. -/
theorem dl_div {dv ds : List Nat} {n s : Nat} (hl : dv.length = n + 2) (hd : AllB dv) (hls : ds.length = n + 3) (hds : AllB ds) (hv : val ds = 2 ^ s * val dv) (hs : s < 32) (h1 : 2147483648 ≤ dv.getD (n + 1) 0 * 2 ^ s) (h2 : dv.getD (n + 1) 0 * 2 ^ s < 4294967296) :
    val (ds.take (n + 2)) = 2 ^ s * val dv ∧ 2 ^ s * val dv < bp (n + 2) ∧ 2147483648 * bp (n + 1) ≤ 2 ^ s * val dv ∧ 2147483648 ≤ (ds.take (n + 2)).getD (n + 1) 0 := by
  have e := val_take_succ dv (n + 1)
  rw [show n + 1 + 1 = dv.length by omega, List.take_length] at e
  have hlow : val (dv.take (n + 1)) < bp (n + 1) := by
    have := val_lt (hd.take (n + 1))
    rwa [List.length_take, Nat.min_eq_left (by omega)] at this
  generalize dv.getD (n + 1) 0 = t at *
  generalize val (dv.take (n + 1)) = lo at *
  have hP : 0 < 2 ^ s := Nat.pow_pos (by omega)
  have hPk : ∃ k, 2 ^ s * k = 4294967296 := ⟨2 ^ (32 - s), by rw [Nat.mul_comm]; exact two_split hs⟩
  generalize 2 ^ s = P at *
  have e1 : P * val dv = P * lo + bp (n + 1) * (t * P) := by rw [e]; grind
  have h3 : bp (n + 1) * 2147483648 ≤ bp (n + 1) * (t * P) := Nat.mul_le_mul_left _ h1
  have hQ : P * val dv < bp (n + 2) := by
    have h4 : t * P + P ≤ 4294967296 := by
      obtain ⟨k, hk⟩ := hPk
      have : t < k := by
        rcases Nat.lt_or_ge t k with h | h
        · exact h
        · have : k * P ≤ t * P := Nat.mul_le_mul_right _ h
          rw [Nat.mul_comm] at hk; omega
      have : (t + 1) * P ≤ k * P := Nat.mul_le_mul_right _ this
      rw [Nat.add_mul, Nat.one_mul, Nat.mul_comm k, hk] at this
      exact this
    have h5 : P * lo + P ≤ P * bp (n + 1) := by
      have : P * (lo + 1) ≤ P * bp (n + 1) := Nat.mul_le_mul_left _ hlow
      rwa [Nat.mul_add, Nat.mul_one] at this
    have h6 : bp (n + 1) * (t * P + P) ≤ bp (n + 1) * 4294967296 := Nat.mul_le_mul_left _ h4
    rw [show n + 2 = n + 1 + 1 from rfl, bp_succ]
    rw [Nat.mul_add, Nat.mul_comm (bp (n + 1)) P] at h6
    omega
  have h7 : val (ds.take (n + 2)) = P * val dv := by
    have e2 := val_drop_take ds (n + 2) (by omega)
    rcases Nat.eq_zero_or_pos (val (ds.drop (n + 2))) with h0 | h0
    · rw [h0] at e2; omega
    · have : bp (n + 2) * 1 ≤ bp (n + 2) * val (ds.drop (n + 2)) := Nat.mul_le_mul_left _ h0
      omega
  refine ⟨h7, hQ, by rw [Nat.mul_comm]; omega, ?_⟩
  have e3 := val_take_succ (ds.take (n + 2)) (n + 1)
  rw [List.take_of_length_le (by rw [List.length_take]; omega), h7] at e3
  have h8 := val_lt ((hds.take (n + 2)).take (n + 1))
  rw [List.length_take, List.length_take, Nat.min_eq_left (by omega)] at h8
  rcases Nat.lt_or_ge ((ds.take (n + 2)).getD (n + 1) 0) 2147483648 with h9 | h9
  · exfalso
    have : bp (n + 1) * ((ds.take (n + 2)).getD (n + 1) 0 + 1) ≤ bp (n + 1) * 2147483648 := Nat.mul_le_mul_left _ h9
    rw [Nat.mul_add] at this
    omega
  · exact h9
end Go.Proofs.YtoihjclkocffhaaDoor

namespace Go.Proofs.YtoihjclkocffhaaDoor
set_option linter.unusedVariables false

theorem aux_spec : ∀ f x : Nat, x < 2 ^ f → x < 2 ^ Lib.bitLenAux f x ∧ (x ≠ 0 → 2 ^ (Lib.bitLenAux f x - 1) ≤ x)
  | 0, x, h => by
    rw [Nat.pow_zero] at h
    obtain rfl : x = 0 := by omega
    exact ⟨by decide, fun h => absurd rfl h⟩
  | f + 1, x, h => by
    unfold Lib.bitLenAux
    by_cases hx : x = 0
    · subst hx; exact ⟨Nat.pow_pos (by omega), fun h => absurd rfl h⟩
    · rw [if_neg hx]
      rw [Nat.pow_succ] at h
      obtain ⟨a, b⟩ := aux_spec f (x / 2) (by omega)
      have hk0 : x / 2 = 0 → Lib.bitLenAux f (x / 2) = 0 := by intro e; rw [e]; cases f <;> simp [Lib.bitLenAux]
      generalize Lib.bitLenAux f (x / 2) = k at *
      refine ⟨by rw [Nat.add_comm, Nat.pow_succ]; omega, fun _ => ?_⟩
      rw [Nat.add_sub_cancel_left]
      by_cases h2 : x / 2 = 0
      · rw [hk0 h2, Nat.pow_zero]; omega
      · have b := b h2
        have hk : k ≠ 0 := by intro e; subst e; rw [Nat.pow_zero] at a; omega
        obtain ⟨m, rfl⟩ : ∃ m, k = m + 1 := ⟨k - 1, by omega⟩
        rw [Nat.add_sub_cancel] at b
        rw [Nat.pow_succ]; omega
theorem norm_top {x : Nat} (hx : 0 < x) (hl : x < 4294967296) : Lib.bitLen x ≤ 32 ∧ 32 - Lib.bitLen x < 32 ∧ 2147483648 ≤ x * 2 ^ (32 - Lib.bitLen x) ∧ x * 2 ^ (32 - Lib.bitLen x) < 4294967296 := by
  obtain ⟨h1, h2⟩ : x < 2 ^ Lib.bitLen x ∧ (x ≠ 0 → 2 ^ (Lib.bitLen x - 1) ≤ x) := aux_spec 64 x (by omega)
  have h2 := h2 (by omega)
  have hb : 0 < Lib.bitLen x := by
    rcases Nat.eq_zero_or_pos (Lib.bitLen x) with h | h
    · rw [h, Nat.pow_zero] at h1; omega
    · exact h
  have hb2 : Lib.bitLen x ≤ 32 := by
    rcases Nat.lt_or_ge 32 (Lib.bitLen x) with h | h
    · have : 2 ^ 32 ≤ 2 ^ (Lib.bitLen x - 1) := Nat.pow_le_pow_right (by omega) (by omega)
      omega
    · exact h
  generalize Lib.bitLen x = b at *
  refine ⟨hb2, by omega, ?_, ?_⟩
  · have h3 : 2 ^ (b - 1) * 2 ^ (32 - b) ≤ x * 2 ^ (32 - b) := Nat.mul_le_mul_right _ h2
    rw [← Nat.pow_add, show b - 1 + (32 - b) = 31 by omega] at h3
    omega
  · have h3 : x * 2 ^ (32 - b) < 2 ^ b * 2 ^ (32 - b) := Nat.mul_lt_mul_of_pos_right h1 (Nat.pow_pos (by omega))
    rw [← Nat.pow_add, show b + (32 - b) = 32 by omega] at h3
    omega
end Go.Proofs.YtoihjclkocffhaaDoor

namespace Go.Proofs.YtoihjclkocffhaaDoor
open Go.RowKit
set_option linter.unusedVariables false

theorem val_two {l : List Nat} {k : Nat} (h : l.length = k + 2) : val l = (l.getD (k + 1) 0 * 4294967296 + l.getD k 0) * bp k + val (l.take k) := by
  have e : val l = val (l.take (k + 2)) := by rw [List.take_of_length_le (by omega)]
  rw [e, val_take_succ, val_take_succ, bp_succ]
  generalize bp k = K
  generalize l.getD k 0 = a
  generalize l.getD (k + 1) 0 = b
  grind
theorem val_three {l : List Nat} {k : Nat} (h : l.length = k + 3) : val l = ((l.getD (k + 2) 0 * 4294967296 + l.getD (k + 1) 0) * 4294967296 + l.getD k 0) * bp k + val (l.take k) := by
  have e : val l = val (l.take (k + 3)) := by rw [List.take_of_length_le (by omega)]
  rw [e, val_take_succ, val_take_succ, val_take_succ, show bp (k + 2) = bp (k + 1) * 4294967296 from bp_succ (k + 1), show bp (k + 1) = bp k * 4294967296 from bp_succ k]
  clear e
  generalize bp k = K
  generalize l.getD k 0 = a
  generalize l.getD (k + 1) 0 = b
  generalize l.getD (k + 2) 0 = c
  grind

set_option maxHeartbeats 8000000 in
theorem estimate_any (A D : Option Addr) (cA cD k : Nat) (ps dv : List Nat) (w : World) (hs : Sl w A (k + 3) (lims ps)) (hsd : Sl w D (k + 2) (lims dv)) (ha : AllB ps) (hd : AllB dv) (hk : k ≤ 70368744177650) (hcA : k + 3 ≤ cA) (hcA2 : cA ≤ 9223372036854775807) (hcD : k + 2 ≤ cD) (hcD2 : cD ≤ 9223372036854775807)
    (hv1 : 2147483648 ≤ dv.getD (k + 1) 0) (hlt : val ps < 4294967296 * val dv) :
    Calls Tryd.prog 101 #[.slice A (k + 3) cA, .slice D (k + 2) cD] w fun e w' => ∃ Q d : Nat, e = .returned (.int .u64 (Q : Int)) ∧ Q < 4294967296 ∧ val ps / val dv ≤ Q ∧ Q ≤ val ps / val dv + 1 ∧ w' = w.drewN d := by
  have hpl : ps.length = k + 3 := by have := hs.1; rwa [lims_len] at this
  have hdl : dv.length = k + 2 := by have := hsd.1; rwa [lims_len] at this
  obtain ⟨b, o, rfl, hb, hc⟩ := hs.lim (show 0 < k + 3 by omega)
  obtain ⟨b', o', rfl, hb', hc'⟩ := hsd.lim (show 0 < k + 2 by omega)
  have p0 := hc k (by omega)
  have p1 := hc (k + 1) (by omega)
  have p2 := hc (k + 2) (by omega)
  have q0 := hc' k (by omega)
  have q1 := hc' (k + 1) (by omega)
  have EU := val_three hpl
  have EV := val_two hdl
  have hul := val_lt (ha.take k)
  have hvl := val_lt (hd.take k)
  rw [List.length_take, Nat.min_eq_left (by omega)] at hul hvl
  have x0 := ha.getD k
  have x1 := ha.getD (k + 1)
  have x2 := ha.getD (k + 2)
  have y0 := hd.getD k
  have y1 := hd.getD (k + 1)
  clear hc hc' hs hsd
  generalize ps.getD k 0 = u0 at *
  generalize ps.getD (k + 1) 0 = u1 at *
  generalize ps.getD (k + 2) 0 = u2 at *
  generalize dv.getD k 0 = v0 at *
  generalize dv.getD (k + 1) 0 = v1 at *
  generalize val (ps.take k) = ul at *
  generalize val (dv.take k) = vl at *
  generalize val ps = u at *
  generalize val dv = v at *
  have hX := bp_pos k
  generalize bp k = X at *
  have hu2 := est_top hX EU rfl EV rfl hvl y0 hlt
  have hqB : u / v < 4294967296 := Nat.div_lt_of_lt_mul (by rw [Nat.mul_comm]; exact hlt)
  have HF := Lib.hid (est_first (top := u2 * 4294967296 + u1) hX EU rfl hul x0 EV rfl (by omega))
  have HDN := Lib.hid (fun q r => est_down (top := u2 * 4294967296 + u1) (q := q) (r := r) hX EU rfl hul EV rfl)
  have HLS := Lib.hid (fun q r => est_last (top := u2 * 4294967296 + u1) (q := q) (r := r) EU rfl EV rfl hvl (by omega))
  obtain ⟨T, hT⟩ : ∃ T, u2 * 4294967296 + u1 = T := ⟨_, rfl⟩
  rw [hT] at HF HDN HLS
  have hTT : T < 18446744073709551616 ∧ T ≤ v1 * 4294967296 + u1 := by omega
  have hor := or_limb u2 u1 x2 x1
  have hT' : (u2 : Int) * 4294967296 + (u1 : Int) = (T : Int) := by omega
  rw [hT'] at hor
  have HT := Lib.hid hT
  clear hT hT' EU EV hul hvl hlt hX
  generalize u / v = q at *
  have i1 : ((k + 2 : Nat) : Int) = (k : Int) + 2 := by omega
  have i2 : IntKind.i64.wrap ((k : Int) + 2 - 1) = (k : Int) + 1 := by rw [IntKind.wrap_i64]; omega
  have i3 : IntKind.i64.wrap ((k : Int) + 2 - 2) = (k : Int) := by rw [IntKind.wrap_i64]; omega
  have i4 : ((k : Int) + 2).toNat = k + 2 := by omega
  have i5 : ((k : Int) + 1).toNat = k + 1 := by omega
  have i6 : (k : Int) + 2 - 1 = (k : Int) + 1 := by omega
  have i7 : 0 ≤ (k : Int) + 1 := by omega
  have i8 : 0 ≤ (k : Int) + 2 := by omega
  have i9 : (k : Int) + 2 < (k : Int) + 3 := by omega
  have i10 : (k : Int) + 1 < (k : Int) + 3 := by omega
  have i11 : (k : Int) + 1 < (k : Int) + 2 := by omega
  have w1 : IntKind.u64.wrap (u2 : Int) = (u2 : Int) := by rw [IntKind.wrap_u64]; omega
  have w2 : IntKind.u64.wrap (u1 : Int) = (u1 : Int) := by rw [IntKind.wrap_u64]; omega
  have w3 : IntKind.u64.wrap ((u2 : Int) * 4294967296) = (u2 : Int) * 4294967296 := by rw [IntKind.wrap_u64]; omega
  have HI := Lib.hid (⟨i2, i3, i4, i5⟩ : _ ∧ _ ∧ _ ∧ _)
  have hz : ((v1 : Int) == 0) = false := by rw [beq_eq_false_iff_ne]; omega
  have hv0 : 0 < v1 := by omega
  have hdm := Nat.div_add_mod T v1
  have hml := Nat.mod_lt T hv0
  have hQ1 : T / v1 ≤ 4294967297 := by
    have : T / v1 < 4294967298 := (Nat.div_lt_iff_lt_mul hv0).2 (by omega)
    omega
  have hQ0 : (T : Int) / (v1 : Int) = ((T / v1 : Nat) : Int) := (Int.natCast_ediv T v1).symm
  have hR0 : (T : Int) % (v1 : Int) = ((T % v1 : Nat) : Int) := (Int.natCast_emod T v1).symm
  generalize T / v1 = Q0 at *
  generalize T % v1 = R0 at *
  have HR0 := Lib.hid hR0
  have HDM := Lib.hid (show T = Q0 * v1 + R0 by rw [Nat.mul_comm]; exact hdm.symm)
  clear hdm
  go_enter Tryd.func101, Tryd.ntmps101
  go_wp2_with fail
  go_quiet (fail)
  clear i2 i3 i4 i5 i6 w1 w2 w3
  go_wp2_with fail
  rename_i nq
  clear hQ0 hR0 hor hz
  go_loopw [7, 8] (fun a b wr => ∃ Q R d : Nat, a = .int .u64 (Q : Int) ∧ b = .int .u64 (R : Int) ∧ Hid (T = Q * v1 + R) ∧ q ≤ Q ∧ R < 4294967296 ∧ Q ≤ 4294967297 ∧ wr = w.drewN d) (fun a _ _ => (intOf a).toNat)
  case atStart =>
    simp only [HR0.out]
    exact ⟨Q0, R0, _, rfl, rfl, HDM.out, HF.out, by omega, hQ1, rfl⟩
  case round =>
    obtain ⟨Q, R, d, rfl, rfl, hinv, hqQ, hR, hQm, rfl⟩ := hrel
    obtain ⟨i2, i3, i4, i5⟩ := HI.out
    have w4 : IntKind.u64.wrap ((R : Int) * 4294967296) = (R : Int) * 4294967296 := by rw [IntKind.wrap_u64]; omega
    have w5 : IntKind.u64.wrap (u0 : Int) = (u0 : Int) := by rw [IntKind.wrap_u64]; omega
    have w6 : IntKind.u64.wrap (v0 : Int) = (v0 : Int) := by rw [IntKind.wrap_u64]; omega
    have hor := or_limb R u0 hR x0
    have i12 : (k : Int) + 2 - 2 = (k : Int) := by omega
    have w7 : IntKind.i64.wrap (k : Int) = (k : Int) := by rw [IntKind.wrap_i64]; omega
    have i13 : 0 ≤ (k : Int) := by omega
    have i14 : (k : Int) < (k : Int) + 2 := by omega
    have i15 : (k : Int) < (k : Int) + 3 := by omega
    by_cases hbig : 4294967296 ≤ Q
    · have f1 : ((Q : Int) / 4294967296 != 0) = true := by rw [bne_iff_ne]; omega
      have HD := Lib.hid (show q ≤ Q - 1 by omega)
      have hmul : Q * v1 = (Q - 1) * v1 + v1 := by
        obtain ⟨z, rfl⟩ : ∃ z, Q = z + 1 := ⟨Q - 1, by omega⟩
        rw [Nat.add_sub_cancel, Nat.add_mul, Nat.one_mul]
      have HN := Lib.hid (show T = (Q - 1) * v1 + (R + v1) by clear HD; rw [hinv.out, hmul]; omega)
      have hQ1' : (1 : Int) ≤ (Q : Int) := by omega
      have hq1 : (Q : Int) - 1 = ((Q - 1 : Nat) : Int) := by omega
      go_wp2_with fail
      go_quiet (fail)
      clear i2 i3 i4 i5 w4 w5 w6 w7 hor i12
      go_wp2_with fail
      go_ways
      · rename_i hh
        rw [bne_iff_ne] at hh
        obtain ⟨g1, g2⟩ := est_break (q := Q - 1) (r := R + v1) HN.out (by omega) hTT.2 x1 y0
        go_ret
        exact ⟨Q - 1, _, rfl, g1, HD.out, HLS.out _ _ HN.out g1 g2, rfl⟩
      · rename_i hh
        rw [bne_eq_false_iff_eq] at hh
        refine ⟨⟨Q - 1, R + v1, _, rfl, by rw [Int.natCast_add], HN, HD.out, by omega, by omega, rfl⟩, ?_⟩
        simp only [intOf]
        omega
    · have f1 : ((Q : Int) / 4294967296 != 0) = false := by rw [bne_eq_false_iff_eq]; omega
      have hP : Q * v0 < 18446744073709551616 := by
        have : Q * v0 ≤ 4294967295 * 4294967295 := Nat.mul_le_mul (by omega) (by omega)
        omega
      obtain ⟨P, hPe⟩ : ∃ P, Q * v0 = P := ⟨_, rfl⟩
      rw [hPe] at hP
      have hPi : (Q : Int) * (v0 : Int) = (P : Int) := by rw [← hPe, Int.natCast_mul]
      have w8 : IntKind.u64.wrap (P : Int) = (P : Int) := by rw [IntKind.wrap_u64]; omega
      by_cases hc : R * 4294967296 + u0 < P
      · have HD' := HDN.out Q R hinv.out (by rw [hPe]; exact hc)
        have HD := Lib.hid (show q ≤ Q - 1 by omega)
        have hmul : Q * v1 = (Q - 1) * v1 + v1 := by
          obtain ⟨z, rfl⟩ : ∃ z, Q = z + 1 := ⟨Q - 1, by omega⟩
          rw [Nat.add_sub_cancel, Nat.add_mul, Nat.one_mul]
        have HN := Lib.hid (show T = (Q - 1) * v1 + (R + v1) by clear HD HD'; rw [hinv.out, hmul]; omega)
        have hQ1' : (1 : Int) ≤ (Q : Int) := by omega
        have hq1 : (Q : Int) - 1 = ((Q - 1 : Nat) : Int) := by omega
        have f2 : decide ((R : Int) * 4294967296 + (u0 : Int) < (P : Int)) = true := by rw [decide_eq_true_eq]; omega
        have HP := Lib.hid hPe
        clear hPe HD'
        go_wp2_with fail
        go_quiet (fail)
        clear i2 i3 i4 i5 w4 w5 w6 w7 w8 hor i12
        go_wp2_with fail
        go_ways
        · rename_i hh
          rw [bne_iff_ne] at hh
          obtain ⟨g1, g2⟩ := est_break (q := Q - 1) (r := R + v1) HN.out (by omega) hTT.2 x1 y0
          go_ret
          exact ⟨Q - 1, _, rfl, g1, HD.out, HLS.out _ _ HN.out g1 g2, rfl⟩
        · rename_i hh
          rw [bne_eq_false_iff_eq] at hh
          refine ⟨⟨Q - 1, R + v1, _, rfl, by rw [Int.natCast_add], HN, HD.out, by omega, by omega, rfl⟩, ?_⟩
          simp only [intOf]
          omega
      · have f2 : decide ((R : Int) * 4294967296 + (u0 : Int) < (P : Int)) = false := by rw [decide_eq_false_iff_not]; omega
        have HE := Lib.hid (HLS.out Q R hinv.out (by omega) (by rw [hPe]; omega))
        clear hPe
        go_wp2_with fail
        go_quiet (fail)
        clear i2 i3 i4 i5 w4 w5 w6 w7 w8 hor i12
        go_wp2_with fail
        go_ret
        exact ⟨Q, _, rfl, by omega, hqQ, HE.out, World.drewN_drewN _ _ _⟩
end Go.Proofs.YtoihjclkocffhaaDoor

namespace Go.Proofs.YtoihjclkocffhaaDoor
open Go.RowKit
set_option linter.unusedVariables false

theorem grownSet {w w1 : World} {g : Nat} (h : w.grownBy w1 (some g)) (i : Nat) (u : Value) : w.grownBy (w1.setCell ⟨g, i, none⟩ u) (some g) :=
  ⟨h.os, h.tape, h.output, by simpa using h.size, fun k hk hne => (Below.heap_setCell w1 ⟨g, i, none⟩ u k (fun e => hne (by rw [e]))).trans (h.block k hk hne)⟩
theorem grownRefl (w : World) (r : Option Nat) : w.grownBy w r := ⟨rfl, rfl, rfl, Nat.le_refl _, fun _ _ _ => rfl⟩
theorem part_cell {pre ps post : List Nat} {i : Nat} (h : i < ps.length) : (lims (pre ++ ps ++ post))[pre.length + i]? = some (.int .u32 ((ps.getD i 0 : Nat) : Int)) := by
  rw [lims_get _ (by simp; omega)]
  congr 3
  simp only [List.getD_eq_getElem?_getD]
  rw [List.append_assoc, List.getElem?_append_right (by omega), Nat.add_sub_cancel_left, List.getElem?_append_left h]
theorem part_set {pre ps post : List Nat} {i x : Nat} (h : i < ps.length) : (lims (pre ++ ps ++ post)).set (pre.length + i) (.int .u32 (x : Int)) = lims (pre ++ ps.set i x ++ post) := by
  rw [lims_set]
  congr 1
  rw [List.append_assoc, List.append_assoc, List.set_append_right _ _ (by omega), Nat.add_sub_cancel_left, List.set_append_left _ _ h]
theorem add_wrap (x y c : Nat) (hx : x < 4294967296) (hy : y < 4294967296) (hc : c ≤ 1) :
    ∃ lo c' : Nat, ((x : Int) + (y : Int) + (c : Int)) / 4294967296 = (c' : Int) ∧ ((x : Int) + (y : Int) + (c : Int)) % 4294967296 = (lo : Int) ∧ lo < 4294967296 ∧ c' ≤ 1 ∧ x + y + c = lo + 4294967296 * c' :=
  ⟨(x + y + c) % 4294967296, (x + y + c) / 4294967296, by omega, by omega, by omega, by omega, by omega⟩

set_option maxHeartbeats 4000000 in
theorem addBack_any (g cp : Nat) (D : Option Addr) (cD : Nat) (pre ps post dv : List Nat) (w : World) (hrow : Row w g 69 (lims (pre ++ ps ++ post))) (hs : Sl w D dv.length (lims dv)) (hne : ∀ b o, D = some ⟨b, o, none⟩ → b ≠ g) (hps : ps.length = dv.length + 1) (ha : AllB ps) (hd : AllB dv)
    (h0 : 0 < dv.length) (hl : dv.length ≤ 70368744177650) (hcp : dv.length + 1 ≤ cp) (hcp2 : cp ≤ 9223372036854775807) (hcD : dv.length ≤ cD) (hcD2 : cD ≤ 9223372036854775807) (hpl : pre.length ≤ 70368744177650) :
    Calls Tryd.prog 103 #[.slice (some ⟨g, pre.length, none⟩) (dv.length + 1) cp, .slice D dv.length cD] w fun e w' => ∃ v ps' c, e = .returned v ∧ ps'.length = dv.length + 1 ∧ AllB ps' ∧ val ps + val dv = val ps' + bp (dv.length + 1) * c ∧ Row w' g 69 (lims (pre ++ ps' ++ post)) ∧ w.grownBy w' (some g) := by
  obtain ⟨b, o, rfl, hb, hcell⟩ := hs.lim h0
  have hbg := hne b o rfl
  have HC := Lib.hid hcell
  have HPS := Lib.hid hps
  obtain ⟨n, hn⟩ : ∃ n, dv.length = n := ⟨_, rfl⟩
  have HN := Lib.hid hn
  rw [hn] at h0 hl hcp hcD HC HPS ⊢
  clear hcell hne hps hs hn
  go_enter Tryd.func103, Tryd.ntmps103
  go_wp2_with fail
  go_loopw [4, 10] (fun cr i wr => ∃ (k cy : Nat) (qs : List Nat), k ≤ n ∧ i = .int .i64 (k : Int) ∧ cr = .int .u64 (cy : Int) ∧ cy ≤ 1 ∧ Hid (qs.length = n + 1) ∧ AllB qs ∧ Hid (val (ps.take k) + val (dv.take k) = val (qs.take k) + bp k * cy) ∧ Hid (∀ i, k ≤ i → qs.getD i 0 = ps.getD i 0) ∧ Row wr g 69 (lims (pre ++ qs ++ post)) ∧ w.grownBy wr (some g)) (fun _ i _ => n - (intOf i).toNat)
  case atStart => exact ⟨0, 0, ps, by omega, rfl, rfl, by omega, HPS.out, ha, by simp [Hid, val], fun i hi => rfl, hrow, grownRefl _ _⟩
  case round =>
    obtain ⟨k, cy, qs, hk, rfl, rfl, hcy, hqs, hall, hval, hsame, hrw, hgr⟩ := hrel
    have zg := hrw.lt
    have hkq : k < qs.length := by rw [hqs.out]; omega
    have g2 : wr.cell? ⟨g, pre.length + k, none⟩ = some (.int .u32 ((qs.getD k 0 : Nat) : Int)) := (hrw.cell _).trans (part_cell hkq)
    have f2 := hrw.frozen (pre.length + k)
    have hx := hall.getD k
    have HXE := Lib.hid (hsame.out k (Nat.le_refl _))
    by_cases hlt : k < n
    · have g1 : wr.cell? ⟨b, o + k, none⟩ = some (.int .u32 ((dv.getD k 0 : Nat) : Int)) := hgr.cell (HC.out k hlt) (by simpa using hbg)
      have hy := hd.getD k
      have HADD := Lib.hid (fun c' limb x ht hx => addb_step (part := ps) (ps := qs) (dv := dv) (i := k) (c := cy) (c' := c') (limb := limb) (x := x) (by rw [HPS.out]; omega) (by rw [hqs.out, HPS.out]) (by rw [HN.out]; exact hlt) hval.out hx ht)
      have HSET := Lib.hid (fun x => part_set (pre := pre) (post := post) (ps := qs) (i := k) (x := x) hkq)
      generalize hxe : qs.getD k 0 = xx at *
      generalize hye : dv.getD k 0 = yy at *
      have HY := Lib.hid hye
      clear hxe hye
      obtain ⟨lo, c', e1, e2, hlo, hc', he⟩ := add_wrap xx yy cy hx hy hcy
      have HE := Lib.hid he
      clear he
      have hrs := hrw.set_ (pre.length + k) (.int .u32 (lo : Int))
      rw [HSET.out] at hrs
      go_wp2_with fail
      go_roundw
      case rel =>
        refine ⟨k + 1, c', qs.set k lo, by omega, by go_num, rfl, hc', by unfold Hid; rw [List.length_set]; exact hqs.out, hall.set k hlo, ?_, ?_, hrs, grownSet hgr _ _⟩
        · have := HADD.out c' lo xx HE.out HXE.out.symm
          exact this
        · intro i hi
          have := hsame.out i (by omega)
          rw [List.getD_eq_getElem?_getD, List.getElem?_set, if_neg (by omega), ← List.getD_eq_getElem?_getD]
          exact this
      case measure => simp [intOf]; omega
    · have hkn : k = n := by omega
      subst hkn
      have HEND := Lib.hid (fun c' limb x hx ht => addb_end (part := ps) (ps := qs) (dv := dv) (n := k) (c := cy) (b' := c') (limb := limb) (x := x) HN.out HPS.out hqs.out hval.out hx ht)
      have HSET := Lib.hid (fun x => part_set (pre := pre) (post := post) (ps := qs) (i := k) (x := x) hkq)
      generalize hxe : qs.getD k 0 = xx at *
      clear hxe
      obtain ⟨lo, hlo1⟩ : ∃ lo, (xx + cy) % 4294967296 = lo := ⟨_, rfl⟩
      obtain ⟨c', hc1⟩ : ∃ c', (xx + cy) / 4294967296 = c' := ⟨_, rfl⟩
      have hlo : lo < 4294967296 := by omega
      have HE := Lib.hid (show xx + cy = lo + 4294967296 * c' by omega)
      have hw : IntKind.u32.wrap ((xx : Int) + (cy : Int)) = (lo : Int) := by rw [IntKind.wrap_u32]; omega
      clear hlo1 hc1
      have hrs := hrw.set_ (pre.length + k) (.int .u32 (lo : Int))
      rw [HSET.out] at hrs
      go_wp2_with fail
      go_end0
      exact ⟨_, qs.set k lo, c', rfl, by rw [List.length_set]; exact hqs.out, hall.set k hlo, HEND.out c' lo xx HXE.out.symm HE.out, hrs, grownSet hgr _ _⟩
end Go.Proofs.YtoihjclkocffhaaDoor

namespace Go.Proofs.YtoihjclkocffhaaDoor
open Go.RowKit
set_option linter.unusedVariables false

theorem subq_wrap (x P b : Nat) (hx : x < 4294967296) (hb : b ≤ 1) :
    ∃ limb b' : Nat, IntKind.u64.wrap (IntKind.u64.wrap ((x : Int) - (P : Int) % 4294967296) - (b : Int)) / 9223372036854775808 = (b' : Int) ∧ IntKind.u64.wrap (IntKind.u64.wrap ((x : Int) - (P : Int) % 4294967296) - (b : Int)) % 4294967296 = (limb : Int) ∧ limb < 4294967296 ∧ b' ≤ 1 ∧ x + 4294967296 * b' = limb + P % 4294967296 + b := by
  simp only [IntKind.wrap_u64]
  by_cases h : P % 4294967296 + b ≤ x
  · exact ⟨x - P % 4294967296 - b, 0, by omega, by omega, by omega, by omega, by omega⟩
  · exact ⟨x + 4294967296 - P % 4294967296 - b, 1, by omega, by omega, by omega, by omega, by omega⟩
theorem subq_wrap1 (x c b : Nat) (hx : x < 4294967296) (hc : c < 4294967296) (hb : b ≤ 1) :
    ∃ limb b' : Nat, IntKind.u64.wrap (IntKind.u64.wrap ((x : Int) - (c : Int)) - (b : Int)) / 9223372036854775808 = (b' : Int) ∧ IntKind.u64.wrap (IntKind.u64.wrap ((x : Int) - (c : Int)) - (b : Int)) % 4294967296 = (limb : Int) ∧ limb < 4294967296 ∧ b' ≤ 1 ∧ x + 4294967296 * b' = limb + c + b := by
  simp only [IntKind.wrap_u64]
  by_cases h : c + b ≤ x
  · exact ⟨x - c - b, 0, by omega, by omega, by omega, by omega, by omega⟩
  · exact ⟨x + 4294967296 - c - b, 1, by omega, by omega, by omega, by omega, by omega⟩
theorem prod_lt {q d c : Nat} (hq : q < 4294967296) (hd : d < 4294967296) (hc : c < 4294967296) : q * d + c < 18446744073709551616 ∧ (q * d + c) / 4294967296 < 4294967296 := by
  have : q * d ≤ 4294967295 * 4294967295 := Nat.mul_le_mul (by omega) (by omega)
  omega

set_option maxHeartbeats 4000000 in
theorem subtract_any (g cp : Nat) (D : Option Addr) (cD q : Nat) (pre ps post dv : List Nat) (w : World) (hrow : Row w g 69 (lims (pre ++ ps ++ post))) (hs : Sl w D dv.length (lims dv)) (hne : ∀ b o, D = some ⟨b, o, none⟩ → b ≠ g) (hps : ps.length = dv.length + 1) (ha : AllB ps) (hd : AllB dv)
    (h0 : 0 < dv.length) (hl : dv.length ≤ 70368744177650) (hcp : dv.length + 1 ≤ cp) (hcp2 : cp ≤ 9223372036854775807) (hcD : dv.length ≤ cD) (hcD2 : cD ≤ 9223372036854775807) (hpl : pre.length ≤ 70368744177650) (hq : q < 4294967296) :
    Calls Tryd.prog 102 #[.slice (some ⟨g, pre.length, none⟩) (dv.length + 1) cp, .slice D dv.length cD, .int .u64 (q : Int)] w fun e w' => ∃ (ps' : List Nat) (b : Nat), e = .returned (.bool (b != 0)) ∧ b ≤ 1 ∧ ps'.length = dv.length + 1 ∧ AllB ps' ∧ val ps + bp (dv.length + 1) * b = val ps' + q * val dv ∧ Row w' g 69 (lims (pre ++ ps' ++ post)) ∧ w.grownBy w' (some g) := by
  obtain ⟨b, o, rfl, hb, hcell⟩ := hs.lim h0
  have hbg := hne b o rfl
  have HC := Lib.hid hcell
  have HPS := Lib.hid hps
  obtain ⟨n, hn⟩ : ∃ n, dv.length = n := ⟨_, rfl⟩
  have HN := Lib.hid hn
  rw [hn] at h0 hl hcp hcD HC HPS ⊢
  clear hcell hne hps hs hn
  go_enter Tryd.func102, Tryd.ntmps102
  go_wp2_with fail
  go_loopw [7, 8, 16] (fun cr br i wr => ∃ (k cy bo : Nat) (qs : List Nat), k ≤ n ∧ i = .int .i64 (k : Int) ∧ cr = .int .u64 (cy : Int) ∧ br = .int .u64 (bo : Int) ∧ cy < 4294967296 ∧ bo ≤ 1 ∧ Hid (qs.length = n + 1) ∧ AllB qs ∧ Hid (val (ps.take k) + bp k * (cy + bo) = val (qs.take k) + q * val (dv.take k)) ∧ Hid (∀ i, k ≤ i → qs.getD i 0 = ps.getD i 0) ∧ Row wr g 69 (lims (pre ++ qs ++ post)) ∧ w.grownBy wr (some g)) (fun _ _ i _ => n - (intOf i).toNat)
  case atStart => exact ⟨0, 0, 0, ps, by omega, rfl, rfl, rfl, by omega, by omega, HPS.out, ha, by simp [Hid, val], fun i hi => rfl, hrow, grownRefl _ _⟩
  case round =>
    obtain ⟨k, cy, bo, qs, hk, rfl, rfl, rfl, hcy, hbo, hqs, hall, hval, hsame, hrw, hgr⟩ := hrel
    have zg := hrw.lt
    have hkq : k < qs.length := by rw [hqs.out]; omega
    have g2 : wr.cell? ⟨g, pre.length + k, none⟩ = some (.int .u32 ((qs.getD k 0 : Nat) : Int)) := (hrw.cell _).trans (part_cell hkq)
    have f2 := hrw.frozen (pre.length + k)
    have hx := hall.getD k
    have HXE := Lib.hid (hsame.out k (Nat.le_refl _))
    have HSET := Lib.hid (fun x => part_set (pre := pre) (post := post) (ps := qs) (i := k) (x := x) hkq)
    have HRS := Lib.hid (fun lo : Nat => hrw.set_ (pre.length + k) (.int .u32 (lo : Int)))
    by_cases hlt : k < n
    · have g1 : wr.cell? ⟨b, o + k, none⟩ = some (.int .u32 ((dv.getD k 0 : Nat) : Int)) := hgr.cell (HC.out k hlt) (by simpa using hbg)
      have hy := hd.getD k
      have HSUB := Lib.hid (fun lo c' b' limb x hx hpq ht => subq_step (part := ps) (ps := qs) (dv := dv) (i := k) (q := q) (c := cy) (b := bo) (lo := lo) (c' := c') (b' := b') (limb := limb) (x := x) (by rw [HPS.out]; omega) (by rw [hqs.out, HPS.out]) (by rw [HN.out]; exact hlt) hval.out hx hpq ht)
      generalize hxe : qs.getD k 0 = xx at *
      generalize hye : dv.getD k 0 = yy at *
      clear hxe hye
      obtain ⟨m1, m2⟩ := prod_lt hq hy hcy
      obtain ⟨P, hP⟩ : ∃ P, q * yy + cy = P := ⟨_, rfl⟩
      have hP0 : (q : Int) * (yy : Int) + (cy : Int) = (P : Int) := by rw [← hP]; simp
      have hm1 : (0 : Int) ≤ (q : Int) * (yy : Int) := by rw [← Int.natCast_mul]; omega
      have hm2 : (q : Int) * (yy : Int) + (cy : Int) < 18446744073709551616 := by omega
      rw [hP] at m1 m2
      have HP0 := Lib.hid hP0
      have HPN := Lib.hid hP
      clear hP0 hP
      go_wp2_with fail
      rw [HP0.out]
      obtain ⟨limb, b', e1, e2, hlo, hb', he⟩ := subq_wrap xx P bo hx hbo
      rw [e1, e2]
      have e3 : (P : Int) / 4294967296 = ((P / 4294967296 : Nat) : Int) := by omega
      rw [e3]
      go_roundw
      case rel =>
        refine ⟨k + 1, P / 4294967296, b', qs.set k limb, by omega, by go_num, rfl, rfl, m2, hb', by unfold Hid; rw [List.length_set]; exact hqs.out, hall.set k hlo, ?_, ?_, by have := HRS.out limb; rwa [HSET.out] at this, grownSet hgr _ _⟩
        · exact HSUB.out (P % 4294967296) (P / 4294967296) b' limb xx HXE.out.symm (by rw [HPN.out]; omega) he
        · intro i hi
          have := hsame.out i (by omega)
          rw [List.getD_eq_getElem?_getD, List.getElem?_set, if_neg (by omega), ← List.getD_eq_getElem?_getD]
          exact this
      case measure => simp [intOf]; omega
    · have hkn : k = n := by omega
      subst hkn
      have HEND := Lib.hid (fun b' limb x hx ht => subq_end (part := ps) (ps := qs) (dv := dv) (n := k) (q := q) (c := cy) (b := bo) (b' := b') (limb := limb) (x := x) HN.out HPS.out hqs.out hval.out hx ht)
      generalize hxe : qs.getD k 0 = xx at *
      clear hxe
      obtain ⟨limb, b', e1, e2, hlo, hb', he⟩ := subq_wrap1 xx cy bo hx hcy hbo
      have HE := Lib.hid he
      have E1 := Lib.hid e1
      have E2 := Lib.hid e2
      clear he e1 e2
      go_wp2_with fail
      rw [E1.out, E2.out]
      go_ret
      exact ⟨qs.set k limb, b', by (rcases (by omega : b' = 0 ∨ b' = 1) with h | h <;> subst h <;> rfl), hb', by rw [List.length_set]; exact hqs.out, hall.set k hlo, HEND.out b' limb xx HXE.out.symm HE.out, by have := HRS.out limb; rwa [HSET.out] at this, grownSet hgr _ _⟩
end Go.Proofs.YtoihjclkocffhaaDoor

namespace Go.Proofs.YtoihjclkocffhaaDoor
open Go.RowKit
set_option linter.unusedVariables false

theorem sh_get0 (so : List Nat) (c n k : Nat) (h : so.length = k) : ((so ++ [c]) ++ List.replicate n 0).getD k 0 = c := by
  subst h; simp [List.getD_eq_getElem?_getD]
theorem sh_get1 (so : List Nat) (c n k : Nat) (h : so.length = k) (hn : 0 < n) : ((so ++ [c]) ++ List.replicate n 0).getD (k + 1) 0 = 0 := by
  subst h
  obtain ⟨m, rfl⟩ : ∃ m, n = m + 1 := ⟨n - 1, by omega⟩
  simp [List.getD_eq_getElem?_getD, List.replicate_succ]
theorem sh_set (so : List Nat) (c n k lo hi : Nat) (h : so.length = k) (hn : 0 < n) : ((((so ++ [c]) ++ List.replicate n 0).set k lo).set (k + 1) hi) = (((so ++ [lo]) ++ [hi]) ++ List.replicate (n - 1) 0) := by
  subst h
  obtain ⟨m, rfl⟩ : ∃ m, n = m + 1 := ⟨n - 1, by omega⟩
  simp [List.replicate_succ]

set_option maxHeartbeats 8000000 in
theorem shiftLeft_any (A : Option Addr) (c s : Nat) (a : List Nat) (w : World) (hsa : Sl w A a.length (lims a)) (hall0 : AllB a) (hc : c ≤ 9223372036854775807) (la : a.length ≤ 70368744177650) (hs : s < 32) :
    Calls Tryd.prog 100 #[.slice A a.length c, .int .i64 (s : Int)] w fun e w' => ∃ rs : List Nat, e = .returned (.slice (some ⟨w.heap.size, 0, none⟩) (a.length + 1) (a.length + 1)) ∧ rs.length = a.length + 1 ∧ AllB rs ∧ val rs = 2 ^ s * val a ∧ Row w' w.heap.size 69 (lims rs) ∧ Below w.heap.size w w' := by
  go_enter Tryd.func100, Tryd.ntmps100
  have hmk := run_mkI (P := Tryd.prog) Tryd.underlying50 infoU32 rfl ((a.length : Int) + 1) (a.length + 1) (by omega) (by omega) (by omega)
  go_wp2_with fail
  clear hmk
  have hslt : 2 ^ s < 4294967296 := Nat.pow_lt_pow_right (by omega) hs
  go_loopw [15] (fun i wr => ∃ (k cy : Nat) (so : List Nat), k ≤ a.length ∧ i = .int .i64 (k : Int) ∧ Hid (cy < 2 ^ s) ∧ Hid (so.length = k) ∧ AllB so ∧ Hid (val so + cy * bp k = 2 ^ s * val (a.take k)) ∧ Row wr w.heap.size 69 (lims ((so ++ [cy]) ++ List.replicate (a.length - k) 0)) ∧ Below w.heap.size w wr) (fun i _ => a.length - (intOf i).toNat)
  case atStart => exact ⟨0, 0, [], by omega, rfl, Nat.pow_pos (by omega), rfl, AllB.nil, by simp [Hid, val], by
    have : (([] : List Nat) ++ [0]) ++ List.replicate (a.length - 0) 0 = List.replicate (a.length + 1) 0 := by simp [List.replicate_succ]
    rw [this, lims_zeros]; exact Row.newz _ _ _ _, (Below.refl _ _).alloc (Nat.le_refl _) _⟩
  case round =>
    obtain ⟨k, cy, so, hk, rfl, hcy, hso, hall, hval, hrow, hb⟩ := hrel
    have zl : w.heap.size < wr.heap.size := hrow.lt
    have hly : ((so ++ [cy]) ++ List.replicate (a.length - k) 0).length = a.length + 1 := by simp [hso.out]; omega
    by_cases hlt : k < a.length
    · obtain ⟨b1, o1, rfl, hb1, hcell⟩ := hsa.lim hlt
      have g1 : wr.cell? ⟨b1, o1 + k, none⟩ = some (.int .u32 ((a.getD k 0 : Nat) : Int)) := (hb.cell (p := ⟨b1, o1 + k, none⟩) hb1).trans (hcell k hlt)
      have hx := hall0.getD k
      have hc0 : wr.cell? ⟨w.heap.size, k, none⟩ = some (.int .u32 (cy : Int)) := by
        rw [hrow.cell, lims_get _ (by rw [hly]; omega), sh_get0 _ _ _ _ hso.out]
      have hc1 : wr.cell? ⟨w.heap.size, k + 1, none⟩ = some (.int .u32 0) := by
        rw [hrow.cell, lims_get _ (by rw [hly]; omega), sh_get1 _ _ _ _ hso.out (by omega)]; rfl
      have hf0 : wr.frozen? ⟨w.heap.size, k, none⟩ = false := hrow.frozen k
      have hf1 : wr.frozen? ⟨w.heap.size, k + 1, none⟩ = false := hrow.frozen (k + 1)
      have HX := Lib.hid (val_take_succ a k)
      clear hcell
      generalize a.getD k 0 = xx at *
      obtain ⟨T, hT⟩ : ∃ T, xx * 2 ^ s = T := ⟨_, rfl⟩
      have hTl : T < 18446744073709551616 := by
        have h1 : xx * 2 ^ s ≤ 4294967295 * 2 ^ s := Nat.mul_le_mul_right _ (by omega)
        omega
      have hTi : (xx : Int) * 2 ^ s = (T : Int) := by rw [← hT, Int.natCast_mul, Int.natCast_pow]; rfl
      have wT : IntKind.u64.wrap (T : Int) = (T : Int) := by rw [IntKind.wrap_u64]; omega
      obtain ⟨d1, d2, d3⟩ := shl_digit hs hcy.out hx
      rw [hT] at d1 d2 d3
      have m1 : (T : Int) % 4294967296 = ((T % 4294967296 : Nat) : Int) := by omega
      have m2 : (T : Int) / 4294967296 = ((T / 4294967296 : Nat) : Int) := by omega
      have hor : bits .or .u32 (cy : Int) ((T % 4294967296 : Nat) : Int) = ((cy + T % 4294967296 : Nat) : Int) := by
        rw [u32_or_nat _ _ (by omega) (by omega), d1]
      have HSH := Lib.hid (shl_step (lo := cy + T % 4294967296) (hi := T / 4294967296) (2 ^ s) hval.out (by rw [hT]; omega) HX.out)
      have HD3 := Lib.hid d3
      generalize cy + T % 4294967296 = lo at *
      generalize T / 4294967296 = hi at *
      generalize T % 4294967296 = tl at *
      have HD2 := Lib.hid d2
      go_wp2_with fail
      refine ⟨⟨k + 1, hi, so ++ [lo], by omega, by go_num, HD3.out, by unfold Hid; rw [List.length_append, hso.out]; rfl, hall.snoc HD2.out, ?_, ?_, (hb.setCell (Nat.le_refl _) _).setCell (Nat.le_refl _) _⟩, ?_⟩
      · unfold Hid
        rw [val_snoc, hso.out, bp_succ]
        exact HSH.out
      · have e := (hrow.set_ k (.int .u32 (lo : Int))).set_ (k + 1) (.int .u32 (hi : Int))
        rw [lims_set, lims_set, sh_set _ _ _ _ _ _ hso.out (by omega)] at e
        exact e
      · simp [intOf]; omega
    · obtain rfl : k = a.length := by omega
      rw [Nat.sub_self, List.replicate_zero, List.append_nil] at hrow
      have HL := Lib.hid (show (so ++ [cy]).length = a.length + 1 by rw [List.length_append, hso.out]; rfl)
      have HV := Lib.hid (show val (so ++ [cy]) = 2 ^ s * val a by
        have e := hval.out
        rw [val_take_all _ (Nat.le_refl _)] at e
        rw [val_snoc, hso.out, Nat.mul_comm, e])
      have HA := Lib.hid (hall.snoc (show cy < 4294967296 from Nat.lt_trans hcy.out hslt))
      clear hly
      go_wp2_with fail
      go_ret
      exact ⟨so ++ [cy], rfl, HL.out, HA.out, HV.out, hrow, hb⟩
end Go.Proofs.YtoihjclkocffhaaDoor

namespace Go.Proofs.YtoihjclkocffhaaDoor
open Go.RowKit
set_option linter.unusedVariables false

theorem limb_or (R x : Nat) (hR : R < 4294967296) (hx : x < 4294967296) : bits .or .u64 (x : Int) ((R : Int) * 4294967296) = (R : Int) * 4294967296 + (x : Int) := by
  rw [← or_limb R x hR hx]
  have h1 : ((R : Int) * 4294967296) = ((R * 4294967296 : Nat) : Int) := by omega
  rw [h1, u64_or_nat _ _ (by omega) (by omega), u64_or_nat _ _ (by omega) (by omega), Nat.or_comm]

theorem cast_shr (t s : Nat) : (t : Int) / 2 ^ s % 4294967296 = ((t / 2 ^ s % 4294967296 : Nat) : Int) := by
  rw [Int.natCast_emod, Int.natCast_ediv, Int.natCast_pow]; rfl

set_option maxHeartbeats 8000000 in
theorem shiftRight_any (A : Option Addr) (c s : Nat) (a : List Nat) (w : World) (hsa : Sl w A a.length (lims a)) (hall0 : AllB a) (hc : c ≤ 9223372036854775807) (la : a.length ≤ 70368744177650) (hs : s < 32) :
    Calls Tryd.prog 104 #[.slice A a.length c, .int .i64 (s : Int)] w fun e w' => ∃ rs : List Nat, e = .returned (.slice (some ⟨w.heap.size, 0, none⟩) a.length a.length) ∧ rs.length = a.length ∧ AllB rs ∧ val rs = val a / 2 ^ s ∧ Row w' w.heap.size 69 (lims rs) ∧ Below w.heap.size w w' := by
  go_enter Tryd.func104, Tryd.ntmps104
  have hmk := run_mkI (P := Tryd.prog) Tryd.underlying50 infoU32 rfl (a.length : Int) a.length (by omega) (by omega) (by omega)
  go_wp2_with fail
  clear hmk
  have hP : 0 < 2 ^ s := Nat.pow_pos (by omega)
  have hslt : 2 ^ s < 4294967296 := Nat.pow_lt_pow_right (by omega) hs
  go_loopw [14] (fun i wr => ∃ (k : Nat) (so : List Nat), k ≤ a.length ∧ i = .int .i64 (k : Int) ∧ Hid (so.length = k) ∧ AllB so ∧ Hid (val so * 2 ^ s + a.getD 0 0 % 2 ^ s = val (a.take k) + a.getD k 0 % 2 ^ s * bp k) ∧ Row wr w.heap.size 69 (lims (so ++ List.replicate (a.length - k) 0)) ∧ Below w.heap.size w wr) (fun i _ => a.length - (intOf i).toNat)
  case atStart => exact ⟨0, [], by omega, rfl, rfl, AllB.nil, by simp [Hid, val, bp], by
    rw [List.nil_append, lims_zeros]; exact Row.newz _ _ _ _, (Below.refl _ _).alloc (Nat.le_refl _) _⟩
  case round =>
    obtain ⟨k, so, hk, rfl, hso, hall, hval, hrow, hb⟩ := hrel
    have zl : w.heap.size < wr.heap.size := hrow.lt
    by_cases hlt : k < a.length
    · obtain ⟨b1, o1, rfl, hb1, hcell⟩ := hsa.lim hlt
      have g1 : wr.cell? ⟨b1, o1 + k, none⟩ = some (.int .u32 ((a.getD k 0 : Nat) : Int)) := (hb.cell (p := ⟨b1, o1 + k, none⟩) hb1).trans (hcell k hlt)
      have hx := hall0.getD k
      have hy := hall0.getD (k + 1)
      have hc0 : wr.cell? ⟨w.heap.size, k, none⟩ = some (.int .u32 0) := by
        rw [hrow.cell, lims_get _ (by simp [hso.out]; omega), pad_get _ _ _ hso.out (by omega)]; rfl
      have hf0 : wr.frozen? ⟨w.heap.size, k, none⟩ = false := hrow.frozen k
      have HX := Lib.hid (val_take_succ a k)
      have HSH := Lib.hid (shr_step (P := 2 ^ s) hval.out (shr_digit (y := a.getD (k + 1) 0) hs hx))
      by_cases hl2 : k + 1 < a.length
      · have g2 : wr.cell? ⟨b1, o1 + (k + 1), none⟩ = some (.int .u32 ((a.getD (k + 1) 0 : Nat) : Int)) := (hb.cell (p := ⟨b1, o1 + (k + 1), none⟩) hb1).trans (hcell (k + 1) hl2)
        clear hcell
        obtain ⟨yy, hye⟩ : ∃ yy, a.getD (k + 1) 0 = yy := ⟨_, rfl⟩
        rw [hye] at g2 hy HSH
        have HYE := Lib.hid hye
        clear hye
        generalize a.getD k 0 = xx at *
        obtain ⟨D, hD⟩ : ∃ D, (xx + yy * 4294967296) / 2 ^ s % 4294967296 = D := ⟨_, rfl⟩
        rw [hD] at HSH
        have HDL := Lib.hid (show D < 4294967296 by rw [← hD]; exact Nat.mod_lt _ (by omega))
        have hDi : ((yy : Int) * 4294967296 + (xx : Int)) / 2 ^ s % 4294967296 = (D : Int) := by
          rw [show (yy : Int) * 4294967296 + (xx : Int) = ((xx + yy * 4294967296 : Nat) : Int) by omega, cast_shr, hD]
        clear hD
        have hor := limb_or yy xx hy hx
        have wY : IntKind.u64.wrap ((yy : Int) * 4294967296) = (yy : Int) * 4294967296 := by rw [IntKind.wrap_u64]; omega
        have f1 : decide ((k : Int) + 1 < (a.length : Int)) = true := by rw [decide_eq_true_eq]; omega
        go_wp2_with fail
        refine ⟨⟨k + 1, so ++ [D], by omega, by go_num, by unfold Hid; rw [List.length_append, hso.out]; rfl, hall.snoc HDL.out, ?_, ?_, hb.setCell (Nat.le_refl _) _⟩, ?_⟩
        · unfold Hid
          rw [val_snoc, hso.out, HX.out, bp_succ, HYE.out]
          exact HSH.out
        · rw [← pad_set _ _ _ _ hso.out (by omega), ← lims_set]
          exact hrow.set_ k _
        · simp [intOf]; omega
      · have hy0 : a.getD (k + 1) 0 = 0 := by rw [List.getD_eq_getElem?_getD, List.getElem?_eq_none (by omega)]; rfl
        clear hcell
        rw [hy0] at HSH
        have HYE := Lib.hid hy0
        clear hy0 hy
        generalize a.getD k 0 = xx at *
        obtain ⟨D, hD⟩ : ∃ D, (xx + 0 * 4294967296) / 2 ^ s % 4294967296 = D := ⟨_, rfl⟩
        rw [hD] at HSH
        have HDL := Lib.hid (show D < 4294967296 by rw [← hD]; exact Nat.mod_lt _ (by omega))
        have hDi : (xx : Int) / 2 ^ s % 4294967296 = (D : Int) := by
          rw [cast_shr, ← hD, Nat.zero_mul, Nat.add_zero]
        clear hD
        have f1 : decide ((k : Int) + 1 < (a.length : Int)) = false := by rw [decide_eq_false_iff_not]; omega
        go_wp2_with fail
        refine ⟨⟨k + 1, so ++ [D], by omega, by go_num, by unfold Hid; rw [List.length_append, hso.out]; rfl, hall.snoc HDL.out, ?_, ?_, hb.setCell (Nat.le_refl _) _⟩, ?_⟩
        · unfold Hid
          rw [val_snoc, hso.out, HX.out, bp_succ, HYE.out]
          exact HSH.out
        · rw [← pad_set _ _ _ _ hso.out (by omega), ← lims_set]
          exact hrow.set_ k _
        · simp [intOf]; omega
    · obtain rfl : k = a.length := by omega
      rw [Nat.sub_self, List.replicate_zero, List.append_nil] at hrow
      have hz : a.getD a.length 0 = 0 := by rw [List.getD_eq_getElem?_getD, List.getElem?_eq_none (by omega)]; rfl
      have HV := Lib.hid (show val so = val a / 2 ^ s by
        have e := hval.out
        rw [val_take_all _ (Nat.le_refl _), hz, Nat.zero_mod, Nat.zero_mul, Nat.add_zero] at e
        exact shr_end e (Nat.mod_lt _ hP))
      go_wp2_with fail
      go_ret
      exact ⟨so, rfl, hso.out, hall, HV.out, hrow, hb⟩
end Go.Proofs.YtoihjclkocffhaaDoor

namespace Go.Proofs.YtoihjclkocffhaaDoor
open Go.RowKit
set_option linter.unusedVariables false

theorem kd_call {a W w1 : World} (h : Below W.heap.size W w1) (h0 : Below a.heap.size a W) : Below a.heap.size a w1 := h0.trans (h.mono h0.size)
theorem kd_drew {a w : World} (h : Below a.heap.size a w) : Below a.heap.size a w.drew := h.drew
theorem Row.cutSl {w : World} {g t j n : Nat} {xs : List Value} (h : Row w g t xs) (hl : j + n ≤ xs.length) : Sl w (some ⟨g, j, none⟩) n ((xs.drop j).take n) := by
  refine ⟨by rw [List.length_take, List.length_drop]; omega, fun _ => ⟨g, j, rfl, fun i u hu => ?_⟩⟩
  rw [h.cell]
  rw [List.getElem?_take] at hu
  split at hu
  · rwa [List.getElem?_drop] at hu
  · cases hu
theorem Row.grown {w w' : World} {g t k : Nat} {xs : List Value} (h : Row w g t xs) (hg : w.grownBy w' (some k)) (hne : g ≠ k) : Row w' g t xs :=
  (hg.block g h.lt (by simpa using hne)).trans h
theorem part_at {w : World} {g t j n : Nat} {pre ps post : List Nat} (h : Row w g t (lims (pre ++ ps ++ post))) (h1 : pre.length = j) (h2 : ps.length = n) : Sl w (some ⟨g, j, none⟩) n (lims ps) := by
  have e := h.cutSl (j := j) (n := n) (by rw [lims_len, List.length_append, List.length_append]; omega)
  rwa [lims_drop, lims_take, List.append_assoc, List.drop_left' h1, List.take_left' h2] at e

theorem subtract_at (g cp : Nat) (D : Option Addr) (cD q j n : Nat) (pre ps post dv : List Nat) (w : World) (hrow : Row w g 69 (lims (pre ++ ps ++ post))) (hs : Sl w D (n + 2) (lims dv)) (hne : ∀ b o, D = some ⟨b, o, none⟩ → b ≠ g) (hpre : pre.length = j) (hdl : dv.length = n + 2) (hps : ps.length = n + 3) (ha : AllB ps) (hd : AllB dv)
    (hl : n ≤ 70368744177600) (hcp : n + 3 ≤ cp) (hcp2 : cp ≤ 9223372036854775807) (hcD : n + 2 ≤ cD) (hcD2 : cD ≤ 9223372036854775807) (hpl : j ≤ 70368744177650) (hq : q < 4294967296) :
    Calls Tryd.prog 102 #[.slice (some ⟨g, j, none⟩) (n + 3) cp, .slice D (n + 2) cD, .int .u64 (q : Int)] w fun e w' => ∃ (ps' : List Nat) (b : Nat), e = .returned (.bool (b != 0)) ∧ b ≤ 1 ∧ ps'.length = n + 3 ∧ AllB ps' ∧ val ps + bp (n + 3) * b = val ps' + q * val dv ∧ Row w' g 69 (lims (pre ++ ps' ++ post)) ∧ w.grownBy w' (some g) := by
  have h := subtract_any g cp D cD q pre ps post dv w hrow (by rw [hdl]; exact hs) hne (by omega) ha hd (by omega) (by omega) (by omega) hcp2 (by omega) hcD2 (by omega) hq
  rw [hdl, hpre] at h
  exact h
theorem addBack_at (g cp : Nat) (D : Option Addr) (cD j n : Nat) (pre ps post dv : List Nat) (w : World) (hrow : Row w g 69 (lims (pre ++ ps ++ post))) (hs : Sl w D (n + 2) (lims dv)) (hne : ∀ b o, D = some ⟨b, o, none⟩ → b ≠ g) (hpre : pre.length = j) (hdl : dv.length = n + 2) (hps : ps.length = n + 3) (ha : AllB ps) (hd : AllB dv)
    (hl : n ≤ 70368744177600) (hcp : n + 3 ≤ cp) (hcp2 : cp ≤ 9223372036854775807) (hcD : n + 2 ≤ cD) (hcD2 : cD ≤ 9223372036854775807) (hpl : j ≤ 70368744177650) :
    Calls Tryd.prog 103 #[.slice (some ⟨g, j, none⟩) (n + 3) cp, .slice D (n + 2) cD] w fun e w' => ∃ v ps' c, e = .returned v ∧ ps'.length = n + 3 ∧ AllB ps' ∧ val ps + val dv = val ps' + bp (n + 3) * c ∧ Row w' g 69 (lims (pre ++ ps' ++ post)) ∧ w.grownBy w' (some g) := by
  have h := addBack_any g cp D cD pre ps post dv w hrow (by rw [hdl]; exact hs) hne (by omega) ha hd (by omega) (by omega) (by omega) hcp2 (by omega) hcD2 (by omega)
  rw [hdl, hpre] at h
  exact h
theorem shiftRight_at (A : Option Addr) (c s n : Nat) (a : List Nat) (w : World) (hsa : Sl w A n (lims a)) (hn : a.length = n) (hall0 : AllB a) (hc : c ≤ 9223372036854775807) (la : n ≤ 70368744177650) (hs : s < 32) :
    Calls Tryd.prog 104 #[.slice A n c, .int .i64 (s : Int)] w fun e w' => ∃ rs : List Nat, e = .returned (.slice (some ⟨w.heap.size, 0, none⟩) n n) ∧ rs.length = n ∧ AllB rs ∧ val rs = val a / 2 ^ s ∧ Row w' w.heap.size 69 (lims rs) ∧ Below w.heap.size w w' := by
  subst hn
  exact shiftRight_any A c s a w hsa hall0 hc la hs
/-- The difference with the divisor added back. -/
theorem back_exact {u' v r M x c : Nat} (h : u' + v = r + M) (h2 : u' + v = x + M * c) (hx : x < M) (hr : r < v) (hv : v ≤ M) : x = r := by
  have : c = 1 := by
    rcases Nat.lt_or_ge c 1 with h0 | h0
    · obtain rfl : c = 0 := by omega
      rw [Nat.mul_zero] at h2; omega
    · rcases Nat.lt_or_ge c 2 with h3 | h3
      · omega
      · have : M * 2 ≤ M * c := Nat.mul_le_mul_left _ h3
        omega
  subst this
  omega

set_option maxHeartbeats 8000000 in
theorem divLong_any (A D : Option Addr) (cA cD n m : Nat) (a dv : List Nat) (w : World) (hsa : Sl w A (m + n + 2) (lims a)) (hsd : Sl w D (n + 2) (lims dv)) (ha : AllB a) (hd : AllB dv) (hk : m + n ≤ 70368744177600) (hcA : m + n + 2 ≤ cA) (hcA2 : cA ≤ 9223372036854775807) (hcD : n + 2 ≤ cD) (hcD2 : cD ≤ 9223372036854775807) (htop : 0 < dv.getD (n + 1) 0) :
    Calls Tryd.prog 81 #[.slice A (m + n + 2) cA, .slice D (n + 2) cD] w fun e w' => ∃ q r, e = .returned (.tuple #[q, r]) ∧ DRes w w' q r (val a) (val dv) (m + n + 2) (n + 2) := by
  go_enter Tryd.func81, Tryd.ntmps81
  have hdl : dv.length = n + 2 := by have := hsd.1; rwa [lims_len] at this
  obtain ⟨b', o', rfl, hb', hc'⟩ := hsd.lim (show 0 < n + 2 by omega)
  have q1 := hc' (n + 1) (by omega)
  have hy := hd.getD (n + 1)
  have HSD := Lib.hid hsd
  have HSA := Lib.hid hsa
  clear hc' hsd hsa
  obtain ⟨v1, hv1⟩ : ∃ v1, dv.getD (n + 1) 0 = v1 := ⟨_, rfl⟩
  rw [hv1] at q1 hy htop
  have HV1 := Lib.hid hv1
  clear hv1
  have i1 : IntKind.i64.wrap ((n : Int) + 2 - 1) = (n : Int) + 1 := by rw [IntKind.wrap_i64]; omega
  have i2 : ((n + 2 : Nat) : Int) = (n : Int) + 2 := by omega
  have i3 : 0 ≤ (n : Int) + 1 := by omega
  have i4 : (n : Int) + 1 < (n : Int) + 2 := by omega
  have i5 : ((n : Int) + 1).toNat = n + 1 := by omega
  go_wp2_with fail
  refine (Tryd.bits_LeadingZeros32 (v1 : Int) _ (by omega) (by omega)).mono ?_
  rintro e w' ⟨rfl, rfl⟩
  obtain ⟨z1, z2, z3, z4⟩ := norm_top htop hy
  rw [Int.toNat_natCast]
  obtain ⟨s, hs⟩ : ∃ s, 32 - Lib.bitLen v1 = s := ⟨_, rfl⟩
  have hs2 : (32 : Int) - (Lib.bitLen v1 : Int) = (s : Int) := by omega
  rw [hs] at z2 z3 z4
  rw [hs2]
  clear hs hs2 z1
  go_wp2_with fail
  have SL := shiftLeft_any (some ⟨b', o', none⟩) cD s dv w' (by rw [hdl]; exact HSD.out) hd (by omega) (by omega) z2
  rw [hdl] at SL
  refine SL.mono ?_
  rintro e w1 ⟨ds, rfl, hdsl, hads, hdsv, hdrow, hb1⟩
  have HDIV := Lib.hid (dl_div hdl hd hdsl hads hdsv z2 (by rw [HV1.out]; exact z3) (by rw [HV1.out]; exact z4))
  clear SL
  have HX1 := Lib.hid (show a.length = m + n + 2 by have := HSA.out.1; rwa [lims_len] at this)
  have SA := Lib.hid (shiftLeft_any A cA s a w1 (by rw [HX1.out]; exact HSA.out.below hb1) ha hcA2 (by rw [HX1.out]; omega) z2)
  rw [HX1.out] at SA
  have HDL := Lib.hid hdsl
  have HDV := Lib.hid hdsv
  have hb1' := hb1.size
  clear hdsl hdsv hb' z3 z4 q1 HV1 hdl
  have j1 : IntKind.i64.wrap ((m + n + 2 : Nat) : Int) = ((m + n + 2 : Nat) : Int) := by rw [IntKind.wrap_i64]; omega
  go_wp2_with fail
  refine SA.out.mono ?_
  rintro e w2 ⟨rs, rfl, hrl, hrall, hrv, hrrow, hb2⟩
  have HRL := Lib.hid hrl
  have HRV := Lib.hid hrv
  have hb2' := hb2.size
  have hdrow2 := hdrow.keep hb2
  have hmk := run_mkI (P := Tryd.prog) Tryd.underlying50 infoU32 rfl ((m + n + 2 : Int) - (n + 2 : Int) + 1) (m + 1) (by omega) (by omega) (by omega)
  clear hrl hrv SA
  go_wp2_with fail
  clear hmk
  obtain ⟨gd, hgd⟩ : ∃ gd, w'.heap.size = gd := ⟨_, rfl⟩
  obtain ⟨gr, hgr⟩ : ∃ gr, w1.heap.size = gr := ⟨_, rfl⟩
  obtain ⟨gq, hgq⟩ : ∃ gq, w2.heap.size = gq := ⟨_, rfl⟩
  obtain ⟨V, hV⟩ : ∃ V, 2 ^ s * val dv = V := ⟨_, rfl⟩
  obtain ⟨X, hX⟩ : ∃ X, 2 ^ s * val a = X := ⟨_, rfl⟩
  obtain ⟨v1', v2', v3', v4'⟩ := HDIV.out
  rw [hV] at v1' v2' v3' HDV
  rw [hX] at HRV
  have HTOP := Lib.hid v4'
  have hV0 : 0 < V := Nat.lt_of_lt_of_le (Nat.mul_pos (by omega) (bp_pos _)) v3'
  have hst : X < bp (m + 1) * V := by
    rw [← hX]
    refine dl_start (n := n) ?_ z2 v3'
    have := val_lt ha
    rwa [HX1.out] at this
  have HVX := Lib.hid hV
  have HXX := Lib.hid hX
  have hda := hads.take (n + 2)
  have HDT := Lib.hid (show (ds.take (n + 2)).length = n + 2 by rw [List.length_take, HDL.out]; omega)
  have HDT1 := Lib.hid v1'
  have HV2 := Lib.hid v2'
  have BW : Below gd w' (w2.alloc (.cells (zrow (Value.int IntKind.u32 0) (m + 1)) 69)) := by
    rw [← hgd]
    exact (hb1.trans (hb2.mono hb1.size)).alloc (Nat.le_trans hb1.size hb2.size) _
  have rq : Row (w2.alloc (.cells (zrow (Value.int IntKind.u32 0) (m + 1)) 69)) gq 69 (lims (List.replicate (m + 1) 0)) := by
    rw [lims_zeros, ← hgq]; exact Row.newz _ _ _ _
  have rr := hrrow.alloc (.cells (zrow (Value.int IntKind.u32 0) (m + 1)) 69)
  have rd := hdrow2.alloc (.cells (zrow (Value.int IntKind.u32 0) (m + 1)) 69)
  have l1 : gd < gr := by have := hdrow.lt; omega
  have l2 : gr < gq := by have := hrrow.lt; omega
  rw [hgd] at rd
  rw [hgr] at rr
  have HGD := Lib.hid hgd
  rw [hgd, hgr, hgq]
  clear hgr hgq hV hX v1' v2' v3' v4' hdrow hdrow2 hrrow hb1 hb2 hb1' hb2' hgd
  generalize w2.alloc (.cells (zrow (Value.int IntKind.u32 0) (m + 1)) 69) = wz at *
  go_loopw [11] (fun i wr => ∃ (k : Nat) (R Q : List Nat), k ≤ m + 1 ∧ i = .int .i64 ((k : Int) - 1) ∧ Hid (R.length = m + n + 3) ∧ AllB R ∧ Hid (Q.length = m + 1 - k) ∧ AllB Q ∧ Hid (X = val R + bp k * (val Q * V)) ∧ Hid (val R < bp k * V) ∧ Row wr gd 69 (lims ds) ∧ Row wr gr 69 (lims R) ∧ Row wr gq 69 (lims (List.replicate k 0 ++ Q)) ∧ Below gd w' wr) (fun i _ => (intOf i + 1).toNat)
  case atStart =>
    exact ⟨m + 1, rs, [], by omega, by go_num, HRL.out, hrall, by simp [Hid], AllB.nil, by rw [HRV.out]; simp [Hid, val], by rw [HRV.out]; exact hst, rd, rr, by rw [List.append_nil]; exact rq, BW⟩
  case round =>
    clear rd rr rq BW hst
    obtain ⟨k, R, Q, hk, rfl, hRl, hRa, hQl, hQa, hval, hlt, rd, rr, rq, BW⟩ := hrel
    rcases Nat.eq_zero_or_pos k with h0 | hp
    · subst h0
      have hrq0 : List.replicate 0 0 ++ Q = Q := rfl
      rw [hrq0] at rq
      have hsQ : Sl wr (some ⟨gq, 0, none⟩) (m + 1) (lims Q) := by
        have := rq.sl
        rwa [lims_len, hQl.out] at this
      have hsR : Sl wr (some ⟨gr, 0, none⟩) (n + 2) (lims (R.take (n + 2))) := by
        have := rr.cutSl (j := 0) (n := n + 2) (by rw [lims_len, hRl.out]; omega)
        rwa [List.drop_zero, lims_take] at this
      have hRt := hRa.take (n + 2)
      have HRT := Lib.hid (show (R.take (n + 2)).length = n + 2 by rw [List.length_take, hRl.out]; omega)
      have hvl := hlt.out
      rw [bp_zero, Nat.one_mul] at hvl
      have HRV2 := Lib.hid (dl_take hvl HV2.out (by rw [hRl.out]; omega))
      have hve := hval.out
      rw [bp_zero, Nat.one_mul] at hve
      have HEND := Lib.hid (dl_end (Nat.pow_pos (by omega : 0 < 2)) (by
        rcases Nat.eq_zero_or_pos (val dv) with h0 | h0
        · have := HVX.out; rw [h0, Nat.mul_zero] at this; omega
        · exact h0) (by rw [HXX.out, HVX.out]; exact hve) (by rw [HVX.out]; exact hvl) : val Q = val a / val dv ∧ val R / 2 ^ s = val a % val dv)
      have HSR := Lib.hid (fun (W : World) (h : Sl W (some ⟨gr, 0, none⟩) (n + 2) (lims (R.take (n + 2)))) => shiftRight_at (some ⟨gr, 0, none⟩) (m + n + 2 + 1) s (n + 2) (R.take (n + 2)) W h HRT.out hRt (by omega) (by omega) z2)
      have hsn : (strip Q).length ≤ m + 1 := Nat.le_trans (strip_len Q) (by rw [hQl.out]; omega)
      have hsg : gd ≤ wr.heap.size := Nat.le_of_lt rd.lt
      clear rd rr rq hrq0 hvl hve hval hlt hRl hRa
      go_wp2_with fail
      go_region_with (first
        | (go_at_call 76; ((with_reducible refine (trim_any (some ⟨gq, 0, none⟩) (m + 1) (m + 1) Q _ (hsQ.below ?_) (Nat.le_refl _) (by unfold maxLen; omega)).mono ?_); (repeat (first | with_reducible exact Below.refl _ _ | with_reducible refine kd_call h5 ?_ | with_reducible refine kd_drew ?_)); rintro e w4 ⟨rfl, rfl⟩))
        | (go_at_call 104; ((with_reducible refine (HSR.out _ (hsR.below ?_)).mono ?_); (repeat (first | with_reducible exact Below.refl _ _ | with_reducible refine kd_call h5 ?_ | with_reducible refine kd_drew ?_)); rintro e w5 ⟨l5, rfl, k5, al5, v5, r5, h5⟩; have s5 := r5.sl; rw [lims_len, k5] at s5))
        | (go_at_call 76; ((refine (trim_any _ (n + 2) (n + 2) l5 _ s5 (Nat.le_refl _) (by unfold maxLen; omega)).mono ?_); rintro e w6 ⟨rfl, rfl⟩)))
      all_goals
        have B5 : Below wr.heap.size wr w5 := kd_call h5 (kd_drew (Below.refl _ _))
        go_wp2_with fail
        go_ret2
        refine ⟨_, _, rfl, ⟨⟨strip Q, Lim.strip (hsQ.below B5) (Nat.le_refl _) (by unfold maxLen; omega) hQa, strip_noTop _, by rw [strip_val]; exact HEND.out.1, by omega⟩, ?_⟩, ⟨⟨strip l5, Lim.strip s5 (Nat.le_refl _) (by unfold maxLen; omega) al5, strip_noTop _, by rw [strip_val, v5, HRV2.out]; exact HEND.out.2, Nat.le_trans (strip_len _) (by omega)⟩, ?_⟩, ?_⟩
        · rw [HGD.out]; show gd ≤ gq; omega
        · rw [HGD.out]; show gd ≤ wr.heap.size; exact hsg
        · rw [HGD.out]; exact BW.trans (B5.mono hsg)
    · obtain ⟨j, rfl⟩ : ∃ j, k = j + 1 := ⟨k - 1, by omega⟩
      have e1 : ((((j + 1 : Nat) : Int)) - 1) = (j : Int) := by omega
      have E1 := Lib.hid e1
      clear e1
      rw [E1.out]
      have c1 : (j : Int) + ((n : Int) + 2) + 1 = ((j + n + 3 : Nat) : Int) := by omega
      have c2 : ((m + n + 2 + 1 : Nat) : Int) = (m : Int) + n + 3 := by omega
      have c3 : j + n + 3 - j = n + 3 := by omega
      obtain ⟨pre, ps, post, hRe, hpre, hps, hpost⟩ : ∃ pre ps post, R = pre ++ ps ++ post ∧ pre.length = j ∧ ps.length = n + 3 ∧ post.length = m - j := by
        refine ⟨R.take j, (R.drop j).take (n + 3), R.drop (j + (n + 3)), (part_split R j (n + 3)).symm, ?_, ?_, ?_⟩
        · rw [List.length_take, hRl.out]; omega
        · rw [List.length_take, List.length_drop, hRl.out]; omega
        · rw [List.length_drop, hRl.out]; omega
      subst hRe
      have ha1 := hRa.left.left
      have ha2 := hRa.left.right
      have ha3 := hRa.right
      obtain ⟨hz, hps2⟩ := dl_part hpre hps HV2.out hlt.out
      have HSTEP := Lib.hid (fun (ps' : List Nat) (h : ps'.length = n + 3) => dl_step (ps' := ps') hpre hps h ha1 hz hV0 hval.out)
      have HPRE := Lib.hid hpre
      have HPS := Lib.hid hps
      have HEST := Lib.hid (estimate_any (some ⟨gr, j, none⟩) (some ⟨gd, 0, none⟩) (m + n + 2 + 1 - j) (n + 2 + 1) n ps (ds.take (n + 2)) wr (part_at rr hpre hps) (by
        have := rd.cutSl (j := 0) (n := n + 2) (by rw [lims_len, HDL.out]; omega)
        rwa [List.drop_zero, lims_take] at this) ha2 hda (by omega) (by omega) (by omega) (by omega) (by omega) HTOP.out (by rw [HDT1.out, HDV.out] at *; exact hps2))
      clear hps hpost hz hpre hlt hval
      go_wp2_with fail
      refine HEST.out.mono ?_
      rintro e we ⟨qh, de, rfl, hq1, hq2, hq3, rfl⟩
      rw [HDT1.out] at hq2 hq3
      have rr2 := rr.drewN de
      have rd2 := rd.drewN de
      have rq2 := rq.drewN de
      have BW2 : Below gd w' (wr.drewN de) := below_drewN BW de
      clear HEST rr rd rq BW
      generalize wr.drewN de = wy at *
      have hsd2 : Sl wy (some ⟨gd, 0, none⟩) (n + 2) (lims (ds.take (n + 2))) := by
        have := rd2.cutSl (j := 0) (n := n + 2) (by rw [lims_len, HDL.out]; omega)
        rwa [List.drop_zero, lims_take] at this
      have HSUB := Lib.hid (subtract_at gr (m + n + 2 + 1 - j) (some ⟨gd, 0, none⟩) (n + 2 + 1) qh j n pre ps post (ds.take (n + 2)) wy rr2 hsd2 (fun b o h => by injection h with h; injection h with h1 h2 h3; omega) HPRE.out HDT.out HPS.out ha2 hda (by omega) (by omega) (by omega) (by omega) (by omega) (by omega) hq1)
      clear hsd2
      go_wp2_with fail
      refine HSUB.out.mono ?_
      rintro e wx ⟨ps', b, rfl, hb1, hp1, hp2, hp3, rr3, hg3⟩
      rw [HDT1.out] at hp3
      have hM := val_lt hp2
      rw [hp1] at hM
      have hEX := step_exact hV0 hq2 hq3 hM (Nat.le_of_lt (Nat.lt_of_lt_of_le HV2.out (bp_mono (by omega)))) hp3 hb1
      have rd3 := rd2.grown hg3 (by omega)
      have rq3 := rq2.grown hg3 (by omega)
      have BW3 : Below gd w' wx := BW2.grown hg3 (by have := rr2.lt; omega) (fun k hk => by injection hk with hk; omega)
      clear HSUB rr2 rd2 rq2 BW2 hg3
      have hjm : j < m + 1 := by omega
      have hc0 : wx.cell? ⟨gq, j, none⟩ = some (.int .u32 0) := by
        rw [rq3.cell, lims_get _ (by simp; omega), fpad_get]; rfl
      have hf0 : wx.frozen? ⟨gq, j, none⟩ = false := rq3.frozen j
      have HLEN : ∀ qs : List Nat, qs.length = n + 3 → (pre ++ qs ++ post).length = m + n + 3 := by
        intro qs hqs
        have := hRl.out
        rw [List.length_append, List.length_append, HPS.out] at this
        rw [List.length_append, List.length_append, hqs]; exact this
      have HLEN := Lib.hid HLEN
      have HDG := Lib.hid (show val ps / V < 4294967296 from Nat.lt_of_le_of_lt hq2 hq1)
      rcases (by omega : b = 0 ∨ b = 1) with hb0 | hb0
      · subst hb0
        obtain ⟨x1, x2⟩ := hEX.1 rfl
        have HS := Lib.hid (HSTEP.out ps' hp1 x2)
        have HX := Lib.hid x1
        have HPL := Lib.hid (HLEN.out ps' hp1)
        have HPA := Lib.hid ((ha1.append hp2).append ha3)
        have hqi : (qh : Int) % 4294967296 = (qh : Int) := by omega
        rw [show ((0 : Nat) != 0) = false from rfl]
        clear hEX x1 x2 hp1 hp3 hM hq2 hq3 HSTEP hps2
        go_wp2_with fail
        go_roundw
        case rel =>
          refine ⟨j, pre ++ ps' ++ post, qh :: Q, by omega, rfl, HPL.out, HPA.out, by unfold Hid; rw [List.length_cons, hQl.out]; omega, AllB.cons hq1 hQa, by unfold Hid; rw [HX.out]; exact HS.out.1, HS.out.2, rd3.far (by show gd ≠ gq; omega) _, rr3.far (by show gr ≠ gq; omega) _, ?_, BW3.setCell (by show gd ≤ gq; omega) _⟩
          rw [← fpad_set, ← lims_set]
          exact rq3.set_ j _
        case measure => simp [intOf]
      · subst hb0
        obtain ⟨x0, x1, x2⟩ := hEX.2 rfl
        obtain ⟨qd, rfl⟩ : ∃ qd, qh = qd + 1 := ⟨qh - 1, by omega⟩
        rw [Nat.add_sub_cancel] at x1
        have HX := Lib.hid x1
        have HX2 := Lib.hid x2
        have hqd : qd < 4294967296 := by omega
        have hqi : (qd : Int) % 4294967296 = (qd : Int) := by omega
        have hqw : ((qd + 1 : Nat) : Int) = (qd : Int) + 1 := by omega
        have hsd3 : Sl wx (some ⟨gd, 0, none⟩) (n + 2) (lims (ds.take (n + 2))) := by
          have := rd3.cutSl (j := 0) (n := n + 2) (by rw [lims_len, HDL.out]; omega)
          rwa [List.drop_zero, lims_take] at this
        have HBK := Lib.hid (addBack_at gr (m + n + 2 + 1 - j) (some ⟨gd, 0, none⟩) (n + 2 + 1) j n pre ps' post (ds.take (n + 2)) wx rr3 hsd3 (fun b o h => by injection h with h; injection h with h1 h2 h3; omega) HPRE.out HDT.out hp1 hp2 hda (by omega) (by omega) (by omega) (by omega) (by omega) (by omega))
        rw [show ((1 : Nat) != 0) = true from rfl]
        clear hEX x0 x1 x2 hsd3 hp1 hp3 hq2 hq3 hps2
        go_wp2_with fail
        refine HBK.out.mono ?_
        rintro e wk ⟨v, pt, c, rfl, hp4, hp5, hp6, rr4, hg4⟩
        rw [HDT1.out] at hp6
        have hM2 := val_lt hp5
        rw [hp4] at hM2
        have hBE := back_exact HX2.out hp6 hM2 (Nat.mod_lt _ hV0) (Nat.le_of_lt (Nat.lt_of_lt_of_le HV2.out (bp_mono (by omega))))
        have HS := Lib.hid (HSTEP.out pt hp4 hBE)
        have HPL := Lib.hid (HLEN.out pt hp4)
        have HPA := Lib.hid ((ha1.append hp5).append ha3)
        have rd4 := rd3.grown hg4 (by omega)
        have rq4 := rq3.grown hg4 (by omega)
        have BW4 : Below gd w' wk := BW3.grown hg4 (by have := rr3.lt; omega) (fun k hk => by injection hk with hk; omega)
        have hc4 : wk.cell? ⟨gq, j, none⟩ = some (.int .u32 0) := by
          rw [rq4.cell, lims_get _ (by simp; omega), fpad_get]; rfl
        have hf4 : wk.frozen? ⟨gq, j, none⟩ = false := rq4.frozen j
        clear HBK hp4 hp6 hM hM2 hBE HSTEP HX2 hg4 hc0 hf0 rr3 rd3 rq3 BW3
        go_wp2_with fail
        go_roundw
        case rel =>
          refine ⟨j, pre ++ pt ++ post, qd :: Q, by omega, rfl, HPL.out, HPA.out, by unfold Hid; rw [List.length_cons, hQl.out]; omega, AllB.cons hqd hQa, by unfold Hid; rw [HX.out]; exact HS.out.1, HS.out.2, rd4.far (by show gd ≠ gq; omega) _, rr4.far (by show gr ≠ gq; omega) _, ?_, BW4.setCell (by show gd ≤ gq; omega) _⟩
          rw [← fpad_set, ← lims_set]
          exact rq4.set_ j _
        case measure => simp [intOf]
end Go.Proofs.YtoihjclkocffhaaDoor
