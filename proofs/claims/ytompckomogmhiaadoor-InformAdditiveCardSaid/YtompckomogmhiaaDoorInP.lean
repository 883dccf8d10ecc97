/- Plain: the information of an item over one denominator. No condition. -/
import Derived.Test.YtompckomogmhiaaDoorRcl
import Derived.Test.YtompckomogmhiaaDoorModV
import Derived.Test.YtompckomogmhiaaDoorGridV
namespace Go.Proofs.YtompckomogmhiaaDoor
set_option linter.unusedVariables false

theorem getD_memZ {α : Type} {l : List α} {i : Nat} (d : α) (h : i < l.length) : l.getD i d ∈ l := by
  rw [List.getD_eq_getElem?_getD, List.getElem?_eq_getElem h]
  exact List.getElem_mem _
def facN : Nat → Nat
  | 0 => 1
  | n + 1 => facN n * (n + 1)
theorem facN_pos : ∀ n, 0 < facN n
  | 0 => by decide
  | n + 1 => Nat.mul_pos (facN_pos n) (by omega)
theorem facN_dvd {x : Nat} (h0 : 0 < x) : ∀ n, x ≤ n → x ∣ facN n
  | 0, h => by omega
  | n + 1, h => by
    unfold facN
    rcases Nat.lt_or_ge n x with hl | hl
    · obtain rfl : x = n + 1 := by omega
      exact Nat.dvd_mul_left _ _
    · exact Nat.dvd_trans (facN_dvd h0 n hl) (Nat.dvd_mul_right _ _)
theorem facN_le : ∀ n, n ≤ 1000 → facN n ≤ 1000 ^ n
  | 0, _ => Nat.le_refl _
  | n + 1, h => by
    unfold facN
    rw [Nat.pow_succ]
    exact Nat.mul_le_mul (facN_le n (by omega)) h
/-- A common multiple of all weights. -/
def IsLam (Z : Nat) : Prop := 0 < Z ∧ (∀ x, 1 ≤ x → x ≤ 1000 → x ∣ Z) ∧ Z < bp 320
theorem bp_pow2 (k : Nat) : bp k = 2 ^ (32 * k) := by
  unfold bp
  rw [Nat.pow_mul, show (2 : Nat) ^ 32 = 4294967296 by decide]
theorem lam_bound (n : Nat) (h : 10 * n ≤ 1000) : facN (10 * n) ≤ 2 ^ (100 * n) :=
  Nat.le_trans (facN_le _ h) (by rw [Nat.pow_mul, Nat.pow_mul]; exact Nat.pow_le_pow_left (by decide) n)
theorem lam_lt (n : Nat) (h : 10 * n ≤ 1000) (k : Nat) (h2 : 100 * n < 32 * k) : facN (10 * n) < bp k := by
  rw [bp_pow2]
  exact Nat.lt_of_le_of_lt (lam_bound n h) (Nat.pow_lt_pow_right (by decide) h2)
theorem lam_ex : ∃ Z, IsLam Z :=
  ⟨facN (10 * 100), facN_pos _, fun x h0 h => facN_dvd h0 (10 * 100) (by omega), lam_lt 100 (by decide) 320 (by decide)⟩
/-- The neighbors of a grid index. -/
def inA (q : Nat) : Nat := q - 1
def inB (n q : Nat) : Nat := min (q + 1) (n - 1)
/-- Their distance. -/
def inX (ps : List Int) (q : Nat) : Int := ps.getD (inB ps.length q) 0 - ps.getD (inA q) 0
/-- The change of a category's probability. -/
def inC (m : List (List Int)) (n q k : Nat) : Int := (m.getD (inB n q) []).getD k 0 - (m.getD (inA q) []).getD k 0
/-- A term over the common denominator. -/
def inT (Z : Nat) (m : List (List Int)) (n q k : Nat) : Int := inC m n q k * inC m n q k * ((Z / ((m.getD q []).getD k 0).toNat : Nat) : Int)
/-- The information over the common denominator. -/
def inF (Z : Nat) (m : List (List Int)) (n q : Nat) : Int := mom (inT Z m n q) (catsOf m)
/-- The common denominator. -/
def ifD (Z : Nat) (ps : List Int) (q : Nat) : Nat := if inX ps q = 0 then 1 else (1000 * inX ps q * inX ps q).toNat * Z
/-- A model's rows, as they are needed here. -/
theorem in_rows {m : List (List Int)} {n : Nat} (h : modE m (n : Int) = 0) : m.length = n ∧ 1 ≤ n ∧ n ≤ 21 ∧ 2 ≤ catsOf m ∧ catsOf m ≤ 6 ∧ ∀ i, i < n → (m.getD i []).length = catsOf m ∧ ∀ k, k < catsOf m → 1 ≤ (m.getD i []).getD k 0 ∧ (m.getD i []).getD k 0 ≤ 1000 := by
  obtain ⟨m1, m2, m3, m4, m5, m6⟩ := modE_zero h
  refine ⟨by omega, by omega, by omega, m4, m5, fun i hi => ?_⟩
  obtain ⟨r1, r2, _⟩ := m6 _ (getD_memZ [] (show i < m.length by omega))
  exact ⟨r1, fun k hk => r2 _ (getD_memZ 0 (by omega))⟩
theorem in_ab {n q : Nat} (hq : q < n) : inA q < n ∧ inB n q < n ∧ inA q ≤ inB n q ∧ inA q ≤ q := by
  unfold inA inB; omega
theorem in_rise {ps : List Int} (h : ∀ j, j + 1 < ps.length → ps.getD j 0 < ps.getD (j + 1) 0) {i : Nat} : ∀ j, i < j → j < ps.length → ps.getD i 0 < ps.getD j 0
  | 0, hij, _ => by omega
  | j + 1, hij, hj => by
    have h1 := h j hj
    rcases Nat.lt_or_ge i j with hl | hl
    · have := in_rise h j hl (by omega); omega
    · obtain rfl : i = j := by omega
      exact h1
theorem in_x {ps rs : List Int} {q : Nat} (h : gridE ps rs = 0) (hq : q < ps.length) : 0 ≤ inX ps q ∧ inX ps q ≤ 2000 ∧ (inX ps q = 0 ↔ inA q = inB ps.length q) := by
  obtain ⟨_, _, _, h4, h5⟩ := gridE_zero h
  obtain ⟨a1, a2, a3, _⟩ := in_ab hq
  have b1 := h4 _ a1
  have b2 := h4 _ a2
  unfold inX
  rcases Nat.lt_or_ge (inA q) (inB ps.length q) with hl | hl
  · have := in_rise h5 _ hl a2
    exact ⟨by omega, by omega, fun h => by omega, fun h => by omega⟩
  · have e : inA q = inB ps.length q := by omega
    rw [e]
    exact ⟨by omega, by omega, fun _ => rfl, fun _ => by omega⟩
theorem in_c {m : List (List Int)} {n q k : Nat} (h : modE m (n : Int) = 0) (hq : q < n) (hk : k < catsOf m) : -1000 ≤ inC m n q k ∧ inC m n q k ≤ 1000 := by
  obtain ⟨_, _, _, _, _, h6⟩ := in_rows h
  obtain ⟨a1, a2, _⟩ := in_ab hq
  have b1 := (h6 _ a1).2 k hk
  have b2 := (h6 _ a2).2 k hk
  unfold inC
  omega
theorem sq_le {c : Int} (h1 : -1000 ≤ c) (h2 : c ≤ 1000) : 0 ≤ c * c ∧ c * c ≤ 1000000 := by
  have h3 : 0 ≤ c * c := by
    rcases Int.le_total 0 c with h | h
    · exact Int.mul_nonneg h h
    · exact Int.mul_nonneg_of_nonpos_of_nonpos h h
  refine ⟨h3, ?_⟩
  have h4 := Int.mul_nonneg (show 0 ≤ 1000 - c by omega) (show 0 ≤ 1000 + c by omega)
  have h5 : (1000 - c) * (1000 + c) = 1000000 - c * c := by grind
  omega
theorem inT_bd {Z : Nat} {m : List (List Int)} {n q k : Nat} (h : modE m (n : Int) = 0) (hq : q < n) (hk : k < catsOf m) : 0 ≤ inT Z m n q k ∧ inT Z m n q k ≤ 1000000 * (Z : Int) := by
  obtain ⟨c1, c2⟩ := in_c h hq hk
  obtain ⟨s1, s2⟩ := sq_le c1 c2
  unfold inT
  have hd := Nat.div_le_self Z ((m.getD q []).getD k 0).toNat
  generalize Z / ((m.getD q []).getD k 0).toNat = y at *
  refine ⟨Int.mul_nonneg s1 (by omega), ?_⟩
  exact Int.mul_le_mul s2 (by omega) (by omega) (by omega)
theorem mom_bd {f : Nat → Int} {B : Int} : ∀ k, (∀ i, i < k → 0 ≤ f i ∧ f i ≤ B) → 0 ≤ mom f k ∧ mom f k ≤ (k : Int) * B
  | 0, _ => ⟨Int.le_refl _, by simp [mom]⟩
  | k + 1, h => by
    obtain ⟨a, b⟩ := mom_bd k (fun i hi => h i (by omega))
    obtain ⟨c, d⟩ := h k (by omega)
    show 0 ≤ mom f k + f k ∧ mom f k + f k ≤ _
    refine ⟨by omega, ?_⟩
    have : ((k + 1 : Nat) : Int) * B = (k : Int) * B + B := by push_cast; rw [Int.add_mul, Int.one_mul]
    omega
theorem inS_bd {Z : Nat} {m : List (List Int)} {n q : Nat} (h : modE m (n : Int) = 0) (hq : q < n) {k : Nat} (hk : k ≤ catsOf m) : 0 ≤ mom (inT Z m n q) k ∧ mom (inT Z m n q) k ≤ 6000000 * (Z : Int) := by
  obtain ⟨_, _, _, _, h5, _⟩ := in_rows h
  obtain ⟨a, b⟩ := mom_bd (f := inT Z m n q) (B := 1000000 * (Z : Int)) k (fun i hi => inT_bd h hq (by omega))
  refine ⟨a, Int.le_trans b ?_⟩
  have : (k : Int) * (1000000 * (Z : Int)) ≤ 6 * (1000000 * (Z : Int)) := Int.mul_le_mul_of_nonneg_right (by omega) (by omega)
  omega
theorem inD_bd {Z : Nat} {ps rs : List Int} {q : Nat} (hZ : IsLam Z) (h : gridE ps rs = 0) (hq : q < ps.length) : 0 < ifD Z ps q ∧ ifD Z ps q ≤ 4000000000 * Z := by
  obtain ⟨x1, x2, _⟩ := in_x h hq
  have hz := hZ.1
  unfold ifD
  split
  · omega
  · rename_i h0
    have h1 : 0 < inX ps q := by omega
    have h2 := Int.mul_pos h1 h1
    have h3 : inX ps q * inX ps q ≤ 2000 * 2000 := Int.mul_le_mul x2 x2 (by omega) (by omega)
    have h4 : 1000 * inX ps q * inX ps q = 1000 * (inX ps q * inX ps q) := Int.mul_assoc _ _ _
    rw [h4]
    refine ⟨Nat.mul_pos (by omega) hz, Nat.mul_le_mul_right _ (by omega)⟩
theorem bp_lam {Z x : Nat} (hZ : IsLam Z) (h : x ≤ 1000000000000000 * Z) : x < bp 330 := by
  have h1 := hZ.2.2
  have h2 : bp 330 = bp 320 * bp 10 := bp_add 320 10
  have h3 : 1000000000000000 ≤ bp 10 := by decide
  have h4 : 1000000000000000 * Z < bp 10 * bp 320 := Nat.lt_of_le_of_lt (Nat.mul_le_mul_right _ h3) (Nat.mul_lt_mul_of_pos_left h1 (bp_pos _))
  rw [h2, Nat.mul_comm (bp 320)]
  omega
theorem red_bd {Z D : Nat} {p : Int} (hZ : IsLam Z) (h0 : 0 ≤ p) (hp : p ≤ 1000000000000000 * (Z : Int)) (hD : D ≤ 1000000000000000 * Z) : (redP p D).natAbs < bp 330 ∧ redQ p D < bp 330 :=
  ⟨bp_lam hZ (Nat.le_trans (redP_leS p D) (by omega)), bp_lam hZ (Nat.le_trans (redQ_leS p D) hD)⟩
/-- A term of the program is a term over the common denominator. -/
theorem term_red {Z : Nat} (hZ : IsLam Z) {c d x : Int} (hd : 0 < d) (hx : 1 ≤ x) (hx2 : x ≤ 1000) :
    redP (c * c) (1000 * d * d * x).toNat = redP (c * c * ((Z / x.toNat : Nat) : Int)) ((1000 * d * d).toNat * Z) ∧ redQ (c * c) (1000 * d * d * x).toNat = redQ (c * c * ((Z / x.toNat : Nat) : Int)) ((1000 * d * d).toNat * Z) := by
  have hdd : 0 < 1000 * d * d := Int.mul_pos (by omega) hd
  have hddx : 0 < 1000 * d * d * x := Int.mul_pos hdd (by omega)
  obtain ⟨y, hy⟩ := hZ.2.1 x.toNat (by omega) (by omega)
  have hx0 : 0 < x.toNat := by omega
  have hyZ : Z / x.toNat = y := by rw [hy]; exact Nat.mul_div_cancel_left _ hx0
  have hz := hZ.1
  refine red_cross (by omega) (Nat.mul_pos (by omega) hz) ?_
  rw [hyZ, Int.natCast_mul, Int.toNat_of_nonneg (by omega), Int.toNat_of_nonneg (by omega), hy, Int.natCast_mul, Int.toNat_of_nonneg (by omega)]
  grind
theorem inF_one {Z : Nat} {m : List (List Int)} {n q : Nat} (h : inA q = inB n q) : inF Z m n q = 0 := by
  have : ∀ k, mom (inT Z m n q) k = 0 := by
    intro k
    induction k with
    | zero => rfl
    | succ k ih =>
      show mom _ k + inT Z m n q k = 0
      rw [ih]
      unfold inT inC
      rw [h]
      simp
  exact this _
end Go.Proofs.YtompckomogmhiaaDoor
