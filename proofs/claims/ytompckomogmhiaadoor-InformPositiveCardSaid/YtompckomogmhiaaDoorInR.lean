/- Plain: collapsing categories never increases the information; stretching the grid divides it; it is 0 exactly for equal rows. No condition. -/
import Derived.Test.YtompckomogmhiaaDoorInP
import Derived.Test.YtompckomogmhiaaDoorMoCp
namespace Go.Proofs.YtompckomogmhiaaDoor
set_option linter.unusedVariables false

/-- Two quotients joined (Z a common multiple). -/
theorem titu {Z A B T C c W x : Int} (hW : 0 < W) (hx : 0 < x) (hA : A * W = Z) (hB : B * x = Z) (hT : T * (W + x) = Z) (hZ : 0 ≤ Z) : (C + c) * (C + c) * T ≤ C * C * A + c * c * B := by
  have h1 : 0 < W * x * (W + x) := Int.mul_pos (Int.mul_pos hW hx) (by omega)
  have h2 : 0 ≤ Z * ((C * x - c * W) * (C * x - c * W)) := by
    refine Int.mul_nonneg hZ ?_
    rcases Int.le_total 0 (C * x - c * W) with h | h
    · exact Int.mul_nonneg h h
    · exact Int.mul_nonneg_of_nonpos_of_nonpos h h
  have e1 : (C + c) * (C + c) * T * (W * x * (W + x)) = (C + c) * (C + c) * (W * x) * Z := by rw [← hT]; grind
  have e2 : (C * C * A + c * c * B) * (W * x * (W + x)) = C * C * x * (W + x) * Z + c * c * W * (W + x) * Z := by
    have a1 : C * C * A * (W * x * (W + x)) = C * C * x * (W + x) * (A * W) := by grind
    have a2 : c * c * B * (W * x * (W + x)) = c * c * W * (W + x) * (B * x) := by grind
    rw [Int.add_mul, a1, a2, hA, hB]
  have e3 : C * C * x * (W + x) * Z + c * c * W * (W + x) * Z - (C + c) * (C + c) * (W * x) * Z = Z * ((C * x - c * W) * (C * x - c * W)) := by grind
  refine Int.le_of_mul_le_mul_right (a := W * x * (W + x)) ?_ h1
  rw [e1, e2]
  omega
theorem mom_upd {f g : Nat → Int} {j0 : Nat} {d : Int} (h0 : ∀ j, j ≠ j0 → f j = g j) (hd : g j0 ≤ f j0 + d) (hp : 0 ≤ d) : ∀ n, mom g n ≤ mom f n + d ∧ (n ≤ j0 → mom g n = mom f n)
  | 0 => ⟨by show (0 : Int) ≤ 0 + d; omega, fun _ => rfl⟩
  | n + 1 => by
    obtain ⟨a, b⟩ := mom_upd h0 hd hp n
    refine ⟨?_, fun hn => ?_⟩
    · show mom g n + g n ≤ mom f n + f n + d
      by_cases hj : n = j0
      · subst hj
        have := b (Nat.le_refl _)
        omega
      · have := h0 n hj
        omega
    · show mom g n + g n = mom f n + f n
      rw [b (by omega), h0 n (by omega)]
theorem mrg_none {tg row : List Int} {j : Int} : ∀ k, (∀ i, i < k → tg.getD i 0 ≠ j) → mrg tg row j k = 0
  | 0, _ => rfl
  | k + 1, h => by
    unfold mrg
    rw [if_neg (h k (by omega))]
    exact mrg_none k fun i hi => h i (by omega)
theorem mrg_mom {tg row : List Int} {j : Int} (hr : ∀ i, 0 ≤ row.getD i 0) : ∀ k, 0 ≤ mrg tg row j k ∧ mrg tg row j k ≤ mom (fun i => row.getD i 0) k
  | 0 => ⟨Int.le_refl _, Int.le_refl _⟩
  | k + 1 => by
    obtain ⟨a, b⟩ := mrg_mom (tg := tg) (j := j) hr k
    have := hr k
    show 0 ≤ mrg tg row j (k + 1) ∧ mrg tg row j (k + 1) ≤ mom _ k + row.getD k 0
    unfold mrg
    split <;> omega
theorem mom_rowI (r : List Int) : ∀ j, j ≤ r.length → mom (fun i => r.getD i 0) j = (r.take j).sum
  | 0, _ => by simp [mom]
  | j + 1, h => by
    show mom _ j + r.getD j 0 = _
    rw [mom_rowI r j (by omega), List.take_succ_eq_append_getElem (by omega), List.sum_append, List.getD_eq_getElem?_getD, List.getElem?_eq_getElem (by omega)]
    simp
theorem mom_leI {f : Nat → Int} (h : ∀ i, 0 ≤ f i) {j : Nat} : ∀ k, j ≤ k → mom f j ≤ mom f k
  | 0, hj => by
    obtain rfl : j = 0 := by omega
    exact Int.le_refl _
  | k + 1, hj => by
    rcases Nat.lt_or_ge j (k + 1) with hl | hl
    · have := mom_leI h k (j := j) (by omega)
      have := h k
      show mom f j ≤ mom f k + f k
      omega
    · obtain rfl : j = k + 1 := by omega
      exact Int.le_refl _
/-- A group's term, over the common denominator, of the first k categories. -/
def grpT (Z : Nat) (tg ra rb rq : List Int) (k j : Nat) : Int :=
  (mrg tg rb (j : Int) k - mrg tg ra (j : Int) k) * (mrg tg rb (j : Int) k - mrg tg ra (j : Int) k) * ((Z / (mrg tg rq (j : Int) k).toNat : Nat) : Int)
theorem div_int {Z x : Nat} (h : x ∣ Z) (hx : 0 < x) : ((Z / x : Nat) : Int) * (x : Int) = (Z : Int) := by
  rw [← Int.natCast_mul, Nat.div_mul_cancel h]
theorem grp_le {Z : Nat} (hZ : IsLam Z) {tg ra rb rq : List Int} {n c : Nat} (ht : ∀ i, i < c → 0 ≤ tg.getD i 0 ∧ (tg.getD i 0).toNat < n) (hq1 : ∀ i, i < c → 1 ≤ rq.getD i 0) (hqn : ∀ i, 0 ≤ rq.getD i 0) (hqs : mom (fun i => rq.getD i 0) c ≤ 1000) :
    ∀ k, k ≤ c → mom (grpT Z tg ra rb rq k) n ≤ mom (fun i => (rb.getD i 0 - ra.getD i 0) * (rb.getD i 0 - ra.getD i 0) * ((Z / (rq.getD i 0).toNat : Nat) : Int)) k
  | 0, _ => by
    have : ∀ n, mom (grpT Z tg ra rb rq 0) n = 0 := by
      intro n
      induction n with
      | zero => rfl
      | succ n ih =>
        show mom _ n + grpT Z tg ra rb rq 0 n = 0
        rw [ih]
        unfold grpT mrg
        simp
    rw [this]
    exact Int.le_refl _
  | k + 1, hk => by
    have ih := grp_le hZ (ra := ra) (rb := rb) ht hq1 hqn hqs k (by omega)
    obtain ⟨t0, t1⟩ := ht k (by omega)
    have hx1 := hq1 k (by omega)
    have hZ0 := hZ.1
    obtain ⟨j0, hj0⟩ : ∃ j : Nat, tg.getD k 0 = (j : Int) := ⟨(tg.getD k 0).toNat, (Int.toNat_of_nonneg t0).symm⟩
    have hsum := mom_leI (f := fun i => rq.getD i 0) hqn c hk
    have hsum2 : mom (fun i => rq.getD i 0) (k + 1) = mom (fun i => rq.getD i 0) k + rq.getD k 0 := rfl
    have hstep : ∀ (row : List Int) (j : Nat), mrg tg row (j : Int) (k + 1) = if (j0 : Int) = (j : Int) then mrg tg row (j : Int) k + row.getD k 0 else mrg tg row (j : Int) k := by
      intro row j
      show (if tg.getD k 0 = (j : Int) then _ else _) = _
      rw [hj0]
    obtain ⟨w0, w1⟩ := mrg_mom (tg := tg) (row := rq) (j := (j0 : Int)) hqn k
    have hterm0 : 0 ≤ (rb.getD k 0 - ra.getD k 0) * (rb.getD k 0 - ra.getD k 0) * ((Z / (rq.getD k 0).toNat : Nat) : Int) := by
      refine Int.mul_nonneg ?_ (Int.natCast_nonneg _)
      rcases Int.le_total 0 (rb.getD k 0 - ra.getD k 0) with h | h
      · exact Int.mul_nonneg h h
      · exact Int.mul_nonneg_of_nonpos_of_nonpos h h
    have hm := (mom_upd (f := grpT Z tg ra rb rq k) (g := grpT Z tg ra rb rq (k + 1)) (j0 := j0) (d := (rb.getD k 0 - ra.getD k 0) * (rb.getD k 0 - ra.getD k 0) * ((Z / (rq.getD k 0).toNat : Nat) : Int)) (fun j hj => by
      unfold grpT
      rw [hstep, hstep, hstep, if_neg (by omega), if_neg (by omega), if_neg (by omega)]) (by
      unfold grpT
      rw [hstep, hstep, hstep, if_pos rfl, if_pos rfl, if_pos rfl]
      have hdx := hZ.2.1 (rq.getD k 0).toNat (by omega) (by omega)
      have hBx := div_int hdx (by omega)
      rw [Int.toNat_of_nonneg (by omega)] at hBx
      rcases Int.lt_or_le 0 (mrg tg rq (j0 : Int) k) with hW | hW
      · have hdW := hZ.2.1 (mrg tg rq (j0 : Int) k).toNat (by omega) (by omega)
        have hdT := hZ.2.1 (mrg tg rq (j0 : Int) k + rq.getD k 0).toNat (by omega) (by omega)
        have hAW := div_int hdW (by omega)
        have hTT := div_int hdT (by omega)
        rw [Int.toNat_of_nonneg (by omega)] at hAW hTT
        have := titu (C := mrg tg rb (j0 : Int) k - mrg tg ra (j0 : Int) k) (c := rb.getD k 0 - ra.getD k 0) hW (show 0 < rq.getD k 0 by omega) hAW hBx hTT (Int.natCast_nonneg _)
        have e : mrg tg rb (j0 : Int) k + rb.getD k 0 - (mrg tg ra (j0 : Int) k + ra.getD k 0) = mrg tg rb (j0 : Int) k - mrg tg ra (j0 : Int) k + (rb.getD k 0 - ra.getD k 0) := by omega
        rw [e]
        exact this
      · have hW0 : mrg tg rq (j0 : Int) k = 0 := by omega
        have hno : ∀ i, i < k → tg.getD i 0 ≠ (j0 : Int) := by
          intro i hi he
          have hpos : ∀ m, m ≤ k → i < m → 1 ≤ mrg tg rq (j0 : Int) m := by
            intro m
            induction m with
            | zero => intro _ h; omega
            | succ m ih2 =>
              intro hm him
              have hnn := (mrg_mom (tg := tg) (row := rq) (j := (j0 : Int)) hqn m).1
              unfold mrg
              by_cases hmi : i = m
              · subst hmi
                rw [if_pos he]
                have := hq1 i (by omega)
                omega
              · have := ih2 (by omega) (by omega)
                have := hqn m
                split <;> omega
          have := hpos k (Nat.le_refl _) hi
          omega
        rw [mrg_none (row := rb) k hno, mrg_none (row := ra) k hno, hW0]
        simp only [Int.zero_add, Int.sub_self, Int.zero_mul, Int.mul_zero]
        exact Int.le_refl _) hterm0 n).1
    exact Int.le_trans hm (Int.add_le_add_right ih _)
/-- Collapsing never increases the information. -/
theorem inF_collapse {Z : Nat} {m : List (List Int)} {tg : List Int} {n q : Nat} (hZ : IsLam Z) (hm : modE m (n : Int) = 0) (hE : colE (modE m (n : Int)) (catsOf m) tg = 0) (hq : q < n) : modE (colL m tg) (n : Int) = 0 ∧ inF Z (colL m tg) n q ≤ inF Z m n q := by
  obtain ⟨hml, n1, n21, k2, k6, hrows⟩ := in_rows hm
  obtain ⟨_, c1, c2, c3, c4⟩ := colE_zero hE
  have hml2 : (m.length : Int) = (n : Int) := by omega
  obtain ⟨v1, v2⟩ := col_valid (rows := m) (tg := tg) (by rw [hml2]; exact hm) (by rw [hml2]; exact hE)
  rw [colL_len, hml2] at v1
  refine ⟨v1, ?_⟩
  obtain ⟨a1, a2, _, _⟩ := in_ab hq
  obtain ⟨m1, m2, m3, m4, m5, m6⟩ := modE_zero hm
  have ht := to_range c3 c2
  have e : ∀ j, inT Z (colL m tg) n q j = grpT Z tg (m.getD (inA q) []) (m.getD (inB n q) []) (m.getD q []) tg.length j := by
    intro j
    unfold inT inC grpT
    rw [colL_get (by omega), colL_get (by omega), colL_get (by omega), colR_get c3 c2, colR_get c3 c2, colR_get c3 c2]
  have hq1 : ∀ i, i < tg.length → 1 ≤ (m.getD q []).getD i 0 := fun i hi => ((hrows q hq).2 i (by omega)).1
  have hqn : ∀ i, 0 ≤ (m.getD q []).getD i 0 := fun i => by
    rcases Nat.lt_or_ge i (catsOf m) with hi | hi
    · have := ((hrows q hq).2 i hi).1; omega
    · rw [List.getD_eq_getElem?_getD, List.getElem?_eq_none (by rw [(hrows q hq).1]; exact hi)]; exact Int.le_refl _
  have hqs : mom (fun i => (m.getD q []).getD i 0) tg.length ≤ 1000 := by
    have h1 := mom_rowI (m.getD q []) tg.length (by rw [(hrows q hq).1]; omega)
    rw [List.take_of_length_le (by rw [(hrows q hq).1]; omega), (m6 _ (getD_memZ [] (by omega))).2.2] at h1
    omega
  have := grp_le hZ (ra := m.getD (inA q) []) (rb := m.getD (inB n q) []) (n := (lastOf tg).toNat + 1) ht hq1 hqn hqs tg.length (Nat.le_refl _)
  unfold inF
  rw [v2]
  have e2 : mom (inT Z (colL m tg) n q) ((lastOf tg).toNat + 1) = mom (grpT Z tg (m.getD (inA q) []) (m.getD (inB n q) []) (m.getD q []) tg.length) ((lastOf tg).toNat + 1) := by
    rw [show inT Z (colL m tg) n q = grpT Z tg (m.getD (inA q) []) (m.getD (inB n q) []) (m.getD q []) tg.length from funext e]
  rw [e2]
  refine Int.le_trans this ?_
  rw [c1]
  exact Int.le_refl _
/-- All points multiplied. -/
def scP (c : Nat) (ps : List Int) : List Int := ps.map (· * (c : Int))
theorem scP_len (c : Nat) (ps : List Int) : (scP c ps).length = ps.length := by simp [scP]
theorem scP_get (c : Nat) (ps : List Int) (i : Nat) : (scP c ps).getD i 0 = ps.getD i 0 * (c : Int) := by
  unfold scP
  rw [List.getD_eq_getElem?_getD, List.getElem?_map, List.getD_eq_getElem?_getD]
  cases ps[i]? with
  | none => simp
  | some x => simp
theorem scP_x (c : Nat) (ps : List Int) (q : Nat) : inX (scP c ps) q = inX ps q * (c : Int) := by
  unfold inX
  rw [scP_len, scP_get, scP_get, Int.sub_mul]
theorem stretch_red {N : Int} {D D' c : Nat} (hD : 0 < D) (hD' : 0 < D') (h : N = 0 ∨ D' = c * c * D) :
    redP (redP N D' * ((c * c : Nat) : Int)) (redQ N D' * 1) = redP N D ∧ redQ (redP N D' * ((c * c : Nat) : Int)) (redQ N D' * 1) = redQ N D := by
  have q1 := redQ_pos (p := N) hD'
  refine red_cross (by omega) hD ?_
  obtain ⟨a1, b1⟩ := red_mul N D'
  have g1 := gcd_posR (p := N) hD'
  have b1' : (D' : Int) = (redQ N D' : Int) * ((Nat.gcd N.natAbs D' : Nat) : Int) := by rw [← Int.natCast_mul, ← b1]
  generalize ((Nat.gcd N.natAbs D' : Nat) : Int) = g at *
  generalize redP N D' = P at *
  generalize redQ N D' = Q at *
  rw [Nat.mul_one]
  rcases h with h | h
  · have hP : P = 0 := by
      rcases Int.mul_eq_zero.1 (show P * g = 0 by rw [← a1]; exact h) with h1 | h1
      · exact h1
      · omega
    rw [hP, h]; simp
  · have h2 : (D' : Int) = ((c * c : Nat) : Int) * (D : Int) := by rw [h, Int.natCast_mul]
    rw [a1]
    have h3 : P * ((c * c : Nat) : Int) * (D : Int) = P * (((c * c : Nat) : Int) * (D : Int)) := by rw [Int.mul_assoc]
    rw [h3, ← h2, b1']
    grind
/-- The denominator behind a stretch. -/
theorem stretch_D {Z : Nat} {ps : List Int} {q c : Nat} (hc : 0 < c) (hx : 0 ≤ inX ps q) (h0 : inX ps q ≠ 0) : ifD Z (scP c ps) q = c * c * ifD Z ps q := by
  unfold ifD
  rw [scP_x]
  have hcI : (0 : Int) < (c : Int) := by omega
  have hxp : 0 < inX ps q := by omega
  have h1 : inX ps q * (c : Int) ≠ 0 := by have := Int.mul_pos hxp hcI; omega
  rw [if_neg h1, if_neg h0]
  have hp := Int.mul_pos hxp hxp
  have e : 1000 * (inX ps q * (c : Int)) * (inX ps q * (c : Int)) = ((c * c : Nat) : Int) * (1000 * inX ps q * inX ps q) := by
    rw [Int.natCast_mul]; grind
  have e2 : 1000 * inX ps q * inX ps q = 1000 * (inX ps q * inX ps q) := Int.mul_assoc _ _ _
  rw [e, Int.toNat_mul (by omega) (by omega), Int.toNat_natCast, Nat.mul_assoc]
/-- The information is 0 exactly where nothing changes. -/
theorem inF_zero {Z : Nat} {m : List (List Int)} {n q : Nat} (hZ : IsLam Z) (hm : modE m (n : Int) = 0) (hq : q < n) : 0 ≤ inF Z m n q ∧ (inF Z m n q = 0 ↔ ∀ k, k < catsOf m → (m.getD (inA q) []).getD k 0 = (m.getD (inB n q) []).getD k 0) := by
  obtain ⟨hml, n1, n21, k2, k6, hrows⟩ := in_rows hm
  have key : ∀ c, c ≤ catsOf m → 0 ≤ mom (inT Z m n q) c ∧ (mom (inT Z m n q) c = 0 ↔ ∀ k, k < c → (m.getD (inA q) []).getD k 0 = (m.getD (inB n q) []).getD k 0) := by
    intro c
    induction c with
    | zero => intro _; exact ⟨Int.le_refl _, fun _ k hk => by omega, fun _ => rfl⟩
    | succ c ih =>
      intro hc
      obtain ⟨i1, i2⟩ := ih (by omega)
      obtain ⟨t1, _⟩ := inT_bd (Z := Z) hm hq (show c < catsOf m by omega)
      have hx := (hrows q hq).2 c (by omega)
      have hd := hZ.2.1 ((m.getD q []).getD c 0).toNat (by omega) (by omega)
      have hpos : 0 < Z / ((m.getD q []).getD c 0).toNat := Nat.div_pos (Nat.le_of_dvd hZ.1 hd) (by omega)
      have hz : inT Z m n q c = 0 ↔ (m.getD (inA q) []).getD c 0 = (m.getD (inB n q) []).getD c 0 := by
        unfold inT
        constructor
        · intro h
          rcases Int.mul_eq_zero.1 h with h | h
          · have := (Int.mul_eq_zero.1 h).elim (fun h => h) (fun h => h)
            unfold inC at this
            omega
          · omega
        · intro h
          have : inC m n q c = 0 := by unfold inC; omega
          rw [this]; simp
      refine ⟨?_, ?_⟩
      · show 0 ≤ mom (inT Z m n q) c + inT Z m n q c; omega
      · show mom (inT Z m n q) c + inT Z m n q c = 0 ↔ _
        constructor
        · intro h k hk
          rcases Nat.lt_or_ge k c with hl | hl
          · exact i2.1 (by omega) k hl
          · obtain rfl : k = c := by omega
            exact hz.1 (by omega)
        · intro h
          have h1 := i2.2 fun k hk => h k (by omega)
          have h2 := hz.2 (h c (by omega))
          omega
  exact key _ (Nat.le_refl _)
end Go.Proofs.YtompckomogmhiaaDoor
