/- Plain law: the models of Ramp and Steps are valid and monotone, and agree for one difficulty. -/
import Derived.Test.YtokpembimalhmaaDoorMoL
namespace Go.Proofs.YtokpembimalhmaaDoor
open Go.RowKit
set_option linter.unusedVariables false

theorem scanE_mk : ∀ {l : List Int} {s : Int}, (∀ x ∈ l, 1 ≤ x ∧ x ≤ 1000) → s + l.sum = 1000 → scanE l s = 0
  | [], s, _, h => by simp only [List.sum_nil] at h; rw [scanE, if_pos (by omega)]
  | x :: l, s, hx, h => by
    have := hx x (by simp)
    rw [scanE, if_neg (by omega)]
    exact scanE_mk (fun y hy => hx y (by simp [hy])) (by simp only [List.sum_cons] at h; omega)
theorem rowsE_mk {c : Nat} : ∀ {l : List (List Int)}, (∀ r ∈ l, r.length = c ∧ (∀ x ∈ r, 1 ≤ x ∧ x ≤ 1000) ∧ r.sum = 1000) → rowsE c l = 0
  | [], _ => rfl
  | r :: l, h => by
    obtain ⟨h1, h2, h3⟩ := h r (by simp)
    rw [rowsE, if_pos (by rw [rowE_scan h1]; exact scanE_mk h2 (by omega))]
    exact rowsE_mk fun y hy => h y (by simp [hy])
/-- A valid model. -/
theorem modE_mk {rows : List (List Int)} {n c : Nat} (hn : rows.length = n) (h1 : 1 ≤ n) (h2 : n ≤ 21) (h3 : 2 ≤ c) (h4 : c ≤ 6) (h : ∀ r ∈ rows, r.length = c ∧ (∀ x ∈ r, 1 ≤ x ∧ x ≤ 1000) ∧ r.sum = 1000) : modE rows (n : Int) = 0 ∧ catsOf rows = c := by
  have hc : catsOf rows = c := (h _ (mem_getD [] (show 0 < rows.length by omega))).1
  refine ⟨?_, hc⟩
  rw [modE_rows (by omega) (by omega) (by omega) (by omega) (by omega), hc]
  exact rowsE_mk h
theorem mem_map_rows {ps : List Int} {f : Int → List Int} {r : List Int} (h : r ∈ ps.map f) : ∃ j, j < ps.length ∧ r = f (ps.getD j 0) := by
  obtain ⟨p, hp, rfl⟩ := List.mem_map.1 h
  obtain ⟨i, hi, rfl⟩ := List.mem_iff_getElem.1 hp
  exact ⟨i, hi, by rw [List.getD_eq_getElem?_getD, List.getElem?_eq_getElem hi]; rfl⟩
/-- A model made point by point out of a rising function is monotone. -/
theorem mono_map {ps : List Int} {f : Int → List Int} {m : Nat} (hps : ∀ j, j + 1 < ps.length → ps.getD j 0 < ps.getD (j + 1) 0) (hf : ∀ p p', p ≤ p' → ∀ k, sfx (f p) k ≤ sfx (f p') k) : monoL m (ps.map f) = true := by
  rw [monoL_iff]
  intro i hi
  rw [List.length_map] at hi
  rw [getD_map f ps 0 [] (by omega), getD_map f ps 0 [] hi, leS_iff]
  intro k _
  exact hf _ _ (Int.le_of_lt (hps i hi)) k
theorem floor_mono {s p p' d : Int} (hs : 0 ≤ s) (h : p ≤ p') : s * (p - d) / 100 ≤ s * (p' - d) / 100 := by
  have : s * (p - d) ≤ s * (p' - d) := Int.mul_le_mul_of_nonneg_left (by omega) hs
  omega
/-! ### Ramp -/
theorem ramp_mono {ps : List Int} {d s lo hi : Int} {m : Nat} (hps : ∀ j, j + 1 < ps.length → ps.getD j 0 < ps.getD (j + 1) 0) (hs : 0 ≤ s) (h2 : hi ≤ 999) (h1 : lo ≤ hi) : monoL m (rampL ps d s lo hi) = true := by
  refine mono_map hps fun p p' hp k => ?_
  have := floor_mono (d := d) hs hp
  have hw : rampW d s lo hi p ≤ rampW d s lo hi p' := by unfold rampW; omega
  match k with
  | 0 => simp [sfx]
  | 1 => simp [sfx]; exact hw
  | k + 2 => simp [sfx]
theorem ramp_valid {ps : List Int} {d s lo hi : Int} (h1 : 1 ≤ ps.length) (h2 : ps.length ≤ 21) (h3 : 1 ≤ lo) (h4 : lo ≤ hi) (h5 : hi ≤ 999) : modE (rampL ps d s lo hi) (ps.length : Int) = 0 ∧ catsOf (rampL ps d s lo hi) = 2 := by
  refine modE_mk (rampL_len _ _ _ _ _) h1 h2 (by omega) (by omega) fun r hr => ?_
  obtain ⟨j, _, rfl⟩ := mem_map_rows hr
  have := rampW_in (d := d) (s := s) (p := ps.getD j 0) h4
  refine ⟨rfl, fun x hx => ?_, by simp⟩
  simp only [List.mem_cons, List.not_mem_nil, or_false] at hx
  omega
/-! ### Steps -/
theorem stepsR_ok {m : Nat} {s p : Int} (hm : m ≤ 5) : ∀ (ds : List Int) (k : Nat) (above : Int), 1 ≤ k → k + ds.length = m + 1 → (m : Int) - k + 2 ≤ above → above ≤ 1000 →
    (∀ x ∈ stepsR m s p k above ds, 1 ≤ x ∧ x ≤ 1000) ∧ (stepsR m s p k above ds).sum = above
  | [], k, above, h1, h2, h3, h4 => by
    simp only [List.length_nil] at h2
    refine ⟨fun x hx => ?_, by simp [stepsR]⟩
    simp only [stepsR, List.mem_cons, List.not_mem_nil, or_false] at hx
    omega
  | d :: ds, k, above, h1, h2, h3, h4 => by
    simp only [List.length_cons] at h2
    have hw : (m : Int) - k + 1 ≤ stepsW m k d s p above ∧ stepsW m k d s p above ≤ above - 1 := by unfold stepsW; omega
    obtain ⟨a, b⟩ := stepsR_ok (s := s) (p := p) hm ds (k + 1) (stepsW m k d s p above) (by omega) (by omega) (by omega) (by omega)
    refine ⟨fun x hx => ?_, ?_⟩
    · rw [stepsR, List.mem_cons] at hx
      rcases hx with rfl | hx
      · omega
      · exact a x hx
    · rw [stepsR, List.sum_cons, b]; omega
theorem stepsR_mono {m : Nat} {s p p' : Int} (hs : 0 ≤ s) (hp : p ≤ p') (hm : m ≤ 5) : ∀ (ds : List Int) (k : Nat) (above above' : Int), above ≤ above' → 1 ≤ k → k + ds.length = m + 1 → (m : Int) - k + 2 ≤ above → above' ≤ 1000 → ∀ j, sfx (stepsR m s p k above ds) j ≤ sfx (stepsR m s p' k above' ds) j
  | [], k, above, above', h, _, _, _, _, j => by
    match j with
    | 0 => simpa [sfx, stepsR] using h
    | j + 1 => simp [sfx, stepsR]
  | d :: ds, k, above, above', h, h1, h2, h3, h4, j => by
    match j with
    | 0 =>
      have a := (stepsR_ok (s := s) (p := p) hm (d :: ds) k above h1 h2 h3 (by omega)).2
      have b := (stepsR_ok (s := s) (p := p') hm (d :: ds) k above' h1 h2 (by omega) (by omega)).2
      unfold sfx
      rw [List.drop_zero, List.drop_zero, a, b]
      exact h
    | j + 1 =>
      have hf := floor_mono (d := d) hs hp
      simp only [List.length_cons] at h2
      have hw : stepsW m k d s p above ≤ stepsW m k d s p' above' := by unfold stepsW; omega
      have hw1 : (m : Int) - k + 1 ≤ stepsW m k d s p above := by unfold stepsW; omega
      have hw2 : stepsW m k d s p' above' ≤ 1000 := by unfold stepsW; omega
      have := stepsR_mono hs hp hm ds (k + 1) _ _ hw (by omega) (by omega) (by omega) hw2 j
      simpa [sfx, stepsR] using this
theorem steps_mono {ps ds : List Int} {s : Int} {m : Nat} (hps : ∀ j, j + 1 < ps.length → ps.getD j 0 < ps.getD (j + 1) 0) (hs : 0 ≤ s) (h1 : 1 ≤ ds.length) (h5 : ds.length ≤ 5) : monoL m (stepsL ps ds s) = true :=
  mono_map hps fun p p' hp k => stepsR_mono hs hp h5 ds 1 1000 1000 (Int.le_refl _) (Nat.le_refl _) (by omega) (by omega) (Int.le_refl _) k
theorem steps_valid {ps ds : List Int} {s : Int} (h1 : 1 ≤ ps.length) (h2 : ps.length ≤ 21) (h3 : 1 ≤ ds.length) (h5 : ds.length ≤ 5) : modE (stepsL ps ds s) (ps.length : Int) = 0 ∧ catsOf (stepsL ps ds s) = ds.length + 1 := by
  refine modE_mk (stepsL_len _ _ _) h1 h2 (by omega) (by omega) fun r hr => ?_
  obtain ⟨j, _, rfl⟩ := mem_map_rows hr
  obtain ⟨a, b⟩ := stepsR_ok (s := s) (p := ps.getD j 0) h5 ds 1 1000 (Nat.le_refl _) (by omega) (by omega) (by omega)
  exact ⟨stepsR_len _ _ _ _ _ _, a, b⟩
theorem stepsE_zero {g : Int} {ds : List Int} {s : Int} (h : stepsE g ds s = 0) : g = 0 ∧ 1 ≤ ds.length ∧ ds.length ≤ 5 ∧ 0 ≤ s ∧ s ≤ 2000 := by
  unfold stepsE at h
  split at h
  · omega
  · split at h
    · omega
    · omega
/-! ### One difficulty -/
theorem one_E (g d s : Int) : stepsE g [d] s = rampE g d s 1 999 := by
  have h3 : riseOk [d] = true := by rfl
  have h4 : inD [d] = (decide (-1000 ≤ d) && decide (d ≤ 1000)) := by simp [inD]
  unfold stepsE rampE
  rw [h3, h4]
  by_cases h0 : g = 0
  · subst h0
    have a : ¬ ((0 : Int) ≠ 0) := by simp
    rw [if_neg a, if_neg a]
    by_cases hs : s < 0 ∨ 2000 < s
    · have b : [d].length < 1 ∨ 5 < [d].length ∨ s < 0 ∨ 2000 < s := .inr (.inr hs)
      have c : d < -1000 ∨ 1000 < d ∨ s < 0 ∨ 2000 < s ∨ (1 : Int) < 1 ∨ (999 : Int) < 1 ∨ (999 : Int) < 999 := by omega
      rw [if_pos b, if_pos c]
    · have b : ¬ ([d].length < 1 ∨ 5 < [d].length ∨ s < 0 ∨ 2000 < s) := by simp only [List.length_cons, List.length_nil]; omega
      rw [if_neg b]
      by_cases hd : -1000 ≤ d ∧ d ≤ 1000
      · have c : ¬ (d < -1000 ∨ 1000 < d ∨ s < 0 ∨ 2000 < s ∨ (1 : Int) < 1 ∨ (999 : Int) < 1 ∨ (999 : Int) < 999) := by omega
        have e : (decide (-1000 ≤ d) && decide (d ≤ 1000)) = true := by simp [hd]
        rw [e, if_neg c, if_neg (by simp), if_neg (by simp)]
      · have c : d < -1000 ∨ 1000 < d ∨ s < 0 ∨ 2000 < s ∨ (1 : Int) < 1 ∨ (999 : Int) < 1 ∨ (999 : Int) < 999 := by omega
        have e : (decide (-1000 ≤ d) && decide (d ≤ 1000)) = false := by rw [← Bool.not_eq_true]; simp only [Bool.and_eq_true, decide_eq_true_eq]; exact hd
        rw [e, if_pos c, if_pos rfl]
  · rw [if_pos h0, if_pos h0]
theorem one_L (ps : List Int) (d s : Int) : stepsL ps [d] s = rampL ps d s 1 999 := by
  unfold stepsL rampL
  refine List.map_congr_left fun p _ => ?_
  have : stepsW 1 1 d s p 1000 = rampW d s 1 999 p := by unfold stepsW rampW; omega
  show [1000 - stepsW 1 1 d s p 1000, stepsW 1 1 d s p 1000] = _
  rw [this]
end Go.Proofs.YtokpembimalhmaaDoor
