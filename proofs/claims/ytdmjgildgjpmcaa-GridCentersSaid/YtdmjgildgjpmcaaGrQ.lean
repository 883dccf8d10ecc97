/- Plain: the mean of a uniform and of a triangular grid. No condition. -/
import Derived.Test.YtdmjgildgjpmcaaBx
import Derived.Test.YtdmjgildgjpmcaaGridP
import Derived.Test.YtdmjgildgjpmcaaRatA
import Derived.Test.YtdmjgildgjpmcaaMakes
namespace Go.Proofs.Ytdmjgildgjpmcaa
set_option linter.unusedVariables false

theorem mom_congr {f g : Nat → Int} : ∀ {k : Nat}, (∀ i, i < k → f i = g i) → mom f k = mom g k
  | 0, _ => rfl
  | k + 1, h => by
    show mom f k + f k = mom g k + g k
    rw [mom_congr (fun i hi => h i (by omega)), h k (by omega)]
theorem mom_lin (f g : Nat → Int) (a b : Int) : ∀ k, mom (fun i => a * f i + b * g i) k = a * mom f k + b * mom g k
  | 0 => by show 0 = a * 0 + b * 0; omega
  | k + 1 => by
    show mom _ k + _ = a * (mom f k + f k) + b * (mom g k + g k)
    rw [mom_lin f g a b k]
    grind
theorem ptsL_get (lo step : Int) (n i : Nat) (h : i < n) : (ptsL lo step n).getD i 0 = lo + (i : Int) * step := by
  unfold ptsL
  rw [List.getD_eq_getElem?_getD, List.getElem?_map, List.getElem?_range h]; rfl
theorem nat_get {n : Nat} (f : Nat → Int) (h : ∀ i, i < n → 0 ≤ f i) (i : Nat) (hi : i < n) : (((natsOf ((List.range n).map f)).getD i 0 : Nat) : Int) = f i := by
  rw [natsOf_get, List.getD_eq_getElem?_getD, List.getElem?_map, List.getElem?_range hi]
  have := h i hi
  show ((f i).toNat : Int) = f i
  omega
theorem center_sums (lo step : Int) (n : Nat) (f : Nat → Int) (h : ∀ i, i < n → 0 ≤ f i) :
    wF0 (natsOf ((List.range n).map f)) n = mom f n ∧ wF1 (natsOf ((List.range n).map f)) (ptsL lo step n) n = lo * mom f n + step * mom (fun i => (i : Int) * f i) n := by
  constructor
  · exact mom_congr fun i hi => nat_get f h i hi
  · rw [← mom_lin]
    refine mom_congr fun i hi => ?_
    rw [nat_get f h i hi, ptsL_get lo step n i hi]
    grind
theorem ones_cen : ∀ n, n < 22 → 2 * mom (fun i : Nat => (i : Int) * 1) n = ((n : Int) - 1) * mom (fun _ => 1) n ∧ (0 < n → 0 < mom (fun _ => 1) n) := by decide +kernel
theorem tri_cen : ∀ n, n < 22 → 2 * mom (fun i => (i : Int) * triW n i) n = ((n : Int) - 1) * mom (fun i => triW n i) n ∧ (0 < n → 0 < mom (fun i => triW n i) n) := by decide +kernel
theorem tri_pos : ∀ n, n < 22 → ∀ i, i < n → 1 ≤ triW n i ∧ triW n i ≤ 1000 := by decide +kernel
/-- The mean is the middle of the first and the last point. -/
theorem center_red (lo step : Int) (n : Nat) (W0 W1 : Int) (h0 : 0 < W0) (h : 2 * W1 = ((n : Int) - 1) * W0) :
    redP (lo * W0 + step * W1) W0.natAbs = redP (lo + (lo + ((n : Int) - 1) * step)) 2 ∧ redQ (lo * W0 + step * W1) W0.natAbs = redQ (lo + (lo + ((n : Int) - 1) * step)) 2 := by
  have e : (W0.natAbs : Int) = W0 := Int.natAbs_of_nonneg (by omega)
  refine red_cross (by omega) (by omega) ?_
  rw [e]
  have e2 : (lo * W0 + step * W1) * 2 = lo * W0 * 2 + step * (2 * W1) := by grind
  show (lo * W0 + step * W1) * 2 = _
  rw [e2, h]
  grind
theorem fits_grid {lo step : Int} {n : Nat} (hf : Fits lo step n) (f : Nat → Int) (h : ∀ i, i < n → 1 ≤ f i ∧ f i ≤ 1000) : gridE (ptsL lo step n) ((List.range n).map f) = 0 := by
  obtain ⟨f1, f2, f3, f4, f5, f6, f7⟩ := hf
  have hl : (ptsL lo step n).length = n := ptsL_len lo step n
  have hb : ∀ i : Nat, i < n → (i : Int) * step ≤ ((n : Int) - 1) * step := fun i hi => Int.mul_le_mul_of_nonneg_right (by omega) (by omega)
  have h0 : ∀ i : Nat, 0 ≤ (i : Int) * step := fun i => Int.mul_nonneg (by omega) (by omega)
  refine gridE_ok (by omega) (by omega) (by simp [hl]) (rngOk_yes fun j hj => ?_) (riseOk_yes fun j hj => ?_)
  · rw [hl] at hj
    rw [okAt_iff, ptsL_get lo step n j hj, List.getD_eq_getElem?_getD, List.getElem?_map, List.getElem?_range hj]
    have := hb j hj
    have := h0 j
    have := h j hj
    exact ⟨by omega, by omega, this.1, this.2⟩
  · rw [hl] at hj
    rw [ptsL_get lo step n j (by omega), ptsL_get lo step n (j + 1) hj]
    have : ((j + 1 : Nat) : Int) * step = (j : Int) * step + step := by rw [Int.natCast_add, Int.add_mul]; simp
    omega
end Go.Proofs.Ytdmjgildgjpmcaa
