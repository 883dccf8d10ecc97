/- Plain: weights multiplied by one number, points moved by one number. No condition. -/
import Derived.Test.YtfoleamcaflfeaaDoorGrM
namespace Go.Proofs.YtfoleamcaflfeaaDoor
set_option linter.unusedVariables false

theorem momC {f g : Nat → Int} : ∀ {k : Nat}, (∀ i, i < k → f i = g i) → mom f k = mom g k
  | 0, _ => rfl
  | k + 1, h => by
    show mom f k + f k = mom g k + g k
    rw [momC (fun i hi => h i (by omega)), h k (by omega)]
theorem mom_mul (f : Nat → Int) (a : Int) : ∀ k, mom (fun i => a * f i) k = a * mom f k
  | 0 => by show 0 = a * 0; omega
  | k + 1 => by
    show mom _ k + _ = a * (mom f k + f k)
    rw [mom_mul f a k]
    grind
theorem mom_add (f g : Nat → Int) : ∀ k, mom (fun i => f i + g i) k = mom f k + mom g k
  | 0 => rfl
  | k + 1 => by
    show mom _ k + _ = mom f k + f k + (mom g k + g k)
    rw [mom_add f g k]
    grind
/-- All weights multiplied. -/
def scaleL (c : Nat) (ns : List Nat) : List Nat := ns.map (· * c)
theorem scaleL_len (c : Nat) (ns : List Nat) : (scaleL c ns).length = ns.length := by simp [scaleL]
theorem scaleL_get (c : Nat) (ns : List Nat) (i : Nat) : (((scaleL c ns).getD i 0 : Nat) : Int) = (c : Int) * (ns.getD i 0 : Int) := by
  unfold scaleL
  rw [List.getD_eq_getElem?_getD, List.getElem?_map, List.getD_eq_getElem?_getD]
  cases ns[i]? with
  | none => simp
  | some x => simp [Int.mul_comm]
theorem scale_sums (c : Nat) (ns : List Nat) (ps : List Int) (k : Nat) : wF0 (scaleL c ns) k = (c : Int) * wF0 ns k ∧ wF1 (scaleL c ns) ps k = (c : Int) * wF1 ns ps k ∧ wF2 (scaleL c ns) ps k = (c : Int) * wF2 ns ps k := by
  unfold wF0 wF1 wF2
  refine ⟨?_, ?_, ?_⟩
  · rw [← mom_mul]; exact momC fun i _ => scaleL_get c ns i
  · rw [← mom_mul]; exact momC fun i _ => by rw [scaleL_get]; grind
  · rw [← mom_mul]; exact momC fun i _ => by rw [scaleL_get]; grind
/-- All points moved. -/
def moveL (d : Int) (ps : List Int) : List Int := ps.map (· + d)
theorem moveL_len (d : Int) (ps : List Int) : (moveL d ps).length = ps.length := by simp [moveL]
theorem moveL_get (d : Int) (ps : List Int) {i : Nat} (h : i < ps.length) : (moveL d ps).getD i 0 = ps.getD i 0 + d := by
  unfold moveL
  rw [List.getD_eq_getElem?_getD, List.getElem?_map, List.getD_eq_getElem?_getD, List.getElem?_eq_getElem h]
  rfl
theorem move_sums (d : Int) (ns : List Nat) (ps : List Int) {k : Nat} (hk : k ≤ ps.length) : wF1 ns (moveL d ps) k = wF1 ns ps k + d * wF0 ns k ∧ wF2 ns (moveL d ps) k = wF2 ns ps k + (2 * d) * wF1 ns ps k + d * d * wF0 ns k := by
  unfold wF0 wF1 wF2
  refine ⟨?_, ?_⟩
  · rw [← mom_mul, ← mom_add]; exact momC fun i hi => by rw [moveL_get d ps (by omega)]; grind
  · rw [← mom_mul, ← mom_mul, ← mom_add, ← mom_add]; exact momC fun i hi => by rw [moveL_get d ps (by omega)]; grind
theorem abs_pos {z : Int} (h : 0 < z) : (z.natAbs : Int) = z := Int.natAbs_of_nonneg (by omega)
/-- The mean and the variance of multiplied weights. -/
theorem scale_red (F0 F1 F2 : Int) (c : Nat) (hc : 0 < c) (h0 : 0 < F0) :
    (redP ((c : Int) * F1) ((c : Int) * F0).natAbs = redP F1 F0.natAbs ∧ redQ ((c : Int) * F1) ((c : Int) * F0).natAbs = redQ F1 F0.natAbs) ∧
    (redP ((c : Int) * F0 * ((c : Int) * F2) - (c : Int) * F1 * ((c : Int) * F1)) ((c : Int) * F0 * ((c : Int) * F0)).natAbs = redP (F0 * F2 - F1 * F1) (F0 * F0).natAbs ∧ redQ ((c : Int) * F0 * ((c : Int) * F2) - (c : Int) * F1 * ((c : Int) * F1)) ((c : Int) * F0 * ((c : Int) * F0)).natAbs = redQ (F0 * F2 - F1 * F1) (F0 * F0).natAbs) := by
  have hcI : 0 < (c : Int) := by omega
  have a : 0 < (c : Int) * F0 := Int.mul_pos hcI h0
  have b : 0 < F0 * F0 := Int.mul_pos h0 h0
  have d := Int.mul_pos a a
  refine ⟨red_cross (by omega) (by omega) ?_, red_cross (by omega) (by omega) ?_⟩
  · rw [abs_pos a, abs_pos h0]; grind
  · rw [abs_pos b, abs_pos d]; grind
/-- The mean and the variance of moved points. -/
theorem move_red (F0 F1 F2 d : Int) (h0 : 0 < F0) :
    (redP (F1 + d * F0) F0.natAbs = redP (redP F1 F0.natAbs * ((1 : Nat) : Int) + d * ((redQ F1 F0.natAbs : Nat) : Int)) (redQ F1 F0.natAbs * 1) ∧ redQ (F1 + d * F0) F0.natAbs = redQ (redP F1 F0.natAbs * ((1 : Nat) : Int) + d * ((redQ F1 F0.natAbs : Nat) : Int)) (redQ F1 F0.natAbs * 1)) ∧
    F0 * (F2 + (2 * d) * F1 + d * d * F0) - (F1 + d * F0) * (F1 + d * F0) = F0 * F2 - F1 * F1 := by
  refine ⟨?_, by grind⟩
  have hq : 0 < F0.natAbs := by omega
  have hQ := redQ_pos (p := F1) hq
  obtain ⟨m1, m2⟩ := red_mul F1 F0.natAbs
  generalize Nat.gcd F1.natAbs F0.natAbs = g at *
  generalize redP F1 F0.natAbs = P at *
  generalize redQ F1 F0.natAbs = Q at *
  refine red_cross hq (by omega) ?_
  have e : F0 = (Q : Int) * (g : Int) := by rw [← abs_pos h0, m2, Int.natCast_mul]
  rw [abs_pos h0, e, m1]
  push_cast
  grind
end Go.Proofs.YtfoleamcaflfeaaDoor
