/- Sums of probabilities, and comparisons. No condition. -/
import Derived.Test.YtokpembimalhmaaDoorMoAw
import Derived.Test.YtokpembimalhmaaDoorMoCp
import Derived.Deep.QuietTactic
import Derived.BigQuiet
namespace Go.Proofs.YtokpembimalhmaaDoor
open Go.RowKit
set_option linter.unusedVariables false

theorem ints_slice {w : World} {v : Value} {xs : List (List Int)} (h : IntsL w v xs) : ∃ A n c, v = .slice A n c := by
  obtain ⟨A, c, _, hv, _⟩ := h
  exact ⟨A, _, c, hv⟩
theorem cmp_le {a b : Int} (h : a ≤ b) : cmpZ a b ≤ 0 := by unfold cmpZ; split <;> (try split) <;> omega
theorem sgn_one {x : Int} (h : 1 ≤ x) : sgnZ (redP x 1000) = 1 := by
  have h1 : ¬ redP x 1000 < 0 := by rw [redP_neg]; omega
  have h2 : redP x 1000 ≠ 0 := fun e => by
    have := red_same x 1000
    rw [e] at this
    have hq := redQ_pos (p := x) (q := 1000) (by decide)
    have h3 : x * (redQ x 1000 : Int) ≥ 1 * (redQ x 1000 : Int) := Int.mul_le_mul_of_nonneg_right h (by omega)
    omega
  unfold sgnZ
  rw [if_neg h1, if_neg h2]
theorem ratA_one {w : World} {g t : Nat} (hr : Row w g t [.int .u32 1]) : RatA w (.agg #[.bool false, .slice none 0 0, .slice (some ⟨g, 0, none⟩) 1 1]) (redP 0 1000) (redQ 0 1000) 2 :=
  ⟨false, _, [], _, [1], rfl, Lim.nil w, Lim.of_row (ls := [1]) hr (by simp [maxLen]) (AllB.cons (by decide) AllB.nil), by simp, by simp, by decide +kernel, by decide +kernel⟩
theorem add1000 (v u : Value) (a b : Int) (w : World) (ha : RatA w v (redP a 1000) (redQ a 1000) 2) (hb : RatA w u (redP b 1000) (redQ b 1000) 2) (h1 : -1000000 ≤ a + b) (h2 : a + b ≤ 1000000) :
    Calls Tryd.prog 29 #[v, u] w fun e w' => ∃ x, e = .returned x ∧ RatF w.heap.size w' x (redP (a + b) 1000) (redQ (a + b) 1000) 2 ∧ Below w.heap.size w w' := by
  have q1 := redQ_le a (q := 1000)
  have q2 := redQ_le b (q := 1000)
  refine (qadd_any v u _ _ _ _ 2 w ha hb (by decide) (by decide) (Nat.lt_of_le_of_lt (Nat.mul_le_mul q1 q2) (by decide))).mono ?_
  rintro e w' ⟨x, he, hF, hbb⟩
  obtain ⟨e1, e2⟩ := red_add a b (q := 1000) (by decide)
  rw [e1, e2] at hF
  have p1 := redP_le (p := a + b) (q := 1000) (by decide)
  have p2 := redQ_le (a + b) (q := 1000)
  exact ⟨x, he, hF.short (by omega) (by omega), hbb⟩
end Go.Proofs.YtokpembimalhmaaDoor
