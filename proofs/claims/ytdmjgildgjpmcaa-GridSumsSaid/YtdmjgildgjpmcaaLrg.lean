/- Whether weights are long: the walk of large. -/
import Derived.Test.YtdmjgildgjpmcaaBx
namespace Go.Proofs.Ytdmjgildgjpmcaa
open Go.RowKit
set_option linter.unusedVariables false

/-- Whether weights are too long, as the law asks. -/
def LargeP (lss : List (List Nat)) (e : Ending) : Prop := (e = .returned (.bool true) ∧ ∃ l ∈ lss, 20 < l.length) ∨ (e = .returned (.bool false) ∧ ∀ l ∈ lss, l.length ≤ 20)
set_option maxHeartbeats 1000000 in
theorem large_any (wv : Value) (lss : List (List Nat)) (w : World) (hw : LimL w wv lss) :
    Calls Try.prog 18 #[wv] w fun e w' => LargeP lss e ∧ w = w' := by
  obtain ⟨WA, wc, us, rfl, hwc, hwm, hws, hwu⟩ := hw
  unfold maxLen at hwm
  obtain ⟨n, hn⟩ : ∃ n, lss.length = n := ⟨_, rfl⟩
  have HN := Lib.hid hn
  have HWU := Lib.hid hwu
  rw [hn] at hws hwc ⊢
  clear hn hwu
  go_enter Try.func18, Try.ntmps18
  go_wp2
  go_loop [3] (fun i => ∃ k : Nat, k ≤ n ∧ i = .int .i64 (k : Int) ∧ Hid (∀ j, j < k → (lss.getD j []).length ≤ 20)) (fun i => n - (intOf i).toNat)
  case atStart => exact ⟨0, by omega, rfl, fun j hj => by omega⟩
  case round =>
    obtain ⟨k, hk, rfl, hall⟩ := hrel
    by_cases hlt : k < n
    · obtain ⟨b, o, u, rfl, hb, hcell, hu⟩ := lst_at (R := Lim) (d := []) (xs := lss) hws HWU.out hlt
      obtain ⟨⟨UA, uc, rfl, _, _, _⟩, _⟩ := hu
      obtain ⟨m, hm⟩ : ∃ m, (lss.getD k []).length = m := ⟨_, rfl⟩
      have HM := Lib.hid hm
      rw [hm] at hcell
      clear hm
      by_cases h20 : 20 < m
      · have t1 : decide (20 < (m : Int)) = true := decide_eq_true (by omega)
        go_wp2
        go_ret
        have hk2 : k < lss.length := by rw [HN.out]; exact hlt
        refine ⟨.inl ⟨rfl, lss[k], List.getElem_mem hk2, ?_⟩, rfl⟩
        have := HM.out
        rw [List.getD_eq_getElem?_getD, List.getElem?_eq_getElem hk2] at this
        simp only [Option.getD_some] at this
        omega
      · have t1 : decide (20 < (m : Int)) = false := decide_eq_false (by omega)
        go_wp2
        go_round
        case rel => exact ⟨k + 1, by omega, by go_num, fun j hj => by
          rcases Nat.lt_or_ge j k with h | h
          · exact hall.out j h
          · obtain rfl : j = k := by omega
            rw [HM.out]; omega⟩
        case measure => simp [intOf]; omega
    · obtain rfl : k = n := by omega
      go_wp2
      go_ret
      refine ⟨.inr ⟨rfl, fun l hl => ?_⟩, rfl⟩
      obtain ⟨i, hi, rfl⟩ := List.getElem_of_mem hl
      have := hall.out i (by rw [← HN.out]; exact hi)
      rwa [List.getD_eq_getElem?_getD, List.getElem?_eq_getElem hi] at this
end Go.Proofs.Ytdmjgildgjpmcaa
