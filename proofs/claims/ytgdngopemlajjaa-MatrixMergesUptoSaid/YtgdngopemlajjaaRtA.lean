/- The walk of the reference's wanted. -/
import Derived.Test.YtgdngopemlajjaaMtD
import Derived.Deep.AppendLies
import Derived.Deep.RegionHeld3
namespace Go.Proofs.Ytgdngopemlajjaa
open Go.RowKit
set_option linter.unusedVariables false

theorem fi_neg {l : List Int} {n : Int} (h : fidx l n = none) : fi l n = -1 := by unfold fi; rw [h]
theorem fi_pos {l : List Int} {n : Int} {i : Nat} (h : fidx l n = some i) : fi l n = (i : Int) := by unfold fi; rw [h]
theorem fi_at {W L : List Int} (h : inAll W L = true) {k : Nat} (hk : k < W.length) : fi L (W.getD k 0) = ((at_ L (W.getD k 0) : Nat) : Int) := by
  obtain ⟨i, hi⟩ := inAll_at h hk
  rw [fi_pos hi]; unfold at_; rw [hi]; rfl
set_option maxHeartbeats 1000000 in
theorem wanted_any (v u : Value) (W L : List Int) (w : World) (h : Nums .i64 w v W) (h' : Nums .i64 w u L) :
    Calls Try.prog 32 #[v, u] w fun e w' => e = .returned (.int .i64 (idxE W L)) ∧ w = w' := by
  have h0 := h
  have h0' := h'
  obtain ⟨A, c, rfl, hc, hm, hs⟩ := h
  obtain ⟨B, cB, rfl, hcB, hmB, hsB⟩ := h'
  unfold maxLen at hm hmB
  obtain ⟨n, hn⟩ : ∃ n, W.length = n := ⟨_, rfl⟩
  have HN := Lib.hid hn
  rw [hn] at hs hc h0 ⊢
  clear hn hsB
  go_enter Try.func32, Try.ntmps32
  go_wp2_with fail
  refine (rris_any _ W _ h0).mono ?_
  rintro e w' ⟨rfl, rfl⟩
  cases hr : ris W with
  | false =>
    have HE := Lib.hid (idxE_1 (L := L) hr)
    clear hr
    go_wp2_with fail
    go_ret
    exact ⟨by rw [HE.out]; rfl, rfl⟩
  | true =>
    have HR := Lib.hid hr
    clear hr
    go_wp2_with fail
    go_loop [12] (fun i => ∃ k : Nat, k ≤ n ∧ i = .int .i64 (k : Int) ∧ Hid (∀ q, q < k → (fidx L (W.getD q 0)).isSome = true)) (fun i => n - (intOf i).toNat)
    case atStart => exact ⟨0, by omega, rfl, fun q hq => by omega⟩
    case round =>
      obtain ⟨k, hk, rfl, hinv⟩ := hrel
      by_cases hlt : k < n
      · obtain ⟨b, o, rfl, hb, hcell⟩ := hs.num hlt
        have g1 := hcell k hlt
        clear hcell
        have hkl : Hid (k < W.length) := by unfold Hid; rw [HN.out]; exact hlt
        have HNo := Lib.hid (fun h => inAll_no (L := L) hkl.out h)
        have HYes := Lib.hid (fun h => all_snoc (p := fun q => (fidx L (W.getD q 0)).isSome = true) hinv.out h)
        clear hinv
        generalize W.getD k 0 = z at *
        cases hf : fidx L z with
        | none =>
          have HE := Lib.hid (idxE_2 HR.out (HNo.out hf))
          have HF := Lib.hid (fi_neg hf)
          have d1 : decide ((-1 : Int) < 0) = true := by decide
          clear hf HNo HYes
          go_wp2_with fail
          refine (find_any _ L z _ h0').mono ?_
          rw [HF.out]
          rintro e w' ⟨rfl, rfl⟩
          go_wp2_with fail
          go_ret
          exact ⟨by rw [HE.out]; rfl, rfl⟩
        | some i =>
          have HI := Lib.hid (HYes.out (by rw [hf]; rfl))
          have HF := Lib.hid (fi_pos hf)
          have d1 : decide ((i : Int) < 0) = false := decide_eq_false (by omega)
          clear hf HNo HYes
          go_wp2_with fail
          refine (find_any _ L z _ h0').mono ?_
          rw [HF.out]
          rintro e w' ⟨rfl, rfl⟩
          go_wp2_with fail
          go_round
          case rel => exact ⟨k + 1, by omega, by go_num, HI.out⟩
          case measure => simp [intOf]; omega
      · have HE := Lib.hid (idxE_0 HR.out (inAll_yes (L := L) (by rw [HN.out]; exact fun q hq => hinv.out q (by omega))))
        clear hinv
        go_wp2_with fail
        go_ret
        exact ⟨by rw [HE.out]; rfl, rfl⟩
end Go.Proofs.Ytgdngopemlajjaa
