/- The walk of the law's fits. -/
import Derived.Test.YtgdngopemlajjaaMtQ
namespace Go.Proofs.Ytgdngopemlajjaa
open Go.RowKit
set_option linter.unusedVariables false

theorem fitB_no1 {ps is : List Int} {cs : List (List Int)} (h : shp ps is cs = false) : fitB ps is cs = false := by unfold fitB; rw [h]; simp
theorem fitB_no2 {ps is : List Int} {cs : List (List Int)} (h : ris ps = false) : fitB ps is cs = false := by unfold fitB; rw [h]; simp
theorem fitB_no3 {ps is : List Int} {cs : List (List Int)} (h : ris is = false) : fitB ps is cs = false := by unfold fitB; rw [h]; simp
set_option maxHeartbeats 4000000 in
theorem fits_any (pv iv cv : Value) (ps is : List Int) (cs : List (List Int)) (w : World) (hM : Mat w pv iv cv ps is cs) :
    Calls Try.prog 22 #[.agg #[pv, iv, cv]] w fun e w' => e = .returned (.bool (fitB ps is cs)) ∧ Below w.heap.size w w' := by
  obtain ⟨hp, hi, hc⟩ := hM
  have hp0 := hp
  have hi0 := hi
  obtain ⟨X, cX, rfl, x1, x2, x3⟩ := hp
  obtain ⟨Y, cY, rfl, y1, y2, y3⟩ := hi
  obtain ⟨A, c, us, rfl, z1, z2, hs, hu⟩ := hc
  have HU := Lib.hid hu
  unfold maxLen at x2 y2 z2
  clear hu x3 y3
  have hbox := lit_below w (.cells #[.slice X ps.length cX, .slice Y is.length cY, .slice A cs.length c] 25)
  have hrb := Row.new w 25 [.slice X ps.length cX, .slice Y is.length cY, .slice A cs.length c]
  have n1 := hp0.below hbox
  have n2 := hi0.below hbox
  clear hp0 hi0
  by_cases c1 : cs.length = ps.length
  case neg =>
    have HE := Lib.hid (fitB_no1 (shp_len (ps := ps) (is := is) (cs := cs) c1))
    have d1 : ((cs.length : Int) != (ps.length : Int)) = true := by rw [bne_iff_ne]; omega
    clear c1
    go_enter Try.func22, Try.ntmps22
    go_wp2_with fail
    go_ret
    exact ⟨by rw [HE.out]; rfl, hbox⟩
  have HYes := Lib.hid (fun h => shp_yes (ps := ps) (is := is) (cs := cs) c1 h)
  have d1 : ((cs.length : Int) != (ps.length : Int)) = false := by rw [c1]; simp
  clear c1
  go_enter Try.func22, Try.ntmps22
  go_wp2_with fail
  generalize hW : w.alloc (.cells #[.slice X ps.length cX, .slice Y is.length cY, .slice A cs.length c] 25) = W0 at *
  clear hW d1
  refine (lris_any _ ps _ n1).mono ?_
  rintro e w' ⟨rfl, rfl⟩
  have a1 : W0.cell? ⟨w.heap.size, 1, none⟩ = some (.slice Y is.length cY) := hrb.cell 1
  have a2 : W0.cell? ⟨w.heap.size, 2, none⟩ = some (.slice A cs.length c) := hrb.cell 2
  cases hr1 : ris ps with
  | false =>
    have HE := Lib.hid (fitB_no2 (is := is) (cs := cs) hr1)
    clear hr1
    go_wp2_with fail
    go_ret
    exact ⟨by rw [HE.out]; rfl, hbox⟩
  | true =>
  have HR1 := Lib.hid hr1
  clear hr1
  go_wp2_with fail
  refine (lris_any _ is _ n2).mono ?_
  rintro e w' ⟨rfl, rfl⟩
  cases hr2 : ris is with
  | false =>
    have HE := Lib.hid (fitB_no3 (ps := ps) (cs := cs) hr2)
    clear hr2
    go_wp2_with fail
    go_ret
    exact ⟨by rw [HE.out]; rfl, hbox⟩
  | true =>
  have HR2 := Lib.hid hr2
  clear hr2
  obtain ⟨n, hn⟩ : ∃ n, cs.length = n := ⟨_, rfl⟩
  have HN := Lib.hid hn
  rw [hn] at z1 hs a2 hrb ⊢
  clear hn
  obtain ⟨ni, hni⟩ : ∃ n, is.length = n := ⟨_, rfl⟩
  have HI := Lib.hid hni
  rw [hni] at y1 a1 hrb ⊢
  clear hni
  go_wp2_with fail
  go_loop [27] (fun i => ∃ k : Nat, k ≤ n ∧ i = .int .i64 (k : Int) ∧ Hid (∀ i, i < k → (cs.getD i []).length = ni)) (fun i => n - (intOf i).toNat)
  case atStart => exact ⟨0, by omega, rfl, fun i hi => by omega⟩
  case round =>
    obtain ⟨k, hk, rfl, hinv⟩ := hrel
    by_cases hlt : k < n
    · obtain ⟨b1, o1, u1, rfl, hb1, g1, hr⟩ := lst_at hs HU.out hlt
      obtain ⟨R, cR, rfl, r1, r2, r3⟩ := hr
      unfold maxLen at r2
      clear r3
      have HKL : Hid (k < cs.length) := by unfold Hid; rw [HN.out]; exact hlt
      have HNo := Lib.hid (fun h => fitB_no1 (shp_no (ps := ps) (is := is) (cs := cs) (k := k) HKL.out (by rw [HI.out]; exact h)))
      have HYs := Lib.hid (fun h => all_snoc (p := fun i => (cs.getD i []).length = ni) (k := k) hinv.out h)
      clear hinv
      generalize (cs.getD k []).length = m at *
      have g2 : W0.cell? ⟨b1, o1 + k, none⟩ = some (.slice R m cR) := (hbox.cell (p := ⟨b1, o1 + k, none⟩) hb1).trans g1
      by_cases e1 : m = ni
      · have HY := Lib.hid (HYs.out e1)
        have f1 : ((m : Int) != (ni : Int)) = false := by rw [e1]; simp
        clear e1 HYs HNo
        go_wp2_with fail
        go_round
        case rel => exact ⟨k + 1, by omega, by go_num, HY.out⟩
        case measure => simp [intOf]; omega
      · have HE := Lib.hid (HNo.out e1)
        have f1 : ((m : Int) != (ni : Int)) = true := by rw [bne_iff_ne]; omega
        clear e1 HYs HNo
        go_wp2_with fail
        go_ret
        exact ⟨by rw [HE.out]; rfl, hbox⟩
    · have HE : Hid (fitB ps is cs = true) := fitB_iff.2 ⟨HR1.out, HR2.out, HYes.out (fun i hi => by rw [HI.out]; exact hinv.out i (by have := HN.out; omega))⟩
      clear hinv
      go_wp2_with fail
      go_ret
      exact ⟨by rw [HE.out]; rfl, hbox⟩
end Go.Proofs.Ytgdngopemlajjaa
