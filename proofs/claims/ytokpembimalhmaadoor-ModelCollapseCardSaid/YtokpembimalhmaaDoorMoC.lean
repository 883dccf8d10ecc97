/- The walk of the reference's Same. -/
import Derived.Test.YtokpembimalhmaaDoorMoP
import Derived.RegionTactic
import Derived.BigRegion
import Derived.Deep.QuietTactic
import Derived.BigQuiet
namespace Go.Proofs.YtokpembimalhmaaDoor
open Go.RowKit
set_option linter.unusedVariables false

theorem ext_get {α : Type} (d : α) {l m : List α} (hn : l.length = m.length) (h : ∀ i, i < l.length → l.getD i d = m.getD i d) : l = m := by
  apply List.ext_getElem hn
  intro i h1 h2
  have := h i h1
  simpa [List.getD_eq_getElem?_getD, List.getElem?_eq_getElem h1, List.getElem?_eq_getElem h2] using this
theorem ne_get {α : Type} (d : α) {l m : List α} {i : Nat} (h : l.getD i d ≠ m.getD i d) : l ≠ m := fun e => h (by rw [e])
theorem ne_len {α : Type} {l m : List α} (h : l.length ≠ m.length) : l ≠ m := fun e => h (by rw [e])

set_option maxHeartbeats 4000000 in
theorem same_any (av bv : Value) (xs ys : List (List Int)) (w : World) (ha : IntsL w av xs) (hb : IntsL w bv ys) :
    Calls Tryd.prog 19 #[.agg #[av], .agg #[bv]] w fun e w' => e = .returned (.bool (decide (xs = ys))) ∧ Below w.heap.size w w' := by
  obtain ⟨A, c, us, rfl, hc, hm, hs, hu⟩ := ha
  obtain ⟨B, c', us', rfl, hc', hm', hs', hu'⟩ := hb
  have HU := Lib.hid hu
  have HU' := Lib.hid hu'
  unfold maxLen at hm hm'
  clear hu hu'
  have B0 : Below w.heap.size w ((w.alloc (.cells #[.slice A xs.length c] 24)).alloc (.cells #[.slice B ys.length c'] 24)) := ((Below.refl _ _).alloc (Nat.le_refl _) _).alloc (by simp) _
  by_cases hn : xs.length = ys.length
  · have d : ((xs.length : Int) != (ys.length : Int)) = false := by rw [hn]; simp
    have hxy : ys.length ≤ xs.length := by omega
    have hyx : xs.length ≤ ys.length := by omega
    have HN := Lib.hid hn
    clear hn
    go_enter Tryd.func19, Tryd.ntmps19
    go_wp2_with fail
    clear d
    go_loopw [5] (fun i wr => ∃ k : Nat, k ≤ xs.length ∧ i = .int .i64 (k : Int) ∧ Hid (∀ j, j < k → xs.getD j [] = ys.getD j []) ∧ ∃ d, wr = ((w.alloc (.cells #[.slice A xs.length c] 24)).alloc (.cells #[.slice B ys.length c'] 24)).drewN d) (fun i _ => xs.length - (intOf i).toNat)
    case atStart => exact ⟨0, by omega, rfl, fun j h => by omega, 0, rfl⟩
    case round =>
      obtain ⟨k, hk, rfl, hinv, d, rfl⟩ := hrel
      by_cases hlt : k < xs.length
      · obtain ⟨b1, o1, u1, rfl, hb1, g1, hr1⟩ := lst_at hs HU.out hlt
        obtain ⟨b2, o2, u2, rfl, hb2, g2, hr2⟩ := lst_at hs' HU'.out (k := k) (by omega)
        obtain ⟨X, cX, rfl, x1, x2, x3⟩ := hr1
        obtain ⟨Y, cY, rfl, y1, y2, y3⟩ := hr2
        unfold maxLen at x2 y2
        have HNE := Lib.hid (fun h => decide_eq_false (ne_get (l := xs) (m := ys) (i := k) [] h))
        have HST := Lib.hid (all_up (p := fun j => xs.getD j [] = ys.getD j []) hinv.out)
        clear hinv
        generalize xs.getD k [] = r1 at *
        generalize ys.getD k [] = r2 at *
        by_cases hl : r1.length = r2.length
        · have d2 : ((r1.length : Int) != (r2.length : Int)) = false := by rw [hl]; simp
          have l1 : r1.length ≤ r2.length := by omega
          have l2 : r2.length ≤ r1.length := by omega
          have HL := Lib.hid hl
          clear hl
          go_wp2_with fail
          go_quiet (fail)
          go_wp2_with fail
          clear d2
          go_loopw [6] (fun i wr => ∃ j : Nat, j ≤ r1.length ∧ i = .int .i64 (j : Int) ∧ Hid (∀ t, t < j → r1.getD t 0 = r2.getD t 0) ∧ ∃ d, wr = ((w.alloc (.cells #[.slice (some ⟨b1, o1, none⟩) xs.length c] 24)).alloc (.cells #[.slice (some ⟨b2, o2, none⟩) ys.length c'] 24)).drewN d) (fun i _ => r1.length - (intOf i).toNat)
          case atStart => exact ⟨0, by omega, rfl, fun j h => by omega, _, World.drewN_drewN _ _ _⟩
          case round =>
            obtain ⟨j, hj, rfl, hin, d', rfl⟩ := hrel
            by_cases hlt2 : j < r1.length
            · obtain ⟨b3, o3, rfl, hb3, hc3⟩ := x3.num hlt2
              obtain ⟨b4, o4, rfl, hb4, hc4⟩ := y3.num (i := j) (by omega)
              have g3 := hc3 j hlt2
              have g4 := hc4 j (by omega)
              clear hc3 hc4
              by_cases he : r1.getD j 0 = r2.getD j 0
              · have HI := Lib.hid (all_up (p := fun t => r1.getD t 0 = r2.getD t 0) hin.out he)
                rw [← he] at g4
                clear he hin
                generalize r1.getD j 0 = z at g3 g4
                have hne : (z != z) = false := by simp
                go_wp2_with fail
                go_quiet (fail)
                go_wp2_with fail
                go_roundw
                case rel => exact ⟨j + 1, by omega, by go_num, HI.out, _, rfl⟩
                case measure => simp [intOf]; omega
              · have HE := Lib.hid (HNE.out (ne_get 0 he))
                have hne : (r1.getD j 0 != r2.getD j 0) = true := by rw [bne_iff_ne]; exact he
                clear he hin HNE HST
                generalize r1.getD j 0 = z at g3 g4 hne
                generalize r2.getD j 0 = z' at g3 g4 hne
                go_wp2_with fail
                go_quiet (fail)
                go_wp2_with fail
                go_ret
                exact ⟨by rw [HE.out]; rfl, below_drewN (below_drewN B0 _) _⟩
            · have HS2 := Lib.hid (HST.out (ext_get 0 HL.out fun t ht => hin.out t (by omega)))
              clear HST HNE hin
              go_wp2_with fail
              go_roundw
              case rel => exact ⟨k + 1, by omega, by go_num, HS2.out, _, rfl⟩
              case measure => simp [intOf]; omega
        · have HE := Lib.hid (HNE.out (ne_len hl))
          have d2 : ((r1.length : Int) != (r2.length : Int)) = true := by rw [bne_iff_ne]; omega
          clear hl HNE HST
          go_wp2_with fail
          go_quiet (fail)
          go_wp2_with fail
          go_ret
          exact ⟨by rw [HE.out]; rfl, below_drewN (below_drewN B0 _) _⟩
      · have HE := Lib.hid (decide_eq_true (ext_get [] HN.out fun i hi => hinv.out i (by omega)))
        go_wp2_with fail
        go_ret
        exact ⟨by rw [HE.out]; rfl, below_drewN B0 _⟩
  · have HE := Lib.hid (decide_eq_false (ne_len hn))
    have d : ((xs.length : Int) != (ys.length : Int)) = true := by rw [bne_iff_ne]; omega
    clear hn
    go_enter Tryd.func19, Tryd.ntmps19
    go_wp2_with fail
    go_ret
    exact ⟨by rw [HE.out]; rfl, B0⟩
end Go.Proofs.YtokpembimalhmaaDoor
