/- The walks of model.Valid, model.Categories and of the reference's: they return plain functions of the model's rows. -/
import Derived.Test.YtoihjclkocffhaaDoorLst
import Derived.WalkKit
import Derived.LoopTactic
import Derived.WalkSpells
namespace Go.Proofs.YtoihjclkocffhaaDoor
open Go.RowKit
set_option linter.unusedVariables false

def scanE : List Int → Int → Int
  | [], s => if s = 1000 then 0 else 19
  | x :: xs, s => if x < 1 ∨ 1000 < x then 3 else scanE xs (s + x)
def rowE (cats : Nat) (row : List Int) : Int := if row.length ≠ cats then 1 else scanE row 0
def rowsE (cats : Nat) : List (List Int) → Int
  | [] => 0
  | r :: rs => if rowE cats r = 0 then rowsE cats rs else rowE cats r
def catsOf (rows : List (List Int)) : Nat := (rows.getD 0 []).length
/-- The first rule that a model violates for a grid with n points. -/
def modE (rows : List (List Int)) (n : Int) : Int :=
  if n < 1 ∨ 21 < n ∨ (rows.length : Int) ≠ n then 1 else if catsOf rows < 2 ∨ 6 < catsOf rows then 3 else rowsE (catsOf rows) rows
theorem drop_cons {α : Type} (l : List α) (d : α) {k : Nat} (h : k < l.length) : l.drop k = l.getD k d :: l.drop (k + 1) := by
  rw [List.drop_eq_getElem_cons h, List.getD_eq_getElem?_getD, List.getElem?_eq_getElem h]; rfl
theorem scanE_bad {l : List Int} {k : Nat} {s : Int} (h : k < l.length) (hx : l.getD k 0 < 1 ∨ 1000 < l.getD k 0) : scanE (l.drop k) s = 3 := by
  rw [drop_cons l 0 h, scanE, if_pos hx]
theorem scanE_step {l : List Int} {k : Nat} {s : Int} (h : k < l.length) (h1 : 1 ≤ l.getD k 0) (h2 : l.getD k 0 ≤ 1000) : scanE (l.drop k) s = scanE (l.drop (k + 1)) (s + l.getD k 0) := by
  rw [drop_cons l 0 h, scanE, if_neg (by omega)]
theorem scanE_end {l : List Int} {k : Nat} {s : Int} (h : l.length ≤ k) : scanE (l.drop k) s = if s = 1000 then 0 else 19 := by
  rw [List.drop_eq_nil_of_le h, scanE]
theorem rowsE_bad {c : Nat} {l : List (List Int)} {k : Nat} {e : Int} (h : k < l.length) (hx : rowE c (l.getD k []) = e) (he : e ≠ 0) : rowsE c (l.drop k) = e := by
  rw [drop_cons l [] h, rowsE, hx, if_neg he]
theorem rowsE_step {c : Nat} {l : List (List Int)} {k : Nat} (h : k < l.length) (hx : rowE c (l.getD k []) = 0) : rowsE c (l.drop k) = rowsE c (l.drop (k + 1)) := by
  rw [drop_cons l [] h, rowsE, if_pos hx]
theorem rowsE_end {c : Nat} {l : List (List Int)} {k : Nat} (h : l.length ≤ k) : rowsE c (l.drop k) = 0 := by
  rw [List.drop_eq_nil_of_le h, rowsE]
theorem rowE_len {c : Nat} {r : List Int} (h : r.length ≠ c) : rowE c r = 1 := by unfold rowE; rw [if_pos h]
theorem rowE_scan {c : Nat} {r : List Int} (h : r.length = c) : rowE c r = scanE r 0 := by unfold rowE; rw [if_neg (by omega)]
theorem modE_n {rows : List (List Int)} {n : Int} (h : n < 1 ∨ 21 < n ∨ (rows.length : Int) ≠ n) : modE rows n = 1 := if_pos h
theorem modE_c {rows : List (List Int)} {n : Int} (h1 : 1 ≤ n) (h2 : n ≤ 21) (h3 : (rows.length : Int) = n) (h : catsOf rows < 2 ∨ 6 < catsOf rows) : modE rows n = 3 := by
  unfold modE; rw [if_neg (by omega), if_pos h]
theorem modE_rows {rows : List (List Int)} {n : Int} (h1 : 1 ≤ n) (h2 : n ≤ 21) (h3 : (rows.length : Int) = n) (h4 : 2 ≤ catsOf rows) (h5 : catsOf rows ≤ 6) : modE rows n = rowsE (catsOf rows) rows := by
  unfold modE; rw [if_neg (by omega), if_neg (by omega)]
theorem scanE_zero : ∀ {l : List Int} {s : Int}, scanE l s = 0 → (∀ x ∈ l, 1 ≤ x ∧ x ≤ 1000) ∧ s + l.sum = 1000
  | [], s, h => by
    rw [scanE] at h
    split at h
    · rename_i hs; exact ⟨fun x hx => by simp at hx, by simp [hs]⟩
    · omega
  | x :: l, s, h => by
    rw [scanE] at h
    split at h
    · omega
    · rename_i hx
      obtain ⟨h1, h2⟩ := scanE_zero h
      refine ⟨fun y hy => ?_, by simp only [List.sum_cons]; omega⟩
      rcases List.mem_cons.1 hy with rfl | hy
      · omega
      · exact h1 y hy
theorem rowsE_zero {c : Nat} : ∀ {l : List (List Int)}, rowsE c l = 0 → ∀ r ∈ l, rowE c r = 0
  | [], _, r, hr => by simp at hr
  | a :: l, h, r, hr => by
    rw [rowsE] at h
    split at h
    · rename_i ha
      rcases List.mem_cons.1 hr with rfl | hr
      · exact ha
      · exact rowsE_zero h r hr
    · rename_i ha; exact absurd h ha
/-- What a valid model is. -/
theorem modE_zero {rows : List (List Int)} {n : Int} (h : modE rows n = 0) : 1 ≤ n ∧ n ≤ 21 ∧ (rows.length : Int) = n ∧ 2 ≤ catsOf rows ∧ catsOf rows ≤ 6 ∧ ∀ r ∈ rows, r.length = catsOf rows ∧ (∀ x ∈ r, 1 ≤ x ∧ x ≤ 1000) ∧ r.sum = 1000 := by
  unfold modE at h
  split at h
  · omega
  · split at h
    · omega
    · rename_i h1 h2
      refine ⟨by omega, by omega, by omega, by omega, by omega, fun r hr => ?_⟩
      have := rowsE_zero h r hr
      unfold rowE at this
      split at this
      · omega
      · rename_i hl
        obtain ⟨h3, h4⟩ := scanE_zero this
        exact ⟨by omega, h3, by omega⟩

set_option maxHeartbeats 1000000 in
theorem cats_any (rv : Value) (rows : List (List Int)) (w : World) (h : IntsL w rv rows) :
    Calls Tryd.prog 26 #[.agg #[rv]] w fun e w' => e = .returned (.int .i64 ((catsOf rows : Nat) : Int)) ∧ Below w.heap.size w w' := by
  obtain ⟨A, c, us, rfl, hc, hm, hs, hu⟩ := h
  have HU := Lib.hid hu
  unfold maxLen at hm
  clear hu
  rcases Nat.eq_zero_or_pos rows.length with h0 | hp
  · have HE := Lib.hid (show catsOf rows = 0 by unfold catsOf; rw [List.eq_nil_of_length_eq_zero h0]; rfl)
    have h0' : ((rows.length : Int) == 0) = true := by rw [beq_iff_eq]; omega
    clear h0
    generalize rows.length = n at *
    go_enter Tryd.func26, Tryd.ntmps26
    go_wp2
    go_ret
    exact ⟨by rw [HE.out]; rfl, (Below.refl _ _).alloc (Nat.le_refl _) _⟩
  · obtain ⟨b, o, u, rfl, hb, g1, hr⟩ := lst_at hs HU.out hp
    rw [Nat.add_zero] at g1
    have h0' : ((rows.length : Int) == 0) = false := by rw [beq_eq_false_iff_ne]; omega
    obtain ⟨B, cB, rfl, k1, k2, k3⟩ := hr
    have HE := Lib.hid (show catsOf rows = (rows.getD 0 []).length from rfl)
    unfold maxLen at k2
    clear hs HU k3
    generalize (rows.getD 0 []).length = q at *
    generalize rows.length = n at *
    go_enter Tryd.func26, Tryd.ntmps26
    go_wp2
    go_ret
    exact ⟨by rw [HE.out]; rfl, (Below.refl _ _).alloc (Nat.le_refl _) _⟩
set_option maxHeartbeats 1000000 in
theorem rcats_any (rv : Value) (rows : List (List Int)) (w : World) (h : IntsL w rv rows) :
    Calls Tryd.prog 38 #[.agg #[rv]] w fun e w' => e = .returned (.int .i64 ((catsOf rows : Nat) : Int)) ∧ Below w.heap.size w w' := by
  obtain ⟨A, c, us, rfl, hc, hm, hs, hu⟩ := h
  have HU := Lib.hid hu
  unfold maxLen at hm
  clear hu
  rcases Nat.eq_zero_or_pos rows.length with h0 | hp
  · have HE := Lib.hid (show catsOf rows = 0 by unfold catsOf; rw [List.eq_nil_of_length_eq_zero h0]; rfl)
    have h0' : ((rows.length : Int) == 0) = true := by rw [beq_iff_eq]; omega
    clear h0
    generalize rows.length = n at *
    go_enter Tryd.func38, Tryd.ntmps38
    go_wp2
    go_ret
    exact ⟨by rw [HE.out]; rfl, (Below.refl _ _).alloc (Nat.le_refl _) _⟩
  · obtain ⟨b, o, u, rfl, hb, g1, hr⟩ := lst_at hs HU.out hp
    rw [Nat.add_zero] at g1
    have h0' : ((rows.length : Int) == 0) = false := by rw [beq_eq_false_iff_ne]; omega
    obtain ⟨B, cB, rfl, k1, k2, k3⟩ := hr
    have HE := Lib.hid (show catsOf rows = (rows.getD 0 []).length from rfl)
    unfold maxLen at k2
    clear hs HU k3
    generalize (rows.getD 0 []).length = q at *
    generalize rows.length = n at *
    go_enter Tryd.func38, Tryd.ntmps38
    go_wp2
    go_ret
    exact ⟨by rw [HE.out]; rfl, (Below.refl _ _).alloc (Nat.le_refl _) _⟩

set_option maxHeartbeats 4000000 in
theorem mvalid_any (rv : Value) (rows : List (List Int)) (n : Int) (w : World) (h : IntsL w rv rows) :
    Calls Tryd.prog 32 #[.agg #[rv], .int .i64 n] w fun e w' => e = .returned (.int .i64 (modE rows n)) ∧ Below w.heap.size w w' := by
  obtain ⟨A, c, us, rfl, hc, hm, hs, hu⟩ := h
  have HU := Lib.hid hu
  unfold maxLen at hm
  clear hu
  have hbox : Below w.heap.size w (w.alloc (.cells #[.slice A rows.length c] 25)) := (Below.refl _ _).alloc (Nat.le_refl _) _
  by_cases c1 : n < 1
  · have HE := Lib.hid (modE_n (rows := rows) (n := n) (by omega))
    have d1 : decide (n < 1) = true := by simpa using c1
    generalize rows.length = m at *
    go_enter Tryd.func32, Tryd.ntmps32
    go_wp2
    go_ret
    exact ⟨by rw [HE.out]; rfl, hbox⟩
  have d1 : decide (n < 1) = false := by simpa using c1
  by_cases c2 : 21 < n
  · have HE := Lib.hid (modE_n (rows := rows) (n := n) (by omega))
    have d2 : decide (21 < n) = true := by simpa using c2
    generalize rows.length = m at *
    go_enter Tryd.func32, Tryd.ntmps32
    go_wp2
    go_ret
    exact ⟨by rw [HE.out]; rfl, hbox⟩
  have d2 : decide (21 < n) = false := by simpa using c2
  by_cases c3 : (rows.length : Int) = n
  · subst c3
    have d3 : ((rows.length : Int) != (rows.length : Int)) = false := by simp
    have hp : 0 < rows.length := by omega
    obtain ⟨b, o, u, rfl, hb, g1, hr⟩ := lst_at hs HU.out hp
    rw [Nat.add_zero] at g1
    obtain ⟨B, cB, rfl, k1, k2, k3⟩ := hr
    unfold maxLen at k2
    clear k3
    have HC := Lib.hid (show catsOf rows = (rows.getD 0 []).length from rfl)
    have HM := Lib.hid (modE_rows (rows := rows) (n := (rows.length : Int)) (by omega) (by omega) rfl)
    have HM3 := Lib.hid (modE_c (rows := rows) (n := (rows.length : Int)) (by omega) (by omega) rfl)
    generalize hq : (rows.getD 0 []).length = q at *
    clear hq
    rw [HC.out] at HM HM3
    generalize hm' : rows.length = m at *
    have HL := Lib.hid hm'
    clear hm'
    by_cases c4 : (q : Int) < 2
    · have HE := Lib.hid (HM3.out (by omega))
      have d4 : decide ((q : Int) < 2) = true := by simpa using c4
      go_enter Tryd.func32, Tryd.ntmps32
      go_wp2
      go_ret
      exact ⟨by rw [HE.out]; rfl, hbox⟩
    have d4 : decide ((q : Int) < 2) = false := by simpa using c4
    by_cases c5 : 6 < (q : Int)
    · have HE := Lib.hid (HM3.out (by omega))
      have d5 : decide (6 < (q : Int)) = true := by simpa using c5
      go_enter Tryd.func32, Tryd.ntmps32
      go_wp2
      go_ret
      exact ⟨by rw [HE.out]; rfl, hbox⟩
    have d5 : decide (6 < (q : Int)) = false := by simpa using c5
    replace HM := Lib.hid (HM.out (by omega) (by omega))
    clear HM3
    go_enter Tryd.func32, Tryd.ntmps32
    go_wp2
    clear d1 d2 d3 d4 d5
    go_loop [38] (fun i => ∃ k : Nat, k ≤ m ∧ i = .int .i64 (k : Int) ∧ Hid (rowsE q rows = rowsE q (rows.drop k))) (fun i => m - (intOf i).toNat)
    case atStart => exact ⟨0, by omega, rfl, rfl⟩
    case round =>
      obtain ⟨k, hk, rfl, hinv⟩ := hrel
      by_cases hlt : k < m
      · obtain ⟨b1, o1, u1, hA, hb1, g2, hr⟩ := lst_at hs HU.out hlt
        obtain ⟨X, cX, rfl, x1, x2, x3⟩ := hr
        simp only [Option.some.injEq, Addr.mk.injEq] at hA
        obtain ⟨rfl, rfl, _⟩ := hA
        unfold maxLen at x2
        have HKL : Hid (k < rows.length) := by unfold Hid; rw [HL.out]; exact hlt
        have HBad := fun e h1 h2 => (hinv.out.trans (rowsE_bad (c := q) (l := rows) (k := k) (e := e) HKL.out h1 h2))
        have HB := Lib.hid HBad
        have HStep := Lib.hid (fun h1 => hinv.out.trans (rowsE_step (c := q) (l := rows) (k := k) HKL.out h1))
        clear HBad hinv
        generalize rows.getD k [] = row at *
        by_cases hrl : row.length = q
        · have HR := Lib.hid (rowE_scan hrl)
          have hnn : ((row.length : Int) != (q : Int)) = false := by rw [hrl]; simp
          have hrq : row.length ≤ q := by omega
          have hqr : q ≤ row.length := by omega
          clear hrl
          go_wp2
          clear hnn
          go_loop [8, 48] (fun s i => ∃ (j : Nat) (t : Int), j ≤ row.length ∧ i = .int .i64 (j : Int) ∧ s = .int .i64 t ∧ 0 ≤ t ∧ t ≤ 1000 * (j : Int) ∧ Hid (scanE row 0 = scanE (row.drop j) t)) (fun _ i => row.length - (intOf i).toNat)
          case atStart => exact ⟨0, 0, by omega, rfl, rfl, by omega, by omega, rfl⟩
          case round =>
            obtain ⟨j, t, hj, rfl, rfl, t1, t2, hsc⟩ := hrel
            by_cases hlj : j < row.length
            · obtain ⟨b3, o3, rfl, hb3, hcell⟩ := x3.num hlj
              have g3 := hcell j hlj
              have HB2 := Lib.hid (fun h => hsc.out.trans (scanE_bad (l := row) (k := j) (s := t) hlj h))
              have HS2 := Lib.hid (fun h1 h2 => hsc.out.trans (scanE_step (l := row) (k := j) (s := t) hlj h1 h2))
              clear hcell hsc
              generalize row.getD j 0 = x at *
              by_cases e1 : x < 1
              · have HE := Lib.hid (HB.out 3 (HR.out.trans (HB2.out (.inl e1))) (by omega))
                have f1 : decide (x < 1) = true := by simpa using e1
                go_wp2
                go_ret
                exact ⟨by rw [HM.out, HE.out]; rfl, hbox⟩
              · have f1 : decide (x < 1) = false := by simpa using e1
                by_cases e2 : 1000 < x
                · have HE := Lib.hid (HB.out 3 (HR.out.trans (HB2.out (.inr e2))) (by omega))
                  have f2 : decide (1000 < x) = true := by simpa using e2
                  go_wp2
                  go_ret
                  exact ⟨by rw [HM.out, HE.out]; rfl, hbox⟩
                · have f2 : decide (1000 < x) = false := by simpa using e2
                  have HN := Lib.hid (HS2.out (by omega) (by omega))
                  go_wp2
                  go_round
                  case rel => exact ⟨j + 1, t + x, by omega, by go_num, rfl, by omega, by omega, HN.out⟩
                  case measure => simp [intOf]; omega
            · have HN := Lib.hid (hsc.out.trans (scanE_end (l := row) (k := j) (s := t) (by omega)))
              by_cases e3 : t = 1000
              · have HZ := Lib.hid (HStep.out (HR.out.trans (by rw [HN.out, if_pos e3])))
                have f3 : (t != 1000) = false := by rw [bne_eq_false_iff_eq]; exact e3
                clear e3
                go_wp2
                go_round
                case rel => exact ⟨k + 1, by omega, by go_num, HZ.out⟩
                case measure => simp [intOf]; omega
              · have HE := Lib.hid (HB.out 19 (HR.out.trans (by rw [HN.out, if_neg e3])) (by omega))
                have f3 : (t != 1000) = true := by rw [bne_iff_ne]; exact e3
                clear e3
                go_wp2
                go_ret
                exact ⟨by rw [HM.out, HE.out]; rfl, hbox⟩
        · have HE := Lib.hid (HB.out 1 (rowE_len hrl) (by omega))
          have hnn : ((row.length : Int) != (q : Int)) = true := by rw [bne_iff_ne]; omega
          clear hrl
          go_wp2
          go_ret
          exact ⟨by rw [HM.out, HE.out]; rfl, hbox⟩
      · have HE := Lib.hid (hinv.out.trans (rowsE_end (c := q) (l := rows) (k := k) (by rw [HL.out]; omega)))
        go_wp2
        go_ret
        exact ⟨by rw [HM.out, HE.out]; rfl, hbox⟩
  · have HE := Lib.hid (modE_n (rows := rows) (n := n) (by omega))
    have d3 : ((rows.length : Int) != n) = true := by rw [bne_iff_ne]; exact c3
    clear c3
    generalize rows.length = m at *
    go_enter Tryd.func32, Tryd.ntmps32
    go_wp2
    go_ret
    exact ⟨by rw [HE.out]; rfl, hbox⟩
set_option maxHeartbeats 2000000 in
theorem rrow_any (v : Value) (row : List Int) (q : Nat) (w : World) (h : Nums .i64 w v row) (hq : q ≤ 6) :
    Calls Tryd.prog 77 #[v, .int .i64 (q : Int)] w fun e w' => e = .returned (.int .i64 (rowE q row)) ∧ w = w' := by
  obtain ⟨X, cX, rfl, x1, x2, x3⟩ := h
  unfold maxLen at x2
  by_cases hrl : row.length = q
  · have HR := Lib.hid (rowE_scan hrl)
    have hnn : ((row.length : Int) != (q : Int)) = false := by rw [hrl]; simp
    have hrq : row.length ≤ q := by omega
    clear hrl
    go_enter Tryd.func77, Tryd.ntmps77
    go_wp2
    clear hnn
    go_loop [5, 6] (fun s i => ∃ (j : Nat) (t : Int), j ≤ row.length ∧ i = .int .i64 (j : Int) ∧ s = .int .i64 t ∧ 0 ≤ t ∧ t ≤ 1000 * (j : Int) ∧ Hid (scanE row 0 = scanE (row.drop j) t)) (fun _ i => row.length - (intOf i).toNat)
    case atStart => exact ⟨0, 0, by omega, rfl, rfl, by omega, by omega, rfl⟩
    case round =>
      obtain ⟨j, t, hj, rfl, rfl, t1, t2, hsc⟩ := hrel
      by_cases hlj : j < row.length
      · obtain ⟨b3, o3, rfl, hb3, hcell⟩ := x3.num hlj
        have g3 := hcell j hlj
        have HB2 := Lib.hid (fun h => hsc.out.trans (scanE_bad (l := row) (k := j) (s := t) hlj h))
        have HS2 := Lib.hid (fun h1 h2 => hsc.out.trans (scanE_step (l := row) (k := j) (s := t) hlj h1 h2))
        clear hcell hsc
        generalize row.getD j 0 = x at *
        by_cases e1 : x < 1
        · have HE := Lib.hid (HR.out.trans (HB2.out (.inl e1)))
          have f1 : decide (x < 1) = true := by simpa using e1
          go_wp2
          go_ret
          exact ⟨by rw [HE.out]; rfl, rfl⟩
        · have f1 : decide (x < 1) = false := by simpa using e1
          by_cases e2 : 1000 < x
          · have HE := Lib.hid (HR.out.trans (HB2.out (.inr e2)))
            have f2 : decide (1000 < x) = true := by simpa using e2
            go_wp2
            go_ret
            exact ⟨by rw [HE.out]; rfl, rfl⟩
          · have f2 : decide (1000 < x) = false := by simpa using e2
            have HN := Lib.hid (HS2.out (by omega) (by omega))
            go_wp2
            go_round
            case rel => exact ⟨j + 1, t + x, by omega, by go_num, rfl, by omega, by omega, HN.out⟩
            case measure => simp [intOf]; omega
      · have HN := Lib.hid (hsc.out.trans (scanE_end (l := row) (k := j) (s := t) (by omega)))
        by_cases e3 : t = 1000
        · have HE := Lib.hid (HR.out.trans (by rw [HN.out, if_pos e3]))
          have f3 : (t != 1000) = false := by rw [bne_eq_false_iff_eq]; exact e3
          clear e3
          go_wp2
          go_ret
          exact ⟨by rw [HE.out]; rfl, rfl⟩
        · have HE := Lib.hid (HR.out.trans (by rw [HN.out, if_neg e3]))
          have f3 : (t != 1000) = true := by rw [bne_iff_ne]; exact e3
          clear e3
          go_wp2
          go_ret
          exact ⟨by rw [HE.out]; rfl, rfl⟩
  · have HE := Lib.hid (rowE_len hrl)
    have hnn : ((row.length : Int) != (q : Int)) = true := by rw [bne_iff_ne]; omega
    clear hrl
    go_enter Tryd.func77, Tryd.ntmps77
    go_wp2
    go_ret
    exact ⟨by rw [HE.out]; rfl, rfl⟩

set_option maxHeartbeats 4000000 in
theorem rmvalid_any (rv : Value) (rows : List (List Int)) (n : Int) (w : World) (h : IntsL w rv rows) :
    Calls Tryd.prog 36 #[.agg #[rv], .int .i64 n] w fun e w' => e = .returned (.int .i64 (modE rows n)) ∧ Below w.heap.size w w' := by
  obtain ⟨A, c, us, rfl, hc, hm, hs, hu⟩ := h
  have HU := Lib.hid hu
  unfold maxLen at hm
  clear hu
  have hbox : Below w.heap.size w (w.alloc (.cells #[.slice A rows.length c] 25)) := (Below.refl _ _).alloc (Nat.le_refl _) _
  by_cases c1 : n < 1
  · have HE := Lib.hid (modE_n (rows := rows) (n := n) (by omega))
    have d1 : decide (n < 1) = true := by simpa using c1
    generalize rows.length = m at *
    go_enter Tryd.func36, Tryd.ntmps36
    go_wp2
    go_ret
    exact ⟨by rw [HE.out]; rfl, hbox⟩
  have d1 : decide (n < 1) = false := by simpa using c1
  by_cases c2 : 21 < n
  · have HE := Lib.hid (modE_n (rows := rows) (n := n) (by omega))
    have d2 : decide (21 < n) = true := by simpa using c2
    generalize rows.length = m at *
    go_enter Tryd.func36, Tryd.ntmps36
    go_wp2
    go_ret
    exact ⟨by rw [HE.out]; rfl, hbox⟩
  have d2 : decide (21 < n) = false := by simpa using c2
  by_cases c3 : (rows.length : Int) = n
  · subst c3
    have d3 : ((rows.length : Int) != (rows.length : Int)) = false := by simp
    have hp : 0 < rows.length := by omega
    obtain ⟨b, o, u, rfl, hb, g1, hr⟩ := lst_at hs HU.out hp
    rw [Nat.add_zero] at g1
    obtain ⟨B, cB, rfl, k1, k2, k3⟩ := hr
    unfold maxLen at k2
    clear k3
    have HC := Lib.hid (show catsOf rows = (rows.getD 0 []).length from rfl)
    have HM := Lib.hid (modE_rows (rows := rows) (n := (rows.length : Int)) (by omega) (by omega) rfl)
    have HM3 := Lib.hid (modE_c (rows := rows) (n := (rows.length : Int)) (by omega) (by omega) rfl)
    generalize hq : (rows.getD 0 []).length = q at *
    clear hq
    rw [HC.out] at HM HM3
    generalize hm' : rows.length = m at *
    have HL := Lib.hid hm'
    clear hm'
    by_cases c4 : (q : Int) < 2
    · have HE := Lib.hid (HM3.out (by omega))
      have d4 : decide ((q : Int) < 2) = true := by simpa using c4
      go_enter Tryd.func36, Tryd.ntmps36
      go_wp2
      go_ret
      exact ⟨by rw [HE.out]; rfl, hbox⟩
    have d4 : decide ((q : Int) < 2) = false := by simpa using c4
    by_cases c5 : 6 < (q : Int)
    · have HE := Lib.hid (HM3.out (by omega))
      have d5 : decide (6 < (q : Int)) = true := by simpa using c5
      go_enter Tryd.func36, Tryd.ntmps36
      go_wp2
      go_ret
      exact ⟨by rw [HE.out]; rfl, hbox⟩
    have d5 : decide (6 < (q : Int)) = false := by simpa using c5
    replace HM := Lib.hid (HM.out (by omega) (by omega))
    clear HM3
    go_enter Tryd.func36, Tryd.ntmps36
    go_wp2
    clear d1 d2 d3 d4 d5
    go_loop [6] (fun i => ∃ k : Nat, k ≤ m ∧ i = .int .i64 (k : Int) ∧ Hid (rowsE q rows = rowsE q (rows.drop k))) (fun i => m - (intOf i).toNat)
    case atStart => exact ⟨0, by omega, rfl, rfl⟩
    case round =>
      obtain ⟨k, hk, rfl, hinv⟩ := hrel
      by_cases hlt : k < m
      · obtain ⟨b1, o1, u1, hA, hb1, g2, hr⟩ := lst_at hs HU.out hlt
        have hr' := hr.below hbox
        obtain ⟨X, cX, rfl, x1, x2, x3⟩ := hr
        simp only [Option.some.injEq, Addr.mk.injEq] at hA
        obtain ⟨rfl, rfl, _⟩ := hA
        have HKL : Hid (k < rows.length) := by unfold Hid; rw [HL.out]; exact hlt
        have HB := Lib.hid (fun e h1 h2 => (hinv.out.trans (rowsE_bad (c := q) (l := rows) (k := k) (e := e) HKL.out h1 h2)))
        have HStep := Lib.hid (fun h1 => hinv.out.trans (rowsE_step (c := q) (l := rows) (k := k) HKL.out h1))
        clear hinv x3 x1 x2
        generalize rows.getD k [] = row at *
        go_wp2_with fail
        refine (rrow_any _ row q _ hr' (by omega)).mono ?_
        rintro e w1 ⟨rfl, rfl⟩
        by_cases he : rowE q row = 0
        · have HZ := Lib.hid (HStep.out he)
          have f3 : (rowE q row != 0) = false := by rw [bne_eq_false_iff_eq]; exact he
          clear he
          generalize rowE q row = E at *
          go_wp2_with fail
          go_round
          case rel => exact ⟨k + 1, by omega, by go_num, HZ.out⟩
          case measure => simp [intOf]; omega
        · have HE := Lib.hid (HB.out _ rfl he)
          have f3 : (rowE q row != 0) = true := by rw [bne_iff_ne]; exact he
          clear he HB HStep
          generalize rowE q row = E at *
          go_wp2_with fail
          go_ret
          exact ⟨by rw [HM.out, HE.out]; rfl, hbox⟩
      · have HE := Lib.hid (hinv.out.trans (rowsE_end (c := q) (l := rows) (k := k) (by rw [HL.out]; omega)))
        go_wp2
        go_ret
        exact ⟨by rw [HM.out, HE.out]; rfl, hbox⟩
  · have HE := Lib.hid (modE_n (rows := rows) (n := n) (by omega))
    have d3 : ((rows.length : Int) != n) = true := by rw [bne_iff_ne]; exact c3
    clear c3
    generalize rows.length = m at *
    go_enter Tryd.func36, Tryd.ntmps36
    go_wp2
    go_ret
    exact ⟨by rw [HE.out]; rfl, hbox⟩
end Go.Proofs.YtoihjclkocffhaaDoor
