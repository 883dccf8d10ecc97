/- The walks of matrix.Valid (rising, ordered, shaped) and of the reference's: plain functions of the matrix. -/
import Derived.Test.YtneoglmfabilnaaLst
import Derived.Deep.RegionHeld3
import Derived.WalkKit
import Derived.LoopTactic
import Derived.WalkSpells
namespace Go.Proofs.Ytneoglmfabilnaa
open Go.RowKit
set_option linter.unusedVariables false

/-- Rising numbers from 1 on. -/
def ris (l : List Int) : Bool := decide (∀ i, i < l.length → 1 ≤ l.getD i 0 ∧ (0 < i → l.getD (i - 1) 0 < l.getD i 0))
def shp (ps is : List Int) (cs : List (List Int)) : Bool := decide (cs.length = ps.length ∧ ∀ i, i < cs.length → (cs.getD i []).length = is.length)
def catsB (cats : List Int) : Bool := decide (∀ i, i < cats.length → 2 ≤ cats.getD i 0 ∧ cats.getD i 0 ≤ 6)
def cellB (x c : Int) : Bool := decide (x = -1 ∨ x = -2 ∨ (0 ≤ x ∧ x < c))
def rowB (cats row : List Int) : Bool := decide (∀ i, i < row.length → cellB (row.getD i 0) (cats.getD i 0) = true)
def cellsB (cats : List Int) (cs : List (List Int)) : Bool := decide (∀ i, i < cs.length → rowB cats (cs.getD i []) = true)
/-- The first rule that a matrix violates. -/
def matE (ps is : List Int) (cs : List (List Int)) (cats : List Int) : Int :=
  if 200 < ps.length ∨ 60 < is.length ∨ 60 < cats.length then 5 else if ris ps = false ∨ ris is = false then 23 else if shp ps is cs = false ∨ cats.length ≠ is.length then 1 else
    if catsB cats = false then 1 else if cellsB cats cs = false then 3 else 0
theorem dec_no {p : Nat → Prop} {n k : Nat} [Decidable (∀ i, i < n → p i)] (hk : k < n) (h : ¬ p k) : decide (∀ i, i < n → p i) = false := by
  simp only [decide_eq_false_iff_not]; exact fun H => h (H k hk)
theorem ris_no {l : List Int} {k : Nat} (hk : k < l.length) (h : ¬ (1 ≤ l.getD k 0 ∧ (0 < k → l.getD (k - 1) 0 < l.getD k 0))) : ris l = false := by
  unfold ris; simp only [decide_eq_false_iff_not]; exact fun H => h (H k hk)
theorem ris_yes {l : List Int} (h : ∀ i, i < l.length → 1 ≤ l.getD i 0 ∧ (0 < i → l.getD (i - 1) 0 < l.getD i 0)) : ris l = true := by
  unfold ris; exact decide_eq_true h
theorem shp_no {ps is : List Int} {cs : List (List Int)} {k : Nat} (hk : k < cs.length) (h : (cs.getD k []).length ≠ is.length) : shp ps is cs = false := by
  unfold shp; simp only [decide_eq_false_iff_not]; exact fun H => h (H.2 k hk)
theorem shp_len {ps is : List Int} {cs : List (List Int)} (h : cs.length ≠ ps.length) : shp ps is cs = false := by
  unfold shp; simp only [decide_eq_false_iff_not]; exact fun H => h H.1
theorem shp_yes {ps is : List Int} {cs : List (List Int)} (h1 : cs.length = ps.length) (h : ∀ i, i < cs.length → (cs.getD i []).length = is.length) : shp ps is cs = true := by
  unfold shp; exact decide_eq_true ⟨h1, h⟩
theorem catsB_no {l : List Int} {k : Nat} (hk : k < l.length) (h : ¬ (2 ≤ l.getD k 0 ∧ l.getD k 0 ≤ 6)) : catsB l = false := by
  unfold catsB; simp only [decide_eq_false_iff_not]; exact fun H => h (H k hk)
theorem catsB_yes {l : List Int} (h : ∀ i, i < l.length → 2 ≤ l.getD i 0 ∧ l.getD i 0 ≤ 6) : catsB l = true := by
  unfold catsB; exact decide_eq_true h
theorem rowB_no {c l : List Int} {k : Nat} (hk : k < l.length) (h : cellB (l.getD k 0) (c.getD k 0) = false) : rowB c l = false := by
  unfold rowB; simp only [decide_eq_false_iff_not]; exact fun H => by rw [H k hk] at h; cases h
theorem rowB_yes {c l : List Int} (h : ∀ i, i < l.length → cellB (l.getD i 0) (c.getD i 0) = true) : rowB c l = true := by
  unfold rowB; exact decide_eq_true h
theorem cellsB_no {c : List Int} {l : List (List Int)} {k : Nat} (hk : k < l.length) (h : rowB c (l.getD k []) = false) : cellsB c l = false := by
  unfold cellsB; simp only [decide_eq_false_iff_not]; exact fun H => by rw [H k hk] at h; cases h
theorem cellsB_yes {c : List Int} {l : List (List Int)} (h : ∀ i, i < l.length → rowB c (l.getD i []) = true) : cellsB c l = true := by
  unfold cellsB; exact decide_eq_true h
theorem all_snoc {p : Nat → Prop} {k : Nat} (h : ∀ i, i < k → p i) (hk : p k) : ∀ i, i < k + 1 → p i := fun i hi => by
  rcases Nat.lt_succ_iff_lt_or_eq.1 hi with h1 | rfl
  · exact h i h1
  · exact hk
theorem matE_len {ps is : List Int} {cs : List (List Int)} {cats : List Int} (h : 200 < ps.length ∨ 60 < is.length ∨ 60 < cats.length) : matE ps is cs cats = 5 := if_pos h
theorem matE_ris {ps is : List Int} {cs : List (List Int)} {cats : List Int} (h1 : ps.length ≤ 200) (h2 : is.length ≤ 60) (h3 : cats.length ≤ 60) (h : ris ps = false ∨ ris is = false) : matE ps is cs cats = 23 := by
  unfold matE; rw [if_neg (by omega), if_pos h]
theorem matE_shp {ps is : List Int} {cs : List (List Int)} {cats : List Int} (h1 : ps.length ≤ 200) (h2 : is.length ≤ 60) (h3 : cats.length ≤ 60) (h4 : ris ps = true) (h5 : ris is = true) (h : shp ps is cs = false ∨ cats.length ≠ is.length) : matE ps is cs cats = 1 := by
  unfold matE; rw [if_neg (by omega), if_neg (by simp [h4, h5]), if_pos h]
theorem matE_rest {ps is : List Int} {cs : List (List Int)} {cats : List Int} (h1 : ps.length ≤ 200) (h2 : is.length ≤ 60) (h3 : cats.length ≤ 60) (h4 : ris ps = true) (h5 : ris is = true) (h6 : shp ps is cs = true) (h7 : cats.length = is.length) : matE ps is cs cats = if catsB cats = false then 1 else if cellsB cats cs = false then 3 else 0 := by
  unfold matE; rw [if_neg (by omega), if_neg (by simp [h4, h5]), if_neg (by simp [h6, h7])]
theorem matE_zero {ps is : List Int} {cs : List (List Int)} {cats : List Int} (h : matE ps is cs cats = 0) : ps.length ≤ 200 ∧ is.length ≤ 60 ∧ ris ps = true ∧ ris is = true ∧ cs.length = ps.length ∧ cats.length = is.length ∧ (∀ i, i < cs.length → (cs.getD i []).length = is.length) ∧ (∀ i, i < cats.length → 2 ≤ cats.getD i 0 ∧ cats.getD i 0 ≤ 6) ∧ ∀ i, i < cs.length → ∀ j, j < (cs.getD i []).length → cellB ((cs.getD i []).getD j 0) (cats.getD j 0) = true := by
  unfold matE at h
  split at h
  · omega
  split at h
  · omega
  split at h
  · omega
  split at h
  · omega
  split at h
  · omega
  rename_i h1 h2 h3 h4 h5
  simp only [not_or, Bool.not_eq_false] at h1 h2 h3 h4 h5
  have s := h3.1
  unfold shp at s
  have s := of_decide_eq_true s
  unfold catsB at h4
  unfold cellsB at h5
  refine ⟨by omega, by omega, h2.1, h2.2, s.1, by omega, s.2, of_decide_eq_true h4, fun i hi j hj => ?_⟩
  have := of_decide_eq_true h5 i hi
  unfold rowB at this
  exact of_decide_eq_true this j hj

set_option maxHeartbeats 1000000 in
theorem mris_any (v : Value) (l : List Int) (w : World) (h : Nums .i64 w v l) :
    Calls Try.prog 69 #[v, .int .i64 1] w fun e w' => e = .returned (.bool (ris l)) ∧ w = w' := by
  obtain ⟨X, cX, rfl, x1, x2, x3⟩ := h
  unfold maxLen at x2
  obtain ⟨n, hn⟩ : ∃ n, l.length = n := ⟨_, rfl⟩
  have HN := Lib.hid hn
  rw [hn] at x1 x3 ⊢
  clear hn
  go_enter Try.func69, Try.ntmps69
  go_wp2
  go_loop [9] (fun i => ∃ k : Nat, k ≤ n ∧ i = .int .i64 (k : Int) ∧ Hid (∀ i, i < k → 1 ≤ l.getD i 0 ∧ (0 < i → l.getD (i - 1) 0 < l.getD i 0))) (fun i => n - (intOf i).toNat)
  case atStart => exact ⟨0, by omega, rfl, fun i hi => by omega⟩
  case round =>
    obtain ⟨k, hk, rfl, hinv⟩ := hrel
    by_cases hlt : k < n
    · obtain ⟨b3, o3, rfl, hb3, hcell⟩ := x3.num hlt
      have g1 := hcell k hlt
      have HKL : Hid (k < l.length) := by unfold Hid; rw [HN.out]; exact hlt
      have HNo := Lib.hid (fun h => ris_no (l := l) (k := k) HKL.out h)
      have HYes := Lib.hid (fun h => all_snoc (p := fun i => 1 ≤ l.getD i 0 ∧ (0 < i → l.getD (i - 1) 0 < l.getD i 0)) (k := k) hinv.out h)
      rcases Nat.eq_zero_or_pos k with rfl | hpos
      · clear hcell
        simp only [Nat.add_zero] at g1
        have d0 : decide (0 < ((0 : Nat) : Int)) = false := by simp
        by_cases e1 : l.getD 0 0 < 1
        · have HR := Lib.hid (HNo.out (by omega))
          have f1 : decide (l.getD 0 0 < 1) = true := by simpa using e1
          clear HNo HYes hinv e1
          generalize l.getD 0 0 = x at *
          go_wp2
          go_ret
          exact ⟨by rw [HR.out]; rfl, rfl⟩
        · have HY := Lib.hid (HYes.out ⟨by omega, by omega⟩)
          have f1 : decide (l.getD 0 0 < 1) = false := by simpa using e1
          clear HNo HYes hinv e1
          generalize hz : l.getD 0 0 = x at g1 f1
          clear hz
          go_wp2
          go_round
          case rel => exact ⟨1, by omega, by go_num, HY.out⟩
          case measure => simp [intOf]; omega
      · have g2 := hcell (k - 1) (by omega)
        clear hcell
        have d0 : decide (0 < (k : Int)) = true := by simp; omega
        by_cases e1 : l.getD k 0 < 1
        · have HR := Lib.hid (HNo.out (by omega))
          have f1 : decide (l.getD k 0 < 1) = true := by simpa using e1
          clear HNo HYes hinv e1 g2
          generalize l.getD k 0 = x at *
          go_wp2
          go_ret
          exact ⟨by rw [HR.out]; rfl, rfl⟩
        · have f1 : decide (l.getD k 0 < 1) = false := by simpa using e1
          have g3 : w.cell? ⟨b3, o3 + ((k : Int) - 1).toNat, none⟩ = some (.int .i64 (l.getD (k - 1) 0)) := by
            rw [show ((k : Int) - 1).toNat = k - 1 by omega]; exact g2
          by_cases e2 : l.getD k 0 ≤ l.getD (k - 1) 0
          · have HR := Lib.hid (HNo.out (by omega))
            have f2 : decide (l.getD k 0 ≤ l.getD (k - 1) 0) = true := by simpa using e2
            clear HNo HYes hinv e1 e2
            generalize l.getD k 0 = x at *
            generalize l.getD (k - 1) 0 = y at *
            go_wp2
            go_ret
            exact ⟨by rw [HR.out]; rfl, rfl⟩
          · have HY := Lib.hid (HYes.out ⟨by omega, by omega⟩)
            have f2 : decide (l.getD k 0 ≤ l.getD (k - 1) 0) = false := by simpa using e2
            clear HNo HYes hinv e1 e2
            generalize hz : l.getD k 0 = x at g1 f1 f2
            generalize hz2 : l.getD (k - 1) 0 = y at g2 g3 f2
            clear hz hz2
            go_wp2
            go_round
            case rel => exact ⟨k + 1, by omega, by go_num, HY.out⟩
            case measure => simp [intOf]; omega
    · have HR := Lib.hid (ris_yes (l := l) (fun i hi => hinv.out i (by have := HN.out; omega)))
      go_wp2
      go_ret
      exact ⟨by rw [HR.out]; rfl, rfl⟩
set_option maxHeartbeats 1000000 in
theorem rris_any (v : Value) (l : List Int) (w : World) (h : Nums .i64 w v l) :
    Calls Try.prog 61 #[v] w fun e w' => e = .returned (.bool (ris l)) ∧ w = w' := by
  obtain ⟨X, cX, rfl, x1, x2, x3⟩ := h
  unfold maxLen at x2
  obtain ⟨n, hn⟩ : ∃ n, l.length = n := ⟨_, rfl⟩
  have HN := Lib.hid hn
  rw [hn] at x1 x3 ⊢
  clear hn
  go_enter Try.func61, Try.ntmps61
  go_wp2
  go_loop [7] (fun i => ∃ k : Nat, k ≤ n ∧ i = .int .i64 (k : Int) ∧ Hid (∀ i, i < k → 1 ≤ l.getD i 0 ∧ (0 < i → l.getD (i - 1) 0 < l.getD i 0))) (fun i => n - (intOf i).toNat)
  case atStart => exact ⟨0, by omega, rfl, fun i hi => by omega⟩
  case round =>
    obtain ⟨k, hk, rfl, hinv⟩ := hrel
    by_cases hlt : k < n
    · obtain ⟨b3, o3, rfl, hb3, hcell⟩ := x3.num hlt
      have g1 := hcell k hlt
      have HKL : Hid (k < l.length) := by unfold Hid; rw [HN.out]; exact hlt
      have HNo := Lib.hid (fun h => ris_no (l := l) (k := k) HKL.out h)
      have HYes := Lib.hid (fun h => all_snoc (p := fun i => 1 ≤ l.getD i 0 ∧ (0 < i → l.getD (i - 1) 0 < l.getD i 0)) (k := k) hinv.out h)
      rcases Nat.eq_zero_or_pos k with rfl | hpos
      · clear hcell
        simp only [Nat.add_zero] at g1
        have d0 : decide (0 < ((0 : Nat) : Int)) = false := by simp
        by_cases e1 : l.getD 0 0 < 1
        · have HR := Lib.hid (HNo.out (by omega))
          have f1 : decide (l.getD 0 0 < 1) = true := by simpa using e1
          clear HNo HYes hinv e1
          generalize l.getD 0 0 = x at *
          go_wp2
          go_ret
          exact ⟨by rw [HR.out]; rfl, rfl⟩
        · have HY := Lib.hid (HYes.out ⟨by omega, by omega⟩)
          have f1 : decide (l.getD 0 0 < 1) = false := by simpa using e1
          clear HNo HYes hinv e1
          generalize hz : l.getD 0 0 = x at g1 f1
          clear hz
          go_wp2
          go_round
          case rel => exact ⟨1, by omega, by go_num, HY.out⟩
          case measure => simp [intOf]; omega
      · have g2 := hcell (k - 1) (by omega)
        clear hcell
        have d0 : decide (0 < (k : Int)) = true := by simp; omega
        by_cases e1 : l.getD k 0 < 1
        · have HR := Lib.hid (HNo.out (by omega))
          have f1 : decide (l.getD k 0 < 1) = true := by simpa using e1
          clear HNo HYes hinv e1 g2
          generalize l.getD k 0 = x at *
          go_wp2
          go_ret
          exact ⟨by rw [HR.out]; rfl, rfl⟩
        · have f1 : decide (l.getD k 0 < 1) = false := by simpa using e1
          have g3 : w.cell? ⟨b3, o3 + ((k : Int) - 1).toNat, none⟩ = some (.int .i64 (l.getD (k - 1) 0)) := by
            rw [show ((k : Int) - 1).toNat = k - 1 by omega]; exact g2
          by_cases e2 : l.getD k 0 ≤ l.getD (k - 1) 0
          · have HR := Lib.hid (HNo.out (by omega))
            have f2 : decide (l.getD k 0 ≤ l.getD (k - 1) 0) = true := by simpa using e2
            clear HNo HYes hinv e1 e2
            generalize l.getD k 0 = x at *
            generalize l.getD (k - 1) 0 = y at *
            go_wp2
            go_ret
            exact ⟨by rw [HR.out]; rfl, rfl⟩
          · have HY := Lib.hid (HYes.out ⟨by omega, by omega⟩)
            have f2 : decide (l.getD k 0 ≤ l.getD (k - 1) 0) = false := by simpa using e2
            clear HNo HYes hinv e1 e2
            generalize hz : l.getD k 0 = x at g1 f1 f2
            generalize hz2 : l.getD (k - 1) 0 = y at g2 g3 f2
            clear hz hz2
            go_wp2
            go_round
            case rel => exact ⟨k + 1, by omega, by go_num, HY.out⟩
            case measure => simp [intOf]; omega
    · have HR := Lib.hid (ris_yes (l := l) (fun i hi => hinv.out i (by have := HN.out; omega)))
      go_wp2
      go_ret
      exact ⟨by rw [HR.out]; rfl, rfl⟩

set_option maxHeartbeats 1000000 in
theorem mshp_any (pv iv cv : Value) (ps is : List Int) (cs : List (List Int)) (w : World) (hp : Nums .i64 w pv ps) (hi : Nums .i64 w iv is) (hc : IntsL w cv cs) :
    Calls Try.prog 60 #[.agg #[pv, iv, cv]] w fun e w' => e = .returned (.bool (shp ps is cs)) ∧ Below w.heap.size w w' := by
  obtain ⟨X, cX, rfl, x1, x2, x3⟩ := hp
  obtain ⟨Y, cY, rfl, y1, y2, y3⟩ := hi
  obtain ⟨A, c, us, rfl, z1, z2, hs, hu⟩ := hc
  have HU := Lib.hid hu
  unfold maxLen at x2 y2 z2
  clear hu x3 y3
  have hbox : Below w.heap.size w (w.alloc (.cells #[.slice X ps.length cX, .slice Y is.length cY, .slice A cs.length c] 36)) := (Below.refl _ _).alloc (Nat.le_refl _) _
  by_cases c1 : cs.length = ps.length
  · have HYes := Lib.hid (fun h => shp_yes (ps := ps) (is := is) (cs := cs) c1 h)
    have d1 : ((cs.length : Int) != (ps.length : Int)) = false := by rw [c1]; simp
    clear c1
    obtain ⟨n, hn⟩ : ∃ n, cs.length = n := ⟨_, rfl⟩
    have HN := Lib.hid hn
    rw [hn] at z1 hs d1 hbox ⊢
    clear hn
    generalize hpl : ps.length = np at *
    generalize hil : is.length = ni at *
    have HI := Lib.hid hil
    clear hpl hil
    go_enter Try.func60, Try.ntmps60
    go_wp2
    clear d1
    go_loop [15] (fun i => ∃ k : Nat, k ≤ n ∧ i = .int .i64 (k : Int) ∧ Hid (∀ i, i < k → (cs.getD i []).length = ni)) (fun i => n - (intOf i).toNat)
    case atStart => exact ⟨0, by omega, rfl, fun i hi => by omega⟩
    case round =>
      obtain ⟨k, hk, rfl, hinv⟩ := hrel
      by_cases hlt : k < n
      · obtain ⟨b1, o1, u1, rfl, hb1, g1, hr⟩ := lst_at hs HU.out hlt
        obtain ⟨R, cR, rfl, r1, r2, r3⟩ := hr
        unfold maxLen at r2
        clear r3
        have HKL : Hid (k < cs.length) := by unfold Hid; rw [HN.out]; exact hlt
        have HNo := Lib.hid (fun h => shp_no (ps := ps) (is := is) (cs := cs) (k := k) HKL.out (by rw [HI.out]; exact h))
        have HYs := Lib.hid (fun h => all_snoc (p := fun i => (cs.getD i []).length = ni) (k := k) hinv.out h)
        clear hinv
        generalize (cs.getD k []).length = m at *
        have g2 : (w.alloc (.cells #[.slice X np cX, .slice Y ni cY, .slice (some ⟨b1, o1, none⟩) n c] 36)).cell? ⟨b1, o1 + k, none⟩ = some (.slice R m cR) := (hbox.cell (p := ⟨b1, o1 + k, none⟩) hb1).trans g1
        by_cases e1 : m = ni
        · have HY := Lib.hid (HYs.out e1)
          have f1 : ((m : Int) != (ni : Int)) = false := by rw [e1]; simp
          clear e1 HYs HNo
          go_wp2
          go_round
          case rel => exact ⟨k + 1, by omega, by go_num, HY.out⟩
          case measure => simp [intOf]; omega
        · have HE := Lib.hid (HNo.out e1)
          have f1 : ((m : Int) != (ni : Int)) = true := by rw [bne_iff_ne]; omega
          clear e1 HYs HNo
          go_wp2
          go_ret
          exact ⟨by rw [HE.out]; rfl, hbox⟩
      · have HE := Lib.hid (HYes.out (fun i hi => by exact hinv.out i (by have := HN.out; omega)))
        go_wp2
        go_ret
        exact ⟨by rw [HE.out]; rfl, hbox⟩
  · have HE := Lib.hid (shp_len (ps := ps) (is := is) (cs := cs) c1)
    have d1 : ((cs.length : Int) != (ps.length : Int)) = true := by rw [bne_iff_ne]; omega
    clear c1
    generalize cs.length = n at *
    generalize ps.length = np at *
    generalize is.length = ni at *
    go_enter Try.func60, Try.ntmps60
    go_wp2
    go_ret
    exact ⟨by rw [HE.out]; rfl, hbox⟩
set_option maxHeartbeats 1000000 in
theorem rshp_any (pv iv cv : Value) (ps is : List Int) (cs : List (List Int)) (w : World) (hp : Nums .i64 w pv ps) (hi : Nums .i64 w iv is) (hc : IntsL w cv cs) :
    Calls Try.prog 62 #[.agg #[pv, iv, cv]] w fun e w' => e = .returned (.bool (shp ps is cs)) ∧ Below w.heap.size w w' := by
  obtain ⟨X, cX, rfl, x1, x2, x3⟩ := hp
  obtain ⟨Y, cY, rfl, y1, y2, y3⟩ := hi
  obtain ⟨A, c, us, rfl, z1, z2, hs, hu⟩ := hc
  have HU := Lib.hid hu
  unfold maxLen at x2 y2 z2
  clear hu x3 y3
  have hbox : Below w.heap.size w (w.alloc (.cells #[.slice X ps.length cX, .slice Y is.length cY, .slice A cs.length c] 36)) := (Below.refl _ _).alloc (Nat.le_refl _) _
  by_cases c1 : cs.length = ps.length
  · have HYes := Lib.hid (fun h => shp_yes (ps := ps) (is := is) (cs := cs) c1 h)
    have d1 : ((cs.length : Int) != (ps.length : Int)) = false := by rw [c1]; simp
    clear c1
    obtain ⟨n, hn⟩ : ∃ n, cs.length = n := ⟨_, rfl⟩
    have HN := Lib.hid hn
    rw [hn] at z1 hs d1 hbox ⊢
    clear hn
    generalize hpl : ps.length = np at *
    generalize hil : is.length = ni at *
    have HI := Lib.hid hil
    clear hpl hil
    go_enter Try.func62, Try.ntmps62
    go_wp2
    clear d1
    go_loop [15] (fun i => ∃ k : Nat, k ≤ n ∧ i = .int .i64 (k : Int) ∧ Hid (∀ i, i < k → (cs.getD i []).length = ni)) (fun i => n - (intOf i).toNat)
    case atStart => exact ⟨0, by omega, rfl, fun i hi => by omega⟩
    case round =>
      obtain ⟨k, hk, rfl, hinv⟩ := hrel
      by_cases hlt : k < n
      · obtain ⟨b1, o1, u1, rfl, hb1, g1, hr⟩ := lst_at hs HU.out hlt
        obtain ⟨R, cR, rfl, r1, r2, r3⟩ := hr
        unfold maxLen at r2
        clear r3
        have HKL : Hid (k < cs.length) := by unfold Hid; rw [HN.out]; exact hlt
        have HNo := Lib.hid (fun h => shp_no (ps := ps) (is := is) (cs := cs) (k := k) HKL.out (by rw [HI.out]; exact h))
        have HYs := Lib.hid (fun h => all_snoc (p := fun i => (cs.getD i []).length = ni) (k := k) hinv.out h)
        clear hinv
        generalize (cs.getD k []).length = m at *
        have g2 : (w.alloc (.cells #[.slice X np cX, .slice Y ni cY, .slice (some ⟨b1, o1, none⟩) n c] 36)).cell? ⟨b1, o1 + k, none⟩ = some (.slice R m cR) := (hbox.cell (p := ⟨b1, o1 + k, none⟩) hb1).trans g1
        by_cases e1 : m = ni
        · have HY := Lib.hid (HYs.out e1)
          have f1 : ((m : Int) != (ni : Int)) = false := by rw [e1]; simp
          clear e1 HYs HNo
          go_wp2
          go_round
          case rel => exact ⟨k + 1, by omega, by go_num, HY.out⟩
          case measure => simp [intOf]; omega
        · have HE := Lib.hid (HNo.out e1)
          have f1 : ((m : Int) != (ni : Int)) = true := by rw [bne_iff_ne]; omega
          clear e1 HYs HNo
          go_wp2
          go_ret
          exact ⟨by rw [HE.out]; rfl, hbox⟩
      · have HE := Lib.hid (HYes.out (fun i hi => by exact hinv.out i (by have := HN.out; omega)))
        go_wp2
        go_ret
        exact ⟨by rw [HE.out]; rfl, hbox⟩
  · have HE := Lib.hid (shp_len (ps := ps) (is := is) (cs := cs) c1)
    have d1 : ((cs.length : Int) != (ps.length : Int)) = true := by rw [bne_iff_ne]; omega
    clear c1
    generalize cs.length = n at *
    generalize ps.length = np at *
    generalize is.length = ni at *
    go_enter Try.func62, Try.ntmps62
    go_wp2
    go_ret
    exact ⟨by rw [HE.out]; rfl, hbox⟩

set_option maxHeartbeats 1000000 in
theorem mord_any (pv iv cv : Value) (ps is : List Int) (w : World) (hp : Nums .i64 w pv ps) (hi : Nums .i64 w iv is) (hcv : ∃ A n c, cv = .slice A n c) :
    Calls Try.prog 59 #[.agg #[pv, iv, cv]] w fun e w' => e = .returned (.bool (ris ps && ris is)) ∧ Below w.heap.size w w' := by
  have hp0 := hp
  have hi0 := hi
  obtain ⟨X, cX, rfl, x1, x2, x3⟩ := hp
  obtain ⟨Y, cY, rfl, y1, y2, y3⟩ := hi
  obtain ⟨A, n, c, rfl⟩ := hcv
  have hbox : Below w.heap.size w (w.alloc (.cells #[.slice X ps.length cX, .slice Y is.length cY, .slice A n c] 36)) := (Below.refl _ _).alloc (Nat.le_refl _) _
  clear x3 y3
  go_enter Try.func59, Try.ntmps59
  go_wp2_with fail
  refine (mris_any _ ps _ (hp0.below hbox)).mono ?_
  rintro e w1 ⟨rfl, rfl⟩
  cases hr : ris ps
  · go_wp2_with fail
    go_ret
    exact ⟨by rw [hr]; rfl, hbox⟩
  · go_wp2_with fail
    refine (mris_any _ is _ (hi0.below hbox)).mono ?_
    rintro e w1 ⟨rfl, rfl⟩
    go_wp2_with fail
    go_ret
    exact ⟨by rw [hr]; rfl, hbox⟩

set_option maxHeartbeats 4000000 in
theorem matv_any (pv iv cv xv : Value) (ps is cats : List Int) (cs : List (List Int)) (w : World) (hp : Nums .i64 w pv ps) (hi : Nums .i64 w iv is) (hc : IntsL w cv cs) (hx : Nums .i64 w xv cats) :
    Calls Try.prog 36 #[.agg #[pv, iv, cv], xv] w fun e w' => e = .returned (.int .i64 (matE ps is cs cats)) ∧ Below w.heap.size w w' := by
  have hp0 := hp
  have hi0 := hi
  have hc0 := hc
  obtain ⟨X, cX, rfl, x1, x2, x3⟩ := hp
  obtain ⟨Y, cY, rfl, y1, y2, y3⟩ := hi
  obtain ⟨A, c, us, rfl, z1, z2, hs, hu⟩ := hc
  obtain ⟨Z, cZ, rfl, t1, t2, t3⟩ := hx
  have HU := Lib.hid hu
  unfold maxLen at x2 y2 z2 t2
  clear hu x3 y3
  have hbox : Below w.heap.size w (w.alloc (.cells #[.slice X ps.length cX, .slice Y is.length cY, .slice A cs.length c] 36)) := (Below.refl _ _).alloc (Nat.le_refl _) _
  have hrow := Row.new w 36 [.slice X ps.length cX, .slice Y is.length cY, .slice A cs.length c]
  by_cases c1 : 200 < ps.length
  · have HE := Lib.hid (matE_len (ps := ps) (is := is) (cs := cs) (cats := cats) (.inl c1))
    have d1 : decide (200 < (ps.length : Int)) = true := by simp; omega
    go_enter Try.func36, Try.ntmps36
    go_wp2_with fail
    go_ret
    exact ⟨by rw [HE.out]; rfl, hbox⟩
  have d1 : decide (200 < (ps.length : Int)) = false := by simp; omega
  by_cases c2 : 60 < is.length
  · have HE := Lib.hid (matE_len (ps := ps) (is := is) (cs := cs) (cats := cats) (.inr (.inl c2)))
    have d2 : decide (60 < (is.length : Int)) = true := by simp; omega
    go_enter Try.func36, Try.ntmps36
    go_wp2_with fail
    go_ret
    exact ⟨by rw [HE.out]; rfl, hbox⟩
  have d2 : decide (60 < (is.length : Int)) = false := by simp; omega
  by_cases c3 : 60 < cats.length
  · have HE := Lib.hid (matE_len (ps := ps) (is := is) (cs := cs) (cats := cats) (.inr (.inr c3)))
    have d3 : decide (60 < (cats.length : Int)) = true := by simp; omega
    go_enter Try.func36, Try.ntmps36
    go_wp2_with fail
    go_ret
    exact ⟨by rw [HE.out]; rfl, hbox⟩
  · have d3 : decide (60 < (cats.length : Int)) = false := by simp; omega
    go_enter Try.func36, Try.ntmps36
    go_wp2_with fail
    clear d1 d2 d3
    refine (mord_any _ _ _ ps is _ (hp0.below hbox) (hi0.below hbox) ⟨_, _, _, rfl⟩).mono ?_
    rintro e w0 ⟨rfl, hb0⟩
    have hb00 : Below w.heap.size w w0 := hbox.trans (hb0.mono hbox.size)
    replace hrow := hrow.keep hb0
    cases hr1 : ris ps
    · have HE := Lib.hid (matE_ris (ps := ps) (is := is) (cs := cs) (cats := cats) (by omega) (by omega) (by omega) (.inl hr1))
      go_wp2_with fail
      go_ret
      exact ⟨by rw [HE.out]; rfl, hb00⟩
    cases hr2 : ris is
    · have HE := Lib.hid (matE_ris (ps := ps) (is := is) (cs := cs) (cats := cats) (by omega) (by omega) (by omega) (.inr hr2))
      go_wp2_with fail
      go_ret
      exact ⟨by rw [HE.out]; rfl, hb00⟩
    have q0 : w0.cell? ⟨w.heap.size, 0, none⟩ = some (.slice X ps.length cX) := hrow.cell 0
    have q1 : w0.cell? ⟨w.heap.size, 1, none⟩ = some (.slice Y is.length cY) := hrow.cell 1
    have q2 : w0.cell? ⟨w.heap.size, 2, none⟩ = some (.slice A cs.length c) := hrow.cell 2
    go_wp2_with fail
    refine (mshp_any _ _ _ ps is cs _ (hp0.below hb00) (hi0.below hb00) (hc0.below hb00)).mono ?_
    rintro e w1 ⟨rfl, hb1⟩
    have hb2 : Below w.heap.size w w1 := hb00.trans (hb1.mono hb00.size)
    replace hrow := hrow.keep hb1
    clear q0 q1 q2 hb0 hb00
    have q1 : w1.cell? ⟨w.heap.size, 1, none⟩ = some (.slice Y is.length cY) := hrow.cell 1
    have q2 : w1.cell? ⟨w.heap.size, 2, none⟩ = some (.slice A cs.length c) := hrow.cell 2
    cases hr3 : shp ps is cs
    · have HE := Lib.hid (matE_shp (ps := ps) (is := is) (cs := cs) (cats := cats) (by omega) (by omega) (by omega) hr1 hr2 (.inl hr3))
      go_wp2_with fail
      go_ret
      exact ⟨by rw [HE.out]; rfl, hb2⟩
    by_cases c4 : cats.length = is.length
    case neg =>
      have HE := Lib.hid (matE_shp (ps := ps) (is := is) (cs := cs) (cats := cats) (by omega) (by omega) (by omega) hr1 hr2 (.inr c4))
      have d4 : ((cats.length : Int) != (is.length : Int)) = true := by rw [bne_iff_ne]; omega
      clear c4
      go_wp2_with fail
      go_ret
      exact ⟨by rw [HE.out]; rfl, hb2⟩
    have HM := Lib.hid (matE_rest (ps := ps) (is := is) (cs := cs) (cats := cats) (by omega) (by omega) (by omega) hr1 hr2 hr3 c4)
    have HS := Lib.hid (of_decide_eq_true (show shp ps is cs = true from hr3)).2
    have d4 : ((cats.length : Int) != (is.length : Int)) = false := by rw [c4]; simp
    have HC4 := Lib.hid c4
    clear c4
    obtain ⟨n, hn⟩ : ∃ n, cats.length = n := ⟨_, rfl⟩
    have HN := Lib.hid hn
    have hn60 : n ≤ 60 := by omega
    rw [hn] at t1 t3 d4 ⊢
    clear hn c1 c2 c3 hr1 hr2 hr3
    go_wp2_with fail
    clear d4
    go_loop [42] (fun i => ∃ k : Nat, k ≤ n ∧ i = .int .i64 (k : Int) ∧ Hid (∀ i, i < k → 2 ≤ cats.getD i 0 ∧ cats.getD i 0 ≤ 6)) (fun i => n - (intOf i).toNat)
    case atStart => exact ⟨0, by omega, rfl, fun i hi => by omega⟩
    case round =>
      obtain ⟨k, hk, rfl, hinv⟩ := hrel
      by_cases hlt : k < n
      · obtain ⟨b3, o3, rfl, hb3, hcell⟩ := t3.num hlt
        have g1 : w1.cell? ⟨b3, o3 + k, none⟩ = some (.int .i64 (cats.getD k 0)) := (hb2.cell (p := ⟨b3, o3 + k, none⟩) hb3).trans (hcell k hlt)
        have HKL : Hid (k < cats.length) := by unfold Hid; rw [HN.out]; exact hlt
        have HNo := Lib.hid (fun h => catsB_no (l := cats) (k := k) HKL.out h)
        have HYes := Lib.hid (fun h => all_snoc (p := fun i => 2 ≤ cats.getD i 0 ∧ cats.getD i 0 ≤ 6) (k := k) hinv.out h)
        clear hcell hinv
        generalize hz : cats.getD k 0 = x at g1 HNo HYes
        clear hz
        by_cases e1 : x < 2
        · have HE := Lib.hid (HNo.out (by omega))
          have f1 : decide (x < 2) = true := by simpa using e1
          clear HNo HYes
          go_wp2_with fail
          go_ret
          exact ⟨by rw [HM.out, if_pos HE.out]; rfl, hb2⟩
        have f1 : decide (x < 2) = false := by simpa using e1
        by_cases e2 : 6 < x
        · have HE := Lib.hid (HNo.out (by omega))
          have f2 : decide (6 < x) = true := by simpa using e2
          clear HNo HYes
          go_wp2_with fail
          go_ret
          exact ⟨by rw [HM.out, if_pos HE.out]; rfl, hb2⟩
        · have f2 : decide (6 < x) = false := by simpa using e2
          have HY := Lib.hid (HYes.out ⟨by omega, by omega⟩)
          clear HNo HYes
          go_wp2_with fail
          go_round
          case rel => exact ⟨k + 1, by omega, by go_num, HY.out⟩
          case measure => simp [intOf]; omega
      · have HE := Lib.hid (HM.out.trans (if_neg (by rw [catsB_yes (l := cats) (fun i hi => hinv.out i (by have := HN.out; omega))]; simp)))
        clear HM hinv
        obtain ⟨N, hN⟩ : ∃ N, cs.length = N := ⟨_, rfl⟩
        have HNN := Lib.hid hN
        rw [hN] at z1 hs q2 ⊢
        clear hN
        go_wp2_with fail
        clear hlt hk
        go_loop [56] (fun i => ∃ k : Nat, k ≤ N ∧ i = .int .i64 (k : Int) ∧ Hid (∀ i, i < k → rowB cats (cs.getD i []) = true)) (fun i => N - (intOf i).toNat)
        case atStart => exact ⟨0, by omega, rfl, fun i hi => by omega⟩
        case round =>
          obtain ⟨k, hk, rfl, hinv⟩ := hrel
          by_cases hlt : k < N
          · obtain ⟨b1, o1, u1, rfl, hb1', g1, hr⟩ := lst_at hs HU.out hlt
            obtain ⟨R, cR, rfl, r1, r2, r3⟩ := hr
            unfold maxLen at r2
            have g2 : w1.cell? ⟨b1, o1 + k, none⟩ = some (.slice R (cs.getD k []).length cR) := (hb2.cell (p := ⟨b1, o1 + k, none⟩) hb1').trans g1
            clear g1
            have HKL : Hid (k < cs.length) := by unfold Hid; rw [HNN.out]; exact hlt
            have HNo := Lib.hid (fun h => cellsB_no (c := cats) (l := cs) (k := k) HKL.out h)
            have HYes := Lib.hid (fun h => all_snoc (p := fun i => rowB cats (cs.getD i []) = true) (k := k) hinv.out h)
            have hrl := HS.out k HKL.out
            rw [← HC4.out, HN.out] at hrl
            have hrn : (cs.getD k []).length ≤ n := by omega
            clear hinv hrl
            generalize hz : cs.getD k [] = row at g2 r1 r3 HNo HYes hrn
            clear hz
            go_wp2_with fail
            go_loop [62] (fun i => ∃ j : Nat, j ≤ row.length ∧ i = .int .i64 (j : Int) ∧ Hid (∀ i, i < j → cellB (row.getD i 0) (cats.getD i 0) = true)) (fun i => row.length - (intOf i).toNat)
            case atStart => exact ⟨0, by omega, rfl, fun i hi => by omega⟩
            case round =>
              obtain ⟨j, hj, rfl, hin2⟩ := hrel
              by_cases hlj : j < row.length
              · obtain ⟨b4, o4, rfl, hb4, hcell⟩ := r3.num hlj
                obtain ⟨b5, o5, rfl, hb5, hcel5⟩ := t3.num (show j < n by omega)
                have g4 : w1.cell? ⟨b4, o4 + j, none⟩ = some (.int .i64 (row.getD j 0)) := (hb2.cell (p := ⟨b4, o4 + j, none⟩) hb4).trans (hcell j hlj)
                have g5 : w1.cell? ⟨b5, o5 + j, none⟩ = some (.int .i64 (cats.getD j 0)) := (hb2.cell (p := ⟨b5, o5 + j, none⟩) hb5).trans (hcel5 j (by omega))
                have HNo2 := Lib.hid (fun h => HNo.out (rowB_no (c := cats) (l := row) (k := j) hlj h))
                have HYes2 := Lib.hid (fun h => all_snoc (p := fun i => cellB (row.getD i 0) (cats.getD i 0) = true) (k := j) hin2.out h)
                clear hcell hcel5 hin2
                generalize hz1 : row.getD j 0 = x at g4 HNo2 HYes2
                generalize hz2 : cats.getD j 0 = y at g5 HNo2 HYes2
                clear hz1 hz2
                by_cases e1 : x = -1
                · subst e1
                  have HY := Lib.hid (HYes2.out (by unfold cellB; simp))
                  clear HNo2 HYes2
                  go_wp2_with fail
                  go_round
                  case rel => exact ⟨j + 1, by omega, by go_num, HY.out⟩
                  case measure => simp [intOf]; omega
                have f1 : (x != -1) = true := by rw [bne_iff_ne]; exact e1
                by_cases e2 : x = -2
                · subst e2
                  have HY := Lib.hid (HYes2.out (by unfold cellB; simp))
                  clear HNo2 HYes2 e1
                  go_wp2_with fail
                  go_round
                  case rel => exact ⟨j + 1, by omega, by go_num, HY.out⟩
                  case measure => simp [intOf]; omega
                have f2 : (x != -2) = true := by rw [bne_iff_ne]; exact e2
                by_cases e3 : x < 0
                · have HE2 := Lib.hid (HE.out.trans (if_pos (HNo2.out (by unfold cellB; simp; omega))))
                  have f3 : decide (x < 0) = true := by simpa using e3
                  clear HNo2 HYes2 e1 e2 e3
                  go_wp2_with fail
                  go_ret
                  exact ⟨by rw [HE2.out]; rfl, hb2⟩
                have f3 : decide (x < 0) = false := by simpa using e3
                by_cases e4 : y ≤ x
                · have HE2 := Lib.hid (HE.out.trans (if_pos (HNo2.out (by unfold cellB; simp; omega))))
                  have f4 : decide (y ≤ x) = true := by simpa using e4
                  clear HNo2 HYes2 e1 e2 e3 e4
                  go_wp2_with fail
                  go_ret
                  exact ⟨by rw [HE2.out]; rfl, hb2⟩
                · have f4 : decide (y ≤ x) = false := by simpa using e4
                  have HY := Lib.hid (HYes2.out (by unfold cellB; simp; omega))
                  clear HNo2 HYes2 e1 e2 e3 e4
                  go_wp2_with fail
                  go_round
                  case rel => exact ⟨j + 1, by omega, by go_num, HY.out⟩
                  case measure => simp [intOf]; omega
              · have HY := Lib.hid (HYes.out (rowB_yes (c := cats) (l := row) (fun i hi => hin2.out i (by omega))))
                go_wp2_with fail
                go_round
                case rel => exact ⟨k + 1, by omega, by go_num, HY.out⟩
                case measure => simp [intOf]; omega
          · have HE2 := Lib.hid (HE.out.trans (if_neg (by rw [cellsB_yes (c := cats) (l := cs) (fun i hi => hinv.out i (by have := HNN.out; omega))]; simp)))
            go_wp2_with fail
            go_ret
            exact ⟨by rw [HE2.out]; rfl, hb2⟩
set_option maxHeartbeats 4000000 in
theorem rmatv_any (pv iv cv xv : Value) (ps is cats : List Int) (cs : List (List Int)) (w : World) (hp : Nums .i64 w pv ps) (hi : Nums .i64 w iv is) (hc : IntsL w cv cs) (hx : Nums .i64 w xv cats) :
    Calls Try.prog 41 #[.agg #[pv, iv, cv], xv] w fun e w' => e = .returned (.int .i64 (matE ps is cs cats)) ∧ Below w.heap.size w w' := by
  have hp0 := hp
  have hi0 := hi
  have hc0 := hc
  obtain ⟨X, cX, rfl, x1, x2, x3⟩ := hp
  obtain ⟨Y, cY, rfl, y1, y2, y3⟩ := hi
  obtain ⟨A, c, us, rfl, z1, z2, hs, hu⟩ := hc
  obtain ⟨Z, cZ, rfl, t1, t2, t3⟩ := hx
  have HU := Lib.hid hu
  unfold maxLen at x2 y2 z2 t2
  clear hu x3 y3
  have hbox : Below w.heap.size w (w.alloc (.cells #[.slice X ps.length cX, .slice Y is.length cY, .slice A cs.length c] 36)) := (Below.refl _ _).alloc (Nat.le_refl _) _
  have hrow := Row.new w 36 [.slice X ps.length cX, .slice Y is.length cY, .slice A cs.length c]
  by_cases c1 : 200 < ps.length
  · have HE := Lib.hid (matE_len (ps := ps) (is := is) (cs := cs) (cats := cats) (.inl c1))
    have d1 : decide (200 < (ps.length : Int)) = true := by simp; omega
    go_enter Try.func41, Try.ntmps41
    go_wp2_with fail
    go_ret
    exact ⟨by rw [HE.out]; rfl, hbox⟩
  have d1 : decide (200 < (ps.length : Int)) = false := by simp; omega
  by_cases c2 : 60 < is.length
  · have HE := Lib.hid (matE_len (ps := ps) (is := is) (cs := cs) (cats := cats) (.inr (.inl c2)))
    have d2 : decide (60 < (is.length : Int)) = true := by simp; omega
    go_enter Try.func41, Try.ntmps41
    go_wp2_with fail
    go_ret
    exact ⟨by rw [HE.out]; rfl, hbox⟩
  have d2 : decide (60 < (is.length : Int)) = false := by simp; omega
  by_cases c3 : 60 < cats.length
  · have HE := Lib.hid (matE_len (ps := ps) (is := is) (cs := cs) (cats := cats) (.inr (.inr c3)))
    have d3 : decide (60 < (cats.length : Int)) = true := by simp; omega
    go_enter Try.func41, Try.ntmps41
    go_wp2_with fail
    go_ret
    exact ⟨by rw [HE.out]; rfl, hbox⟩
  · have d3 : decide (60 < (cats.length : Int)) = false := by simp; omega
    go_enter Try.func41, Try.ntmps41
    go_wp2_with fail
    clear d1 d2 d3
    refine (rris_any _ ps _ (hp0.below hbox)).mono ?_
    rintro e w1 ⟨rfl, rfl⟩
    cases hr1 : ris ps
    · have HE := Lib.hid (matE_ris (ps := ps) (is := is) (cs := cs) (cats := cats) (by omega) (by omega) (by omega) (.inl hr1))
      go_wp2_with fail
      go_ret
      exact ⟨by rw [HE.out]; rfl, hbox⟩
    go_wp2_with fail
    refine (rris_any _ is _ (hi0.below hbox)).mono ?_
    rintro e w1 ⟨rfl, rfl⟩
    cases hr2 : ris is
    · have HE := Lib.hid (matE_ris (ps := ps) (is := is) (cs := cs) (cats := cats) (by omega) (by omega) (by omega) (.inr hr2))
      go_wp2_with fail
      go_ret
      exact ⟨by rw [HE.out]; rfl, hbox⟩
    go_wp2_with fail
    refine (rshp_any _ _ _ ps is cs _ (hp0.below hbox) (hi0.below hbox) (hc0.below hbox)).mono ?_
    rintro e w1 ⟨rfl, hb1⟩
    have hb2 : Below w.heap.size w w1 := hbox.trans (hb1.mono hbox.size)
    replace hrow := hrow.keep hb1
    have q1 : w1.cell? ⟨w.heap.size, 1, none⟩ = some (.slice Y is.length cY) := hrow.cell 1
    have q2 : w1.cell? ⟨w.heap.size, 2, none⟩ = some (.slice A cs.length c) := hrow.cell 2
    cases hr3 : shp ps is cs
    · have HE := Lib.hid (matE_shp (ps := ps) (is := is) (cs := cs) (cats := cats) (by omega) (by omega) (by omega) hr1 hr2 (.inl hr3))
      go_wp2_with fail
      go_ret
      exact ⟨by rw [HE.out]; rfl, hb2⟩
    by_cases c4 : cats.length = is.length
    case neg =>
      have HE := Lib.hid (matE_shp (ps := ps) (is := is) (cs := cs) (cats := cats) (by omega) (by omega) (by omega) hr1 hr2 (.inr c4))
      have d4 : ((cats.length : Int) != (is.length : Int)) = true := by rw [bne_iff_ne]; omega
      clear c4
      go_wp2_with fail
      go_ret
      exact ⟨by rw [HE.out]; rfl, hb2⟩
    have HM := Lib.hid (matE_rest (ps := ps) (is := is) (cs := cs) (cats := cats) (by omega) (by omega) (by omega) hr1 hr2 hr3 c4)
    have HS := Lib.hid (of_decide_eq_true (show shp ps is cs = true from hr3)).2
    have d4 : ((cats.length : Int) != (is.length : Int)) = false := by rw [c4]; simp
    have HC4 := Lib.hid c4
    clear c4
    obtain ⟨n, hn⟩ : ∃ n, cats.length = n := ⟨_, rfl⟩
    have HN := Lib.hid hn
    have hn60 : n ≤ 60 := by omega
    rw [hn] at t1 t3 d4 ⊢
    clear hn c1 c2 c3 hr1 hr2 hr3
    go_wp2_with fail
    clear d4
    go_loop [49] (fun i => ∃ k : Nat, k ≤ n ∧ i = .int .i64 (k : Int) ∧ Hid (∀ i, i < k → 2 ≤ cats.getD i 0 ∧ cats.getD i 0 ≤ 6)) (fun i => n - (intOf i).toNat)
    case atStart => exact ⟨0, by omega, rfl, fun i hi => by omega⟩
    case round =>
      obtain ⟨k, hk, rfl, hinv⟩ := hrel
      by_cases hlt : k < n
      · obtain ⟨b3, o3, rfl, hb3, hcell⟩ := t3.num hlt
        have g1 : w1.cell? ⟨b3, o3 + k, none⟩ = some (.int .i64 (cats.getD k 0)) := (hb2.cell (p := ⟨b3, o3 + k, none⟩) hb3).trans (hcell k hlt)
        have HKL : Hid (k < cats.length) := by unfold Hid; rw [HN.out]; exact hlt
        have HNo := Lib.hid (fun h => catsB_no (l := cats) (k := k) HKL.out h)
        have HYes := Lib.hid (fun h => all_snoc (p := fun i => 2 ≤ cats.getD i 0 ∧ cats.getD i 0 ≤ 6) (k := k) hinv.out h)
        clear hcell hinv
        generalize hz : cats.getD k 0 = x at g1 HNo HYes
        clear hz
        by_cases e1 : x < 2
        · have HE := Lib.hid (HNo.out (by omega))
          have f1 : decide (x < 2) = true := by simpa using e1
          clear HNo HYes
          go_wp2_with fail
          go_ret
          exact ⟨by rw [HM.out, if_pos HE.out]; rfl, hb2⟩
        have f1 : decide (x < 2) = false := by simpa using e1
        by_cases e2 : 6 < x
        · have HE := Lib.hid (HNo.out (by omega))
          have f2 : decide (6 < x) = true := by simpa using e2
          clear HNo HYes
          go_wp2_with fail
          go_ret
          exact ⟨by rw [HM.out, if_pos HE.out]; rfl, hb2⟩
        · have f2 : decide (6 < x) = false := by simpa using e2
          have HY := Lib.hid (HYes.out ⟨by omega, by omega⟩)
          clear HNo HYes
          go_wp2_with fail
          go_round
          case rel => exact ⟨k + 1, by omega, by go_num, HY.out⟩
          case measure => simp [intOf]; omega
      · have HE := Lib.hid (HM.out.trans (if_neg (by rw [catsB_yes (l := cats) (fun i hi => hinv.out i (by have := HN.out; omega))]; simp)))
        clear HM hinv
        obtain ⟨N, hN⟩ : ∃ N, cs.length = N := ⟨_, rfl⟩
        have HNN := Lib.hid hN
        rw [hN] at z1 hs q2 ⊢
        clear hN
        go_wp2_with fail
        clear hlt hk
        go_loop [63] (fun i => ∃ k : Nat, k ≤ N ∧ i = .int .i64 (k : Int) ∧ Hid (∀ i, i < k → rowB cats (cs.getD i []) = true)) (fun i => N - (intOf i).toNat)
        case atStart => exact ⟨0, by omega, rfl, fun i hi => by omega⟩
        case round =>
          obtain ⟨k, hk, rfl, hinv⟩ := hrel
          by_cases hlt : k < N
          · obtain ⟨b1, o1, u1, rfl, hb1', g1, hr⟩ := lst_at hs HU.out hlt
            obtain ⟨R, cR, rfl, r1, r2, r3⟩ := hr
            unfold maxLen at r2
            have g2 : w1.cell? ⟨b1, o1 + k, none⟩ = some (.slice R (cs.getD k []).length cR) := (hb2.cell (p := ⟨b1, o1 + k, none⟩) hb1').trans g1
            clear g1
            have HKL : Hid (k < cs.length) := by unfold Hid; rw [HNN.out]; exact hlt
            have HNo := Lib.hid (fun h => cellsB_no (c := cats) (l := cs) (k := k) HKL.out h)
            have HYes := Lib.hid (fun h => all_snoc (p := fun i => rowB cats (cs.getD i []) = true) (k := k) hinv.out h)
            have hrl := HS.out k HKL.out
            rw [← HC4.out, HN.out] at hrl
            have hrn : (cs.getD k []).length ≤ n := by omega
            clear hinv hrl
            generalize hz : cs.getD k [] = row at g2 r1 r3 HNo HYes hrn
            clear hz
            go_wp2_with fail
            go_loop [69] (fun i => ∃ j : Nat, j ≤ row.length ∧ i = .int .i64 (j : Int) ∧ Hid (∀ i, i < j → cellB (row.getD i 0) (cats.getD i 0) = true)) (fun i => row.length - (intOf i).toNat)
            case atStart => exact ⟨0, by omega, rfl, fun i hi => by omega⟩
            case round =>
              obtain ⟨j, hj, rfl, hin2⟩ := hrel
              by_cases hlj : j < row.length
              · obtain ⟨b4, o4, rfl, hb4, hcell⟩ := r3.num hlj
                obtain ⟨b5, o5, rfl, hb5, hcel5⟩ := t3.num (show j < n by omega)
                have g4 : w1.cell? ⟨b4, o4 + j, none⟩ = some (.int .i64 (row.getD j 0)) := (hb2.cell (p := ⟨b4, o4 + j, none⟩) hb4).trans (hcell j hlj)
                have g5 : w1.cell? ⟨b5, o5 + j, none⟩ = some (.int .i64 (cats.getD j 0)) := (hb2.cell (p := ⟨b5, o5 + j, none⟩) hb5).trans (hcel5 j (by omega))
                have HNo2 := Lib.hid (fun h => HNo.out (rowB_no (c := cats) (l := row) (k := j) hlj h))
                have HYes2 := Lib.hid (fun h => all_snoc (p := fun i => cellB (row.getD i 0) (cats.getD i 0) = true) (k := j) hin2.out h)
                clear hcell hcel5 hin2
                generalize hz1 : row.getD j 0 = x at g4 HNo2 HYes2
                generalize hz2 : cats.getD j 0 = y at g5 HNo2 HYes2
                clear hz1 hz2
                by_cases e1 : x = -1
                · subst e1
                  have HY := Lib.hid (HYes2.out (by unfold cellB; simp))
                  clear HNo2 HYes2
                  go_wp2_with fail
                  go_round
                  case rel => exact ⟨j + 1, by omega, by go_num, HY.out⟩
                  case measure => simp [intOf]; omega
                have f1 : (x != -1) = true := by rw [bne_iff_ne]; exact e1
                by_cases e2 : x = -2
                · subst e2
                  have HY := Lib.hid (HYes2.out (by unfold cellB; simp))
                  clear HNo2 HYes2 e1
                  go_wp2_with fail
                  go_round
                  case rel => exact ⟨j + 1, by omega, by go_num, HY.out⟩
                  case measure => simp [intOf]; omega
                have f2 : (x != -2) = true := by rw [bne_iff_ne]; exact e2
                by_cases e3 : x < 0
                · have HE2 := Lib.hid (HE.out.trans (if_pos (HNo2.out (by unfold cellB; simp; omega))))
                  have f3 : decide (x < 0) = true := by simpa using e3
                  clear HNo2 HYes2 e1 e2 e3
                  go_wp2_with fail
                  go_ret
                  exact ⟨by rw [HE2.out]; rfl, hb2⟩
                have f3 : decide (x < 0) = false := by simpa using e3
                by_cases e4 : y ≤ x
                · have HE2 := Lib.hid (HE.out.trans (if_pos (HNo2.out (by unfold cellB; simp; omega))))
                  have f4 : decide (y ≤ x) = true := by simpa using e4
                  clear HNo2 HYes2 e1 e2 e3 e4
                  go_wp2_with fail
                  go_ret
                  exact ⟨by rw [HE2.out]; rfl, hb2⟩
                · have f4 : decide (y ≤ x) = false := by simpa using e4
                  have HY := Lib.hid (HYes2.out (by unfold cellB; simp; omega))
                  clear HNo2 HYes2 e1 e2 e3 e4
                  go_wp2_with fail
                  go_round
                  case rel => exact ⟨j + 1, by omega, by go_num, HY.out⟩
                  case measure => simp [intOf]; omega
              · have HY := Lib.hid (HYes.out (rowB_yes (c := cats) (l := row) (fun i hi => hin2.out i (by omega))))
                go_wp2_with fail
                go_round
                case rel => exact ⟨k + 1, by omega, by go_num, HY.out⟩
                case measure => simp [intOf]; omega
          · have HE2 := Lib.hid (HE.out.trans (if_neg (by rw [cellsB_yes (c := cats) (l := cs) (fun i hi => hinv.out i (by have := HNN.out; omega))]; simp)))
            go_wp2_with fail
            go_ret
            exact ⟨by rw [HE2.out]; rfl, hb2⟩
end Go.Proofs.Ytneoglmfabilnaa
