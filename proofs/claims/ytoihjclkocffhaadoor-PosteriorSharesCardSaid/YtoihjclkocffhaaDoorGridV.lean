/- The walks of grid.Valid and of the reference's Valid: both return one plain function of the grid. -/
import Derived.Test.YtoihjclkocffhaaDoorProg
import Derived.Test.YtoihjclkocffhaaDoorMem
import Derived.WalkKit
import Derived.LoopTactic
import Derived.Outline
import Derived.WalkSpells
import Derived.Deep.QuietTactic
import Derived.BigQuiet
namespace Go.Proofs.YtoihjclkocffhaaDoor
open Go.RowKit
set_option linter.unusedVariables false

theorem infoInt : (Tryd.prog.info? 3).map (fun i => (i.zero, i.size, i.bytes)) = some (some (.int .i64 0), 1, 8) := by kernel_rfl

def okAt (p r : Int) : Bool := decide (-1000 ≤ p) && decide (p ≤ 1000) && decide (1 ≤ r) && decide (r ≤ 1000)
def rngOk (ps rs : List Int) : Bool := (List.range ps.length).all fun i => okAt (ps.getD i 0) (rs.getD i 0)
def riseOk (ps : List Int) : Bool := (List.range (ps.length - 1)).all fun i => decide (ps.getD i 0 < ps.getD (i + 1) 0)
/-- The first rule that a grid violates. -/
def gridE (ps rs : List Int) : Int :=
  if 21 < ps.length then 5 else if ps.length = 0 then 20 else if rs.length ≠ ps.length then 1 else if rngOk ps rs = false then 3 else if riseOk ps = false then 23 else 0
theorem okAt_iff (p r : Int) : okAt p r = true ↔ -1000 ≤ p ∧ p ≤ 1000 ∧ 1 ≤ r ∧ r ≤ 1000 := by
  unfold okAt; simp [and_assoc]
theorem rngOk_no {ps rs : List Int} {k : Nat} (hk : k < ps.length) (h : ¬ (-1000 ≤ ps.getD k 0 ∧ ps.getD k 0 ≤ 1000 ∧ 1 ≤ rs.getD k 0 ∧ rs.getD k 0 ≤ 1000)) : rngOk ps rs = false := by
  unfold rngOk
  rw [List.all_eq_false]
  exact ⟨k, by simpa using hk, by rw [okAt_iff]; exact h⟩
theorem rngOk_yes {ps rs : List Int} (h : ∀ j, j < ps.length → okAt (ps.getD j 0) (rs.getD j 0) = true) : rngOk ps rs = true := by
  unfold rngOk
  rw [List.all_eq_true]
  exact fun i hi => h i (by simpa using hi)
theorem riseOk_no {ps : List Int} {k : Nat} (hk : k + 1 < ps.length) (h : ps.getD (k + 1) 0 ≤ ps.getD k 0) : riseOk ps = false := by
  unfold riseOk
  rw [List.all_eq_false]
  exact ⟨k, by simp; omega, by simp only [decide_eq_true_eq]; omega⟩
theorem riseOk_yes {ps : List Int} (h : ∀ j, j + 1 < ps.length → ps.getD j 0 < ps.getD (j + 1) 0) : riseOk ps = true := by
  unfold riseOk
  rw [List.all_eq_true]
  intro i hi
  simp only [decide_eq_true_eq]
  exact h i (by have := List.mem_range.1 hi; omega)
theorem gridE_long {ps rs : List Int} (h : 21 < ps.length) : gridE ps rs = 5 := if_pos h
theorem gridE_empty {ps rs : List Int} (h : ps.length = 0) : gridE ps rs = 20 := by unfold gridE; rw [if_neg (by omega), if_pos h]
theorem gridE_len {ps rs : List Int} (h1 : ps.length ≤ 21) (h2 : 0 < ps.length) (h : rs.length ≠ ps.length) : gridE ps rs = 1 := by unfold gridE; rw [if_neg (by omega), if_neg (by omega), if_pos h]
theorem gridE_rng {ps rs : List Int} (h1 : ps.length ≤ 21) (h2 : 0 < ps.length) (h3 : rs.length = ps.length) (h : rngOk ps rs = false) : gridE ps rs = 3 := by unfold gridE; rw [if_neg (by omega), if_neg (by omega), if_neg (by omega), if_pos h]
theorem gridE_rise {ps rs : List Int} (h1 : ps.length ≤ 21) (h2 : 0 < ps.length) (h3 : rs.length = ps.length) (h4 : rngOk ps rs = true) (h : riseOk ps = false) : gridE ps rs = 23 := by unfold gridE; rw [if_neg (by omega), if_neg (by omega), if_neg (by omega), if_neg (by simp [h4]), if_pos h]
theorem gridE_ok {ps rs : List Int} (h1 : ps.length ≤ 21) (h2 : 0 < ps.length) (h3 : rs.length = ps.length) (h4 : rngOk ps rs = true) (h : riseOk ps = true) : gridE ps rs = 0 := by unfold gridE; rw [if_neg (by omega), if_neg (by omega), if_neg (by omega), if_neg (by simp [h4]), if_neg (by simp [h])]
/-- What a valid grid is. -/
theorem gridE_zero {ps rs : List Int} (h : gridE ps rs = 0) : ps.length ≤ 21 ∧ 0 < ps.length ∧ rs.length = ps.length ∧ (∀ j, j < ps.length → -1000 ≤ ps.getD j 0 ∧ ps.getD j 0 ≤ 1000 ∧ 1 ≤ rs.getD j 0 ∧ rs.getD j 0 ≤ 1000) ∧ ∀ j, j + 1 < ps.length → ps.getD j 0 < ps.getD (j + 1) 0 := by
  unfold gridE at h
  split at h
  · omega
  · split at h
    · omega
    · split at h
      · omega
      · split at h
        · omega
        · split at h
          · omega
          · rename_i h1 h2 h3 h4 h5
            simp only [Bool.not_eq_false] at h4 h5
            refine ⟨by omega, by omega, by omega, fun j hj => ?_, fun j hj => ?_⟩
            · unfold rngOk at h4
              rw [List.all_eq_true] at h4
              exact (okAt_iff _ _).1 (h4 j (by simpa using hj))
            · unfold riseOk at h5
              rw [List.all_eq_true] at h5
              have := h5 j (by simp; omega)
              simpa using this

set_option maxHeartbeats 2000000 in
theorem gvalid_any (pv rv : Value) (ps rs : List Int) (w : World) (hp : Nums .i64 w pv ps) (hr : Nums .i64 w rv rs) :
    Calls Tryd.prog 79 #[.agg #[pv, rv]] w fun e w' => e = .returned (.int .i64 (gridE ps rs)) ∧ Below w.heap.size w w' := by
  obtain ⟨A, c, rfl, hc, hm, hsp⟩ := hp
  obtain ⟨B, c', rfl, hc', hm', hsr⟩ := hr
  unfold maxLen at hm hm'
  obtain ⟨n, hn⟩ : ∃ n, ps.length = n := ⟨_, rfl⟩
  obtain ⟨m, hmm⟩ : ∃ m, rs.length = m := ⟨_, rfl⟩
  have HN := Lib.hid hn
  have HM := Lib.hid hmm
  rw [hn] at hc hsp ⊢
  rw [hmm] at hc' hsr ⊢
  clear hn hmm
  by_cases h21 : 21 < n
  · have HE := Lib.hid (gridE_long (ps := ps) (rs := rs) (by rw [HN.out]; exact h21))
    go_enter Tryd.func79, Tryd.ntmps79
    go_wp2
    go_ret
    exact ⟨by rw [HE.out]; rfl, (Below.refl _ _).alloc (Nat.le_refl _) _⟩
  by_cases h0 : n = 0
  · have HE := Lib.hid (gridE_empty (ps := ps) (rs := rs) (by rw [HN.out]; exact h0))
    have h0' : ((n : Int) == 0) = true := by rw [beq_iff_eq]; omega
    clear h0
    go_enter Tryd.func79, Tryd.ntmps79
    go_wp2
    go_ret
    exact ⟨by rw [HE.out]; rfl, (Below.refl _ _).alloc (Nat.le_refl _) _⟩
  have h0' : ((n : Int) == 0) = false := by rw [beq_eq_false_iff_ne]; omega
  have hpos : 0 < n := by omega
  clear h0
  by_cases hlen : m = n
  · subst hlen
    have hnn : ((m : Int) != (m : Int)) = false := by simp
    have HL := Lib.hid (show rs.length = ps.length by rw [HN.out, HM.out])
    have L21 : Hid (ps.length ≤ 21) := by unfold Hid; rw [HN.out]; omega
    have L0 : Hid (0 < ps.length) := by unfold Hid; rw [HN.out]; omega
    go_enter Tryd.func79, Tryd.ntmps79
    go_wp2
    go_loopw [3, 4, 24] (fun _ _ i wr => ∃ k : Nat, k ≤ m ∧ i = .int .i64 (k : Int) ∧ Hid (∀ j, j < k → okAt (ps.getD j 0) (rs.getD j 0) = true) ∧ wr = w.alloc (.cells #[.slice A m c, .slice B m c'] 34)) (fun _ _ i _ => m - (intOf i).toNat)
    case atStart => exact ⟨0, by omega, rfl, by unfold Hid; intro j hj; omega, rfl⟩
    case round =>
      obtain ⟨k, hk, rfl, hok, rfl⟩ := hrel
      by_cases hlt : k < m
      · obtain ⟨b1, o1, rfl, hb1, hcell1⟩ := hsp.num hlt
        obtain ⟨b2, o2, rfl, hb2, hcell2⟩ := hsr.num hlt
        have g1 := hcell1 k hlt
        have g2 := hcell2 k hlt
        have hkl : Hid (k < ps.length) := by unfold Hid; rw [HN.out]; exact hlt
        clear hcell1 hcell2
        generalize hxe : ps.getD k 0 = x at *
        generalize hye : rs.getD k 0 = y at *
        have HX := Lib.hid hxe
        have HY := Lib.hid hye
        clear hxe hye
        by_cases c1 : x < -1000
        · have d1 : decide (x < -1000) = true := by simpa using c1
          have HE := Lib.hid (gridE_rng L21.out L0.out HL.out (rngOk_no hkl.out (by rw [HX.out, HY.out]; omega)))
          go_wp2
          go_ret
          exact ⟨by rw [HE.out]; rfl, (Below.refl _ _).alloc (Nat.le_refl _) _⟩
        · have d1 : decide (x < -1000) = false := by simpa using c1
          by_cases c2 : 1000 < x
          · have d2 : decide (1000 < x) = true := by simpa using c2
            have HE := Lib.hid (gridE_rng L21.out L0.out HL.out (rngOk_no hkl.out (by rw [HX.out, HY.out]; omega)))
            go_wp2
            go_ret
            exact ⟨by rw [HE.out]; rfl, (Below.refl _ _).alloc (Nat.le_refl _) _⟩
          · have d2 : decide (1000 < x) = false := by simpa using c2
            by_cases c3 : y < 1
            · have d3 : decide (y < 1) = true := by simpa using c3
              have HE := Lib.hid (gridE_rng L21.out L0.out HL.out (rngOk_no hkl.out (by rw [HX.out, HY.out]; omega)))
              go_wp2
              go_ret
              exact ⟨by rw [HE.out]; rfl, (Below.refl _ _).alloc (Nat.le_refl _) _⟩
            · have d3 : decide (y < 1) = false := by simpa using c3
              by_cases c4 : 1000 < y
              · have d4 : decide (1000 < y) = true := by simpa using c4
                have HE := Lib.hid (gridE_rng L21.out L0.out HL.out (rngOk_no hkl.out (by rw [HX.out, HY.out]; omega)))
                go_wp2
                go_ret
                exact ⟨by rw [HE.out]; rfl, (Below.refl _ _).alloc (Nat.le_refl _) _⟩
              · have d4 : decide (1000 < y) = false := by simpa using c4
                have HO := Lib.hid ((okAt_iff x y).2 ⟨by omega, by omega, by omega, by omega⟩)
                go_wp2
                go_roundw
                case rel => exact ⟨k + 1, by omega, by go_num, by unfold Hid; intro j hj; rcases Nat.lt_succ_iff_lt_or_eq.1 hj with h | h; exact hok.out j h; subst h; rw [HX.out, HY.out]; exact HO.out, by first | trivial | rfl⟩
                case measure => simp [intOf]; omega
      · obtain rfl : k = m := by omega
        have HR := Lib.hid (rngOk_yes (ps := ps) (rs := rs) (fun j hj => hok.out j (by rw [HN.out] at hj; exact hj)))
        clear hok
        go_wp2
        go_loopw [5] (fun i wr => ∃ j : Nat, j + 1 ≤ k ∧ i = .int .i64 ((j : Int) + 1) ∧ Hid (∀ q, q < j → ps.getD q 0 < ps.getD (q + 1) 0) ∧ ∃ d, wr = (w.alloc (.cells #[.slice A k c, .slice B k c'] 34)).drewN d) (fun i _ => k - (intOf i).toNat)
        case atStart => exact ⟨0, by omega, rfl, by unfold Hid; intro q hq; omega, 0, rfl⟩
        case round =>
          obtain ⟨j, hj, rfl, hris, d, rfl⟩ := hrel
          by_cases hlt2 : j + 1 < k
          · obtain ⟨b1, o1, rfl, hb1, hcell1⟩ := hsp.num hlt2
            have g1 := hcell1 j (by omega)
            have g2 := hcell1 (j + 1) hlt2
            have hkl : Hid (j + 1 < ps.length) := by unfold Hid; rw [HN.out]; exact hlt2
            have s1 : IntKind.i64.wrap ((j : Int) + 1 - 1) = (j : Int) := by rw [IntKind.wrap_i64]; omega
            have s2 : ((j : Int) + 1).toNat = j + 1 := by omega
            have s3 : (j : Int) + 1 - 1 = (j : Int) := by omega
            have i1 : 0 ≤ (j : Int) + 1 := by omega
            have i2 : (j : Int) + 1 < (k : Int) := by omega
            clear hcell1
            generalize hxe : ps.getD j 0 = x at *
            generalize hye : ps.getD (j + 1) 0 = y at *
            have HX := Lib.hid hxe
            have HY := Lib.hid hye
            clear hxe hye
            by_cases hle : y ≤ x
            · have HE := Lib.hid (gridE_rise L21.out L0.out HL.out HR.out (riseOk_no hkl.out (by rw [HX.out, HY.out]; exact hle)))
              go_wp2
              go_quiet (fail)
              clear s1 s2 s3
              go_wp2
              go_ret
              exact ⟨by rw [HE.out]; rfl, below_drewN (below_drewN ((Below.refl _ _).alloc (Nat.le_refl _) _) _) _⟩
            · go_wp2
              go_quiet (fail)
              clear s1 s2 s3
              go_wp2
              go_roundw
              case rel =>
                refine ⟨j + 1, by omega, by go_num, ?_, _, rfl⟩
                unfold Hid
                intro q hq
                rcases Nat.lt_succ_iff_lt_or_eq.1 hq with h | h
                · exact hris.out q h
                · subst h; rw [HX.out, HY.out]; omega
              case measure => simp [intOf]; omega
          · have HE := Lib.hid (gridE_ok L21.out L0.out HL.out HR.out (riseOk_yes (fun q hq => hris.out q (by rw [HN.out] at hq; omega))))
            go_wp2
            go_ret
            exact ⟨by rw [HE.out]; rfl, below_drewN ((Below.refl _ _).alloc (Nat.le_refl _) _) _⟩
  · have HE := Lib.hid (gridE_len (ps := ps) (rs := rs) (by rw [HN.out]; omega) (by rw [HN.out]; omega) (by rw [HN.out, HM.out]; exact hlen))
    have hnn : ((m : Int) != (n : Int)) = true := by rw [bne_iff_ne]; omega
    clear hlen
    go_enter Tryd.func79, Tryd.ntmps79
    go_wp2
    go_ret
    exact ⟨by rw [HE.out]; rfl, (Below.refl _ _).alloc (Nat.le_refl _) _⟩

set_option maxHeartbeats 2000000 in
theorem rgvalid_any (pv rv : Value) (ps rs : List Int) (w : World) (hp : Nums .i64 w pv ps) (hr : Nums .i64 w rv rs) :
    Calls Tryd.prog 44 #[.agg #[pv, rv]] w fun e w' => e = .returned (.int .i64 (gridE ps rs)) ∧ Below w.heap.size w w' := by
  obtain ⟨A, c, rfl, hc, hm, hsp⟩ := hp
  obtain ⟨B, c', rfl, hc', hm', hsr⟩ := hr
  unfold maxLen at hm hm'
  obtain ⟨n, hn⟩ : ∃ n, ps.length = n := ⟨_, rfl⟩
  obtain ⟨m, hmm⟩ : ∃ m, rs.length = m := ⟨_, rfl⟩
  have HN := Lib.hid hn
  have HM := Lib.hid hmm
  rw [hn] at hc hsp ⊢
  rw [hmm] at hc' hsr ⊢
  clear hn hmm
  by_cases h21 : 21 < n
  · have HE := Lib.hid (gridE_long (ps := ps) (rs := rs) (by rw [HN.out]; exact h21))
    go_enter Tryd.func44, Tryd.ntmps44
    go_wp2
    go_ret
    exact ⟨by rw [HE.out]; rfl, (Below.refl _ _).alloc (Nat.le_refl _) _⟩
  by_cases h0 : n = 0
  · have HE := Lib.hid (gridE_empty (ps := ps) (rs := rs) (by rw [HN.out]; exact h0))
    have h0' : ((n : Int) == 0) = true := by rw [beq_iff_eq]; omega
    clear h0
    go_enter Tryd.func44, Tryd.ntmps44
    go_wp2
    go_ret
    exact ⟨by rw [HE.out]; rfl, (Below.refl _ _).alloc (Nat.le_refl _) _⟩
  have h0' : ((n : Int) == 0) = false := by rw [beq_eq_false_iff_ne]; omega
  have hpos : 0 < n := by omega
  clear h0
  by_cases hlen : m = n
  · subst hlen
    have hnn : ((m : Int) != (m : Int)) = false := by simp
    have HL := Lib.hid (show rs.length = ps.length by rw [HN.out, HM.out])
    have L21 : Hid (ps.length ≤ 21) := by unfold Hid; rw [HN.out]; omega
    have L0 : Hid (0 < ps.length) := by unfold Hid; rw [HN.out]; omega
    go_enter Tryd.func44, Tryd.ntmps44
    go_wp2
    go_loopw [4] (fun  i wr => ∃ k : Nat, k ≤ m ∧ i = .int .i64 (k : Int) ∧ Hid (∀ j, j < k → okAt (ps.getD j 0) (rs.getD j 0) = true) ∧ wr = w.alloc (.cells #[.slice A m c, .slice B m c'] 34)) (fun  i _ => m - (intOf i).toNat)
    case atStart => exact ⟨0, by omega, rfl, by unfold Hid; intro j hj; omega, rfl⟩
    case round =>
      obtain ⟨k, hk, rfl, hok, rfl⟩ := hrel
      by_cases hlt : k < m
      · obtain ⟨b1, o1, rfl, hb1, hcell1⟩ := hsp.num hlt
        obtain ⟨b2, o2, rfl, hb2, hcell2⟩ := hsr.num hlt
        have g1 := hcell1 k hlt
        have g2 := hcell2 k hlt
        have hkl : Hid (k < ps.length) := by unfold Hid; rw [HN.out]; exact hlt
        clear hcell1 hcell2
        generalize hxe : ps.getD k 0 = x at *
        generalize hye : rs.getD k 0 = y at *
        have HX := Lib.hid hxe
        have HY := Lib.hid hye
        clear hxe hye
        by_cases c1 : x < -1000
        · have d1 : decide (x < -1000) = true := by simpa using c1
          have HE := Lib.hid (gridE_rng L21.out L0.out HL.out (rngOk_no hkl.out (by rw [HX.out, HY.out]; omega)))
          go_wp2
          go_ret
          exact ⟨by rw [HE.out]; rfl, (Below.refl _ _).alloc (Nat.le_refl _) _⟩
        · have d1 : decide (x < -1000) = false := by simpa using c1
          by_cases c2 : 1000 < x
          · have d2 : decide (1000 < x) = true := by simpa using c2
            have HE := Lib.hid (gridE_rng L21.out L0.out HL.out (rngOk_no hkl.out (by rw [HX.out, HY.out]; omega)))
            go_wp2
            go_ret
            exact ⟨by rw [HE.out]; rfl, (Below.refl _ _).alloc (Nat.le_refl _) _⟩
          · have d2 : decide (1000 < x) = false := by simpa using c2
            by_cases c3 : y < 1
            · have d3 : decide (y < 1) = true := by simpa using c3
              have HE := Lib.hid (gridE_rng L21.out L0.out HL.out (rngOk_no hkl.out (by rw [HX.out, HY.out]; omega)))
              go_wp2
              go_ret
              exact ⟨by rw [HE.out]; rfl, (Below.refl _ _).alloc (Nat.le_refl _) _⟩
            · have d3 : decide (y < 1) = false := by simpa using c3
              by_cases c4 : 1000 < y
              · have d4 : decide (1000 < y) = true := by simpa using c4
                have HE := Lib.hid (gridE_rng L21.out L0.out HL.out (rngOk_no hkl.out (by rw [HX.out, HY.out]; omega)))
                go_wp2
                go_ret
                exact ⟨by rw [HE.out]; rfl, (Below.refl _ _).alloc (Nat.le_refl _) _⟩
              · have d4 : decide (1000 < y) = false := by simpa using c4
                have HO := Lib.hid ((okAt_iff x y).2 ⟨by omega, by omega, by omega, by omega⟩)
                go_wp2
                go_roundw
                case rel => exact ⟨k + 1, by omega, by go_num, by unfold Hid; intro j hj; rcases Nat.lt_succ_iff_lt_or_eq.1 hj with h | h; exact hok.out j h; subst h; rw [HX.out, HY.out]; exact HO.out, by first | trivial | rfl⟩
                case measure => simp [intOf]; omega
      · obtain rfl : k = m := by omega
        have HR := Lib.hid (rngOk_yes (ps := ps) (rs := rs) (fun j hj => hok.out j (by rw [HN.out] at hj; exact hj)))
        clear hok
        go_wp2
        go_loopw [5] (fun i wr => ∃ j : Nat, j + 1 ≤ k ∧ i = .int .i64 ((j : Int) + 1) ∧ Hid (∀ q, q < j → ps.getD q 0 < ps.getD (q + 1) 0) ∧ ∃ d, wr = (w.alloc (.cells #[.slice A k c, .slice B k c'] 34)).drewN d) (fun i _ => k - (intOf i).toNat)
        case atStart => exact ⟨0, by omega, rfl, by unfold Hid; intro q hq; omega, 0, rfl⟩
        case round =>
          obtain ⟨j, hj, rfl, hris, d, rfl⟩ := hrel
          by_cases hlt2 : j + 1 < k
          · obtain ⟨b1, o1, rfl, hb1, hcell1⟩ := hsp.num hlt2
            have g1 := hcell1 j (by omega)
            have g2 := hcell1 (j + 1) hlt2
            have hkl : Hid (j + 1 < ps.length) := by unfold Hid; rw [HN.out]; exact hlt2
            have s1 : IntKind.i64.wrap ((j : Int) + 1 - 1) = (j : Int) := by rw [IntKind.wrap_i64]; omega
            have s2 : ((j : Int) + 1).toNat = j + 1 := by omega
            have s3 : (j : Int) + 1 - 1 = (j : Int) := by omega
            have i1 : 0 ≤ (j : Int) + 1 := by omega
            have i2 : (j : Int) + 1 < (k : Int) := by omega
            clear hcell1
            generalize hxe : ps.getD j 0 = x at *
            generalize hye : ps.getD (j + 1) 0 = y at *
            have HX := Lib.hid hxe
            have HY := Lib.hid hye
            clear hxe hye
            by_cases hle : y ≤ x
            · have HE := Lib.hid (gridE_rise L21.out L0.out HL.out HR.out (riseOk_no hkl.out (by rw [HX.out, HY.out]; exact hle)))
              go_wp2
              go_quiet (fail)
              clear s1 s2 s3
              go_wp2
              go_ret
              exact ⟨by rw [HE.out]; rfl, below_drewN (below_drewN ((Below.refl _ _).alloc (Nat.le_refl _) _) _) _⟩
            · go_wp2
              go_quiet (fail)
              clear s1 s2 s3
              go_wp2
              go_roundw
              case rel =>
                refine ⟨j + 1, by omega, by go_num, ?_, _, rfl⟩
                unfold Hid
                intro q hq
                rcases Nat.lt_succ_iff_lt_or_eq.1 hq with h | h
                · exact hris.out q h
                · subst h; rw [HX.out, HY.out]; omega
              case measure => simp [intOf]; omega
          · have HE := Lib.hid (gridE_ok L21.out L0.out HL.out HR.out (riseOk_yes (fun q hq => hris.out q (by rw [HN.out] at hq; omega))))
            go_wp2
            go_ret
            exact ⟨by rw [HE.out]; rfl, below_drewN ((Below.refl _ _).alloc (Nat.le_refl _) _) _⟩
  · have HE := Lib.hid (gridE_len (ps := ps) (rs := rs) (by rw [HN.out]; omega) (by rw [HN.out]; omega) (by rw [HN.out, HM.out]; exact hlen))
    have hnn : ((m : Int) != (n : Int)) = true := by rw [bne_iff_ne]; omega
    clear hlen
    go_enter Tryd.func44, Tryd.ntmps44
    go_wp2
    go_ret
    exact ⟨by rw [HE.out]; rfl, (Below.refl _ _).alloc (Nat.le_refl _) _⟩
end Go.Proofs.YtoihjclkocffhaaDoor
