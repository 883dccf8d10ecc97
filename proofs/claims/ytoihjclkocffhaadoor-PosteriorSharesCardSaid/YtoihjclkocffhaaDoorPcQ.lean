/- posterior.total, zero, check, Reduce, Same. posterior.Same. Plain facts of weights: sums, proportional lists. -/
import Derived.Test.YtoihjclkocffhaaDoorPoP
import Derived.Test.YtoihjclkocffhaaDoorBx
import Derived.Test.YtoihjclkocffhaaDoorNatC
import Derived.Test.YtoihjclkocffhaaDoorNatE
import Derived.Test.YtoihjclkocffhaaDoorRatQ
import Derived.Test.YtoihjclkocffhaaDoorDvz
import Derived.Deep.RegionLaw
namespace Go.Proofs.YtoihjclkocffhaaDoor
open Go.RowKit
set_option linter.unusedVariables false

theorem sum_take_succ (ns : List Nat) {j : Nat} (h : j < ns.length) : (ns.take (j + 1)).sum = (ns.take j).sum + ns.getD j 0 := by
  rw [List.take_succ_eq_append_getElem h, List.sum_append, List.getD_eq_getElem?_getD, List.getElem?_eq_getElem h]
  simp
set_option maxHeartbeats 2000000 in
theorem ptotal_any (wv : Value) (ns : List Nat) (L : Nat) (w : World) (hw : Wts w wv ns L) (hL : L ≤ 35184372088400) (h21 : ns.length ≤ 21) :
    Calls Tryd.prog 57 #[wv] w fun e w' => ∃ v, e = .returned v ∧ NatAt w' v ns.sum (L + ns.length) ∧ Below w.heap.size w w' := by
  obtain ⟨WA, wc, us, rfl, hwc, hwm, hws, hwu⟩ := hw
  have HWU := Lib.hid hwu
  unfold maxLen at hwm
  clear hwu
  obtain ⟨n, hn⟩ : ∃ n, ns.length = n := ⟨_, rfl⟩
  have HN := Lib.hid hn
  rw [hn] at hws hwc h21 ⊢
  clear hn
  go_enter Tryd.func57, Tryd.ntmps57
  go_wp2_with fail
  go_loopw [3, 8] (fun v iv wr => ∃ (j : Nat), j ≤ n ∧ iv = .int .i64 (j : Int) ∧ NatAt wr v (ns.take j).sum (L + j) ∧ Below w.heap.size w wr) (fun _ iv _ => n - (intOf iv).toNat)
  case atStart => exact ⟨0, by omega, rfl, natAt_nilD _ _, Below.refl _ _⟩
  case round =>
    obtain ⟨j, hj, rfl, hv, BQ⟩ := hrel
    obtain ⟨lv, hlv, ntv, hvv, hkv⟩ := id hv
    obtain ⟨⟨VA, vc, rfl, _, _, _⟩, _⟩ := id hlv
    by_cases hlt : j < n
    · obtain ⟨b, o, u, rfl, hbl, hcell, hu⟩ := lst_at (R := fun w u x => NatAny w u x L) (d := 0) (xs := ns) hws HWU.out hlt
      obtain ⟨lk, hlim, hval, hlen⟩ := hu.below BQ
      have HVL := Lib.hid hval
      clear hval
      have g2 := (BQ.cell (p := ⟨b, o + j, none⟩) hbl).trans hcell
      clear hcell hu
      have hjI : (j : Int) < (n : Int) := by omega
      have HSUM := Lib.hid (sum_take_succ ns (j := j) (by rw [HN.out]; exact hlt))
      obtain ⟨⟨UA, uc, rfl, _, _, _⟩, _⟩ := id hlim
      go_wp2_with fail
      refine (add_any _ _ lv lk _ hlv hlim (by omega) (by omega)).mono ?_
      rintro e w6 ⟨v6, rfl, l6, hl6, nt6, hv6, hk6, hf6, h6⟩
      obtain ⟨⟨A6, c6, rfl, _, _, _⟩, _⟩ := id hl6
      go_wp2_with fail
      go_roundw
      case rel => exact ⟨j + 1, by omega, by go_num, ⟨l6, hl6, nt6, by rw [hv6, hvv, HVL.out, HSUM.out], by omega⟩, BQ.trans (h6.mono BQ.size)⟩
      case measure => simp [intOf]; omega
    · obtain rfl : j = n := by omega
      go_wp2_with fail
      go_ret
      refine ⟨_, rfl, ?_, BQ⟩
      rw [List.take_of_length_le (by rw [HN.out]; exact Nat.le_refl _)] at hv
      exact hv

def all0 (ns : List Nat) : Bool := ns.all (· == 0)
theorem all0_iff {ns : List Nat} : all0 ns = true ↔ ∀ i, i < ns.length → ns.getD i 0 = 0 := by
  unfold all0
  rw [List.all_eq_true]
  constructor
  · intro h i hi
    have := h _ (getD_mem ns 0 hi)
    simpa using this
  · intro h x hx
    obtain ⟨i, hi, rfl⟩ := List.getElem_of_mem hx
    have := h i hi
    rw [List.getD_eq_getElem?_getD, List.getElem?_eq_getElem hi] at this
    simpa using this
set_option maxHeartbeats 2000000 in
theorem pzero_any (wv : Value) (ns : List Nat) (L : Nat) (w : World) (hw : Wts w wv ns L) (hL : L ≤ 35184372088400) :
    Calls Tryd.prog 50 #[wv] w fun e w' => e = .returned (.bool (all0 ns)) ∧ w = w' := by
  obtain ⟨WA, wc, us, rfl, hwc, hwm, hws, hwu⟩ := hw
  have HWU := Lib.hid hwu
  unfold maxLen at hwm
  clear hwu
  obtain ⟨n, hn⟩ : ∃ n, ns.length = n := ⟨_, rfl⟩
  have HN := Lib.hid hn
  rw [hn] at hws hwc ⊢
  clear hn
  go_enter Tryd.func50, Tryd.ntmps50
  go_wp2_with fail
  go_loopw [7] (fun iv wr => ∃ (j : Nat), j ≤ n ∧ iv = .int .i64 (j : Int) ∧ Hid (∀ i, i < j → ns.getD i 0 = 0) ∧ w = wr) (fun iv _ => n - (intOf iv).toNat)
  case atStart => exact ⟨0, by omega, rfl, fun i hi => by omega, rfl⟩
  case round =>
    obtain ⟨j, hj, rfl, hz, rfl⟩ := hrel
    have BQ := Below.refl w.heap.size w
    by_cases hlt : j < n
    · obtain ⟨b, o, u, rfl, hbl, hcell, hu⟩ := lst_at (R := fun w u x => NatAny w u x L) (d := 0) (xs := ns) hws HWU.out hlt
      obtain ⟨lk, hlim, hval, hlen⟩ := hu.below BQ
      have HVL := Lib.hid hval
      clear hval
      have g2 := (BQ.cell (p := ⟨b, o + j, none⟩) hbl).trans hcell
      clear hcell hu
      have hjI : (j : Int) < (n : Int) := by omega
      obtain ⟨⟨UA, uc, rfl, _, _, _⟩, _⟩ := id hlim
      go_wp2_with fail
      refine (bits_any _ lk _ hlim (by omega)).mono ?_
      rintro e w6 ⟨b6, rfl, rfl, hb1, hb2⟩
      by_cases hv0 : val lk = 0
      · obtain rfl := hb1 hv0
        have HV0 := Lib.hid hv0
        clear hv0 hb1 hb2
        go_wp2_with fail
        go_roundw
        case rel => exact ⟨j + 1, by omega, by go_num, fun i hi => by
          rcases Nat.lt_or_ge i j with h | h
          · exact hz.out i h
          · obtain rfl : i = j := by omega
            rw [← HVL.out, HV0.out], by first | rfl | trivial⟩
        case measure => simp [intOf]; omega
      · have hb3 := (hb2 (by omega)).1
        have t1 : decide (0 < (b6 : Int)) = true := decide_eq_true (by omega)
        have t2 : decide (0 < b6) = true := decide_eq_true (by omega)
        have t3 : 0 < b6 := hb3
        have hall : all0 ns = false := by
          rcases hb : all0 ns with _ | _
          · rfl
          · exact absurd (by rw [HVL.out]; exact all0_iff.1 hb j (by rw [HN.out]; exact hlt)) hv0
        clear hb1 hb2 hb3 hv0
        go_wp2_with fail
        go_ret
        exact ⟨by rw [hall]; rfl, rfl⟩
    · obtain rfl : j = n := by omega
      have hall : all0 ns = true := all0_iff.2 fun i hi => hz.out i (by rw [← HN.out]; exact hi)
      go_wp2_with fail
      go_ret
      exact ⟨by rw [hall]; rfl, rfl⟩
/-- Why weights have no shares. -/
def chkE (ns : List Nat) : Int := if 21 < ns.length then 5 else if all0 ns = true then 20 else 0
theorem chkE_zero {ns : List Nat} (h : chkE ns = 0) : ns.length ≤ 21 ∧ all0 ns = false := by
  unfold chkE at h
  split at h
  · omega
  · split at h
    · omega
    · rename_i h1 h2; exact ⟨by omega, by simpa using h2⟩
theorem pcheck_any (wv : Value) (ns : List Nat) (L : Nat) (w : World) (hw : Wts w wv ns L) (hL : L ≤ 35184372088400) :
    Calls Tryd.prog 56 #[wv] w fun e w' => e = .returned (.int .i64 (chkE ns)) ∧ w = w' := by
  have HZ := Lib.hid (pzero_any wv ns L w hw hL)
  obtain ⟨WA, wc, us, rfl, hwc, hwm, hws, hwu⟩ := hw
  unfold maxLen at hwm
  clear hwu hws
  unfold chkE
  by_cases h : 21 < ns.length
  · have t1 : decide (21 < (ns.length : Int)) = true := decide_eq_true (by omega)
    rw [if_pos h]
    go_enter Tryd.func56, Tryd.ntmps56
    go_wp2_with fail
    go_ret
    exact ⟨rfl, rfl⟩
  · have t1 : decide (21 < (ns.length : Int)) = false := decide_eq_false (by omega)
    rw [if_neg h]
    rcases hz : all0 ns with _ | _
    · rw [hz] at HZ
      rw [if_neg (by simp)]
      go_enter Tryd.func56, Tryd.ntmps56
      go_wp2_with fail
      refine HZ.out.mono ?_
      rintro e w1 ⟨rfl, rfl⟩
      go_wp2_with fail
      go_ret
      exact ⟨rfl, rfl⟩
    · rw [hz] at HZ
      rw [if_pos rfl]
      go_enter Tryd.func56, Tryd.ntmps56
      go_wp2_with fail
      refine HZ.out.mono ?_
      rintro e w1 ⟨rfl, rfl⟩
      go_wp2_with fail
      go_ret
      exact ⟨rfl, rfl⟩

/-- The greatest common divisor of the first weights. -/
def gcdL : List Nat → Nat := List.foldl Nat.gcd 0
theorem gcdL_succ (ns : List Nat) {j : Nat} (h : j < ns.length) : gcdL (ns.take (j + 1)) = Nat.gcd (gcdL (ns.take j)) (ns.getD j 0) := by
  unfold gcdL
  rw [List.take_succ_eq_append_getElem h, List.foldl_append, List.getD_eq_getElem?_getD, List.getElem?_eq_getElem h]
  rfl
def redL (ns : List Nat) : List Nat := ns.map (· / gcdL ns)
theorem redL_len (ns : List Nat) : (redL ns).length = ns.length := by simp [redL]
theorem redL_get (ns : List Nat) (j : Nat) : (redL ns).getD j 0 = ns.getD j 0 / gcdL ns := by
  unfold redL
  rw [List.getD_eq_getElem?_getD, List.getElem?_map, List.getD_eq_getElem?_getD]
  cases ns[j]? <;> simp
set_option maxRecDepth 100000 in
set_option maxHeartbeats 4000000 in
theorem preduce_any (wv : Value) (ns : List Nat) (L : Nat) (w : World) (hw : Wts w wv ns L) (hL : L ≤ 35184372088000) (h21 : 24 * ns.length ≤ 140737488351232) :
    Calls Tryd.prog 17 #[wv] w fun e w' => ∃ v, e = .returned v ∧ CanL w' v (redL ns) L ∧ Below w.heap.size w w' := by
  obtain ⟨WA, wc, us, rfl, hwc, hwm, hws, hwu⟩ := hw
  have HWU := Lib.hid hwu
  unfold maxLen at hwm
  clear hwu
  obtain ⟨n, hn⟩ : ∃ n, ns.length = n := ⟨_, rfl⟩
  have HN := Lib.hid hn
  have hmk := run_mk (P := Tryd.prog) Tryd.underlying22 infoNat rfl ns.length (by omega) (by omega)
  rw [hn] at hws hwc hmk h21 ⊢
  clear hn
  go_enter Tryd.func17, Tryd.ntmps17
  go_wp2_with fail
  go_loopw [3, 11] (fun v iv wr => ∃ (j : Nat), j ≤ n ∧ iv = .int .i64 (j : Int) ∧ NatAt wr v (gcdL (ns.take j)) L ∧ Below w.heap.size w wr) (fun _ iv _ => n - (intOf iv).toNat)
  case atStart => exact ⟨0, by omega, rfl, natAt_nilD _ _, Below.refl _ _⟩
  case round =>
    obtain ⟨j, hj, rfl, hv, BQ⟩ := hrel
    obtain ⟨lv, hlv, ntv, hvv, hkv⟩ := id hv
    obtain ⟨⟨VA, vc, rfl, _, _, _⟩, _⟩ := id hlv
    by_cases hlt : j < n
    · obtain ⟨b, o, u, rfl, hbl, hcell, hu⟩ := lst_at (R := fun w u x => NatAny w u x L) (d := 0) (xs := ns) hws HWU.out hlt
      obtain ⟨lk, hlim, hval, hlen⟩ := hu.below BQ
      have HVL := Lib.hid hval
      clear hval
      have g2 := (BQ.cell (p := ⟨b, o + j, none⟩) hbl).trans hcell
      clear hcell hu
      have hjI : (j : Int) < (n : Int) := by omega
      have HSUM := Lib.hid (gcdL_succ ns (j := j) (by rw [HN.out]; exact hlt))
      obtain ⟨⟨UA, uc, rfl, _, _, _⟩, _⟩ := id hlim
      go_wp2_with fail
      refine (gcd_all _ _ lv lk _ hlv hlim (by omega) (by omega)).mono ?_
      rintro e w6 ⟨v6, rfl, hn6, hf6, h6⟩
      obtain ⟨l6, hl6, nt6, hv6, hk6⟩ := hn6
      obtain ⟨⟨A6, c6, rfl, _, _, _⟩, _⟩ := id hl6
      go_wp2_with fail
      go_roundw
      case rel => exact ⟨j + 1, by omega, by go_num, ⟨l6, hl6, nt6, by rw [hv6, hvv, HVL.out, HSUM.out], by omega⟩, BQ.trans (h6.mono BQ.size)⟩
      case measure => simp [intOf]; omega
    · obtain rfl : j = n := by omega
      rw [List.take_of_length_le (by rw [HN.out]; exact Nat.le_refl _)] at hv hvv
      have HVV := Lib.hid hvv
      obtain ⟨wg, hwg⟩ : ∃ x, x = wr := ⟨_, rfl⟩
      subst hwg
      have BG := BQ
      clear hvv hv BQ
      go_wp2_with fail
      clear hmk
      go_loopw [24] (fun iv wr => ∃ (i : Nat) (vs : List Value), i ≤ j ∧ iv = .int .i64 (i : Int) ∧ Coll wr vs (redL ns) i L (wg.heap.size + 1) ∧ Row wr wg.heap.size 50 (vs ++ List.replicate (j - i) (.slice none 0 0)) ∧ Below wg.heap.size wg wr) (fun iv _ => j - (intOf iv).toNat)
      case atStart => exact ⟨0, [], by omega, rfl, Coll.zero _ _ _ _, by rw [List.nil_append]; exact Row.newz _ _ _ _, (Below.refl _ _).alloc (Nat.le_refl _) _⟩
      case round =>
        obtain ⟨i, vs, hi, rfl, hco, hrow, B2⟩ := hrel
        have BQ := BG.trans (B2.mono BG.size)
        by_cases hlt : i < j
        · obtain ⟨b, o, u, rfl, hbl, hcell, hu⟩ := lst_at (R := fun w u x => NatAny w u x L) (d := 0) (xs := ns) hws HWU.out hlt
          obtain ⟨lk, hlim, hval, hlen⟩ := hu.below BQ
          have HVL := Lib.hid hval
          clear hval
          have g2 := (BQ.cell (p := ⟨b, o + i, none⟩) hbl).trans hcell
          clear hcell hu
          obtain ⟨⟨UA, uc, rfl, _, _, _⟩, _⟩ := id hlim
          have zr := hrow.lt
          go_wp2_with fail
          by_cases hd0 : 0 < val lv
          · refine (divmod_all _ _ lk lv _ hlim (hlv.below B2) (by omega) (by omega) hd0).mono ?_
            rintro e w6 ⟨q6, r6, rfl, ⟨hq6, hfq⟩, _, h6⟩
            have hrow2 := hrow.keep h6
            have hc0 : w6.cell? ⟨wg.heap.size, i, none⟩ = some (.slice none 0 0) := by rw [hrow2.cell, padv_get _ _ _ _ hco.1 hlt]
            have hf0 : w6.frozen? ⟨wg.heap.size, i, none⟩ = false := hrow2.frozen i
            have hnat : NatAt w6 q6 ((redL ns).getD i 0) L := by
              obtain ⟨l6, a1, a2, a3, a4⟩ := hq6
              exact ⟨l6, a1, a2, by rw [a3, redL_get, HVL.out, HVV.out], by omega⟩
            obtain ⟨l6, hl6, _, _, _⟩ := id hq6
            obtain ⟨⟨A6, c6, rfl, _, _, _⟩, _⟩ := id hl6
            go_wp2_with fail
            go_roundw
            case rel =>
              refine ⟨i + 1, vs ++ [.slice A6 l6.length c6], by omega, by go_num, ?_, ?_, (B2.trans (h6.mono B2.size)).setCell (Nat.le_refl _) _⟩
              · exact ((hco.below h6).snoc hnat (hfq.mono zr)).set_ (p := ⟨wg.heap.size, i, none⟩) (by simp) _
              · rw [← padv_set _ _ _ _ _ hco.1 hlt]
                exact hrow2.set_ i _
            case measure => simp [intOf]; omega
          · have hnat : NatAt wr (.slice none 0 0) ((redL ns).getD i 0) L := by
              rw [redL_get, ← HVV.out, show val lv = 0 by omega, Nat.div_zero]
              exact natAt_nilD _ _
            have hc0 : wr.cell? ⟨wg.heap.size, i, none⟩ = some (.slice none 0 0) := by rw [hrow.cell, padv_get _ _ _ _ hco.1 hlt]
            have hf0 : wr.frozen? ⟨wg.heap.size, i, none⟩ = false := hrow.frozen i
            have HDZ := Lib.hid (divmod_zero _ _ lk lv _ hlim (hlv.below B2) (by omega))
            clear hd0
            refine HDZ.out.mono ?_
            rintro e w6 ⟨rfl, rfl⟩
            go_wp2_with fail
            go_roundw
            case rel =>
              refine ⟨i + 1, vs ++ [.slice none 0 0], by omega, by go_num, ?_, ?_, B2.setCell (Nat.le_refl _) _⟩
              · exact (hco.snoc hnat trivial).set_ (p := ⟨wg.heap.size, i, none⟩) (by simp) _
              · rw [← padv_set _ _ _ _ _ hco.1 hlt]
                exact hrow.set_ i _
            case measure => simp [intOf]; omega
        · obtain rfl : i = j := by omega
          go_wp2_with fail
          go_ret
          refine ⟨.slice (some ⟨wg.heap.size, 0, none⟩) i i, rfl, ?_, BQ⟩
          have hl : (redL ns).length = i := by rw [redL_len, HN.out]
          have hrow' : Row wr wg.heap.size 50 vs := by simpa using hrow
          rw [← hl] at hco
          have := hco.can_row hrow' (by rw [hl]; unfold maxLen; omega)
          rwa [hl] at this

end Go.Proofs.YtoihjclkocffhaaDoor
namespace Go.Proofs.YtoihjclkocffhaaDoor
open Go.RowKit
set_option linter.unusedVariables false

/-- The first index at which a weight is not 0. -/
def firstN (ns : List Nat) : Nat := ns.findIdx (fun x => x != 0)
theorem firstN_spec {ns : List Nat} (h : all0 ns = false) : firstN ns < ns.length ∧ ns.getD (firstN ns) 0 ≠ 0 ∧ ∀ i, i < firstN ns → ns.getD i 0 = 0 := by
  have hlt : firstN ns < ns.length := by
    refine List.findIdx_lt_length_of_exists ?_
    rcases Classical.em (∃ x ∈ ns, (x != 0) = true) with hh | hh
    · exact hh
    · exfalso
      have : all0 ns = true := by
        unfold all0
        rw [List.all_eq_true]
        intro x hx
        rcases Nat.eq_zero_or_pos x with h0 | h0
        · simp [h0]
        · exact absurd ⟨x, hx, by simp; omega⟩ hh
      rw [h] at this; cases this
  refine ⟨hlt, ?_, fun i hi => ?_⟩
  · have := List.findIdx_getElem (p := fun x : Nat => x != 0) (xs := ns) (w := hlt)
    rw [List.getD_eq_getElem?_getD, List.getElem?_eq_getElem hlt]
    unfold firstN
    simpa using this
  · have := List.not_of_lt_findIdx (p := fun x : Nat => x != 0) (xs := ns) hi
    have hi2 : i < ns.length := by unfold firstN at hi hlt; omega
    rw [List.getD_eq_getElem?_getD, List.getElem?_eq_getElem hi2]
    simpa using this
/-- Whether all products across agree with those at index k. -/
def crossAt (xs bs : List Nat) (k : Nat) : Bool := (List.range xs.length).all fun i => xs.getD i 0 * bs.getD k 0 == xs.getD k 0 * bs.getD i 0
/-- Whether two lists of weights are proportional, xs the program decides it. -/
def sameL (xs bs : List Nat) : Bool :=
  if xs.length ≠ bs.length then false else if (all0 xs || all0 bs) = true then all0 xs && all0 bs else if bs.getD (firstN xs) 0 = 0 then false else crossAt xs bs (firstN xs)
set_option maxRecDepth 100000 in
set_option maxHeartbeats 8000000 in
theorem psame_any (wv vv : Value) (xs bs : List Nat) (L M : Nat) (w : World) (hw : Wts w wv xs L) (hv : Wts w vv bs M) (hL : L ≤ 35184372088000) (hM : M ≤ 35184372088000) :
    Calls Tryd.prog 19 #[wv, vv] w fun e w' => e = .returned (.bool (sameL xs bs)) ∧ Below w.heap.size w w' := by
  have HZA := Lib.hid (fun (d : Unit) => pzero_any wv xs L w hw (by omega))
  have HZB := Lib.hid (fun (d : Unit) => pzero_any vv bs M w hv (by omega))
  obtain ⟨WA, wc, us, rfl, hwc, hwm, hws, hwu⟩ := hw
  obtain ⟨VA, vc, vs, rfl, hvc, hvm, hvs, hvu⟩ := hv
  have HWU := Lib.hid hwu
  have HVU := Lib.hid hvu
  unfold maxLen at hwm hvm
  clear hwu hvu
  by_cases hl : xs.length = bs.length
  · have t1 : ((xs.length : Int) != (bs.length : Int)) = false := by rw [hl]; simp
    rcases hza : all0 xs with _ | _
    · rcases hzb : all0 bs with _ | _
      · rw [hza] at HZA
        rw [hzb] at HZB
        obtain ⟨hk1, hk2, hk3⟩ := firstN_spec hza
        have hsame : sameL xs bs = if bs.getD (firstN xs) 0 = 0 then false else crossAt xs bs (firstN xs) := by
          unfold sameL
          rw [if_neg (by simpa using hl), if_neg (by rw [hza, hzb]; simp)]
        rw [hsame]
        obtain ⟨R, hR⟩ : ∃ R, (if bs.getD (firstN xs) 0 = 0 then false else crossAt xs bs (firstN xs)) = R := ⟨_, rfl⟩
        rw [hR]
        obtain ⟨K, hK⟩ : ∃ K, firstN xs = K := ⟨_, rfl⟩
        rw [hK] at hk1 hk2 hk3 hR
        have HR := Lib.hid hR
        clear hR
        have HK2 := Lib.hid hk2
        have HK3 := Lib.hid hk3
        obtain ⟨n, hn⟩ : ∃ n, xs.length = n := ⟨_, rfl⟩
        have HN := Lib.hid hn
        have HNB : Hid (bs.length = n) := Lib.hid (hl.symm.trans hn)
        rw [hn] at hws hwc hk1 t1 HZA ⊢
        rw [← hl, hn] at hvs hvc t1 HZB ⊢
        have hKI : (K : Int) < (n : Int) := by omega
        clear hsame hza hzb hl hK hk2 hk3 hn t1
        go_enter Tryd.func19, Tryd.ntmps19
        go_wp2_with fail
        refine (HZA.out ()).mono ?_
        rintro e w1 ⟨rfl, rfl⟩
        go_wp2_with fail
        refine (HZB.out ()).mono ?_
        rintro e w1 ⟨rfl, rfl⟩
        go_wp2_with fail
        go_loopw [5] (fun iv wr => ∃ (j : Nat), j ≤ K ∧ iv = .int .i64 (j : Int) ∧ w = wr) (fun iv _ => K - (intOf iv).toNat)
        case atStart => exact ⟨0, by omega, rfl, rfl⟩
        case round =>
          obtain ⟨j, hj, rfl, rfl⟩ := hrel
          have hjI : (j : Int) < (n : Int) := by omega
          obtain ⟨b, o, u, rfl, hbl, g2, hu⟩ := lst_at (R := fun w u x => NatAny w u x L) (d := 0) (xs := xs) hws HWU.out (show j < n by omega)
          obtain ⟨lk, hlim, hval, hlen⟩ := hu
          have HVL := Lib.hid hval
          clear hval
          obtain ⟨⟨UA, uc, rfl, _, _, _⟩, _⟩ := id hlim
          by_cases hlt : j < K
          · have HV0 : Hid (val lk = 0) := by unfold Hid; rw [HVL.out]; exact HK3.out j hlt
            go_wp2_with fail
            refine (bits_any _ lk _ hlim (by omega)).mono ?_
            rintro e w6 ⟨b6, rfl, rfl, hb1, hb2⟩
            obtain rfl := hb1 HV0.out
            clear hb1 hb2
            go_wp2_with fail
            go_roundw
            case rel => exact ⟨j + 1, by omega, by go_num, by first | rfl | trivial⟩
            case measure => simp [intOf]; omega
          · obtain rfl : j = K := by omega
            have HV0 : Hid (val lk ≠ 0) := by unfold Hid; rw [HVL.out]; exact HK2.out
            go_wp2_with fail
            refine (bits_any _ lk _ hlim (by omega)).mono ?_
            rintro e w6 ⟨b6, rfl, rfl, hb1, hb2⟩
            have hb3 := (hb2 (Nat.pos_of_ne_zero HV0.out)).1
            have t2 : ((b6 : Int) == 0) = false := by rw [beq_eq_false_iff_ne]; omega
            have t3 : b6 ≠ 0 := by omega
            clear hb1 hb2 hb3
            obtain ⟨b', o', x', rfl, hbl', g3, hx'⟩ := lst_at (R := fun w u x => NatAny w u x M) (d := 0) (xs := bs) hvs HVU.out (show j < n by omega)
            obtain ⟨lx, hlimx, hvalx, hlenx⟩ := hx'
            have HVX := Lib.hid hvalx
            clear hvalx
            obtain ⟨⟨XA, xc, rfl, _, _, _⟩, _⟩ := id hlimx
            go_wp2_with fail
            refine (bits_any _ lx _ hlimx (by omega)).mono ?_
            rintro e w6 ⟨b7, rfl, rfl, hb1, hb2⟩
            by_cases hx0 : val lx = 0
            · obtain rfl := hb1 hx0
              have HRES : Hid (R = false) := HR.out.symm.trans (if_pos (by rw [← HVX.out]; exact hx0))
              clear hx0 hb1 hb2
              go_wp2_with fail
              go_ret
              exact ⟨by rw [HRES.out]; rfl, Below.refl _ _⟩
            · have hb3 := (hb2 (by omega)).1
              have t4 : ((b7 : Int) == 0) = false := by rw [beq_eq_false_iff_ne]; omega
              have t5 : b7 ≠ 0 := by omega
              have HRES : Hid (R = crossAt xs bs j) := HR.out.symm.trans (if_neg (by rw [← HVX.out]; exact hx0))
              clear hb1 hb2 hb3 hx0
              have HAK := Lib.hid hlim
              have HBK := Lib.hid hlimx
              go_wp2_with fail
              clear t2 t3 t4 t5
              go_loopw [40] (fun iv wr => ∃ (i : Nat), i ≤ n ∧ iv = .int .i64 (i : Int) ∧ Hid (∀ q, q < i → xs.getD q 0 * bs.getD j 0 = xs.getD j 0 * bs.getD q 0) ∧ Below w.heap.size w wr) (fun iv _ => n - (intOf iv).toNat)
              case atStart => exact ⟨0, by omega, rfl, fun q hq => by omega, Below.refl _ _⟩
              case round =>
                obtain ⟨i, hi, rfl, hcr, BQ⟩ := hrel
                by_cases hlt2 : i < n
                · obtain ⟨ba, oa, ua, ea, hba, ga, hua⟩ := lst_at (R := fun w u x => NatAny w u x L) (d := 0) (xs := xs) hws HWU.out hlt2
                  injection ea with ea; injection ea with ea1 ea2 _
                  subst ea1 ea2
                  obtain ⟨la, hlima, hvala, hlena⟩ := hua
                  have HVA := Lib.hid hvala
                  obtain ⟨bb, ob, ub, eb, hbb, gb, hub⟩ := lst_at (R := fun w u x => NatAny w u x M) (d := 0) (xs := bs) hvs HVU.out hlt2
                  injection eb with eb; injection eb with eb1 eb2 _
                  subst eb1 eb2
                  obtain ⟨lb, hlimb, hvalb, hlenb⟩ := hub
                  have HVB := Lib.hid hvalb
                  clear hvala hvalb
                  obtain ⟨⟨AA, ac, rfl, _, _, _⟩, _⟩ := id hlima
                  obtain ⟨⟨AB, abc, rfl, _, _, _⟩, _⟩ := id hlimb
                  have g2' := (BQ.cell (p := ⟨b, o + j, none⟩) hbl).trans g2
                  have g3' := (BQ.cell (p := ⟨b', o' + j, none⟩) hbl').trans g3
                  have ga' := (BQ.cell (p := ⟨b, o + i, none⟩) hbl).trans ga
                  have gb' := (BQ.cell (p := ⟨b', o' + i, none⟩) hbl').trans gb
                  have zb1 : b < wr.heap.size := Nat.lt_of_lt_of_le hbl BQ.size
                  have zb2 : b' < wr.heap.size := Nat.lt_of_lt_of_le hbl' BQ.size
                  have ma := hlima.below BQ
                  have mb := hlimb.below BQ
                  have mk := hlim.below BQ
                  have mx := hlimx.below BQ
                  have hiI : (i : Int) < (n : Int) := by omega
                  clear ga gb
                  go_wp2_with fail
                  go_region_held3 (fun w' => w'.cell? ⟨b, o + j, none⟩ = some (.slice UA lk.length uc) ∧ w'.cell? ⟨b', o' + j, none⟩ = some (.slice XA lx.length xc) ∧ w'.cell? ⟨b, o + i, none⟩ = some (.slice AA la.length ac) ∧ w'.cell? ⟨b', o' + i, none⟩ = some (.slice AB lb.length abc))
                    ((refine keep4c zb1 zb2 zb1 zb2 g2' g3' ga' gb' ?_; (repeat (first | with_reducible exact Below.refl _ _ | with_reducible refine bl_call h6 ?_ | with_reducible refine bl_call h5 ?_ | with_reducible refine below_drewN ?_ _ | with_reducible refine bl_alloc ?_ _ | with_reducible refine bl_drew ?_)); done))
                    (first
                    | (go_at_call 33; ((with_reducible refine (mul_wide _ _ la lx _ (ma.below ?_) (mx.below ?_) (by omega)).mono ?_); (repeat (first | with_reducible exact Below.refl _ _ | with_reducible refine bl_call h6 ?_ | with_reducible refine bl_call h5 ?_ | with_reducible refine below_drewN ?_ _ | with_reducible refine bl_alloc ?_ _ | with_reducible refine bl_drew ?_)); (repeat (first | with_reducible exact Below.refl _ _ | with_reducible refine bl_call h6 ?_ | with_reducible refine bl_call h5 ?_ | with_reducible refine below_drewN ?_ _ | with_reducible refine bl_alloc ?_ _ | with_reducible refine bl_drew ?_)); rintro e w5 ⟨v5, rfl, l5, hl5, nt5, hv5, hk5, hf5, h5⟩; obtain ⟨⟨A5, c5, rfl, _, _, _⟩, _⟩ := id hl5; have HV5 := Lib.hid hv5; clear hv5))
                    | (go_at_call 33; ((with_reducible refine (mul_wide _ _ lk lb _ (mk.below ?_) (mb.below ?_) (by omega)).mono ?_); (repeat (first | with_reducible exact Below.refl _ _ | with_reducible refine bl_call h6 ?_ | with_reducible refine bl_call h5 ?_ | with_reducible refine below_drewN ?_ _ | with_reducible refine bl_alloc ?_ _ | with_reducible refine bl_drew ?_)); (repeat (first | with_reducible exact Below.refl _ _ | with_reducible refine bl_call h6 ?_ | with_reducible refine bl_call h5 ?_ | with_reducible refine below_drewN ?_ _ | with_reducible refine bl_alloc ?_ _ | with_reducible refine bl_drew ?_)); rintro e w6 ⟨v6, rfl, l6, hl6, nt6, hv6, hk6, hf6, h6⟩; obtain ⟨⟨A6, c6, rfl, _, _, _⟩, _⟩ := id hl6; have HV6 := Lib.hid hv6; clear hv6))
                    | (go_at_call 52; ((with_reducible refine (cmp_any _ _ l5 l6 _ (hl5.below ?_) (hl6.below ?_)).mono ?_); (repeat (first | with_reducible exact Below.refl _ _ | with_reducible refine bl_call h6 ?_ | with_reducible refine bl_call h5 ?_ | with_reducible refine below_drewN ?_ _ | with_reducible refine bl_alloc ?_ _ | with_reducible refine bl_drew ?_)); (repeat (first | with_reducible exact Below.refl _ _ | with_reducible refine bl_call h6 ?_ | with_reducible refine bl_call h5 ?_ | with_reducible refine below_drewN ?_ _ | with_reducible refine bl_alloc ?_ _ | with_reducible refine bl_drew ?_)); rintro e w7 ⟨rfl, d7, rfl⟩)))
                  all_goals
                    rw [HV5.out, HV6.out, HVA.out, HVX.out, HVL.out, HVB.out]
                    by_cases hq : xs.getD i 0 * bs.getD j 0 = xs.getD j 0 * bs.getD i 0
                    · rw [cmpN_eq hq]
                      have HQ := Lib.hid hq
                      clear hq
                      go_wp2_with fail
                      go_roundw
                      case rel => exact ⟨i + 1, by omega, by go_num, fun q hq => by
                        rcases Nat.lt_or_ge q i with h | h
                        · exact hcr.out q h
                        · obtain rfl : q = i := by omega
                          exact HQ.out, by refine below_drewN (BQ.trans (Below.mono (w := wr) ?_ BQ.size)) _; (repeat (first | with_reducible exact Below.refl _ _ | with_reducible refine bl_call h6 ?_ | with_reducible refine bl_call h5 ?_ | with_reducible refine below_drewN ?_ _ | with_reducible refine bl_alloc ?_ _ | with_reducible refine bl_drew ?_))⟩
                      case measure => simp [intOf]; omega
                    · have hne : (cmpN (xs.getD i 0 * bs.getD j 0) (xs.getD j 0 * bs.getD i 0) != 0) = true := by
                        rw [bne_iff_ne]
                        unfold cmpN
                        split
                        · decide
                        · split
                          · decide
                          · omega
                      have hc : crossAt xs bs j = false := by
                        rcases hb : crossAt xs bs j with _ | _
                        · rfl
                        · unfold crossAt at hb
                          rw [List.all_eq_true] at hb
                          have := hb i (List.mem_range.2 (by rw [HN.out]; exact hlt2))
                          rw [beq_iff_eq] at this
                          exact absurd this hq
                      generalize cmpN (xs.getD i 0 * bs.getD j 0) (xs.getD j 0 * bs.getD i 0) = cc at *
                      clear hq
                      go_wp2_with fail
                      go_ret
                      exact ⟨by rw [HRES.out, hc]; rfl, by refine below_drewN (BQ.trans (Below.mono (w := wr) ?_ BQ.size)) _; (repeat (first | with_reducible exact Below.refl _ _ | with_reducible refine bl_call h6 ?_ | with_reducible refine bl_call h5 ?_ | with_reducible refine below_drewN ?_ _ | with_reducible refine bl_alloc ?_ _ | with_reducible refine bl_drew ?_))⟩
                · obtain rfl : i = n := by omega
                  have hc : crossAt xs bs j = true := by
                    unfold crossAt
                    rw [List.all_eq_true]
                    intro q hq
                    rw [beq_iff_eq]
                    exact hcr.out q (by rw [← HN.out]; exact List.mem_range.1 hq)
                  go_wp2_with fail
                  go_ret
                  exact ⟨by rw [HRES.out, hc]; rfl, BQ⟩
      · rw [hza] at HZA
        rw [hzb] at HZB
        have hsame : sameL xs bs = false := by
          unfold sameL
          rw [if_neg (by simpa using hl), hza, hzb]
          rfl
        rw [hsame]
        clear hl hsame
        go_enter Tryd.func19, Tryd.ntmps19
        go_wp2_with fail
        refine (HZA.out ()).mono ?_
        rintro e w1 ⟨rfl, rfl⟩
        go_wp2_with fail
        refine (HZB.out ()).mono ?_
        rintro e w1 ⟨rfl, rfl⟩
        go_wp2_with fail
        refine (HZA.out ()).mono ?_
        rintro e w1 ⟨rfl, rfl⟩
        go_wp2_with fail
        go_ret
        exact ⟨rfl, Below.refl _ _⟩
    · rw [hza] at HZA
      have hsame : sameL xs bs = all0 bs := by
        unfold sameL
        rw [if_neg (by simpa using hl), hza]
        simp
      rw [hsame]
      clear hl hsame
      go_enter Tryd.func19, Tryd.ntmps19
      go_wp2_with fail
      refine (HZA.out ()).mono ?_
      rintro e w1 ⟨rfl, rfl⟩
      go_wp2_with fail
      refine (HZA.out ()).mono ?_
      rintro e w1 ⟨rfl, rfl⟩
      go_wp2_with fail
      refine (HZB.out ()).mono ?_
      rintro e w1 ⟨rfl, rfl⟩
      go_wp2_with fail
      go_ret
      exact ⟨rfl, Below.refl _ _⟩
  · have t1 : ((xs.length : Int) != (bs.length : Int)) = true := by rw [bne_iff_ne]; omega
    have hsame : sameL xs bs = false := by unfold sameL; rw [if_pos hl]
    rw [hsame]
    clear hl hsame
    go_enter Tryd.func19, Tryd.ntmps19
    go_wp2_with fail
    go_ret
    exact ⟨rfl, Below.refl _ _⟩

end Go.Proofs.YtoihjclkocffhaaDoor
namespace Go.Proofs.YtoihjclkocffhaaDoor
open Go.RowKit
set_option linter.unusedVariables false

theorem val_zero_iff : ∀ ls : List Nat, val ls = 0 ↔ ∀ j, j < ls.length → ls.getD j 0 = 0
  | [] => by simp [val]
  | x :: ls => by
    have ih := val_zero_iff ls
    constructor
    · intro h j hj
      have h' : x + 4294967296 * val ls = 0 := h
      rcases j with _ | j
      · show x = 0
        omega
      · show ls.getD j 0 = 0
        exact ih.1 (by omega) j (by simpa using hj)
    · intro h
      have h0 : x = 0 := h 0 (by simp)
      have h1 : val ls = 0 := ih.2 fun j hj => h (j + 1) (by simpa using hj)
      show x + 4294967296 * val ls = 0
      omega
theorem all0_sum : ∀ ns : List Nat, all0 ns = true ↔ ns.sum = 0
  | [] => by simp [all0]
  | x :: ns => by
    have ih := all0_sum ns
    unfold all0 at *
    rw [List.all_cons, List.sum_cons, Bool.and_eq_true, ih]
    simp
theorem chkE_sum (ns : List Nat) : chkE ns = if 21 < ns.length then 5 else if ns.sum = 0 then 20 else 0 := by
  unfold chkE
  split
  · rfl
  · by_cases h : ns.sum = 0
    · rw [if_pos h, if_pos ((all0_sum ns).2 h)]
    · rw [if_neg h, if_neg (fun h2 => h ((all0_sum ns).1 h2))]
theorem sum_le_mul (B : Nat) : ∀ ns : List Nat, (∀ x ∈ ns, x ≤ B) → ns.sum ≤ ns.length * B
  | [], _ => by simp
  | x :: ns, h => by
    have h1 := h x (by simp)
    have h2 := sum_le_mul B ns fun y hy => h y (by simp [hy])
    rw [List.sum_cons, List.length_cons, Nat.add_mul]
    omega
/-- Whether two lists of weights are proportional, as the reference decides it. -/
def sameR (xs bs : List Nat) : Bool :=
  if xs.length ≠ bs.length then false else if decide (xs.sum = 0) ≠ decide (bs.sum = 0) then false else (List.range xs.length).all fun i => (List.range xs.length).all fun k => xs.getD i 0 * bs.getD k 0 == xs.getD k 0 * bs.getD i 0
theorem sum_zero_get {ns : List Nat} (h : ns.sum = 0) (i : Nat) : ns.getD i 0 = 0 := by
  rcases Nat.lt_or_ge i ns.length with hi | hi
  · exact all0_iff.1 ((all0_sum ns).2 h) i hi
  · rw [List.getD_eq_getElem?_getD, List.getElem?_eq_none hi]; rfl
theorem sum_pos_at {ns : List Nat} (h : ns.sum ≠ 0) : ∃ i, i < ns.length ∧ ns.getD i 0 ≠ 0 := by
  have : all0 ns = false := by
    rcases hh : all0 ns with _ | _
    · rfl
    · exact absurd ((all0_sum ns).1 hh) h
  exact ⟨firstN ns, (firstN_spec this).1, (firstN_spec this).2.1⟩
theorem same_eq (xs bs : List Nat) : sameR xs bs = sameL xs bs := by
  unfold sameR sameL
  by_cases hl : xs.length ≠ bs.length
  · rw [if_pos hl, if_pos hl]
  rw [if_neg hl, if_neg hl]
  have hlen : xs.length = bs.length := by simpa using hl
  by_cases hx : xs.sum = 0
  · have ax := (all0_sum xs).2 hx
    by_cases hb : bs.sum = 0
    · have ab := (all0_sum bs).2 hb
      rw [if_neg (by simp [hx, hb]), if_pos (by simp [ax]), ax, ab]
      show _ = true
      rw [List.all_eq_true]
      intro i _
      rw [List.all_eq_true]
      intro k _
      rw [sum_zero_get hx i, sum_zero_get hx k]
      simp
    · have ab : all0 bs = false := by
        rcases hh : all0 bs with _ | _
        · rfl
        · exact absurd ((all0_sum bs).1 hh) hb
      rw [if_pos (by simp [hx, hb]), if_pos (by simp [ax]), ax, ab]
      rfl
  · have ax : all0 xs = false := by
      rcases hh : all0 xs with _ | _
      · rfl
      · exact absurd ((all0_sum xs).1 hh) hx
    by_cases hb : bs.sum = 0
    · have ab := (all0_sum bs).2 hb
      rw [if_pos (by simp [hx, hb]), if_pos (by simp [ab]), ax, ab]
      rfl
    · have ab : all0 bs = false := by
        rcases hh : all0 bs with _ | _
        · rfl
        · exact absurd ((all0_sum bs).1 hh) hb
      rw [if_neg (by simp [hx, hb]), if_neg (by simp [ax, ab])]
      obtain ⟨f1, f2, f3⟩ := firstN_spec ax
      generalize firstN xs = k at *
      by_cases hk : bs.getD k 0 = 0
      · rw [if_pos hk]
        obtain ⟨j, hj, hjb⟩ := sum_pos_at hb
        rw [List.all_eq_false]
        refine ⟨k, List.mem_range.2 f1, ?_⟩
        rw [Bool.not_eq_true, List.all_eq_false]
        refine ⟨j, List.mem_range.2 (by omega), ?_⟩
        rw [hk, Nat.mul_zero, Bool.not_eq_true, beq_eq_false_iff_ne]
        exact Nat.mul_ne_zero f2 hjb
      · rw [if_neg hk]
        unfold crossAt
        rw [Bool.eq_iff_iff, List.all_eq_true, List.all_eq_true]
        constructor
        · intro h i hi
          have := List.all_eq_true.1 (h i hi) k (List.mem_range.2 f1)
          exact this
        · intro h i hi
          rw [List.all_eq_true]
          intro j hj
          have h1 := h i hi
          have h2 := h j hj
          rw [beq_iff_eq] at h1 h2 ⊢
          generalize xs.getD i 0 = a at *
          generalize xs.getD j 0 = a' at *
          generalize bs.getD i 0 = b at *
          generalize bs.getD j 0 = b' at *
          generalize xs.getD k 0 = c at *
          generalize bs.getD k 0 = d at *
          have hd : 0 < d := by omega
          refine Nat.eq_of_mul_eq_mul_right hd ?_
          calc a * b' * d = (a * d) * b' := by rw [Nat.mul_right_comm]
            _ = (c * b) * b' := by rw [h1]
            _ = (c * b') * b := by rw [Nat.mul_right_comm]
            _ = (a' * d) * b := by rw [h2]
            _ = a' * b * d := by rw [Nat.mul_right_comm]
end Go.Proofs.YtoihjclkocffhaaDoor
