/- posterior.total, zero, check, Reduce, Same. -/
import Derived.Test.YtoihjclkocffhaaDoorPoP
import Derived.Test.YtoihjclkocffhaaDoorBx
import Derived.Test.YtoihjclkocffhaaDoorNatC
import Derived.Test.YtoihjclkocffhaaDoorNatE
import Derived.Test.YtoihjclkocffhaaDoorRatG
import Derived.Deep.RegionLaw
namespace Go.Proofs.YtoihjclkocffhaaDoor
open Go.RowKit
set_option linter.unusedVariables false

theorem sum_take_succ (ns : List Nat) {j : Nat} (h : j < ns.length) : (ns.take (j + 1)).sum = (ns.take j).sum + ns.getD j 0 := by
  rw [List.take_succ_eq_append_getElem h, List.sum_append, List.getD_eq_getElem?_getD, List.getElem?_eq_getElem h]
  simp
set_option maxHeartbeats 2000000 in
theorem ptotal_any (wv : Value) (ns : List Nat) (L : Nat) (w : World) (hw : Wts w wv ns L) (hL : L ≤ 35184372088400) (h21 : ns.length ≤ 21) :
    Calls Tryd.prog 57 #[wv] w fun e w' => ∃ v, e = .returned v ∧ NatAt w' v ns.sum (L + ns.length) ∧ Below w.heap.size w w' := by
  obtain ⟨WA, wc, us, rfl, hwc, hwm, hws, hwu⟩ := hw
  have HWU := Lib.hid hwu
  unfold maxLen at hwm
  clear hwu
  obtain ⟨n, hn⟩ : ∃ n, ns.length = n := ⟨_, rfl⟩
  have HN := Lib.hid hn
  rw [hn] at hws hwc h21 ⊢
  clear hn
  go_enter Tryd.func57, Tryd.ntmps57
  go_wp2_with fail
  go_loopw [3, 8] (fun v iv wr => ∃ (j : Nat), j ≤ n ∧ iv = .int .i64 (j : Int) ∧ NatAt wr v (ns.take j).sum (L + j) ∧ Below w.heap.size w wr) (fun _ iv _ => n - (intOf iv).toNat)
  case atStart => exact ⟨0, by omega, rfl, natAt_nilD _ _, Below.refl _ _⟩
  case round =>
    obtain ⟨j, hj, rfl, hv, BQ⟩ := hrel
    obtain ⟨lv, hlv, ntv, hvv, hkv⟩ := id hv
    obtain ⟨⟨VA, vc, rfl, _, _, _⟩, _⟩ := id hlv
    by_cases hlt : j < n
    · obtain ⟨b, o, u, rfl, hbl, hcell, hu⟩ := lst_at (R := fun w u x => NatAny w u x L) (d := 0) (xs := ns) hws HWU.out hlt
      obtain ⟨lk, hlim, hval, hlen⟩ := hu.below BQ
      have HVL := Lib.hid hval
      clear hval
      have g2 := (BQ.cell (p := ⟨b, o + j, none⟩) hbl).trans hcell
      clear hcell hu
      have hjI : (j : Int) < (n : Int) := by omega
      have HSUM := Lib.hid (sum_take_succ ns (j := j) (by rw [HN.out]; exact hlt))
      obtain ⟨⟨UA, uc, rfl, _, _, _⟩, _⟩ := id hlim
      go_wp2_with fail
      refine (add_any _ _ lv lk _ hlv hlim (by omega) (by omega)).mono ?_
      rintro e w6 ⟨v6, rfl, l6, hl6, nt6, hv6, hk6, hf6, h6⟩
      obtain ⟨⟨A6, c6, rfl, _, _, _⟩, _⟩ := id hl6
      go_wp2_with fail
      go_roundw
      case rel => exact ⟨j + 1, by omega, by go_num, ⟨l6, hl6, nt6, by rw [hv6, hvv, HVL.out, HSUM.out], by omega⟩, BQ.trans (h6.mono BQ.size)⟩
      case measure => simp [intOf]; omega
    · obtain rfl : j = n := by omega
      go_wp2_with fail
      go_ret
      refine ⟨_, rfl, ?_, BQ⟩
      rw [List.take_of_length_le (by rw [HN.out]; exact Nat.le_refl _)] at hv
      exact hv

def all0 (ns : List Nat) : Bool := ns.all (· == 0)
theorem all0_iff {ns : List Nat} : all0 ns = true ↔ ∀ i, i < ns.length → ns.getD i 0 = 0 := by
  unfold all0
  rw [List.all_eq_true]
  constructor
  · intro h i hi
    have := h _ (getD_mem ns 0 hi)
    simpa using this
  · intro h x hx
    obtain ⟨i, hi, rfl⟩ := List.getElem_of_mem hx
    have := h i hi
    rw [List.getD_eq_getElem?_getD, List.getElem?_eq_getElem hi] at this
    simpa using this
set_option maxHeartbeats 2000000 in
theorem pzero_any (wv : Value) (ns : List Nat) (L : Nat) (w : World) (hw : Wts w wv ns L) (hL : L ≤ 35184372088400) :
    Calls Tryd.prog 50 #[wv] w fun e w' => e = .returned (.bool (all0 ns)) ∧ w = w' := by
  obtain ⟨WA, wc, us, rfl, hwc, hwm, hws, hwu⟩ := hw
  have HWU := Lib.hid hwu
  unfold maxLen at hwm
  clear hwu
  obtain ⟨n, hn⟩ : ∃ n, ns.length = n := ⟨_, rfl⟩
  have HN := Lib.hid hn
  rw [hn] at hws hwc ⊢
  clear hn
  go_enter Tryd.func50, Tryd.ntmps50
  go_wp2_with fail
  go_loopw [7] (fun iv wr => ∃ (j : Nat), j ≤ n ∧ iv = .int .i64 (j : Int) ∧ Hid (∀ i, i < j → ns.getD i 0 = 0) ∧ w = wr) (fun iv _ => n - (intOf iv).toNat)
  case atStart => exact ⟨0, by omega, rfl, fun i hi => by omega, rfl⟩
  case round =>
    obtain ⟨j, hj, rfl, hz, rfl⟩ := hrel
    have BQ := Below.refl w.heap.size w
    by_cases hlt : j < n
    · obtain ⟨b, o, u, rfl, hbl, hcell, hu⟩ := lst_at (R := fun w u x => NatAny w u x L) (d := 0) (xs := ns) hws HWU.out hlt
      obtain ⟨lk, hlim, hval, hlen⟩ := hu.below BQ
      have HVL := Lib.hid hval
      clear hval
      have g2 := (BQ.cell (p := ⟨b, o + j, none⟩) hbl).trans hcell
      clear hcell hu
      have hjI : (j : Int) < (n : Int) := by omega
      obtain ⟨⟨UA, uc, rfl, _, _, _⟩, _⟩ := id hlim
      go_wp2_with fail
      refine (bits_any _ lk _ hlim (by omega)).mono ?_
      rintro e w6 ⟨b6, rfl, rfl, hb1, hb2⟩
      by_cases hv0 : val lk = 0
      · obtain rfl := hb1 hv0
        have HV0 := Lib.hid hv0
        clear hv0 hb1 hb2
        go_wp2_with fail
        go_roundw
        case rel => exact ⟨j + 1, by omega, by go_num, fun i hi => by
          rcases Nat.lt_or_ge i j with h | h
          · exact hz.out i h
          · obtain rfl : i = j := by omega
            rw [← HVL.out, HV0.out], by first | rfl | trivial⟩
        case measure => simp [intOf]; omega
      · have hb3 := (hb2 (by omega)).1
        have t1 : decide (0 < (b6 : Int)) = true := decide_eq_true (by omega)
        have t2 : decide (0 < b6) = true := decide_eq_true (by omega)
        have t3 : 0 < b6 := hb3
        have hall : all0 ns = false := by
          rcases hb : all0 ns with _ | _
          · rfl
          · exact absurd (by rw [HVL.out]; exact all0_iff.1 hb j (by rw [HN.out]; exact hlt)) hv0
        clear hb1 hb2 hb3 hv0
        go_wp2_with fail
        go_ret
        exact ⟨by rw [hall]; rfl, rfl⟩
    · obtain rfl : j = n := by omega
      have hall : all0 ns = true := all0_iff.2 fun i hi => hz.out i (by rw [← HN.out]; exact hi)
      go_wp2_with fail
      go_ret
      exact ⟨by rw [hall]; rfl, rfl⟩
/-- Why weights have no shares. -/
def chkE (ns : List Nat) : Int := if 21 < ns.length then 5 else if all0 ns = true then 20 else 0
theorem chkE_zero {ns : List Nat} (h : chkE ns = 0) : ns.length ≤ 21 ∧ all0 ns = false := by
  unfold chkE at h
  split at h
  · omega
  · split at h
    · omega
    · rename_i h1 h2; exact ⟨by omega, by simpa using h2⟩
theorem pcheck_any (wv : Value) (ns : List Nat) (L : Nat) (w : World) (hw : Wts w wv ns L) (hL : L ≤ 35184372088400) :
    Calls Tryd.prog 56 #[wv] w fun e w' => e = .returned (.int .i64 (chkE ns)) ∧ w = w' := by
  have HZ := Lib.hid (pzero_any wv ns L w hw hL)
  obtain ⟨WA, wc, us, rfl, hwc, hwm, hws, hwu⟩ := hw
  unfold maxLen at hwm
  clear hwu hws
  unfold chkE
  by_cases h : 21 < ns.length
  · have t1 : decide (21 < (ns.length : Int)) = true := decide_eq_true (by omega)
    rw [if_pos h]
    go_enter Tryd.func56, Tryd.ntmps56
    go_wp2_with fail
    go_ret
    exact ⟨rfl, rfl⟩
  · have t1 : decide (21 < (ns.length : Int)) = false := decide_eq_false (by omega)
    rw [if_neg h]
    rcases hz : all0 ns with _ | _
    · rw [hz] at HZ
      rw [if_neg (by simp)]
      go_enter Tryd.func56, Tryd.ntmps56
      go_wp2_with fail
      refine HZ.out.mono ?_
      rintro e w1 ⟨rfl, rfl⟩
      go_wp2_with fail
      go_ret
      exact ⟨rfl, rfl⟩
    · rw [hz] at HZ
      rw [if_pos rfl]
      go_enter Tryd.func56, Tryd.ntmps56
      go_wp2_with fail
      refine HZ.out.mono ?_
      rintro e w1 ⟨rfl, rfl⟩
      go_wp2_with fail
      go_ret
      exact ⟨rfl, rfl⟩

/-- The greatest common divisor of the first weights. -/
def gcdL : List Nat → Nat := List.foldl Nat.gcd 0
theorem gcdL_succ (ns : List Nat) {j : Nat} (h : j < ns.length) : gcdL (ns.take (j + 1)) = Nat.gcd (gcdL (ns.take j)) (ns.getD j 0) := by
  unfold gcdL
  rw [List.take_succ_eq_append_getElem h, List.foldl_append, List.getD_eq_getElem?_getD, List.getElem?_eq_getElem h]
  rfl
def redL (ns : List Nat) : List Nat := ns.map (· / gcdL ns)
theorem redL_len (ns : List Nat) : (redL ns).length = ns.length := by simp [redL]
theorem redL_get (ns : List Nat) (j : Nat) : (redL ns).getD j 0 = ns.getD j 0 / gcdL ns := by
  unfold redL
  rw [List.getD_eq_getElem?_getD, List.getElem?_map, List.getD_eq_getElem?_getD]
  cases ns[j]? <;> simp
set_option maxRecDepth 100000 in
set_option maxHeartbeats 4000000 in
theorem preduce_any (wv : Value) (ns : List Nat) (L : Nat) (w : World) (hw : Wts w wv ns L) (hL : L ≤ 100000000) (hg : 0 < gcdL ns) (h21 : ns.length ≤ 21) :
    Calls Tryd.prog 17 #[wv] w fun e w' => ∃ v, e = .returned v ∧ CanL w' v (redL ns) L ∧ Below w.heap.size w w' := by
  obtain ⟨WA, wc, us, rfl, hwc, hwm, hws, hwu⟩ := hw
  have HWU := Lib.hid hwu
  unfold maxLen at hwm
  clear hwu
  obtain ⟨n, hn⟩ : ∃ n, ns.length = n := ⟨_, rfl⟩
  have HN := Lib.hid hn
  have HG := Lib.hid hg
  have hmk := run_mk (P := Tryd.prog) Tryd.underlying22 infoNat rfl ns.length (by omega) (by omega)
  rw [hn] at hws hwc hmk h21 ⊢
  clear hn hg
  go_enter Tryd.func17, Tryd.ntmps17
  go_wp2_with fail
  go_loopw [3, 11] (fun v iv wr => ∃ (j : Nat), j ≤ n ∧ iv = .int .i64 (j : Int) ∧ NatAt wr v (gcdL (ns.take j)) L ∧ Below w.heap.size w wr) (fun _ iv _ => n - (intOf iv).toNat)
  case atStart => exact ⟨0, by omega, rfl, natAt_nilD _ _, Below.refl _ _⟩
  case round =>
    obtain ⟨j, hj, rfl, hv, BQ⟩ := hrel
    obtain ⟨lv, hlv, ntv, hvv, hkv⟩ := id hv
    obtain ⟨⟨VA, vc, rfl, _, _, _⟩, _⟩ := id hlv
    by_cases hlt : j < n
    · obtain ⟨b, o, u, rfl, hbl, hcell, hu⟩ := lst_at (R := fun w u x => NatAny w u x L) (d := 0) (xs := ns) hws HWU.out hlt
      obtain ⟨lk, hlim, hval, hlen⟩ := hu.below BQ
      have HVL := Lib.hid hval
      clear hval
      have g2 := (BQ.cell (p := ⟨b, o + j, none⟩) hbl).trans hcell
      clear hcell hu
      have hjI : (j : Int) < (n : Int) := by omega
      have HSUM := Lib.hid (gcdL_succ ns (j := j) (by rw [HN.out]; exact hlt))
      obtain ⟨⟨UA, uc, rfl, _, _, _⟩, _⟩ := id hlim
      go_wp2_with fail
      refine (gcd_all _ _ lv lk _ hlv hlim (by omega) (by omega)).mono ?_
      rintro e w6 ⟨v6, rfl, hn6, hf6, h6⟩
      obtain ⟨l6, hl6, nt6, hv6, hk6⟩ := hn6
      obtain ⟨⟨A6, c6, rfl, _, _, _⟩, _⟩ := id hl6
      go_wp2_with fail
      go_roundw
      case rel => exact ⟨j + 1, by omega, by go_num, ⟨l6, hl6, nt6, by rw [hv6, hvv, HVL.out, HSUM.out], by omega⟩, BQ.trans (h6.mono BQ.size)⟩
      case measure => simp [intOf]; omega
    · obtain rfl : j = n := by omega
      rw [List.take_of_length_le (by rw [HN.out]; exact Nat.le_refl _)] at hv hvv
      have HVV := Lib.hid hvv
      have hdpos : 0 < val lv := by rw [hvv]; exact HG.out
      obtain ⟨wg, hwg⟩ : ∃ x, x = wr := ⟨_, rfl⟩
      subst hwg
      have BG := BQ
      clear hvv hv BQ
      go_wp2_with fail
      clear hmk
      go_loopw [24] (fun iv wr => ∃ (i : Nat) (vs : List Value), i ≤ j ∧ iv = .int .i64 (i : Int) ∧ Coll wr vs (redL ns) i L (wg.heap.size + 1) ∧ Row wr wg.heap.size 50 (vs ++ List.replicate (j - i) (.slice none 0 0)) ∧ Below wg.heap.size wg wr) (fun iv _ => j - (intOf iv).toNat)
      case atStart => exact ⟨0, [], by omega, rfl, Coll.zero _ _ _ _, by rw [List.nil_append]; exact Row.newz _ _ _ _, (Below.refl _ _).alloc (Nat.le_refl _) _⟩
      case round =>
        obtain ⟨i, vs, hi, rfl, hco, hrow, B2⟩ := hrel
        have BQ := BG.trans (B2.mono BG.size)
        by_cases hlt : i < j
        · obtain ⟨b, o, u, rfl, hbl, hcell, hu⟩ := lst_at (R := fun w u x => NatAny w u x L) (d := 0) (xs := ns) hws HWU.out hlt
          obtain ⟨lk, hlim, hval, hlen⟩ := hu.below BQ
          have HVL := Lib.hid hval
          clear hval
          have g2 := (BQ.cell (p := ⟨b, o + i, none⟩) hbl).trans hcell
          clear hcell hu
          obtain ⟨⟨UA, uc, rfl, _, _, _⟩, _⟩ := id hlim
          have zr := hrow.lt
          go_wp2_with fail
          refine (divmod_all _ _ lk lv _ hlim (hlv.below B2) (by omega) (by omega) hdpos).mono ?_
          rintro e w6 ⟨q6, r6, rfl, ⟨hq6, hfq⟩, _, h6⟩
          have hrow2 := hrow.keep h6
          have hc0 : w6.cell? ⟨wg.heap.size, i, none⟩ = some (.slice none 0 0) := by rw [hrow2.cell, padv_get _ _ _ _ hco.1 hlt]
          have hf0 : w6.frozen? ⟨wg.heap.size, i, none⟩ = false := hrow2.frozen i
          have hnat : NatAt w6 q6 ((redL ns).getD i 0) L := by
            obtain ⟨l6, a1, a2, a3, a4⟩ := hq6
            exact ⟨l6, a1, a2, by rw [a3, redL_get, HVL.out, HVV.out], by omega⟩
          obtain ⟨l6, hl6, _, _, _⟩ := id hq6
          obtain ⟨⟨A6, c6, rfl, _, _, _⟩, _⟩ := id hl6
          go_wp2_with fail
          go_roundw
          case rel =>
            refine ⟨i + 1, vs ++ [.slice A6 l6.length c6], by omega, by go_num, ?_, ?_, (B2.trans (h6.mono B2.size)).setCell (Nat.le_refl _) _⟩
            · exact ((hco.below h6).snoc hnat (hfq.mono zr)).set_ (p := ⟨wg.heap.size, i, none⟩) (by simp) _
            · rw [← padv_set _ _ _ _ _ hco.1 hlt]
              exact hrow2.set_ i _
          case measure => simp [intOf]; omega
        · obtain rfl : i = j := by omega
          go_wp2_with fail
          go_ret
          refine ⟨.slice (some ⟨wg.heap.size, 0, none⟩) i i, rfl, ?_, BQ⟩
          have hl : (redL ns).length = i := by rw [redL_len, HN.out]
          have hrow' : Row wr wg.heap.size 50 vs := by simpa using hrow
          rw [← hl] at hco
          have := hco.can_row hrow' (by rw [hl]; unfold maxLen; omega)
          rwa [hl] at this

end Go.Proofs.YtoihjclkocffhaaDoor
