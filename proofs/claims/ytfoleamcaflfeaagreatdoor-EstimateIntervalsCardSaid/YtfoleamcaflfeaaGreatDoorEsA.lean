/- Plain: sums of weights, the checks of weights, the index of the greatest. Walks of estimate.sum, check, Mode. -/
import Derived.Test.YtfoleamcaflfeaaGreatDoorPoP
import Derived.Test.YtfoleamcaflfeaaGreatDoorBx
import Derived.Test.YtfoleamcaflfeaaGreatDoorNatC
import Derived.Deep.RegionLaw
import Derived.Test.YtfoleamcaflfeaaGreatDoorRatQ
namespace Go.Proofs.YtfoleamcaflfeaaGreatDoor
open Go.RowKit
set_option linter.unusedVariables false

/-- The sum of the weights with the indexes from lo up to hi. -/
def sumR (ns : List Nat) (lo hi : Nat) : Nat := ((ns.take hi).drop lo).sum
theorem sumR_start (ns : List Nat) {lo hi : Nat} (h : hi ≤ lo) : sumR ns lo hi = 0 := by
  unfold sumR
  rw [List.drop_of_length_le (by rw [List.length_take]; omega)]
  rfl
theorem sumR_succ (ns : List Nat) {lo j : Nat} (h1 : lo ≤ j) (h2 : j < ns.length) : sumR ns lo (j + 1) = sumR ns lo j + ns.getD j 0 := by
  unfold sumR
  rw [List.take_succ_eq_append_getElem h2, List.drop_append_of_le_length (by rw [List.length_take]; omega), List.sum_append, List.getD_eq_getElem?_getD, List.getElem?_eq_getElem h2]
  simp
theorem sumR_all (ns : List Nat) : sumR ns 0 ns.length = ns.sum := by unfold sumR; rw [List.take_length]; rfl
theorem sum_succ (ns : List Nat) {j : Nat} (h : j < ns.length) : (ns.take (j + 1)).sum = (ns.take j).sum + ns.getD j 0 := by
  rw [List.take_succ_eq_append_getElem h, List.sum_append, List.getD_eq_getElem?_getD, List.getElem?_eq_getElem h]
  simp
/-- The first rule that weights violate. -/
def chkS (ns : List Nat) : Int := if 21 < ns.length then 5 else if ns.sum = 0 then 20 else 0
theorem chkS_zero {ns : List Nat} (h : chkS ns = 0) : ns.length ≤ 21 ∧ 0 < ns.sum := by
  unfold chkS at h
  split at h
  · omega
  · split at h
    · omega
    · omega
/-- The index of the greatest of the first weights, the lowest of several. -/
def bestI (ns : List Nat) : Nat → Nat
  | 0 => 0
  | j + 1 => if ns.getD (bestI ns j) 0 < ns.getD j 0 then j else bestI ns j
theorem bestI_lt (ns : List Nat) : ∀ j, 0 < j → bestI ns j < j
  | 0, h => by omega
  | j + 1, _ => by
    unfold bestI
    split
    · omega
    · rcases Nat.eq_zero_or_pos j with h | h
      · subst h; show 0 < 1; omega
      · have := bestI_lt ns j h; omega
theorem bestI_le (ns : List Nat) (j : Nat) : bestI ns j ≤ j := by
  rcases Nat.eq_zero_or_pos j with h | h
  · subst h; exact Nat.le_refl _
  · exact Nat.le_of_lt (bestI_lt ns j h)
theorem bestI_max (ns : List Nat) : ∀ j i, i < j → ns.getD i 0 ≤ ns.getD (bestI ns j) 0
  | 0, i, h => by omega
  | j + 1, i, h => by
    unfold bestI
    split
    · rename_i hc
      rcases Nat.lt_or_ge i j with h1 | h1
      · have := bestI_max ns j i h1; omega
      · obtain rfl : i = j := by omega
        exact Nat.le_refl _
    · rename_i hc
      rcases Nat.lt_or_ge i j with h1 | h1
      · exact bestI_max ns j i h1
      · obtain rfl : i = j := by omega
        omega
/-- The index that Mode returns. -/
def modeV (ns : List Nat) : Nat := if chkS ns = 0 then bestI ns ns.length else 0
theorem pos_gt (a b : Nat) : decide (0 < cmpN a b) = decide (b < a) := by
  unfold cmpN
  by_cases h1 : a < b
  · rw [if_pos h1]; have : ¬ b < a := by omega
    simp [this]
  · rw [if_neg h1]
    by_cases h2 : b < a
    · rw [if_pos h2]; simp [h2]
    · rw [if_neg h2]; simp [h2]
theorem keep2n {W w' : World} {p1 p2 : Addr} {x1 x2 : Value} (h1 : W.cell? p1 = some x1) (h2 : W.cell? p2 = some x2) (l1 : p1.block < W.heap.size) (l2 : p2.block < W.heap.size) (hb : Below W.heap.size W w') :
    w'.cell? p1 = some x1 ∧ w'.cell? p2 = some x2 := ⟨(hb.cell l1).trans h1, (hb.cell l2).trans h2⟩
set_option maxHeartbeats 2000000 in
theorem esum_any (wv : Value) (ns : List Nat) (L : Nat) (w : World) (hw : Wts w wv ns L) (hL : L ≤ 35184372088800) (h21 : ns.length ≤ 21) :
    Calls Tryz.prog 29 #[wv] w fun e w' => ∃ v, e = .returned v ∧ NatAt w' v ns.sum (L + ns.length) ∧ Below w.heap.size w w' := by
  obtain ⟨WA, wc, us, rfl, hwc, hwm, hws, hwu⟩ := hw
  have HWU := Lib.hid hwu
  unfold maxLen at hwm
  clear hwu
  obtain ⟨n, hn⟩ : ∃ n, ns.length = n := ⟨_, rfl⟩
  have HN := Lib.hid hn
  rw [hn] at hws hwc h21 ⊢
  clear hn
  go_enter Tryz.func29, Tryz.ntmps29
  go_wp2_with fail
  go_loopw [3, 8] (fun v iv wr => ∃ (j : Nat), j ≤ n ∧ iv = .int .i64 (j : Int) ∧ NatAt wr v (ns.take j).sum (L + j) ∧ Below w.heap.size w wr) (fun _ iv _ => n - (intOf iv).toNat)
  case atStart => exact ⟨0, by omega, rfl, natAt_nilD _ _, Below.refl _ _⟩
  case round =>
    obtain ⟨j, hj, rfl, hv, BQ⟩ := hrel
    obtain ⟨lv, hlv, ntv, hvv, hkv⟩ := id hv
    obtain ⟨⟨VA, vc, rfl, _, _, _⟩, _⟩ := id hlv
    by_cases hlt : j < n
    · obtain ⟨b, o, u, rfl, hbl, hcell, hu⟩ := lst_at (R := fun w u x => NatAny w u x L) (d := 0) (xs := ns) hws HWU.out hlt
      obtain ⟨lk, hlim, hval, hlen⟩ := hu.below BQ
      have HVL := Lib.hid hval
      clear hval
      have g2 := (BQ.cell (p := ⟨b, o + j, none⟩) hbl).trans hcell
      clear hcell hu
      have hjI : (j : Int) < (n : Int) := by omega
      have HSUM := Lib.hid (sum_succ ns (j := j) (by rw [HN.out]; exact hlt))
      obtain ⟨⟨UA, uc, rfl, _, _, _⟩, _⟩ := id hlim
      go_wp2_with fail
      refine (add_wide _ _ lv lk _ hlv hlim (by omega) (by omega)).mono ?_
      rintro e w6 ⟨v6, rfl, l6, hl6, nt6, hv6, hk6, hf6, h6⟩
      obtain ⟨⟨A6, c6, rfl, _, _, _⟩, _⟩ := id hl6
      go_wp2_with fail
      go_roundw
      case rel => exact ⟨j + 1, by omega, by go_num, ⟨l6, hl6, nt6, by rw [hv6, hvv, HVL.out, HSUM.out], by omega⟩, BQ.trans (h6.mono BQ.size)⟩
      case measure => simp [intOf]; omega
    · obtain rfl : j = n := by omega
      go_wp2_with fail
      go_ret
      refine ⟨_, rfl, ?_, BQ⟩
      rw [List.take_of_length_le (by rw [HN.out]; exact Nat.le_refl _)] at hv
      exact hv
theorem echeck_any (wv : Value) (ns : List Nat) (L : Nat) (w : World) (hw : Wts w wv ns L) (hL : L ≤ 35184372088800) :
    Calls Tryz.prog 9 #[wv] w fun e w' => e = .returned (.int .i64 (chkS ns)) ∧ Below w.heap.size w w' := by
  have HZ := Lib.hid (esum_any wv ns L w hw hL)
  obtain ⟨WA, wc, us, rfl, hwc, hwm, hws, hwu⟩ := hw
  unfold maxLen at hwm
  clear hwu hws
  unfold chkS
  by_cases h : 21 < ns.length
  · have t1 : decide (21 < (ns.length : Int)) = true := decide_eq_true (by omega)
    rw [if_pos h]
    go_enter Tryz.func9, Tryz.ntmps9
    go_wp2_with fail
    go_ret
    exact ⟨rfl, Below.refl _ _⟩
  · have t1 : decide (21 < (ns.length : Int)) = false := decide_eq_false (by omega)
    rw [if_neg h]
    by_cases hz : ns.sum = 0
    · rw [if_pos hz]
      go_enter Tryz.func9, Tryz.ntmps9
      go_wp2_with fail
      refine (HZ.out (by omega)).mono ?_
      rintro e w1 ⟨v, rfl, ⟨lv, hlv, ntv, hvv, hkv⟩, hb⟩
      obtain ⟨⟨VA, vc, rfl, _, _, _⟩, _⟩ := id hlv
      go_wp2_with fail
      refine (bits_any _ lv _ hlv (by omega)).mono ?_
      rintro e w6 ⟨b6, rfl, rfl, hb1, hb2⟩
      obtain rfl := hb1 (hvv.trans hz)
      clear hb1 hb2
      go_wp2_with fail
      go_ret
      exact ⟨rfl, hb⟩
    · rw [if_neg hz]
      go_enter Tryz.func9, Tryz.ntmps9
      go_wp2_with fail
      refine (HZ.out (by omega)).mono ?_
      rintro e w1 ⟨v, rfl, ⟨lv, hlv, ntv, hvv, hkv⟩, hb⟩
      obtain ⟨⟨VA, vc, rfl, _, _, _⟩, _⟩ := id hlv
      go_wp2_with fail
      refine (bits_any _ lv _ hlv (by omega)).mono ?_
      rintro e w6 ⟨b6, rfl, rfl, hb1, hb2⟩
      have hb3 := (hb2 (by rw [hvv]; omega)).1
      have t2 : ((b6 : Int) == 0) = false := by simp; omega
      have t3 : decide ((b6 : Int) = 0) = false := decide_eq_false (by omega)
      clear hb1 hb2
      go_wp2_with fail
      go_ret
      exact ⟨rfl, hb⟩
set_option maxHeartbeats 4000000 in
theorem emode_any (wv : Value) (ns : List Nat) (L : Nat) (w : World) (hw : Wts w wv ns L) (hL : L ≤ 35184372088800) :
    Calls Tryz.prog 25 #[wv] w fun e w' => e = .returned (.tuple #[.int .i64 (modeV ns : Int), .int .i64 (chkS ns)]) ∧ Below w.heap.size w w' := by
  have HC := Lib.hid (echeck_any wv ns L w hw hL)
  obtain ⟨WA, wc, us, rfl, hwc, hwm, hws, hwu⟩ := hw
  have HWU := Lib.hid hwu
  unfold maxLen at hwm
  clear hwu
  unfold modeV
  by_cases hE : chkS ns = 0
  · have h21 := (chkS_zero hE).1
    rw [hE] at HC ⊢
    rw [if_pos rfl]
    obtain ⟨n, hn⟩ : ∃ n, ns.length = n := ⟨_, rfl⟩
    have HN := Lib.hid hn
    rw [hn] at hws hwc h21 HC ⊢
    clear hn hE
    go_enter Tryz.func25, Tryz.ntmps25
    go_wp2_with fail
    refine HC.out.mono ?_
    rintro e w1 ⟨rfl, BB⟩
    clear HC
    replace hws := hws.below BB
    replace HWU : Hid (∀ i u, us[i]? = some u → NatAny w1 u (ns.getD i 0) L) := fun i u h => (HWU.out i u h).below BB
    go_wp2_with fail
    go_loopw [5, 14] (fun b iv wr => ∃ (j : Nat), j ≤ n ∧ iv = .int .i64 (j : Int) ∧ b = .int .i64 (bestI ns j : Int) ∧ Below w1.heap.size w1 wr) (fun _ iv _ => n - (intOf iv).toNat)
    case atStart => exact ⟨0, by omega, rfl, rfl, Below.refl _ _⟩
    case round =>
      obtain ⟨j, hj, rfl, rfl, BQ⟩ := hrel
      by_cases hlt : j < n
      · have hbl := bestI_le ns j
        have HST : Hid (bestI ns (j + 1) = if ns.getD (bestI ns j) 0 < ns.getD j 0 then j else bestI ns j) := rfl
        generalize bestI ns j = i at *
        have hli : i < n := by omega
        obtain ⟨b, o, u, hA, hbk, hcell, hu⟩ := lst_at (R := fun w u x => NatAny w u x L) (d := 0) (xs := ns) hws HWU.out hlt
        obtain ⟨b', o', u', hA', hbk', hcell', hu'⟩ := lst_at (R := fun w u x => NatAny w u x L) (d := 0) (xs := ns) hws HWU.out hli
        subst hA
        obtain ⟨rfl, rfl⟩ : b = b' ∧ o = o' := by injection hA' with h; injection h with h1 h2 h3; exact ⟨h1, h2⟩
        clear hA'
        obtain ⟨lk, hlim, hval, hlen⟩ := hu.below BQ
        obtain ⟨lx, hlim', hval', hlen'⟩ := hu'.below BQ
        obtain ⟨⟨UA, uc, rfl, _, _, _⟩, _⟩ := id hlim
        obtain ⟨⟨XA, xc, rfl, _, _, _⟩, _⟩ := id hlim'
        have g1 := (BQ.cell (p := ⟨b, o + j, none⟩) hbk).trans hcell
        have g2 := (BQ.cell (p := ⟨b, o + i, none⟩) hbk).trans hcell'
        have zb : b < wr.heap.size := Nat.lt_of_lt_of_le hbk BQ.size
        clear hcell hcell' hu hu' hbk hbk'
        have hjI : (j : Int) < (n : Int) := by omega
        have hiI : (i : Int) < (n : Int) := by omega
        rw [← hval, ← hval'] at HST
        clear hval hval'
        have t1 : decide (0 < cmpN (val lk) (val lx)) = decide (val lx < val lk) := pos_gt _ _
        have HK := Lib.hid hlim
        have HX := Lib.hid hlim'
        clear hlim hlim'
        go_wp2_with fail
        go_region_law (first | (go_simp; go_at_call 13; ((with_reducible refine (cmp_any _ _ lk lx _ (HK.out.below ?_) (HX.out.below ?_)).mono ?_); (repeat (first | with_reducible exact Below.refl _ _ | with_reducible fail | with_reducible refine below_drewN ?_ _ | with_reducible refine bl_alloc ?_ _ | with_reducible refine bl_drew ?_)); (repeat (first | with_reducible exact Below.refl _ _ | with_reducible fail | with_reducible refine below_drewN ?_ _ | with_reducible refine bl_alloc ?_ _ | with_reducible refine bl_drew ?_)); rintro e w5 ⟨rfl, d5, rfl⟩)))
        all_goals
          by_cases hgt : val lx < val lk
          · have t2 : decide (val lx < val lk) = true := decide_eq_true hgt
            rw [if_pos hgt] at HST
            go_wp2_with fail
            go_roundw
            case rel => exact ⟨j + 1, by omega, by go_num, by rw [HST.out], by first | exact below_drewN BQ _ | exact below_drew BQ | exact BQ⟩
            case measure => simp [intOf]; omega
          · have t2 : decide (val lx < val lk) = false := decide_eq_false hgt
            rw [if_neg hgt] at HST
            go_wp2_with fail
            go_roundw
            case rel => exact ⟨j + 1, by omega, by go_num, by rw [HST.out], by first | exact below_drewN BQ _ | exact below_drew BQ | exact BQ⟩
            case measure => simp [intOf]; omega
      · obtain rfl : j = n := by omega
        go_wp2_with fail
        go_ret2
        exact ⟨rfl, BB.trans (BQ.mono BB.size)⟩
  · rw [if_neg hE]
    have t1 : ((chkS ns) != 0) = true := by simpa using hE
    generalize chkS ns = E at *
    go_enter Tryz.func25, Tryz.ntmps25
    go_wp2_with fail
    refine HC.out.mono ?_
    rintro e w1 ⟨rfl, BB⟩
    go_wp2_with fail
    go_ret2
    exact ⟨rfl, BB⟩
end Go.Proofs.YtfoleamcaflfeaaGreatDoor
