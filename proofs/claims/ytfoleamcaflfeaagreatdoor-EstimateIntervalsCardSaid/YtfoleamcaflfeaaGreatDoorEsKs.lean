/- The walks of the reference's sum and checked (package examboardref27). -/
import Derived.Test.YtfoleamcaflfeaaGreatDoorEsA
import Derived.Test.YtfoleamcaflfeaaGreatDoorRefB
import Derived.Deep.CutRange
import Derived.Deep.DeepCutAuto
import Derived.Deep.Light
namespace Go.Proofs.YtfoleamcaflfeaaGreatDoor
open Go.RowKit
set_option linter.unusedVariables false

set_option maxHeartbeats 2000000 in
theorem rsum_any (wv : Value) (ns : List Nat) (L lo hi : Nat) (w : World) (hw : Wts w wv ns L) (hL : L ≤ 35184372088800) (h21 : ns.length ≤ 21) (h1 : lo ≤ hi) (h2 : hi ≤ ns.length) :
    Calls Tryz.prog 19 #[wv, .int .i64 (lo : Int), .int .i64 ((hi : Int) - 1)] w fun e w' => ∃ v, e = .returned v ∧ NatAt w' v (sumR ns lo hi) (L + ns.length + 2) ∧ Below w.heap.size w w' := by
  obtain ⟨WA, wc, us, rfl, hwc, hwm, hws, hwu⟩ := hw
  have HWU := Lib.hid hwu
  unfold maxLen at hwm
  clear hwu
  obtain ⟨n, hn⟩ : ∃ n, ns.length = n := ⟨_, rfl⟩
  have HN := Lib.hid hn
  rw [hn] at hws hwc h21 h2 ⊢
  clear hn
  go_enter Tryz.func19, Tryz.ntmps19
  go_wp2_with fail
  refine (rof_any 0 _ (by omega)).mono ?_
  rintro e w1 ⟨v, rfl, l0, hl0, nt0, hv0, hk0, hf0, BB⟩
  obtain ⟨⟨A0, c0, rfl, _, _, _⟩, _⟩ := id hl0
  replace hws := hws.below BB
  replace HWU : Hid (∀ i u, us[i]? = some u → NatAny w1 u (ns.getD i 0) L) := fun i u h => (HWU.out i u h).below BB
  go_wp2_with fail
  go_loopw [7, 8] (fun v iv wr => ∃ (j : Nat), lo ≤ j ∧ j ≤ hi ∧ iv = .int .i64 (j : Int) ∧ NatAt wr v (sumR ns lo j) (L + j + 2) ∧ Below w1.heap.size w1 wr) (fun _ iv _ => hi - (intOf iv).toNat)
  case atStart => exact ⟨lo, Nat.le_refl _, h1, rfl, ⟨l0, hl0, nt0, by rw [hv0, sumR_start _ (Nat.le_refl _)], by omega⟩, Below.refl _ _⟩
  case round =>
    obtain ⟨j, hj0, hj, rfl, hv, BQ⟩ := hrel
    obtain ⟨lv, hlv, ntv, hvv, hkv⟩ := id hv
    obtain ⟨⟨VA, vc, rfl, _, _, _⟩, _⟩ := id hlv
    by_cases hlh : j < hi
    · have hlt : j < n := by omega
      obtain ⟨b, o, u, rfl, hbl, hcell, hu⟩ := lst_at (R := fun w u x => NatAny w u x L) (d := 0) (xs := ns) hws HWU.out hlt
      obtain ⟨lk, hlim, hval, hlen⟩ := hu.below BQ
      have HVL := Lib.hid hval
      clear hval
      have g2 := (BQ.cell (p := ⟨b, o + j, none⟩) hbl).trans hcell
      clear hcell hu
      have hjI : (j : Int) < (n : Int) := by omega
      have hjH : (j : Int) ≤ (hi : Int) - 1 := by omega
      have HSUM := Lib.hid (sumR_succ ns hj0 (by rw [HN.out]; exact hlt))
      obtain ⟨⟨UA, uc, rfl, _, _, _⟩, _⟩ := id hlim
      go_wp2_with fail
      refine (radd_wide _ _ lv lk _ hlv hlim (by omega) (by omega)).mono ?_
      rintro e w6 ⟨v6, rfl, l6, hl6, nt6, hv6, hk6, hf6, h6⟩
      obtain ⟨⟨A6, c6, rfl, _, _, _⟩, _⟩ := id hl6
      go_wp2_with fail
      go_roundw
      case rel => exact ⟨j + 1, by omega, by omega, by go_num, ⟨l6, hl6, nt6, by rw [hv6, hvv, HVL.out, HSUM.out], by omega⟩, BQ.trans (h6.mono BQ.size)⟩
      case measure => simp [intOf]; omega
    · obtain rfl : j = hi := by omega
      have hjH : ¬ (j : Int) ≤ (j : Int) - 1 := by omega
      go_wp2_with fail
      go_ret
      obtain ⟨l9, a1, a2, a3, a4⟩ := hv
      exact ⟨_, rfl, ⟨l9, a1, a2, a3, by omega⟩, BB.trans (BQ.mono BB.size)⟩
theorem rchecked_any (wv : Value) (ns : List Nat) (L : Nat) (w : World) (hw : Wts w wv ns L) (hL : L ≤ 35184372088800) :
    Calls Tryz.prog 15 #[wv] w fun e w' => e = .returned (.int .i64 (chkS ns)) ∧ Below w.heap.size w w' := by
  have HZ := Lib.hid (fun h => rsum_any wv ns L 0 ns.length w hw hL h (Nat.zero_le _) (Nat.le_refl _))
  rw [sumR_all] at HZ
  obtain ⟨WA, wc, us, rfl, hwc, hwm, hws, hwu⟩ := hw
  unfold maxLen at hwm
  clear hwu hws
  unfold chkS
  by_cases h : 21 < ns.length
  · have t1 : decide (21 < (ns.length : Int)) = true := decide_eq_true (by omega)
    rw [if_pos h]
    go_enter Tryz.func15, Tryz.ntmps15
    go_wp2_with fail
    go_ret
    exact ⟨rfl, Below.refl _ _⟩
  · have t1 : decide (21 < (ns.length : Int)) = false := decide_eq_false (by omega)
    rw [if_neg h]
    by_cases hz : ns.sum = 0
    · rw [if_pos hz]
      go_enter Tryz.func15, Tryz.ntmps15
      go_wp2_with fail
      refine (HZ.out (by omega)).mono ?_
      rintro e w1 ⟨v, rfl, ⟨lv, hlv, ntv, hvv, hkv⟩, hb⟩
      obtain ⟨⟨VA, vc, rfl, hvl, hvm, _⟩, _⟩ := id hlv
      unfold maxLen at hvm
      obtain rfl := ntv.zero (hvv.trans hz)
      go_wp2_with fail
      go_ret
      exact ⟨rfl, hb⟩
    · rw [if_neg hz]
      go_enter Tryz.func15, Tryz.ntmps15
      go_wp2_with fail
      refine (HZ.out (by omega)).mono ?_
      rintro e w1 ⟨v, rfl, ⟨lv, hlv, ntv, hvv, hkv⟩, hb⟩
      obtain ⟨⟨VA, vc, rfl, hvl, hvm, _⟩, _⟩ := id hlv
      unfold maxLen at hvm
      have hb3 : 0 < lv.length := by
        rcases lv with _ | ⟨x, lv⟩
        · exact absurd hvv.symm hz
        · simp
      have t2 : ((lv.length : Int) == 0) = false := by rw [beq_eq_false_iff_ne]; omega
      have t3 : decide ((lv.length : Int) = 0) = false := decide_eq_false (by omega)
      go_wp2_with fail
      go_ret
      exact ⟨rfl, hb⟩
end Go.Proofs.YtfoleamcaflfeaaGreatDoor
