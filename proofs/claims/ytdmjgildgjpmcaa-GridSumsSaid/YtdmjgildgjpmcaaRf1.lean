/- The walks of the reference's Bits, Sub, short, Shift, half (package examboardref01). -/
import Derived.Test.YtdmjgildgjpmcaaRefA
import Derived.Test.YtdmjgildgjpmcaaRfP
import Derived.Deep.RegionHeld3
namespace Go.Proofs.Ytdmjgildgjpmcaa
open Go.RowKit
set_option linter.unusedVariables false

theorem noTop_get {l : List Nat} {j : Nat} (h : NoTop l) (hl : l.length = j + 1) : 0 < l.getD j 0 := by
  rcases h with h | ⟨m, x, rfl, hx⟩
  · subst h; simp at hl
  · have : j = m.length := by simp at hl; omega
    subst this
    simp [List.getD_eq_getElem?_getD]
    exact hx
theorem bitL_limb {t : Nat} (h : t < 4294967296) : bitL t ≤ 32 := by
  have := bitL_le (l := [t]) (AllB.cons h AllB.nil)
  simpa [val] using this

set_option maxHeartbeats 2000000 in
theorem rbits_any (v : Value) (ls : List Nat) (w : World) (h : Lim w v ls) (hl : ls.length ≤ 35184372088832) :
    Calls Try.prog 54 #[v] w fun e w' => e = .returned (.int .i64 ((bitL (val ls) : Nat) : Int)) ∧ Below w.heap.size w w' := by
  have h0 := h
  obtain ⟨⟨A0, c0, rfl, _, _, _⟩, _⟩ := h0
  go_enter Try.func54, Try.ntmps54
  go_wp2_with fail
  refine (rnorm_any _ ls _ h hl).mono ?_
  rintro e w1 ⟨v1, rfl, l1, ⟨⟨A, c, rfl, hc, hm, hs⟩, hall⟩, nt, hv, hk, hf, hb⟩
  obtain ⟨n, hn⟩ : ∃ n, l1.length = n := ⟨_, rfl⟩
  rw [hn] at hs hc hk ⊢
  unfold maxLen at hm
  have HV := Lib.hid hv
  clear hv hf h
  rcases Nat.eq_zero_or_pos n with hz | hz
  · have HZ : Hid (bitL (val ls) = 0) := by
      unfold Hid
      rw [bitL_iff, ← HV.out, List.eq_nil_of_length_eq_zero (hn.trans hz)]
      rfl
    subst hz
    clear hn
    go_wp2_with fail
    go_ret
    exact ⟨by rw [HZ.out]; rfl, hb⟩
  · obtain ⟨j, hj⟩ : ∃ j, n = j + 1 := ⟨n - 1, by omega⟩
    have ht := noTop_get nt (hn.trans hj)
    have HB := Lib.hid (bitL_list (hn.trans hj) hall ht)
    obtain ⟨b, o, rfl, hbl, hcell⟩ := hs.lim (show j < n by omega)
    have g1 := hcell j (by omega)
    have hx := hall.getD j
    clear hcell hs nt hn
    rw [HV.out] at HB
    generalize l1.getD j 0 = t at *
    have ej : (n : Int) - 1 = (j : Int) := by omega
    have t0 : ((n : Int) == 0) = false := by rw [beq_eq_false_iff_ne]; omega
    have t00 : (n == 0) = false := by rw [beq_eq_false_iff_ne]; omega
    have h32 := bitL_limb hx
    have hj2 : j ≤ 35184372088832 := by omega
    have HJ := Lib.hid hj
    clear hj
    go_wp2_with fail
    go_loop [3, 4] (fun nv xv => ∃ k x : Nat, nv = .int .i64 (32 * (j : Int) + (k : Int)) ∧ xv = .int .u32 (x : Int) ∧ x < 4294967296 ∧ k ≤ 32 ∧ Hid (k + bitL x = bitL t)) (fun _ xv => (intOf xv).toNat)
    case atStart => exact ⟨0, t, by simp, rfl, hx, by omega, by unfold Hid; omega⟩
    case round =>
      obtain ⟨k, x, rfl, rfl, hx1, hk1, HK⟩ := hrel
      rcases Nat.eq_zero_or_pos x with hx0 | hx0
      · have HE : Hid (32 * (j : Int) + (k : Int) = ((bitL (val ls) : Nat) : Int)) := by
          unfold Hid
          have := HK.out
          rw [hx0, bitL_zero] at this
          rw [HB.out]; omega
        subst hx0
        go_wp2_with fail
        go_ret
        exact ⟨by rw [← HE.out]; rfl, hb⟩
      · have hp := bitL_pos hx0
        have hd2 : (x : Int) / 2 = ((x / 2 : Nat) : Int) := by omega
        have hk2 : k + 1 ≤ 32 := by have := HK.out; omega
        have HK2 : Hid (k + 1 + bitL (x / 2) = bitL t) := by unfold Hid; have := HK.out; omega
        have hx2 : x / 2 < 4294967296 := by omega
        have hlt : x / 2 < x := by omega
        clear hp
        generalize x / 2 = y at *
        go_wp2_with fail
        go_round
        case rel => exact ⟨k + 1, y, by first | go_num | (congr 1; omega), rfl, hx2, hk2, HK2⟩
        case measure => simp [intOf]; omega

set_option maxHeartbeats 1000000 in
theorem rsub_lt (v u : Value) (la lb : List Nat) (w : World) (ha : Lim w v la) (hb : Lim w u lb) (h1 : la.length ≤ 35184372088832) (h2 : lb.length ≤ 35184372088832) (hlt : val la < val lb) :
    Calls Try.prog 84 #[v, u] w fun e w' => e = .returned (.tuple #[.slice none 0 0, .bool false]) ∧ w = w' := by
  have HC := Lib.hid (cmpN_lt hlt)
  have ha0 := ha
  have hb0 := hb
  obtain ⟨⟨A, c, rfl, _, _, _⟩, _⟩ := ha0
  obtain ⟨⟨B, c', rfl, _, _, _⟩, _⟩ := hb0
  go_enter Try.func84, Try.ntmps84
  go_wp2_with fail
  refine (rcmp_any _ _ la lb _ ha hb h1 h2).mono ?_
  rintro e w1 ⟨rfl, rfl⟩
  rw [HC.out]
  go_wp2_with fail
  go_ret2
  exact ⟨rfl, rfl⟩
set_option maxHeartbeats 4000000 in
theorem rsub_ge (v u : Value) (a b : List Nat) (w : World) (ha : Lim w v a) (hb : Lim w u b) (h1 : a.length ≤ 35184372088832) (h2 : b.length ≤ 35184372088832) (hle : val b ≤ val a) :
    Calls Try.prog 84 #[v, u] w fun e w' => ∃ x, e = .returned (.tuple #[x, .bool true]) ∧ NRes w w' x (val a - val b) a.length := by
  have HCM := Lib.hid (fun (W : World) (h : Below w.heap.size w W) => rcmp_any v u a b W (ha.below h) (hb.below h) h1 h2)
  have hc0 : 0 ≤ cmpN (val a) (val b) := by unfold cmpN; rw [if_neg (by omega)]; split <;> omega
  obtain ⟨cm, hcm⟩ : ∃ x, cmpN (val a) (val b) = x := ⟨_, rfl⟩
  rw [hcm] at hc0 HCM
  have dc : decide (cm < 0) = false := decide_eq_false (by omega)
  obtain ⟨⟨A, c, rfl, hac, ham, hsa⟩, all1⟩ := ha
  obtain ⟨⟨B, c', rfl, hbc, hbm, hsb⟩, all2⟩ := hb
  obtain ⟨n, hn⟩ : ∃ n, a.length = n := ⟨_, rfl⟩
  obtain ⟨m, hm⟩ : ∃ n, b.length = n := ⟨_, rfl⟩
  have HN := Lib.hid hn
  rw [hn] at hsa hac h1 HCM ⊢
  rw [hm] at hsb hbc h2 HCM ⊢
  have HLE := Lib.hid hle
  clear hcm hle hn hm hac hbc ham hbm hc0
  have hmk := run_mkI (P := Try.prog) Try.underlying36 infoU32 rfl (n : Int) n (by omega) (by omega) (by omega)
  go_enter Try.func84, Try.ntmps84
  go_wp2_with fail
  refine (HCM.out _ (Below.refl _ _)).mono ?_
  rintro e w1 ⟨rfl, rfl⟩
  go_wp2_with fail
  clear hmk dc
  go_loopw [7, 8] (fun bv i wr => ∃ (k bw : Nat) (so : List Nat), k ≤ n ∧ i = .int .i64 (k : Int) ∧ bv = .int .u64 (bw : Int) ∧ bw ≤ 1 ∧ Hid (so.length = k) ∧ AllB so ∧ Hid (val so + val (b.take k) = val (a.take k) + bw * bp k) ∧ Row wr w.heap.size 56 (lims (so ++ List.replicate (n - k) 0)) ∧ Below w.heap.size w wr) (fun _ i _ => n - (intOf i).toNat)
  case atStart => exact ⟨0, 0, [], by omega, rfl, rfl, by omega, rfl, AllB.nil, by simp [Hid, val], by rw [List.nil_append, lims_zeros]; exact Row.newz _ _ _ _, (Below.refl _ _).alloc (Nat.le_refl _) _⟩
  case round =>
    obtain ⟨k, bw, so, hk, rfl, rfl, hbw, hso, hall, hval, hrow, hb⟩ := hrel
    have zl : w.heap.size < wr.heap.size := hrow.lt
    by_cases hlt : k < n
    · have hc0 : wr.cell? ⟨w.heap.size, k, none⟩ = some (.int .u32 0) := by
        rw [hrow.cell, lims_get _ (by simp [hso.out]; omega), pad_get _ _ _ hso.out (by omega)]; rfl
      have hf0 : wr.frozen? ⟨w.heap.size, k, none⟩ = false := hrow.frozen k
      have HX := Lib.hid (val_take_succ a k)
      have HY := Lib.hid (val_take_succ b k)
      have hx := all1.getD k
      have hy := all2.getD k
      generalize hxe : a.getD k 0 = xx at *
      generalize hye : b.getD k 0 = yy at *
      have HXE := Lib.hid hxe
      have HYE := Lib.hid hye
      clear hxe hye
      have wy : (yy : Int) + (bw : Int) = ((yy + bw : Nat) : Int) := by omega
      have HYB : Hid (yy + bw < 4294967297) := by unfold Hid; omega
      by_cases hxy : xx < yy + bw
      · obtain ⟨d, hd⟩ : ∃ d, xx + 4294967296 = d + yy + bw := ⟨xx + 4294967296 - (yy + bw), by omega⟩
        have hdl : d < 4294967296 := by omega
        have HS := Lib.hid (sub_stepR (d := d) (y := yy) (x := xx) (bw' := 1) hval.out (by omega))
        have ed : (xx : Int) + 4294967296 - ((yy + bw : Nat) : Int) = (d : Int) := by omega
        have em : (d : Int) % 4294967296 = (d : Int) := by omega
        have hyI : ((yy + bw : Nat) : Int) < 4294967297 := by omega
        have hxyI : (xx : Int) < ((yy + bw : Nat) : Int) := by omega
        clear hd
        generalize yy + bw = yb at *
        go_wp2_with fail
        refine (rlimb_at A n c a k _ _ (hsa.below hb) all1 (by omega) HXE.out).mono ?_
        rintro e w' ⟨rfl, rfl⟩
        go_wp2_with fail
        refine (rlimb_at B m c' b k _ _ (hsb.below hb) all2 (by omega) HYE.out).mono ?_
        rintro e w' ⟨rfl, rfl⟩
        go_wp2_with fail
        go_roundw
        case rel =>
          refine ⟨k + 1, 1, so ++ [d], by omega, by go_num, rfl, by omega, by unfold Hid; rw [List.length_append, hso.out]; rfl, hall.snoc hdl, ?_, ?_, hb.setCell (Nat.le_refl _) _⟩
          · unfold Hid
            rw [val_snoc, hso.out, HX.out, HY.out, bp_succ]
            exact HS.out
          · rw [← pad_set _ _ _ _ hso.out (by omega), ← lims_set]
            exact hrow.set_ k _
        case measure => simp [intOf]; omega
      · obtain ⟨d, hd⟩ : ∃ d, xx = d + yy + bw := ⟨xx - (yy + bw), by omega⟩
        have hdl : d < 4294967296 := by omega
        have HS := Lib.hid (sub_stepR (d := d) (y := yy) (x := xx) (bw' := 0) hval.out (by omega))
        have ed : (xx : Int) - ((yy + bw : Nat) : Int) = (d : Int) := by omega
        have em : (d : Int) % 4294967296 = (d : Int) := by omega
        have hyI : ((yy + bw : Nat) : Int) < 4294967297 := by omega
        have hxyI : ¬ (xx : Int) < ((yy + bw : Nat) : Int) := by omega
        have HD := Lib.hid hd
        clear hd
        generalize yy + bw = yb at *
        go_wp2_with fail
        refine (rlimb_at A n c a k _ _ (hsa.below hb) all1 (by omega) HXE.out).mono ?_
        rintro e w' ⟨rfl, rfl⟩
        go_wp2_with fail
        refine (rlimb_at B m c' b k _ _ (hsb.below hb) all2 (by omega) HYE.out).mono ?_
        rintro e w' ⟨rfl, rfl⟩
        go_wp2_with fail
        go_roundw
        case rel =>
          refine ⟨k + 1, 0, so ++ [d], by omega, by go_num, rfl, by omega, by unfold Hid; rw [List.length_append, hso.out]; rfl, hall.snoc hdl, ?_, ?_, hb.setCell (Nat.le_refl _) _⟩
          · unfold Hid
            rw [val_snoc, hso.out, HX.out, HY.out, bp_succ]
            have := HS.out
            omega
          · rw [← pad_set _ _ _ _ hso.out (by omega), ← lims_set]
            exact hrow.set_ k _
        case measure => simp [intOf]; omega
    · obtain rfl : n = k := by omega
      have hrow' : Row wr w.heap.size 56 (lims so) := by simpa using hrow
      have hsl := hrow'.sl
      rw [lims_len, hso.out] at hsl
      have HV : Hid (val so = val a - val b) := by
        have e := hval.out
        rw [val_take_all a (by rw [HN.out]; exact Nat.le_refl _)] at e
        have h3 := val_lt hall
        rw [hso.out] at h3
        exact sub_end HN.out all1 all2 h3 hbw e HLE.out
      go_wp2_with fail
      refine (rnorm_core _ n n so _ hsl (by omega) (by omega) (by omega) hall).mono ?_
      rintro e w1 ⟨v, rfl, ls, h1, h2, h3, h4, h5, h6⟩
      go_wp2_with fail
      go_ret2
      exact ⟨v, rfl, ls, h1, h2, by rw [h3, HV.out], h4, h5.mono (by omega), hb.trans (h6.mono hb.size)⟩
end Go.Proofs.Ytdmjgildgjpmcaa
