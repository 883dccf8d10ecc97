/- The reference of layer 26: Start, Update, Norm, Equal. -/
import Derived.Test.YtoihjclkocffhaaDoorPoP
import Derived.Test.YtoihjclkocffhaaDoorBx
import Derived.Test.YtoihjclkocffhaaDoorRefB
import Derived.Test.YtoihjclkocffhaaDoorPrg
import Derived.Deep.RegionLaw
import Derived.Deep.AppendLies
namespace Go.Proofs.YtoihjclkocffhaaDoor
open Go.RowKit
set_option linter.unusedVariables false

theorem CanL.mono {w : World} {v : Value} {ns : List Nat} {L M : Nat} (h : CanL w v ns L) (hL : L ≤ M) : CanL w v ns M := by
  obtain ⟨A, c, us, hv, h1, h2, hs, hu⟩ := h
  exact ⟨A, c, us, hv, h1, h2, hs, fun i u hi => by obtain ⟨ls, a1, a2, a3, a4⟩ := hu i u hi; exact ⟨ls, a1, a2, a3, by omega⟩⟩
theorem number_any (m : Nat) (w : World) (h : m < 9223372036854775808) :
    Calls Tryd.prog 40 #[.int .i64 (m : Int)] w fun e w' => ∃ v, e = .returned v ∧ NRes w w' v m 2 := by
  have hmx : max (m : Int) 0 = (m : Int) := by omega
  have wxx : IntKind.u64.wrap (m : Int) = (m : Int) := by rw [IntKind.wrap_u64]; omega
  have h2 : decide ((m : Int) < 0) = false := decide_eq_false (by omega)
  go_enter Tryd.func40, Tryd.ntmps40
  go_wp2_with fail
  refine (rof_any m _ (by omega)).mono ?_
  rintro e w1 ⟨v, rfl, ls, h1, hr⟩
  obtain ⟨⟨X, cx, rfl, a1, a2, a3⟩, a4⟩ := h1
  go_wp2_with fail
  go_ret
  exact ⟨_, rfl, ls, ⟨⟨X, cx, rfl, a1, a2, a3⟩, a4⟩, hr⟩

set_option maxRecDepth 100000 in
set_option maxHeartbeats 4000000 in
theorem rnormL_any (wv : Value) (ns : List Nat) (L : Nat) (w : World) (hw : Wts w wv ns L) (hL : L ≤ 35184372088000) (hn21 : ns.length ≤ 21) :
    Calls Tryd.prog 37 #[wv] w fun e w' => ∃ v, e = .returned v ∧ CanL w' v ns L ∧ Below w.heap.size w w' := by
  obtain ⟨WA, wc, us, rfl, hwc, hwm, hws, hwu⟩ := hw
  have HWU := Lib.hid hwu
  unfold maxLen at hwm
  clear hwu
  obtain ⟨n, hn⟩ : ∃ n, ns.length = n := ⟨_, rfl⟩
  have HN := Lib.hid hn
  rw [hn] at hws hwc hn21 ⊢
  clear hn
  go_enter Tryd.func37, Tryd.ntmps37
  go_wp2_with fail
  go_loopw [3, 4] (fun v i wr => ∃ (k : Nat) (vs : List Value) (V : Option Addr) (cv : Nat), k ≤ n ∧ i = .int .i64 (k : Int) ∧ v = .slice V k cv ∧ CollO wr vs ns k L (Value.slice V k cv).ownBlock ∧ wr.ownsRow w.heap.size 50 1 (.slice V k cv) k vs ∧ Below w.heap.size w wr) (fun _ i _ => n - (intOf i).toNat)
  case atStart => exact ⟨0, [], _, 0, by omega, rfl, rfl, CollO.zero _ _ _ _, own_zero _ (.slice none 0 0) _ 0 (by unfold maxLen; omega), (Below.refl _ _).alloc (Nat.le_refl _) _⟩
  case round =>
    obtain ⟨k, vs, V, cv, hk, rfl, rfl, hco, hown, hbr⟩ := hrel
    by_cases hlt : k < n
    · obtain ⟨b, o, u, rfl, hbl, hcell, hu⟩ := lst_at (R := fun w u x => NatAny w u x L) (d := 0) (xs := ns) hws HWU.out hlt
      obtain ⟨lk, hlim, hval, hlen⟩ := hu.below hbr
      have HVL := Lib.hid hval
      clear hval
      obtain ⟨⟨UA, uc, rfl, _, _, _⟩, _⟩ := id hlim
      have g2 := (hbr.cell (p := ⟨b, o + k, none⟩) hbl).trans hcell
      clear hcell hu
      have hkI : (k : Int) < (n : Int) := by omega
      go_wp2_with fail
      refine (rnorm_any _ lk _ hlim (by omega)).mono ?_
      rintro e w2 ⟨v6, rfl, l6, hl6, nt6, hv6, hk6, hf6, hbe⟩
      have hown2 := own_keep hown hbe
      have hb2 : Below w.heap.size w w2 := hbr.trans (hbe.mono hbr.size)
      have hoff : Off (Value.slice V k cv).ownBlock v6 := by
        rcases hx : (Value.slice V k cv).ownBlock with _ | j
        · exact Off.none_ _
        · exact Off.of_fresh hf6 ((hown.lt j hx).2)
      have hnat : NatAt w2 v6 (ns.getD k 0) L := ⟨l6, hl6, nt6, by rw [hv6, HVL.out], by omega⟩
      have hco2 := (hco.below hbe).snoc hnat hoff
      obtain ⟨⟨X, cx, rfl, _, _, _⟩, _⟩ := id hl6
      go_wp2_with (at_builtin; refine wpList_append_oneG w2 rfl (.tmp 12) (.tmp 18) 22 rfl w.heap.size 50 (.slice none 0 0) 24 Tryd.underlying22 infoNat rfl (.slice V k cv) k vs (.slice X l6.length cx) rfl rfl hown2 rfl (by unfold maxLen; omega) (by omega) hb2.size ?_; intro A' c3 w3 hown3 hb3 hg3 hr3)
      go_roundw
      case rel => exact ⟨k + 1, vs ++ [.slice X l6.length cx], A', c3, by omega, by go_num, rfl, hco2.grown hg3 hr3, hown3, hb2.trans hb3⟩
      case measure => simp [intOf]; omega
    · obtain rfl : k = n := by omega
      go_wp2_with fail
      go_ret
      have hl : ns.length = k := HN.out
      rw [← hl] at hco
      exact ⟨_, rfl, hco.can (by rw [hl]; exact hown), hbr⟩

set_option maxHeartbeats 1000000 in
theorem rsame_yes (v u : Value) (ls : List Nat) (w : World) (h1 : Lim w v ls) (h2 : Lim w u ls) :
    Calls Tryd.prog 41 #[v, u] w fun e w' => e = .returned (.bool true) ∧ Below w.heap.size w w' := by
  obtain ⟨⟨A, c, rfl, hc, hm, hs⟩, _⟩ := h1
  obtain ⟨⟨B, c', rfl, hc', hm', hs'⟩, _⟩ := h2
  obtain ⟨n, hn⟩ : ∃ n, n = ls.length := ⟨_, rfl⟩
  rw [← hn] at hs hs' hc hc' ⊢
  unfold maxLen at hm hm'
  have HN := Lib.hid hn
  clear hn
  have hnn : ((n : Int) != (n : Int)) = false := by simp
  go_enter Tryd.func41, Tryd.ntmps41
  go_wp2
  go_loopw [5] (fun i wr => ∃ k : Nat, k ≤ n ∧ i = .int .i64 (k : Int) ∧ ∃ d, wr = w.drewN d) (fun i _ => n - (intOf i).toNat)
  case atStart => exact ⟨0, by omega, rfl, 0, rfl⟩
  case round =>
    obtain ⟨k, hk, rfl, d, rfl⟩ := hrel
    by_cases hlt : k < n
    · obtain ⟨b, o, rfl, hb, hcell⟩ := hs.lim hlt
      obtain ⟨b', o', rfl, hb', hcell'⟩ := hs'.lim hlt
      have g1 := hcell k hlt
      have g2 := hcell' k hlt
      clear hcell hcell'
      generalize ls.getD k 0 = z at *
      have hne : ((z : Int) != (z : Int)) = false := by simp
      go_wp2
      go_quiet (fail)
      go_wp2
      go_roundw
      case rel => exact ⟨k + 1, by omega, by go_num, _, rfl⟩
      case measure => simp [intOf]; omega
    · go_wp2
      go_ret
      exact ⟨rfl, below_drewN (Below.refl _ _) _⟩

set_option maxHeartbeats 2000000 in
theorem requal_yes (v u : Value) (ns : List Nat) (L M : Nat) (w : World) (h1 : CanL w v ns L) (h2 : CanL w u ns M) :
    Calls Tryd.prog 11 #[v, u] w fun e w' => e = .returned (.bool true) ∧ Below w.heap.size w w' := by
  obtain ⟨A, c, us, rfl, hc, hm, hs, hu⟩ := h1
  obtain ⟨B, c', us', rfl, hc', hm', hs', hu'⟩ := h2
  have HU := Lib.hid hu
  have HU' := Lib.hid hu'
  clear hu hu'
  obtain ⟨n, hn⟩ : ∃ n, ns.length = n := ⟨_, rfl⟩
  rw [hn] at hs hs' hc hc' ⊢
  unfold maxLen at hm hm'
  clear hn
  have hnn : ((n : Int) != (n : Int)) = false := by simp
  go_enter Tryd.func11, Tryd.ntmps11
  go_wp2
  go_loopw [5] (fun i wr => ∃ k : Nat, k ≤ n ∧ i = .int .i64 (k : Int) ∧ Below w.heap.size w wr) (fun i _ => n - (intOf i).toNat)
  case atStart => exact ⟨0, by omega, rfl, Below.refl _ _⟩
  case round =>
    obtain ⟨k, hk, rfl, BQ⟩ := hrel
    by_cases hlt : k < n
    · obtain ⟨b, o, x, rfl, hb, hcell, hx⟩ := lst_at (R := fun w u x => NatAt w u x L) (d := 0) (xs := ns) hs HU.out hlt
      obtain ⟨b', o', x', rfl, hb', hcell', hx'⟩ := lst_at (R := fun w u x => NatAt w u x M) (d := 0) (xs := ns) hs' HU'.out hlt
      obtain ⟨ls, a1, a2, _⟩ := hx.same hx'
      have g1 := (BQ.cell (p := ⟨b, o + k, none⟩) hb).trans hcell
      have g2 := (BQ.cell (p := ⟨b', o' + k, none⟩) hb').trans hcell'
      replace a1 := a1.below BQ
      replace a2 := a2.below BQ
      obtain ⟨⟨X, cx, rfl, _, _, _⟩, _⟩ := id a1
      obtain ⟨⟨Y, cy, rfl, _, _, _⟩, _⟩ := id a2
      have z1 : b < wr.heap.size := Nat.lt_of_lt_of_le hb BQ.size
      have z2 : b' < wr.heap.size := Nat.lt_of_lt_of_le hb' BQ.size
      have hkI : (k : Int) < (n : Int) := by omega
      clear hcell hcell' hx hx'
      go_wp2
      go_region_law (first | (go_simp; go_at_call 41; ((with_reducible refine (rsame_yes _ _ ls _ (a1.below ?_) (a2.below ?_)).mono ?_); (repeat (first | with_reducible exact Below.refl _ _ | with_reducible refine bl_call h5 ?_ | with_reducible refine bl_alloc ?_ _ | with_reducible refine bl_drew ?_)); (repeat (first | with_reducible exact Below.refl _ _ | with_reducible refine bl_call h5 ?_ | with_reducible refine bl_alloc ?_ _ | with_reducible refine bl_drew ?_)); rintro e w5 ⟨rfl, h5⟩)))
      all_goals
        have hb5 : Below wr.heap.size wr w5 := bl_call h5 (by (repeat (first | with_reducible exact Below.refl _ _ | with_reducible refine bl_call h5 ?_ | with_reducible refine bl_alloc ?_ _ | with_reducible refine bl_drew ?_)))
        go_wp2
        go_roundw
        case rel => exact ⟨k + 1, by omega, by go_num, BQ.trans (hb5.mono BQ.size)⟩
        case measure => simp [intOf]; omega
    · go_wp2
      go_ret
      exact ⟨rfl, BQ⟩

theorem rstart_no (pv rv : Value) (ps rs : List Int) (w : World) (hp : Nums .i64 w pv ps) (hr : Nums .i64 w rv rs) (hE : gridE ps rs ≠ 0) :
    Calls Tryd.prog 14 #[.agg #[pv, rv]] w fun e w' => e = .returned (.tuple #[.slice none 0 0, .int .i64 (gridE ps rs)]) ∧ Below w.heap.size w w' := by
  have hb0 : Below w.heap.size w (w.alloc (.cells #[pv, rv] 34)) := (Below.refl _ _).alloc (Nat.le_refl _) _
  have HV := Lib.hid (rgvalid_any pv rv ps rs _ (hp.below hb0) (hr.below hb0))
  have hne : (gridE ps rs != 0) = true := by rw [bne_iff_ne]; exact hE
  obtain ⟨A, c, rfl, hc, hm, hsp⟩ := hp
  obtain ⟨B, c', rfl, hc', hm', hsr⟩ := hr
  clear hE hsp hsr
  generalize gridE ps rs = E at *
  go_enter Tryd.func14, Tryd.ntmps14
  go_wp2_with fail
  refine HV.out.mono ?_
  rintro e w1 ⟨rfl, hb⟩
  go_wp2_with fail
  go_ret2
  exact ⟨rfl, hb0.trans (hb.mono hb0.size)⟩

set_option maxHeartbeats 2000000 in
theorem rstart_yes (pv rv : Value) (ps rs : List Int) (w : World) (hp : Nums .i64 w pv ps) (hr : Nums .i64 w rv rs) (hE : gridE ps rs = 0) :
    Calls Tryd.prog 14 #[.agg #[pv, rv]] w fun e w' => ∃ v, e = .returned (.tuple #[v, .int .i64 0]) ∧ CanL w' v (natsOf rs) 2 ∧ Below w.heap.size w w' := by
  have hb0 : Below w.heap.size w (w.alloc (.cells #[pv, rv] 34)) := (Below.refl _ _).alloc (Nat.le_refl _) _
  have HV := rgvalid_any pv rv ps rs _ (hp.below hb0) (hr.below hb0)
  rw [hE] at HV
  replace HV := Lib.hid HV
  obtain ⟨z1, z2, z3, z4, _⟩ := gridE_zero hE
  have HZ := Lib.hid z4
  clear hE z4
  obtain ⟨A, c, rfl, hc, hm, hsp⟩ := hp
  obtain ⟨B, c', rfl, hc', hm', hsr⟩ := hr
  have hr0 := Row.new w 34 [.slice A ps.length c, .slice B rs.length c']
  obtain ⟨n, hn⟩ : ∃ n, rs.length = n := ⟨_, rfl⟩
  have HN := Lib.hid hn
  have HP := Lib.hid (show ps.length = n by omega)
  have hn21 : n ≤ 21 := by omega
  rw [hn] at hsr hr0 HV ⊢
  clear hn z1 z2 z3 hc' hc
  go_enter Tryd.func14, Tryd.ntmps14
  go_wp2_with fail
  refine HV.out.mono ?_
  rintro e w1 ⟨rfl, hb⟩
  replace hr0 := hr0.keep hb
  have hb1 : Below w.heap.size w w1 := ((Below.refl _ _).alloc (Nat.le_refl _) _).trans (hb.mono (by simp))
  have q1 : w1.cell? ⟨w.heap.size, 1, none⟩ = some (.slice B n c') := hr0.cell 1
  have zl := hr0.lt
  replace hsr := hsr.below hb1
  clear hb hb0 HV
  go_wp2_with fail
  go_loopw [5, 6] (fun v i wr => ∃ (k : Nat) (us : List Value) (V : Option Addr) (cv : Nat), k ≤ n ∧ i = .int .i64 (k : Int) ∧ v = .slice V k cv ∧ CollO wr us (natsOf rs) k 2 (Value.slice V k cv).ownBlock ∧ wr.ownsRow w1.heap.size 50 1 (.slice V k cv) k us ∧ Below w1.heap.size w1 wr) (fun _ i _ => n - (intOf i).toNat)
  case atStart => exact ⟨0, [], _, 0, by omega, rfl, rfl, CollO.zero _ _ _ _, own_zero _ (.slice none 0 0) _ 0 (by unfold maxLen; omega), (Below.refl _ _).alloc (Nat.le_refl _) _⟩
  case round =>
    obtain ⟨k, us, V, cv, hk, rfl, rfl, hco, hown, hbr⟩ := hrel
    have hq := hr0.keep hbr
    have q1' : wr.cell? ⟨w.heap.size, 1, none⟩ = some (.slice B n c') := hq.cell 1
    have zq := hq.lt
    by_cases hlt : k < n
    · obtain ⟨b2, o2, rfl, hb2, hcell⟩ := hsr.num hlt
      have g1 : wr.cell? ⟨b2, o2 + k, none⟩ = some (.int .i64 (rs.getD k 0)) := (hbr.cell (p := ⟨b2, o2 + k, none⟩) hb2).trans (hcell k hlt)
      obtain ⟨_, _, y1, y2⟩ := HZ.out k (by rw [HP.out]; exact hlt)
      obtain ⟨m, hmx⟩ := Int.eq_ofNat_of_zero_le (show 0 ≤ rs.getD k 0 by omega)
      have HG := Lib.hid (show (natsOf rs).getD k 0 = m by rw [natsOf_get, hmx]; rfl)
      rw [hmx] at g1 y1 y2
      clear hcell hmx
      go_wp2_with fail
      refine (number_any m _ (by omega)).mono ?_
      rintro e w2 ⟨v, rfl, hv⟩
      have hbe := hv.bel
      have hown2 := own_keep hown hbe
      have hb2 : Below w1.heap.size w1 w2 := hbr.trans (hbe.mono hbr.size)
      have hoff : Off (Value.slice V k cv).ownBlock v := by
        rcases hx : (Value.slice V k cv).ownBlock with _ | j
        · exact Off.none_ _
        · exact Off.of_fresh hv.fresh ((hown.lt j hx).2)
      have hco2 := (hco.below hbe).snoc (by rw [HG.out]; exact hv.nat) hoff
      have hv' := hv
      obtain ⟨ls, ⟨⟨X, cx, rfl, _, _, _⟩, _⟩, _⟩ := hv'
      go_wp2_with (at_builtin; refine wpList_append_oneG w2 rfl (.tmp 20) (.tmp 27) 22 rfl w1.heap.size 50 (.slice none 0 0) 24 Tryd.underlying22 infoNat rfl (.slice V k cv) k us (.slice X ls.length cx) rfl rfl hown2 rfl (by unfold maxLen; omega) (by omega) hb2.size ?_; intro A' c3 w3 hown3 hb3 hg3 hr3)
      go_roundw
      case rel => exact ⟨k + 1, us ++ [.slice X ls.length cx], A', c3, by omega, by go_num, rfl, hco2.grown hg3 hr3, hown3, hb2.trans hb3⟩
      case measure => simp [intOf]; omega
    · obtain rfl : k = n := by omega
      go_wp2_with fail
      go_ret2
      refine ⟨.slice V k cv, rfl, ?_, hb1.trans (hbr.mono hb1.size)⟩
      have hl : (natsOf rs).length = k := by rw [natsOf_len, HN.out]
      rw [← hl] at hco
      exact hco.can (by rw [hl]; exact hown)

set_option maxHeartbeats 4000000 in
theorem rupdate_no (wv mv : Value) (ns : List Nat) (L : Nat) (m : Mdl) (k : Int) (w : World) (hw : Wts w wv ns L) (hm : IntsL w mv m) (hE : updE ns.length m k ≠ 0) :
    Calls Tryd.prog 10 #[wv, .agg #[mv], .int .i64 k] w fun e w' => e = .returned (.tuple #[.slice none 0 0, .int .i64 (updE ns.length m k)]) ∧ Below w.heap.size w w' := by
  have HMV := Lib.hid (fun (W : World) (h : Below w.heap.size w W) => rmvalid_any mv m (ns.length : Int) W (hm.below h))
  have HCA := Lib.hid (fun (W : World) (h : Below w.heap.size w W) => rcats_any mv m W (hm.below h))
  obtain ⟨MA, mc, mus, rfl, hmc, hmm, hms, hmu⟩ := hm
  obtain ⟨WA, wc, us, rfl, hwc, hwm, hws, hwu⟩ := hw
  have HMU := Lib.hid hmu
  have HWU := Lib.hid hwu
  unfold maxLen at hmm hwm
  clear hmu hwu
  by_cases h1 : 21 < ns.length
  · rw [updE_long h1]
    have t1 : decide (21 < (ns.length : Int)) = true := decide_eq_true (by omega)
    clear HMV HCA hE
    go_enter Tryd.func10, Tryd.ntmps10
    go_wp2_with fail
    go_ret2
    exact ⟨rfl, (Below.refl _ _).alloc (Nat.le_refl _) _⟩
  have t1 : decide (21 < (ns.length : Int)) = false := decide_eq_false (by omega)
  by_cases h2 : modE m ns.length = 0
  · by_cases h3 : missK k = true
    · exact absurd (updE_miss (by omega) h2 h3) hE
    · have h3' : missK k = false := by simpa using h3
      obtain ⟨k1, k2⟩ := missK_no.1 h3'
      have t2 : (k == -1) = false := by rw [beq_eq_false_iff_ne]; exact k1
      have t3 : (k == -2) = false := by rw [beq_eq_false_iff_ne]; exact k2
      have HM0 := Lib.hid h2
      by_cases h4 : k < 0
      · rw [updE_range (by omega) h2 h3' (.inl h4)]
        have t4 : decide (k < 0) = true := decide_eq_true h4
        clear h2 h3 h3' hE HCA
        obtain ⟨W0, hW0⟩ : ∃ W0 : World, W0 = w.alloc (.cells #[.slice MA m.length mc] 25) := ⟨_, rfl⟩
        have r0 : Row W0 w.heap.size 25 [.slice MA m.length mc] := by
          rw [hW0]
          have := Row.new w 25 [.slice MA m.length mc]
          simpa using this
        have B0 : Below w.heap.size w W0 := by rw [hW0]; exact ((Below.refl _ _).alloc (Nat.le_refl _) _)
        go_enter Tryd.func10, Tryd.ntmps10
        go_wp2_with fail
        rw [← hW0]
        clear hW0
        have BB := B0
        have hr4 := r0
        clear B0 r0
        refine (HMV.out _ BB).mono ?_
        rintro e x1 ⟨rfl, hb⟩
        replace hr4 := hr4.keep hb
        replace BB : Below w.heap.size w x1 := BB.trans (hb.mono BB.size)
        clear hb
        rw [HM0.out]
        have c40 : x1.cell? ⟨w.heap.size, 0, none⟩ = some (.slice MA m.length mc) := hr4.cell 0
        have z4 := hr4.lt
        go_wp2_with fail
        clear c40 z4
        go_ret2
        exact ⟨rfl, BB⟩
      · by_cases h5 : (catsOf m : Int) ≤ k
        · rw [updE_range (by omega) h2 h3' (.inr h5)]
          have t4 : decide (k < 0) = false := decide_eq_false h4
          have t5 : decide ((catsOf m : Int) ≤ k) = true := decide_eq_true h5
          clear h2 h3 h3' hE
          obtain ⟨W0, hW0⟩ : ∃ W0 : World, W0 = w.alloc (.cells #[.slice MA m.length mc] 25) := ⟨_, rfl⟩
          have r0 : Row W0 w.heap.size 25 [.slice MA m.length mc] := by
            rw [hW0]
            have := Row.new w 25 [.slice MA m.length mc]
            simpa using this
          have B0 : Below w.heap.size w W0 := by rw [hW0]; exact ((Below.refl _ _).alloc (Nat.le_refl _) _)
          go_enter Tryd.func10, Tryd.ntmps10
          go_wp2_with fail
          rw [← hW0]
          clear hW0
          have BB := B0
          have hr4 := r0
          clear B0 r0
          refine (HMV.out _ BB).mono ?_
          rintro e x1 ⟨rfl, hb⟩
          replace hr4 := hr4.keep hb
          replace BB : Below w.heap.size w x1 := BB.trans (hb.mono BB.size)
          clear hb
          rw [HM0.out]
          have c40 : x1.cell? ⟨w.heap.size, 0, none⟩ = some (.slice MA m.length mc) := hr4.cell 0
          have z4 := hr4.lt
          go_wp2_with fail
          clear c40 z4
          refine (HCA.out _ BB).mono ?_
          rintro e x2 ⟨rfl, hb⟩
          replace hr4 := hr4.keep hb
          replace BB : Below w.heap.size w x2 := BB.trans (hb.mono BB.size)
          clear hb
          have c40 : x2.cell? ⟨w.heap.size, 0, none⟩ = some (.slice MA m.length mc) := hr4.cell 0
          have z4 := hr4.lt
          go_wp2_with fail
          clear c40 z4
          go_ret2
          exact ⟨rfl, BB⟩
        · exact absurd (updE_ok (by omega) h2 h3' (by omega) (by omega)) hE
  · rw [updE_mod (by omega) h2]
    obtain ⟨E, hEE⟩ : ∃ E, modE m ns.length = E := ⟨_, rfl⟩
    have HE := Lib.hid hEE
    have t2 : (E != 0) = true := by rw [bne_iff_ne, ← hEE]; exact h2
    rw [hEE]
    clear h2 hE HCA hEE
    obtain ⟨W0, hW0⟩ : ∃ W0 : World, W0 = w.alloc (.cells #[.slice MA m.length mc] 25) := ⟨_, rfl⟩
    have r0 : Row W0 w.heap.size 25 [.slice MA m.length mc] := by
      rw [hW0]
      have := Row.new w 25 [.slice MA m.length mc]
      simpa using this
    have B0 : Below w.heap.size w W0 := by rw [hW0]; exact ((Below.refl _ _).alloc (Nat.le_refl _) _)
    go_enter Tryd.func10, Tryd.ntmps10
    go_wp2_with fail
    rw [← hW0]
    clear hW0
    have BB := B0
    have hr4 := r0
    clear B0 r0
    refine (HMV.out _ BB).mono ?_
    rintro e x1 ⟨rfl, hb⟩
    replace hr4 := hr4.keep hb
    replace BB : Below w.heap.size w x1 := BB.trans (hb.mono BB.size)
    clear hb
    rw [HE.out]
    have c40 : x1.cell? ⟨w.heap.size, 0, none⟩ = some (.slice MA m.length mc) := hr4.cell 0
    have z4 := hr4.lt
    go_wp2_with fail
    clear c40 z4
    go_ret2
    exact ⟨rfl, BB⟩

set_option maxRecDepth 100000 in
set_option maxHeartbeats 8000000 in
theorem rupdate_miss (wv mv : Value) (ns : List Nat) (L : Nat) (m : Mdl) (k : Int) (w : World) (hw : Wts w wv ns L) (hm : IntsL w mv m) (hL : L ≤ 35184372088000) (hmi : missK k = true) (hE : updE ns.length m k = 0) :
    Calls Tryd.prog 10 #[wv, .agg #[mv], .int .i64 k] w fun e w' => ∃ v, e = .returned (.tuple #[v, .int .i64 0]) ∧ CanL w' v (updF m k ns) (L + 2) ∧ Below w.heap.size w w' := by
  obtain ⟨z1, hm0, _⟩ := updE_zero hE
  rw [updF_miss hmi]
  have HNL := Lib.hid (fun (W : World) (h : Below w.heap.size w W) => rnormL_any wv ns L W (hw.below h) hL z1)
  have HMV := Lib.hid (fun (W : World) (h : Below w.heap.size w W) => rmvalid_any mv m (ns.length : Int) W (hm.below h))
  have HCA := Lib.hid (fun (W : World) (h : Below w.heap.size w W) => rcats_any mv m W (hm.below h))
  obtain ⟨MA, mc, mus, rfl, hmc, hmm, hms, hmu⟩ := hm
  obtain ⟨WA, wc, us, rfl, hwc, hwm, hws, hwu⟩ := hw
  have HMU := Lib.hid hmu
  have HWU := Lib.hid hwu
  unfold maxLen at hmm hwm
  clear hmu hwu
  have t1 : decide (21 < (ns.length : Int)) = false := decide_eq_false (by omega)
  have HM0 := Lib.hid hm0
  clear hE HCA HMU hms HWU hws hm0
  rcases missK_yes.1 hmi with rfl | rfl
  · clear hmi
    obtain ⟨W0, hW0⟩ : ∃ W0 : World, W0 = w.alloc (.cells #[.slice MA m.length mc] 25) := ⟨_, rfl⟩
    have r0 : Row W0 w.heap.size 25 [.slice MA m.length mc] := by
      rw [hW0]
      have := Row.new w 25 [.slice MA m.length mc]
      simpa using this
    have B0 : Below w.heap.size w W0 := by rw [hW0]; exact ((Below.refl _ _).alloc (Nat.le_refl _) _)
    go_enter Tryd.func10, Tryd.ntmps10
    go_wp2_with fail
    rw [← hW0]
    clear hW0
    have BB := B0
    have hr4 := r0
    clear B0 r0
    refine (HMV.out _ BB).mono ?_
    rintro e x1 ⟨rfl, hb⟩
    replace hr4 := hr4.keep hb
    replace BB : Below w.heap.size w x1 := BB.trans (hb.mono BB.size)
    clear hb
    rw [HM0.out]
    have c40 : x1.cell? ⟨w.heap.size, 0, none⟩ = some (.slice MA m.length mc) := hr4.cell 0
    have z4 := hr4.lt
    go_wp2_with fail
    clear c40 z4
    refine (HNL.out _ BB).mono ?_
    rintro e x2 ⟨v, rfl, hv, hb⟩
    replace hr4 := hr4.keep hb
    replace BB : Below w.heap.size w x2 := BB.trans (hb.mono BB.size)
    clear hb
    obtain ⟨VA, vvc, vus, rfl, _⟩ := id hv
    have c40 : x2.cell? ⟨w.heap.size, 0, none⟩ = some (.slice MA m.length mc) := hr4.cell 0
    have z4 := hr4.lt
    go_wp2_with fail
    clear c40 z4
    go_ret2
    exact ⟨_, rfl, hv.mono (by omega), BB⟩
  · clear hmi
    obtain ⟨W0, hW0⟩ : ∃ W0 : World, W0 = w.alloc (.cells #[.slice MA m.length mc] 25) := ⟨_, rfl⟩
    have r0 : Row W0 w.heap.size 25 [.slice MA m.length mc] := by
      rw [hW0]
      have := Row.new w 25 [.slice MA m.length mc]
      simpa using this
    have B0 : Below w.heap.size w W0 := by rw [hW0]; exact ((Below.refl _ _).alloc (Nat.le_refl _) _)
    go_enter Tryd.func10, Tryd.ntmps10
    go_wp2_with fail
    rw [← hW0]
    clear hW0
    have BB := B0
    have hr4 := r0
    clear B0 r0
    refine (HMV.out _ BB).mono ?_
    rintro e x1 ⟨rfl, hb⟩
    replace hr4 := hr4.keep hb
    replace BB : Below w.heap.size w x1 := BB.trans (hb.mono BB.size)
    clear hb
    rw [HM0.out]
    have c40 : x1.cell? ⟨w.heap.size, 0, none⟩ = some (.slice MA m.length mc) := hr4.cell 0
    have z4 := hr4.lt
    go_wp2_with fail
    clear c40 z4
    refine (HNL.out _ BB).mono ?_
    rintro e x2 ⟨v, rfl, hv, hb⟩
    replace hr4 := hr4.keep hb
    replace BB : Below w.heap.size w x2 := BB.trans (hb.mono BB.size)
    clear hb
    obtain ⟨VA, vvc, vus, rfl, _⟩ := id hv
    have c40 : x2.cell? ⟨w.heap.size, 0, none⟩ = some (.slice MA m.length mc) := hr4.cell 0
    have z4 := hr4.lt
    go_wp2_with fail
    clear c40 z4
    go_ret2
    exact ⟨_, rfl, hv.mono (by omega), BB⟩

set_option maxRecDepth 100000 in
set_option maxHeartbeats 8000000 in
theorem rupdate_ans (wv mv : Value) (ns : List Nat) (L : Nat) (m : Mdl) (k : Int) (w : World) (hw : Wts w wv ns L) (hm : IntsL w mv m) (hL : L ≤ 35184372088000) (hmi : missK k = false) (hE : updE ns.length m k = 0) :
    Calls Tryd.prog 10 #[wv, .agg #[mv], .int .i64 k] w fun e w' => ∃ v, e = .returned (.tuple #[v, .int .i64 0]) ∧ CanL w' v (updF m k ns) (L + 2) ∧ Below w.heap.size w w' := by
  obtain ⟨z1, hm0, hk⟩ := updE_zero hE
  obtain ⟨k1, k2⟩ := missK_no.1 hmi
  obtain ⟨k3, k4⟩ := hk hmi
  obtain ⟨kn, rfl⟩ := Int.eq_ofNat_of_zero_le k3
  obtain ⟨y1, y2, y3, y4, y5, y6⟩ := modE_zero hm0
  have HMISS := Lib.hid hmi
  have HKC : Hid (kn < catsOf m) := by unfold Hid; omega
  have HROW : Hid (∀ j, j < m.length → (m.getD j []).length = catsOf m ∧ ∀ i, i < catsOf m → 1 ≤ (m.getD j []).getD i 0 ∧ (m.getD j []).getD i 0 ≤ 1000) := fun j hj => by
    have hmem : m.getD j [] ∈ m := getD_mem m [] hj
    obtain ⟨a1, a2, _⟩ := y6 _ hmem
    refine ⟨a1, fun i hi => ?_⟩
    rw [← a1] at hi
    have := a2 ((m.getD j []).getD i 0) (getD_mem _ 0 hi)
    exact this
  have hml : m.length = ns.length := by omega
  have HMV := Lib.hid (fun (W : World) (h : Below w.heap.size w W) => rmvalid_any mv m (ns.length : Int) W (hm.below h))
  have HCA := Lib.hid (fun (W : World) (h : Below w.heap.size w W) => rcats_any mv m W (hm.below h))
  obtain ⟨MA, mc, mus, rfl, hmc, hmm, hms, hmu⟩ := hm
  obtain ⟨WA, wc, us, rfl, hwc, hwm, hws, hwu⟩ := hw
  have HMU := Lib.hid hmu
  have HWU := Lib.hid hwu
  unfold maxLen at hmm hwm
  clear hmu hwu
  have t1 : decide (21 < (ns.length : Int)) = false := decide_eq_false (by omega)
  have t2 : ((kn : Int) == -1) = false := by rw [beq_eq_false_iff_ne]; exact k1
  have t3 : ((kn : Int) == -2) = false := by rw [beq_eq_false_iff_ne]; exact k2
  have t4 : decide ((kn : Int) < 0) = false := decide_eq_false (by omega)
  have t5 : decide ((catsOf m : Int) ≤ (kn : Int)) = false := decide_eq_false (by omega)
  have t6 : decide (catsOf m ≤ kn) = false := decide_eq_false (by omega)
  have HN21 : Hid (ns.length ≤ 21) := Lib.hid z1
  obtain ⟨n, hn⟩ : ∃ n, ns.length = n := ⟨_, rfl⟩
  have HN := Lib.hid hn
  have HML : Hid (m.length = n) := Lib.hid (hml.trans hn)
  rw [hn] at hws hwc HN21 hm0 z1 t1 HMV ⊢
  have HM0 := Lib.hid hm0
  clear hn hm0 hE hk hmi k1 k2 k3 k4 y1 y2 y3 y4 y5 y6 hml
  obtain ⟨W0, hW0⟩ : ∃ W0 : World, W0 = w.alloc (.cells #[.slice MA m.length mc] 25) := ⟨_, rfl⟩
  have r0 : Row W0 w.heap.size 25 [.slice MA m.length mc] := by
    rw [hW0]
    have := Row.new w 25 [.slice MA m.length mc]
    simpa using this
  have B0 : Below w.heap.size w W0 := by rw [hW0]; exact ((Below.refl _ _).alloc (Nat.le_refl _) _)
  go_enter Tryd.func10, Tryd.ntmps10
  go_wp2_with fail
  rw [← hW0]
  clear hW0
  have BB := B0
  have hr4 := r0
  clear B0 r0
  refine (HMV.out _ BB).mono ?_
  rintro e x1 ⟨rfl, hb⟩
  replace hr4 := hr4.keep hb
  replace BB : Below w.heap.size w x1 := BB.trans (hb.mono BB.size)
  clear hb
  rw [HM0.out]
  have c40 : x1.cell? ⟨w.heap.size, 0, none⟩ = some (.slice MA m.length mc) := hr4.cell 0
  have z4 := hr4.lt
  go_wp2_with fail
  clear c40 z4
  refine (HCA.out _ BB).mono ?_
  rintro e x2 ⟨rfl, hb⟩
  replace hr4 := hr4.keep hb
  replace BB : Below w.heap.size w x2 := BB.trans (hb.mono BB.size)
  clear hb
  have c40 : x2.cell? ⟨w.heap.size, 0, none⟩ = some (.slice MA m.length mc) := hr4.cell 0
  have z4 := hr4.lt
  go_wp2_with fail
  clear c40 z4
  obtain ⟨i0, hi0, hz0, hz1, hz2⟩ := info_parts infoNat
  go_loopw [9, 10] (fun lv iv wr => ∃ (j : Nat) (gx : Value) (vs : List Value), j ≤ n ∧ iv = .int .i64 (j : Int) ∧ lv = gx ∧ wr.ownsRow x2.heap.size 50 1 gx j vs ∧ CollO wr vs (updF m (kn : Int) ns) j (L + 2) gx.ownBlock ∧ Below x2.heap.size x2 wr) (fun _ iv _ => n - (intOf iv).toNat)
  case atStart => exact ⟨0, _, [], by omega, rfl, rfl, own_zero _ (.slice none 0 0) _ 0 (by unfold maxLen; omega), CollO.zero _ _ _ _, (Below.refl _ _).alloc (Nat.le_refl _) _⟩
  case round =>
    obtain ⟨j, gx, vs, hj, rfl, rfl, hown, hco, BQ⟩ := hrel
    have BW := BB.trans (BQ.mono BB.size)
    by_cases hlt : j < n
    · obtain ⟨b, o, u, rfl, hbl, hcell, hu⟩ := lst_at (R := fun w u x => NatAny w u x L) (d := 0) (xs := ns) hws HWU.out hlt
      obtain ⟨lk, hlim, hval, hlen⟩ := hu.below BW
      have HVL := Lib.hid hval
      clear hval
      obtain ⟨⟨UA, uc, rfl, _, _, _⟩, _⟩ := id hlim
      have g2 := (BW.cell (p := ⟨b, o + j, none⟩) hbl).trans hcell
      clear hcell hu
      have hjI : (j : Int) < (n : Int) := by omega
      obtain ⟨b1, o1, u1, rfl, hb1, g1, hI⟩ := lst_at hms HMU.out (show j < m.length by rw [HML.out]; exact hlt)
      obtain ⟨RR1, c1, rfl, i1, i2, i3⟩ := hI
      unfold maxLen at i2
      obtain ⟨hl1, hx1⟩ := HROW.out j (by rw [HML.out]; exact hlt)
      obtain ⟨b3, o3, rfl, hb3, hcell3⟩ := i3.num (i := kn) (by rw [hl1]; exact HKC.out)
      have g3 := hcell3 kn (by rw [hl1]; exact HKC.out)
      clear hcell3 i3
      obtain ⟨x, hx⟩ := Int.eq_ofNat_of_zero_le (show 0 ≤ (m.getD j []).getD kn 0 by have := hx1 kn HKC.out; omega)
      have hx2 : x ≤ 1000 := by have := hx1 kn HKC.out; omega
      have HFX : Hid ((updF m (kn : Int) ns).getD j 0 = val lk * x) := by
        unfold Hid
        rw [updF_get _ _ _ (by rw [HN.out]; exact hlt), HVL.out]
        unfold facU
        rw [if_neg (by rw [HMISS.out]; simp), Int.toNat_natCast, hx]
        rfl
      rw [hx] at g3
      clear hx hx1
      have g1' := (BW.cell (p := ⟨b1, o1 + j, none⟩) hb1).trans g1
      have g3' := (BW.cell (p := ⟨b3, o3 + kn, none⟩) hb3).trans g3
      have HRL := Lib.hid hl1
      generalize (m.getD j []).length = rl at *
      have hkI : (kn : Int) < (rl : Int) := by have := HKC.out; omega
      have hjM : (j : Int) < (m.length : Int) := by have := HML.out; omega
      clear hl1 i1
      have hr4' := hr4.keep BQ
      have c40 : wr.cell? ⟨w.heap.size, 0, none⟩ = some (.slice (some ⟨b1, o1, none⟩) m.length mc) := hr4'.cell 0
      have z4 := hr4'.lt
      have zz1 : b < wr.heap.size := Nat.lt_of_lt_of_le hbl BW.size
      have zz2 : b1 < wr.heap.size := Nat.lt_of_lt_of_le hb1 BW.size
      have zz3 : b3 < wr.heap.size := Nat.lt_of_lt_of_le hb3 BW.size
      have hwz := BQ.size
      have hj21 : j ≤ 21 := by have := HN21.out; omega
      have hm1 : j + 1 ≤ maxLen := by unfold maxLen; omega
      clear g1 g3 hr4'
      go_wp2_with fail
      go_region_law (first
        | (go_simp; go_at_call 40; (refine (number_any x _ (by omega)).mono ?_); rintro e w5 ⟨v5, rfl, l5, hl5, nt5, hv5, hk5, hf5, h5⟩; have hb5 : Below wr.heap.size wr w5 := bl_call h5 (by (repeat (first | with_reducible exact Below.refl _ _ | with_reducible refine bl_call h5 ?_ | with_reducible refine bl_alloc ?_ _ | with_reducible refine bl_drew ?_))); have g25 := (hb5.cell (p := ⟨b, o + j, none⟩) zz1).trans g2)
        | (go_simp; go_at_call 39; ((with_reducible refine (rmul_wide _ _ lk l5 _ (hlim.below ?_) (hl5.below ?_) (by omega)).mono ?_); (repeat (first | with_reducible exact Below.refl _ _ | with_reducible refine bl_call h5 ?_ | with_reducible refine bl_alloc ?_ _ | with_reducible refine bl_drew ?_)); (repeat (first | with_reducible exact Below.refl _ _ | with_reducible refine bl_call h5 ?_ | with_reducible refine bl_alloc ?_ _ | with_reducible refine bl_drew ?_)); rintro e w6 ⟨v6, rfl, l6, hl6, nt6, hv6, hk6, hf6, h6⟩; obtain ⟨⟨A6, c6, rfl, _, _, _⟩, _⟩ := id hl6; have B6 : Below wr.heap.size wr w6 := bl_call h6 (by (repeat (first | with_reducible exact Below.refl _ _ | with_reducible refine bl_call h5 ?_ | with_reducible refine bl_alloc ?_ _ | with_reducible refine bl_drew ?_))); have hown6 := own_keep hown B6; have hs6 := B6.size))
        | (refine step_append_lies _ (by rfl) (.tmp 44) (.tmp 59) 22 (by rfl) x2.heap.size 50 i0 _ 1 24 Tryd.underlying22 hi0 hz0 hz1 hz2 rfl (by omega) _ j _ (by rfl) (hown6.alloc _) ⟨w6.heap.size, 0, none⟩ 1 1 [.slice A6 l6.length c6] (by rfl) (by rfl) (World.news_of_block (cs := #[.slice A6 l6.length c6]) (t := 50) (fr := (0, 0)) (heap_alloc_new w6 _)) (by simp [Value.oneCell']) (by decide) hm1 (by omega) (by simp; omega) (w6.heap.size + 1) (by simp) ?_; intro gg cap w7 hown7 hgrow hat hlt7))
      all_goals
        have hfv : Fresh wr.heap.size (.slice A6 l6.length c6) := hf6.mono (bl_call h5 (by (repeat (first | with_reducible exact Below.refl _ _ | with_reducible refine bl_call h5 ?_ | with_reducible refine bl_alloc ?_ _ | with_reducible refine bl_drew ?_))) : Below wr.heap.size wr w5).size
        have hA6 := World.grownBy_alloc w6 (.cells #[.slice A6 l6.length c6] 50) none
        have hBl := B6.trans (((Below.refl w6.heap.size w6).alloc (Nat.le_refl _) (.cells #[.slice A6 l6.length c6] 50)).mono B6.size)
        have hnat : NatAt w6 (.slice A6 l6.length c6) ((updF m (kn : Int) ns).getD j 0) (L + 2) := ⟨l6, hl6, nt6, by rw [hv6, hv5]; exact HFX.out.symm, by omega⟩
        have hnat7 := (hnat.below ((Below.refl w6.heap.size w6).alloc (Nat.le_refl _) (.cells #[.slice A6 l6.length c6] 50))).grown hgrow (off_own hown hfv)
        have hoff7 : Off (some gg) (.slice A6 l6.length c6) := by
          rcases hat with hh | hh
          · rw [← hh]; exact off_own hown hfv
          · subst hh; exact hnat.off (by omega)
        have hcol7 := ((hco.below hBl).grown hgrow (row' := some gg) (by rcases hat with hh | hh; exact .inl hh.symm; exact .inr ⟨gg, rfl, by rw [hh]; simp⟩)).snoc hnat7 hoff7
        have hB7 : Below x2.heap.size x2 w7 := (BQ.trans (hBl.mono BQ.size)).grown hgrow (Nat.le_trans BQ.size hBl.size) (fun q hq => (hown.lt q hq).1)
        go_wp2_with fail
        go_roundw
        case rel => exact ⟨j + 1, _, vs ++ [.slice A6 l6.length c6], by omega, by go_num, rfl, hown7, hcol7, hB7⟩
        case measure => simp [intOf]; omega
    · obtain rfl : j = n := by omega
      obtain ⟨VA, vc, rfl, _, _, _⟩ := Sl.of_own hown
      go_wp2_with fail
      go_ret2
      have hl : (updF m (kn : Int) ns).length = j := by rw [updF_len, HN.out]
      rw [← hl] at hco
      exact ⟨_, rfl, hco.can (by rw [hl]; exact hown), BW⟩
theorem rupdate_yes (wv mv : Value) (ns : List Nat) (L : Nat) (m : Mdl) (k : Int) (w : World) (hw : Wts w wv ns L) (hm : IntsL w mv m) (hL : L ≤ 35184372088000) (hE : updE ns.length m k = 0) :
    Calls Tryd.prog 10 #[wv, .agg #[mv], .int .i64 k] w fun e w' => ∃ v, e = .returned (.tuple #[v, .int .i64 0]) ∧ CanL w' v (updF m k ns) (L + 2) ∧ True ∧ Below w.heap.size w w' := by
  rcases hmi : missK k with _ | _
  · exact (rupdate_ans wv mv ns L m k w hw hm hL hmi hE).mono fun e w' ⟨v, h1, h2, h3⟩ => ⟨v, h1, h2, trivial, h3⟩
  · exact (rupdate_miss wv mv ns L m k w hw hm hL hmi hE).mono fun e w' ⟨v, h1, h2, h3⟩ => ⟨v, h1, h2, trivial, h3⟩

end Go.Proofs.YtoihjclkocffhaaDoor
