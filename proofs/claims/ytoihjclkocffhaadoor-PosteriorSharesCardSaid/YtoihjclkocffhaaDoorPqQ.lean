/- The walks of Zero (package examboardref01), Sum, Check, divisor, Reduce (package examboardref26). The walk of Same (package examboardref26). -/
import Derived.Test.YtoihjclkocffhaaDoorPcQ
import Derived.Test.YtoihjclkocffhaaDoorRfQ
import Derived.Test.YtoihjclkocffhaaDoorRefB
import Derived.Test.YtoihjclkocffhaaDoorDvz
import Derived.Deep.RegionHeld3
import Derived.Deep.RegionLaw
import Derived.Deep.CutRange
import Derived.Deep.DeepCutAuto
import Derived.Deep.Light
namespace Go.Proofs.YtoihjclkocffhaaDoor
open Go.RowKit
set_option linter.unusedVariables false
set_option maxRecDepth 100000

theorem natAt_e0 (w : World) (L : Nat) : NatAt (w.alloc (.cells #[] 69)) (.slice (some ⟨w.heap.size, 0, none⟩) 0 0) 0 L :=
  ⟨[], ⟨⟨_, 0, rfl, by simp, by simp, ⟨rfl, fun h => absurd h (by simp)⟩⟩, AllB.nil⟩, .inl rfl, rfl, by simp⟩
theorem wts_sum {w : World} {wv : Value} {ns : List Nat} {L : Nat} (h : Wts w wv ns L) : ∀ j, j ≤ ns.length → (ns.take j).sum < bp (L + 2) := by
  intro j _
  obtain ⟨WA, wc, us, rfl, hwc, hwm, hws, hwu⟩ := h
  unfold maxLen at hwm
  have h1 := sum_le_mul (bp L) (ns.take j) fun x hx => by
    obtain ⟨i, hi, rfl⟩ := List.getElem_of_mem (List.mem_of_mem_take hx)
    obtain ⟨ls, a1, a2, a3⟩ := hwu i (us[i]'(by rw [hws.1]; exact hi)) (List.getElem?_eq_getElem _)
    have a4 := val_lt a1.2
    have a5 := bp_mono a3
    rw [List.getD_eq_getElem?_getD, List.getElem?_eq_getElem hi] at a2
    simp only [Option.getD_some] at a2
    omega
  have h2 : (ns.take j).length ≤ ns.length := by rw [List.length_take]; omega
  have h3 : (ns.take j).length * bp L ≤ ns.length * bp L := Nat.mul_le_mul_right _ h2
  have h4 : bp (L + 2) = bp L * 4294967296 * 4294967296 := by rw [bp_succ, bp_succ]
  have h5 : ns.length * bp L < 18446744073709551616 * bp L := Nat.mul_lt_mul_of_pos_right (by omega) (bp_pos L)
  rw [h4]
  omega
set_option maxHeartbeats 2000000 in
theorem rzero1_any (v : Value) (ls : List Nat) (w : World) (h : Lim w v ls) :
    Calls Tryd.prog 53 #[v] w fun e w' => e = .returned (.bool (decide (val ls = 0))) ∧ Below w.heap.size w w' := by
  obtain ⟨⟨A, c, rfl, hc, hm, hs⟩, hall⟩ := h
  unfold maxLen at hm
  obtain ⟨n, hn⟩ : ∃ n, ls.length = n := ⟨_, rfl⟩
  have HN := Lib.hid hn
  rw [hn] at hs hc ⊢
  obtain ⟨z, hz⟩ : ∃ z, decide (val ls = 0) = z := ⟨_, rfl⟩
  rw [hz]
  have HZ := Lib.hid hz
  clear hz hn hall
  go_enter Tryd.func53, Tryd.ntmps53
  go_wp2
  go_loopw [3] (fun i wr => ∃ k : Nat, k ≤ n ∧ i = .int .i64 (k : Int) ∧ Hid (∀ j, j < k → ls.getD j 0 = 0) ∧ ∃ d, wr = w.drewN d) (fun i _ => n - (intOf i).toNat)
  case atStart => exact ⟨0, by omega, rfl, fun j hj => by omega, 0, rfl⟩
  case round =>
    obtain ⟨k, hk, rfl, HA, d, rfl⟩ := hrel
    by_cases hlt : k < n
    · obtain ⟨b, o, rfl, hb, hcell⟩ := hs.lim hlt
      have g1 := hcell k hlt
      clear hcell
      obtain ⟨x, hx⟩ : ∃ x, ls.getD k 0 = x := ⟨_, rfl⟩
      rw [hx] at g1
      have HX := Lib.hid hx
      clear hx
      by_cases h0 : x = 0
      · have e1 : ((x : Int) != 0) = false := by subst h0; rfl
        have e2 : (x != 0) = false := by subst h0; rfl
        have H0 := Lib.hid h0
        clear h0
        go_wp2
        go_roundw
        case rel =>
          refine ⟨k + 1, by omega, by go_num, fun j hj => ?_, _, rfl⟩
          rcases Nat.lt_or_ge j k with h | h
          · exact HA.out j h
          · obtain rfl : j = k := by omega
            rw [HX.out, H0.out]
        case measure => simp [intOf]; omega
      · have e1 : ((x : Int) != 0) = true := by rw [bne_iff_ne]; omega
        have e2 : (x != 0) = true := by rw [bne_iff_ne]; exact h0
        have HF : Hid (z = false) := by
          unfold Hid
          rw [← HZ.out]
          refine decide_eq_false fun h => h0 ?_
          rw [← HX.out]
          exact (val_zero_iff ls).1 h k (by rw [HN.out]; exact hlt)
        clear h0
        go_wp2
        go_ret
        exact ⟨by rw [HF.out]; rfl, below_drewN (Below.refl _ _) _⟩
    · obtain rfl : k = n := by omega
      have HF : Hid (z = true) := by
        unfold Hid
        rw [← HZ.out]
        exact decide_eq_true ((val_zero_iff ls).2 fun j hj => HA.out j (by rw [← HN.out]; exact hj))
      go_wp2
      go_ret
      exact ⟨by rw [HF.out]; rfl, below_drewN (Below.refl _ _) _⟩
set_option maxHeartbeats 4000000 in
theorem rsumw_any (wv : Value) (ns : List Nat) (L : Nat) (w : World) (hw : Wts w wv ns L) (hL : L ≤ 70368744177000) :
    Calls Tryd.prog 54 #[wv] w fun e w' => ∃ v, e = .returned v ∧ NatAt w' v ns.sum (L + 2) ∧ Below w.heap.size w w' := by
  have HB := Lib.hid (wts_sum hw)
  obtain ⟨WA, wc, us, rfl, hwc, hwm, hws, hwu⟩ := hw
  have HWU := Lib.hid hwu
  unfold maxLen at hwm
  clear hwu
  obtain ⟨n, hn⟩ : ∃ n, ns.length = n := ⟨_, rfl⟩
  have HN := Lib.hid hn
  rw [hn] at hws hwc HB ⊢
  clear hn
  go_enter Tryd.func54, Tryd.ntmps54
  go_wp2_with fail
  go_loopw [3, 4] (fun v iv wr => ∃ (j : Nat), j ≤ n ∧ iv = .int .i64 (j : Int) ∧ NatAt wr v (ns.take j).sum (L + 2) ∧ Below w.heap.size w wr) (fun _ iv _ => n - (intOf iv).toNat)
  case atStart => exact ⟨0, by omega, rfl, natAt_e0 _ _, (Below.refl _ _).alloc (Nat.le_refl _) _⟩
  case round =>
    obtain ⟨j, hj, rfl, hv, BQ⟩ := hrel
    obtain ⟨lv, hlv, ntv, hvv, hkv⟩ := id hv
    obtain ⟨⟨VA, vc, rfl, _, _, _⟩, _⟩ := id hlv
    by_cases hlt : j < n
    · obtain ⟨b, o, u, rfl, hbl, hcell, hu⟩ := lst_at (R := fun w u x => NatAny w u x L) (d := 0) (xs := ns) hws HWU.out hlt
      obtain ⟨lk, hlim, hval, hlen⟩ := hu.below BQ
      have HVL := Lib.hid hval
      clear hval
      have g2 := (BQ.cell (p := ⟨b, o + j, none⟩) hbl).trans hcell
      clear hcell hu
      have hjI : (j : Int) < (n : Int) := by omega
      obtain ⟨⟨UA, uc, rfl, _, _, _⟩, _⟩ := id hlim
      have HSUM := Lib.hid (sum_take_succ ns (j := j) (by rw [HN.out]; exact hlt))
      have HLT := Lib.hid (HB.out (j + 1) (by omega))
      have HVV := Lib.hid hvv
      clear hvv
      go_wp2_with fail
      refine (radd_wide _ _ lv lk _ hlv hlim (by omega) (by omega)).mono ?_
      rintro e w6 ⟨v6, rfl, l6, hl6, nt6, hv6, hk6, hf6, h6⟩
      obtain ⟨⟨A6, c6, rfl, _, _, _⟩, _⟩ := id hl6
      go_wp2_with fail
      go_roundw
      case rel => exact ⟨j + 1, by omega, by go_num, NatAt.tight ⟨l6, hl6, nt6, by rw [hv6, HVV.out, HVL.out, HSUM.out], hk6⟩ HLT.out, BQ.trans (h6.mono BQ.size)⟩
      case measure => simp [intOf]; omega
    · obtain rfl : j = n := by omega
      go_wp2_with fail
      go_ret
      refine ⟨_, rfl, ?_, BQ⟩
      rw [List.take_of_length_le (by rw [HN.out]; exact Nat.le_refl _)] at hv
      exact hv
set_option maxHeartbeats 2000000 in
theorem rcheck26_any (wv : Value) (ns : List Nat) (L : Nat) (w : World) (hw : Wts w wv ns L) (hL : L ≤ 70368744177000) :
    Calls Tryd.prog 59 #[wv] w fun e w' => e = .returned (.int .i64 (chkE ns)) ∧ Below w.heap.size w w' := by
  have HS := Lib.hid (rsumw_any wv ns L w hw hL)
  obtain ⟨WA, wc, us, rfl, hwc, hwm, hws, hwu⟩ := hw
  unfold maxLen at hwm
  clear hwu hws
  rw [chkE_sum]
  by_cases h : 21 < ns.length
  · have t1 : decide (21 < (ns.length : Int)) = true := decide_eq_true (by omega)
    rw [if_pos h]
    go_enter Tryd.func59, Tryd.ntmps59
    go_wp2_with fail
    go_ret
    exact ⟨rfl, Below.refl _ _⟩
  · have t1 : decide (21 < (ns.length : Int)) = false := decide_eq_false (by omega)
    rw [if_neg h]
    obtain ⟨s, hs⟩ : ∃ s, ns.sum = s := ⟨_, rfl⟩
    rw [hs] at HS ⊢
    obtain ⟨E, hE⟩ : ∃ E : Int, (if s = 0 then 20 else 0) = E := ⟨_, rfl⟩
    rw [hE]
    have HE := Lib.hid hE
    clear hE hs
    go_enter Tryd.func59, Tryd.ntmps59
    go_wp2_with fail
    refine HS.out.mono ?_
    rintro e w1 ⟨v1, rfl, ⟨l1, hl1, _, hv1, _⟩, hb1⟩
    obtain ⟨⟨A1, c1, rfl, _, _, _⟩, _⟩ := id hl1
    go_wp2_with fail
    refine (rzero1_any _ l1 _ hl1).mono ?_
    rintro e w2 ⟨rfl, hb2⟩
    rw [hv1]
    have BB := hb1.trans (hb2.mono hb1.size)
    by_cases h0 : s = 0
    · have t2 : decide (s = 0) = true := decide_eq_true h0
      have he := HE.out
      rw [if_pos h0] at he
      have HEE := Lib.hid he
      rw [t2]
      clear hv1 h0 he t2
      go_wp2_with fail
      go_ret
      exact ⟨by rw [← HEE.out]; rfl, BB⟩
    · have t2 : decide (s = 0) = false := decide_eq_false h0
      have he := HE.out
      rw [if_neg h0] at he
      have HEE := Lib.hid he
      rw [t2]
      clear hv1 h0 he t2
      go_wp2_with fail
      go_ret
      exact ⟨by rw [← HEE.out]; rfl, BB⟩
set_option maxHeartbeats 4000000 in
theorem rdivisor_any (wv : Value) (ns : List Nat) (L : Nat) (w : World) (hw : Wts w wv ns L) (hL : L ≤ 70368744177600) :
    Calls Tryd.prog 47 #[wv] w fun e w' => ∃ v, e = .returned v ∧ NatAt w' v (gcdL ns) L ∧ Below w.heap.size w w' := by
  obtain ⟨WA, wc, us, rfl, hwc, hwm, hws, hwu⟩ := hw
  have HWU := Lib.hid hwu
  unfold maxLen at hwm
  clear hwu
  obtain ⟨n, hn⟩ : ∃ n, ns.length = n := ⟨_, rfl⟩
  have HN := Lib.hid hn
  rw [hn] at hws hwc ⊢
  clear hn
  go_enter Tryd.func47, Tryd.ntmps47
  go_wp2_with fail
  go_loopw [3, 4] (fun v iv wr => ∃ (j : Nat), j ≤ n ∧ iv = .int .i64 (j : Int) ∧ NatAt wr v (gcdL (ns.take j)) L ∧ Below w.heap.size w wr) (fun _ iv _ => n - (intOf iv).toNat)
  case atStart => exact ⟨0, by omega, rfl, natAt_e0 _ _, (Below.refl _ _).alloc (Nat.le_refl _) _⟩
  case round =>
    obtain ⟨j, hj, rfl, hv, BQ⟩ := hrel
    obtain ⟨lv, hlv, ntv, hvv, hkv⟩ := id hv
    obtain ⟨⟨VA, vc, rfl, _, _, _⟩, _⟩ := id hlv
    by_cases hlt : j < n
    · obtain ⟨b, o, u, rfl, hbl, hcell, hu⟩ := lst_at (R := fun w u x => NatAny w u x L) (d := 0) (xs := ns) hws HWU.out hlt
      obtain ⟨lk, hlim, hval, hlen⟩ := hu.below BQ
      have HVL := Lib.hid hval
      clear hval
      have g2 := (BQ.cell (p := ⟨b, o + j, none⟩) hbl).trans hcell
      clear hcell hu
      have hjI : (j : Int) < (n : Int) := by omega
      obtain ⟨⟨UA, uc, rfl, _, _, _⟩, _⟩ := id hlim
      have HSUM := Lib.hid (gcdL_succ ns (j := j) (by rw [HN.out]; exact hlt))
      have HVV := Lib.hid hvv
      clear hvv
      go_wp2_with fail
      refine (rgcd_any _ _ lv lk _ hlv hlim (by omega) (by omega)).mono ?_
      rintro e w6 ⟨v6, rfl, ⟨l6, hl6, nt6, hv6, hk6⟩, hf6, h6⟩
      obtain ⟨⟨A6, c6, rfl, _, _, _⟩, _⟩ := id hl6
      go_wp2_with fail
      go_roundw
      case rel => exact ⟨j + 1, by omega, by go_num, ⟨l6, hl6, nt6, by rw [hv6, HVV.out, HVL.out, HSUM.out], by omega⟩, BQ.trans (h6.mono BQ.size)⟩
      case measure => simp [intOf]; omega
    · obtain rfl : j = n := by omega
      go_wp2_with fail
      go_ret
      refine ⟨_, rfl, ?_, BQ⟩
      rw [List.take_of_length_le (by rw [HN.out]; exact Nat.le_refl _)] at hv
      exact hv
set_option maxHeartbeats 8000000 in
theorem rreduce_any (wv : Value) (ns : List Nat) (L : Nat) (w : World) (hw : Wts w wv ns L) (hL : L ≤ 70368744177600) (h24 : 24 * ns.length ≤ 140737488351232) :
    Calls Tryd.prog 18 #[wv] w fun e w' => ∃ v, e = .returned v ∧ CanL w' v (redL ns) L ∧ Below w.heap.size w w' := by
  have HD := Lib.hid (rdivisor_any wv ns L w hw hL)
  obtain ⟨WA, wc, us, rfl, hwc, hwm, hws, hwu⟩ := hw
  have HWU := Lib.hid hwu
  unfold maxLen at hwm
  clear hwu
  obtain ⟨n, hn⟩ : ∃ n, ns.length = n := ⟨_, rfl⟩
  have HN := Lib.hid hn
  rw [hn] at hws hwc HD h24 ⊢
  clear hn
  go_enter Tryd.func18, Tryd.ntmps18
  go_wp2_with fail
  refine HD.out.mono ?_
  rintro e w1 ⟨v1, rfl, hdv, hb1⟩
  obtain ⟨lv, hlv, _, hvv, hkv⟩ := id hdv
  obtain ⟨⟨VA, vc, rfl, _, _, _⟩, _⟩ := id hlv
  have HVV := Lib.hid hvv
  have HLV := Lib.hid hlv
  clear hvv hlv hdv
  go_wp2_with fail
  go_loopw [4, 5] (fun v i wr => ∃ (j : Nat) (vs : List Value) (V : Option Addr) (cv : Nat), j ≤ n ∧ i = .int .i64 (j : Int) ∧ v = .slice V j cv ∧ CollO wr vs (redL ns) j L (Value.slice V j cv).ownBlock ∧ wr.ownsRow w1.heap.size 50 1 (.slice V j cv) j vs ∧ Below w1.heap.size w1 wr) (fun _ i _ => n - (intOf i).toNat)
  case atStart => exact ⟨0, [], _, 0, by omega, rfl, rfl, CollO.zero _ _ _ _, own_zero _ (.slice none 0 0) _ 0 (by unfold maxLen; omega), (Below.refl _ _).alloc (Nat.le_refl _) _⟩
  case round =>
    obtain ⟨j, vs, V, cv, hj, rfl, rfl, hco, hown, BR⟩ := hrel
    have BQ := hb1.trans (BR.mono hb1.size)
    by_cases hlt : j < n
    · obtain ⟨b, o, u, rfl, hbl, hcell, hu⟩ := lst_at (R := fun w u x => NatAny w u x L) (d := 0) (xs := ns) hws HWU.out hlt
      obtain ⟨lk, hlim, hval, hlen⟩ := hu.below BQ
      have HVL := Lib.hid hval
      clear hval
      have g2 := (BQ.cell (p := ⟨b, o + j, none⟩) hbl).trans hcell
      clear hcell hu
      have hjI : (j : Int) < (n : Int) := by omega
      obtain ⟨⟨UA, uc, rfl, _, _, _⟩, _⟩ := id hlim
      have HLV2 := Lib.hid (HLV.out.below BR)
      go_wp2_with fail
      by_cases hd0 : 0 < val lv
      · refine (rdivmod_any _ _ lk lv _ hlim HLV2.out (by omega) (by omega) hd0).mono ?_
        rintro e w6 ⟨q6, r6, rfl, ⟨hq6, hfq⟩, ⟨hr6, _⟩, h6⟩
        obtain ⟨l6, hl6, _, hv6, hk6⟩ := id hq6
        obtain ⟨⟨A6, c6, rfl, _, _, _⟩, _⟩ := id hl6
        obtain ⟨_, ⟨⟨A6r, c6r, rfl, _, _, _⟩, _⟩, _⟩ := hr6
        have HV6 : Hid (val l6 = (redL ns).getD j 0) := by unfold Hid; rw [hv6, redL_get, HVL.out, HVV.out]
        clear hv6 hd0
        have B6 := BR.trans (h6.mono BR.size)
        have hown6 := own_keep hown h6
        have hco6 := hco.below h6
        go_wp2_with fail
        refine (rnorm_any _ l6 _ hl6 (by omega)).mono ?_
        rintro e w7 ⟨v7, rfl, l7, hl7, nt7, hv7, hk7, hf7, h7⟩
        have hown7 := own_keep hown6 h7
        have hb7 : Below w1.heap.size w1 w7 := B6.trans (h7.mono B6.size)
        have hoff : Off (Value.slice V j cv).ownBlock v7 := by
          rcases hx : (Value.slice V j cv).ownBlock with _ | q
          · exact Off.none_ _
          · exact Off.of_fresh hf7 ((hown6.lt q hx).2)
        have hnat : NatAt w7 v7 ((redL ns).getD j 0) L := ⟨l7, hl7, nt7, by rw [hv7, HV6.out], by omega⟩
        have hco7 := (hco6.below h7).snoc hnat hoff
        obtain ⟨⟨X, cx, rfl, _, _, _⟩, _⟩ := id hl7
        go_wp2_with (at_builtin; refine wpList_append_oneG w7 rfl (.tmp 28) (.tmp 31) 22 rfl w1.heap.size 50 (.slice none 0 0) 24 Tryd.underlying22 infoNat rfl (.slice V j cv) j vs (.slice X l7.length cx) rfl rfl hown7 rfl (by unfold maxLen; omega) (by omega) hb7.size ?_; intro A' c3 w8 hown8 hb8 hg8 hr8)
        go_roundw
        case rel => exact ⟨j + 1, vs ++ [.slice X l7.length cx], A', c3, by omega, by go_num, rfl, hco7.grown hg8 hr8, hown8, hb7.trans hb8⟩
        case measure => simp [intOf]; omega
      · refine (rdivmod_zero _ _ lk lv _ hlim HLV2.out (by omega) (by omega) (by omega)).mono ?_
        rintro e w6 ⟨rfl, h6⟩
        have hl6 : Lim w6 (.slice none 0 0) [] := Lim.nil _
        have HV6 : Hid (val [] = (redL ns).getD j 0) := by
          unfold Hid
          rw [redL_get, ← HVV.out, show val lv = 0 by omega, Nat.div_zero]
          rfl
        obtain ⟨l6, hl6e⟩ : ∃ l : List Nat, l = [] := ⟨_, rfl⟩
        rw [← hl6e] at hl6 HV6
        have hk6 : l6.length ≤ lk.length := by rw [hl6e]; exact Nat.zero_le _
        clear hl6e hd0
        have B6 := BR.trans (h6.mono BR.size)
        have hown6 := own_keep hown h6
        have hco6 := hco.below h6
        go_wp2_with fail
        refine (rnorm_any _ l6 _ hl6 (by omega)).mono ?_
        rintro e w7 ⟨v7, rfl, l7, hl7, nt7, hv7, hk7, hf7, h7⟩
        have hown7 := own_keep hown6 h7
        have hb7 : Below w1.heap.size w1 w7 := B6.trans (h7.mono B6.size)
        have hoff : Off (Value.slice V j cv).ownBlock v7 := by
          rcases hx : (Value.slice V j cv).ownBlock with _ | q
          · exact Off.none_ _
          · exact Off.of_fresh hf7 ((hown6.lt q hx).2)
        have hnat : NatAt w7 v7 ((redL ns).getD j 0) L := ⟨l7, hl7, nt7, by rw [hv7, HV6.out], by omega⟩
        have hco7 := (hco6.below h7).snoc hnat hoff
        obtain ⟨⟨X, cx, rfl, _, _, _⟩, _⟩ := id hl7
        go_wp2_with (at_builtin; refine wpList_append_oneG w7 rfl (.tmp 28) (.tmp 31) 22 rfl w1.heap.size 50 (.slice none 0 0) 24 Tryd.underlying22 infoNat rfl (.slice V j cv) j vs (.slice X l7.length cx) rfl rfl hown7 rfl (by unfold maxLen; omega) (by omega) hb7.size ?_; intro A' c3 w8 hown8 hb8 hg8 hr8)
        go_roundw
        case rel => exact ⟨j + 1, vs ++ [.slice X l7.length cx], A', c3, by omega, by go_num, rfl, hco7.grown hg8 hr8, hown8, hb7.trans hb8⟩
        case measure => simp [intOf]; omega
    · obtain rfl : j = n := by omega
      go_wp2_with fail
      go_ret
      have hl : (redL ns).length = j := by rw [redL_len]; exact HN.out
      rw [← hl] at hco
      exact ⟨_, rfl, hco.can (by rw [hl]; exact hown), BQ⟩
end Go.Proofs.YtoihjclkocffhaaDoor
namespace Go.Proofs.YtoihjclkocffhaaDoor
open Go.RowKit
set_option linter.unusedVariables false
set_option maxRecDepth 100000

theorem sameR_no {xs bs : List Nat} {n i k : Nat} (hx : xs.length = n) (hb : bs.length = n) (hi : i < n) (hk : k < n) (h : ¬ xs.getD i 0 * bs.getD k 0 = xs.getD k 0 * bs.getD i 0) : sameR xs bs = false := by
  unfold sameR
  rw [if_neg (by omega)]
  split
  · rfl
  · rw [List.all_eq_false]
    refine ⟨i, List.mem_range.2 (by omega), ?_⟩
    rw [Bool.not_eq_true, List.all_eq_false]
    refine ⟨k, List.mem_range.2 (by omega), ?_⟩
    rw [Bool.not_eq_true, beq_eq_false_iff_ne]
    exact h
theorem sameR_yes {xs bs : List Nat} {n : Nat} (hx : xs.length = n) (hb : bs.length = n) (hd : decide (xs.sum = 0) = decide (bs.sum = 0)) (h : ∀ i, i < n → ∀ k, k < n → xs.getD i 0 * bs.getD k 0 = xs.getD k 0 * bs.getD i 0) : sameR xs bs = true := by
  unfold sameR
  rw [if_neg (by omega), if_neg (by rw [hd]; simp), List.all_eq_true]
  intro i hi
  rw [List.all_eq_true]
  intro k hk
  rw [beq_iff_eq]
  exact h i (by have := List.mem_range.1 hi; omega) k (by have := List.mem_range.1 hk; omega)
theorem sameR_zero {xs bs : List Nat} {n : Nat} (hx : xs.length = n) (hb : bs.length = n) (hd : ¬ decide (xs.sum = 0) = decide (bs.sum = 0)) : sameR xs bs = false := by
  unfold sameR
  rw [if_neg (by omega), if_pos hd]
theorem rcmp_BQ (v u : Value) (la lb : List Nat) (w : World) (ha : Lim w v la) (hb : Lim w u lb) (h1 : la.length ≤ 70368744177664) (h2 : lb.length ≤ 70368744177664) :
    Calls Tryd.prog 55 #[v, u] w fun e w' => e = .returned (.int .i64 (cmpN (val la) (val lb))) ∧ Below w.heap.size w w' :=
  (rcmp_any v u la lb w ha hb h1 h2).mono fun e w' h => ⟨h.1, by rw [← h.2]; exact Below.refl _ _⟩
set_option maxHeartbeats 16000000 in
theorem rsame26_any (wv vv : Value) (xs bs : List Nat) (L : Nat) (w : World) (hw : Wts w wv xs L) (hv : Wts w vv bs L) (hL : L ≤ 35184372088000) :
    Calls Tryd.prog 20 #[wv, vv] w fun e w' => e = .returned (.bool (sameR xs bs)) ∧ Below w.heap.size w w' := by
  have hL' : L ≤ 70368744177000 := by omega
  obtain ⟨WA, wc, us, hwe, hwc, hwm, hws, hwu⟩ := id hw
  obtain ⟨VA, vc, vs, hve, hvc, hvm, hvs, hvu⟩ := id hv
  subst hwe hve
  have HWU := Lib.hid hwu
  have HVU := Lib.hid hvu
  unfold maxLen at hwm hvm
  clear hwu hvu
  obtain ⟨z, hz⟩ : ∃ z, sameR xs bs = z := ⟨_, rfl⟩
  rw [hz]
  have HZ := Lib.hid hz
  clear hz
  obtain ⟨n, hn⟩ : ∃ n, xs.length = n := ⟨_, rfl⟩
  by_cases hl : bs.length = n
  · have HSX := Lib.hid hn
    have HSB := Lib.hid hl
    rw [hn] at hws hwc hw ⊢
    rw [hl] at hvs hvc hv ⊢
    clear hn hl
    have hne : ((n : Int) != (n : Int)) = false := by simp
    obtain ⟨da, hda⟩ : ∃ d, decide (xs.sum = 0) = d := ⟨_, rfl⟩
    obtain ⟨db, hdb⟩ : ∃ d, decide (bs.sum = 0) = d := ⟨_, rfl⟩
    have HDA := Lib.hid hda
    have HDB := Lib.hid hdb
    clear hda hdb
    by_cases hd : da = db
    · have HD : Hid ((da != db) = false) := by unfold Hid; rw [hd]; simp
      have HD2 : Hid ((da == db) = true) := by unfold Hid; rw [hd]; simp
      have HDD : Hid (decide (xs.sum = 0) = decide (bs.sum = 0)) := by unfold Hid; rw [HDA.out, HDB.out]; exact hd
      clear hd
      go_enter Tryd.func20, Tryd.ntmps20
      go_wp2_with fail
      refine (rsumw_any _ xs L _ hw hL').mono ?_
      rintro e w5 ⟨v5, rfl, ⟨l5, hl5, _, hv5, _⟩, h5⟩
      obtain ⟨⟨A5, c5, rfl, _, _, _⟩, _⟩ := id hl5
      go_wp2_with fail
      refine (rzero1_any _ l5 _ hl5).mono ?_
      rintro e w7 ⟨rfl, h7⟩
      rw [hv5, HDA.out]
      have B7 := h5.trans (h7.mono h5.size)
      clear hl5 hv5 h5 h7
      go_wp2_with fail
      refine (rsumw_any _ bs L _ (hv.below B7) hL').mono ?_
      rintro e w6 ⟨v6, rfl, ⟨l6, hl6, _, hv6, _⟩, h6⟩
      obtain ⟨⟨A6, c6, rfl, _, _, _⟩, _⟩ := id hl6
      go_wp2_with fail
      refine (rzero1_any _ l6 _ hl6).mono ?_
      rintro e w2 ⟨rfl, h8⟩
      rw [hv6, HDB.out]
      have hbc : Below w.heap.size w w2 := (B7.trans (h6.mono B7.size)).trans (h8.mono (Nat.le_trans B7.size h6.size))
      clear hl6 hv6 h6 h8 B7
      have hdd := HD.out
      have hde := HD2.out
      have BB := hbc
      clear hbc HD
      go_wp2_with fail
      go_loopw [5] (fun iv wr => ∃ i : Nat, i ≤ n ∧ iv = .int .i64 (i : Int) ∧ Hid (∀ i', i' < i → ∀ k', k' < n → xs.getD i' 0 * bs.getD k' 0 = xs.getD k' 0 * bs.getD i' 0) ∧ Below w2.heap.size w2 wr) (fun iv _ => n - (intOf iv).toNat)
      case atStart => exact ⟨0, by omega, rfl, fun i' h => by omega, Below.refl _ _⟩
      case round =>
        obtain ⟨i, hin, rfl, HA, BR⟩ := hrel
        by_cases hi : i < n
        · have hiI : (i : Int) < (n : Int) := by omega
          go_wp2_with fail
          go_loopw [6] (fun kv wr => ∃ k : Nat, k ≤ n ∧ kv = .int .i64 (k : Int) ∧ Hid (∀ k', k' < k → xs.getD i 0 * bs.getD k' 0 = xs.getD k' 0 * bs.getD i 0) ∧ Below w2.heap.size w2 wr) (fun kv _ => n - (intOf kv).toNat)
          case atStart => exact ⟨0, by omega, rfl, fun k' h => by omega, BR⟩
          case round =>
            clear BR
            obtain ⟨k, hkn, rfl, HI, BR⟩ := hrel
            have BQ := BB.trans (BR.mono BB.size)
            by_cases hk : k < n
            · skip
              obtain ⟨ab, ao, u1, hA1, hb1, c1, hu1⟩ := lst_at (R := fun w u x => NatAny w u x L) (d := 0) (xs := xs) hws HWU.out hi
              obtain ⟨ab', ao', u3, hA3, hb3, c3, hu3⟩ := lst_at (R := fun w u x => NatAny w u x L) (d := 0) (xs := xs) hws HWU.out hk
              obtain ⟨bb, bo, u2, hA2, hb2, c2, hu2⟩ := lst_at (R := fun w u x => NatAny w u x L) (d := 0) (xs := bs) hvs HVU.out hk
              obtain ⟨bb', bo', u4, hA4, hb4, c4, hu4⟩ := lst_at (R := fun w u x => NatAny w u x L) (d := 0) (xs := bs) hvs HVU.out hi
              subst hA1
              subst hA2
              obtain ⟨rfl, rfl⟩ : ab = ab' ∧ ao = ao' := by injection hA3 with h; injection h with h1 h2 h3; exact ⟨h1, h2⟩
              obtain ⟨rfl, rfl⟩ : bb = bb' ∧ bo = bo' := by injection hA4 with h; injection h with h1 h2 h3; exact ⟨h1, h2⟩
              clear hA3 hA4
              obtain ⟨l1, hl1, hv1, hk1⟩ := hu1.below BQ
              obtain ⟨l2, hl2, hv2, hk2⟩ := hu2.below BQ
              obtain ⟨l3, hl3, hv3, hk3⟩ := hu3.below BQ
              obtain ⟨l4, hl4, hv4, hk4⟩ := hu4.below BQ
              obtain ⟨⟨A1, d1, rfl, _, _, _⟩, _⟩ := id hl1
              obtain ⟨⟨A2, d2, rfl, _, _, _⟩, _⟩ := id hl2
              obtain ⟨⟨A3, d3, rfl, _, _, _⟩, _⟩ := id hl3
              obtain ⟨⟨A4, d4, rfl, _, _, _⟩, _⟩ := id hl4
              have g1 := (BQ.cell (p := ⟨ab, ao + i, none⟩) hb1).trans c1
              have g2 := (BQ.cell (p := ⟨bb, bo + k, none⟩) hb2).trans c2
              have g3 := (BQ.cell (p := ⟨ab, ao + k, none⟩) hb1).trans c3
              have g4 := (BQ.cell (p := ⟨bb, bo + i, none⟩) hb2).trans c4
              have z1 : ab < wr.heap.size := Nat.lt_of_lt_of_le hb1 BQ.size
              have z2 : bb < wr.heap.size := Nat.lt_of_lt_of_le hb2 BQ.size
              have HV1 := Lib.hid hv1
              have HV2 := Lib.hid hv2
              have HV3 := Lib.hid hv3
              have HV4 := Lib.hid hv4
              have HL1 := Lib.hid hl1
              have HL2 := Lib.hid hl2
              have HL3 := Lib.hid hl3
              have HL4 := Lib.hid hl4
              have s12 : l1.length + l2.length ≤ 70368744177664 := by omega
              have s34 : l3.length + l4.length ≤ 70368744177664 := by omega
              clear c1 c2 c3 c4 hu1 hu2 hu3 hu4 hb1 hb2 hb3 hb4 hv1 hv2 hv3 hv4 hl1 hl2 hl3 hl4
              have hiI : (i : Int) < (n : Int) := by omega
              have hkI : (k : Int) < (n : Int) := by omega
              go_wp2_with fail
              go_region_held3 (fun w' => w'.cell? ⟨ab, ao + i, none⟩ = some (.slice A1 l1.length d1) ∧ w'.cell? ⟨bb, bo + k, none⟩ = some (.slice A2 l2.length d2) ∧ w'.cell? ⟨ab, ao + k, none⟩ = some (.slice A3 l3.length d3) ∧ w'.cell? ⟨bb, bo + i, none⟩ = some (.slice A4 l4.length d4))
                ((refine keep4c z1 z2 z1 z2 g1 g2 g3 g4 ?_; (repeat (first | with_reducible exact Below.refl _ _ | with_reducible refine bl_call h7 ?_ | with_reducible refine bl_call h6 ?_ | with_reducible refine bl_call h5 ?_ | with_reducible refine bl_alloc ?_ _ | with_reducible refine bl_drew ?_)); done))
                (first
                  | (go_at_call 39; ((with_reducible refine (rmul_wide (.slice A1 l1.length d1) (.slice A2 l2.length d2) l1 l2 _ (HL1.out.below ?_) (HL2.out.below ?_) s12).mono ?_); (repeat (first | with_reducible exact Below.refl _ _ | with_reducible refine bl_call h7 ?_ | with_reducible refine bl_call h6 ?_ | with_reducible refine bl_call h5 ?_ | with_reducible refine bl_alloc ?_ _ | with_reducible refine bl_drew ?_)); (repeat (first | with_reducible exact Below.refl _ _ | with_reducible refine bl_call h7 ?_ | with_reducible refine bl_call h6 ?_ | with_reducible refine bl_call h5 ?_ | with_reducible refine bl_alloc ?_ _ | with_reducible refine bl_drew ?_)); rintro e w5 ⟨v5, rfl, l5, hl5, _, hv5, hk5, _, h5⟩; have HV5 := Lib.hid hv5; clear hv5; obtain ⟨⟨A5, c5, rfl, _, _, _⟩, _⟩ := id hl5))
                  | (go_at_call 39; ((with_reducible refine (rmul_wide (.slice A3 l3.length d3) (.slice A4 l4.length d4) l3 l4 _ (HL3.out.below ?_) (HL4.out.below ?_) s34).mono ?_); (repeat (first | with_reducible exact Below.refl _ _ | with_reducible refine bl_call h7 ?_ | with_reducible refine bl_call h6 ?_ | with_reducible refine bl_call h5 ?_ | with_reducible refine bl_alloc ?_ _ | with_reducible refine bl_drew ?_)); (repeat (first | with_reducible exact Below.refl _ _ | with_reducible refine bl_call h7 ?_ | with_reducible refine bl_call h6 ?_ | with_reducible refine bl_call h5 ?_ | with_reducible refine bl_alloc ?_ _ | with_reducible refine bl_drew ?_)); rintro e w6 ⟨v6, rfl, l6, hl6, _, hv6, hk6, _, h6⟩; have HV6 := Lib.hid hv6; clear hv6; obtain ⟨⟨A6, c6, rfl, _, _, _⟩, _⟩ := id hl6))
                  | (go_at_call 55; ((with_reducible refine (rcmp_BQ _ _ l5 l6 _ (hl5.below ?_) (hl6.below ?_) (Nat.le_trans hk5 s12) (Nat.le_trans hk6 s34)).mono ?_); (repeat (first | with_reducible exact Below.refl _ _ | with_reducible refine bl_call h7 ?_ | with_reducible refine bl_call h6 ?_ | with_reducible refine bl_call h5 ?_ | with_reducible refine bl_alloc ?_ _ | with_reducible refine bl_drew ?_)); (repeat (first | with_reducible exact Below.refl _ _ | with_reducible refine bl_call h7 ?_ | with_reducible refine bl_call h6 ?_ | with_reducible refine bl_call h5 ?_ | with_reducible refine bl_alloc ?_ _ | with_reducible refine bl_drew ?_)); rintro e w7 ⟨rfl, h7⟩)))
              all_goals
                have hb7 : Below wr.heap.size wr w7 := (by (repeat (first | with_reducible exact Below.refl _ _ | with_reducible refine bl_call h7 ?_ | with_reducible refine bl_call h6 ?_ | with_reducible refine bl_call h5 ?_ | with_reducible refine bl_alloc ?_ _ | with_reducible refine bl_drew ?_)))
                have B7 : Below w2.heap.size w2 w7 := BR.trans (hb7.mono BR.size)
                rw [HV5.out, HV6.out, HV1.out, HV2.out, HV3.out, HV4.out]
                by_cases hc : xs.getD i 0 * bs.getD k 0 = xs.getD k 0 * bs.getD i 0
                · rw [hc]
                  have t2 : (cmpN (xs.getD k 0 * bs.getD i 0) (xs.getD k 0 * bs.getD i 0) != 0) = false := by unfold cmpN; simp
                  have HC := Lib.hid hc
                  clear hc
                  generalize cmpN (xs.getD k 0 * bs.getD i 0) (xs.getD k 0 * bs.getD i 0) = cm at *
                  go_wp2_with fail
                  go_roundw
                  case rel =>
                    refine ⟨k + 1, by omega, by go_num, fun k' hk' => ?_, B7⟩
                    rcases Nat.lt_or_ge k' k with h | h
                    · exact HI.out k' h
                    · obtain rfl : k' = k := by omega
                      exact HC.out
                  case measure => simp [intOf]; omega
                · have t2 : (cmpN (xs.getD i 0 * bs.getD k 0) (xs.getD k 0 * bs.getD i 0) != 0) = true := by
                    rw [bne_iff_ne]
                    unfold cmpN
                    split
                    · decide
                    · split
                      · decide
                      · omega
                  have HF : Hid (z = false) := by
                    unfold Hid
                    rw [← HZ.out]
                    exact sameR_no HSX.out HSB.out hi hk hc
                  clear hc
                  generalize cmpN (xs.getD i 0 * bs.getD k 0) (xs.getD k 0 * bs.getD i 0) = cm at *
                  go_wp2_with fail
                  go_ret
                  exact ⟨by rw [HF.out]; rfl, BB.trans (B7.mono BB.size)⟩
            · obtain rfl : k = n := by omega
              go_wp2_with fail
              go_roundw
              case rel =>
                refine ⟨i + 1, by omega, by go_num, fun i' hi' k' hk' => ?_, BR⟩
                rcases Nat.lt_or_ge i' i with h | h
                · exact HA.out i' h k' hk'
                · obtain rfl : i' = i := by omega
                  exact HI.out k' hk'
              case measure => simp [intOf]; omega
        · obtain rfl : i = n := by omega
          have HF : Hid (z = true) := by
            unfold Hid
            rw [← HZ.out]
            exact sameR_yes HSX.out HSB.out HDD.out HA.out
          go_wp2_with fail
          go_ret
          exact ⟨by rw [HF.out]; rfl, BB.trans (BR.mono BB.size)⟩
    · have HD : Hid ((da != db) = true) := by unfold Hid; rw [bne_iff_ne]; exact hd
      have HD2 : Hid ((da == db) = false) := by unfold Hid; rw [beq_eq_false_iff_ne]; exact hd
      have HF : Hid (z = false) := by
        unfold Hid
        rw [← HZ.out]
        exact sameR_zero HSX.out HSB.out (by rw [HDA.out, HDB.out]; exact hd)
      clear hd
      go_enter Tryd.func20, Tryd.ntmps20
      go_wp2_with fail
      refine (rsumw_any _ xs L _ hw hL').mono ?_
      rintro e w5 ⟨v5, rfl, ⟨l5, hl5, _, hv5, _⟩, h5⟩
      obtain ⟨⟨A5, c5, rfl, _, _, _⟩, _⟩ := id hl5
      go_wp2_with fail
      refine (rzero1_any _ l5 _ hl5).mono ?_
      rintro e w7 ⟨rfl, h7⟩
      rw [hv5, HDA.out]
      have B7 := h5.trans (h7.mono h5.size)
      clear hl5 hv5 h5 h7
      go_wp2_with fail
      refine (rsumw_any _ bs L _ (hv.below B7) hL').mono ?_
      rintro e w6 ⟨v6, rfl, ⟨l6, hl6, _, hv6, _⟩, h6⟩
      obtain ⟨⟨A6, c6, rfl, _, _, _⟩, _⟩ := id hl6
      go_wp2_with fail
      refine (rzero1_any _ l6 _ hl6).mono ?_
      rintro e w2 ⟨rfl, h8⟩
      rw [hv6, HDB.out]
      have hbc : Below w.heap.size w w2 := (B7.trans (h6.mono B7.size)).trans (h8.mono (Nat.le_trans B7.size h6.size))
      clear hl6 hv6 h6 h8 B7
      have hdd := HD.out
      have hde := HD2.out
      go_wp2_with fail
      go_ret
      exact ⟨by rw [HF.out]; rfl, hbc⟩
  · have hne : ((n : Int) != (bs.length : Int)) = true := by rw [bne_iff_ne]; omega
    have HF : Hid (z = false) := by
      unfold Hid
      rw [← HZ.out]
      unfold sameR
      rw [if_pos (by omega)]
    rw [hn] at hws hwc ⊢
    clear hn hl
    generalize bs.length = m at *
    go_enter Tryd.func20, Tryd.ntmps20
    go_wp2_with fail
    go_ret
    exact ⟨by rw [HF.out]; rfl, Below.refl _ _⟩
end Go.Proofs.YtoihjclkocffhaaDoor
