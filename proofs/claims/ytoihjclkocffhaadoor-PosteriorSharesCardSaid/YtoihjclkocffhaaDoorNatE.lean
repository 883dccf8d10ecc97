/- The walks of nat's DivMod and Gcd for any divisor. -/
import Derived.Test.YtoihjclkocffhaaDoorKnd
namespace Go.Proofs.YtoihjclkocffhaaDoor
open Go.RowKit
set_option linter.unusedVariables false

theorem noTop_top {l : List Nat} {n : Nat} (h : NoTop l) (hl : l.length = n + 1) : 0 < l.getD n 0 := by
  rcases h with rfl | ⟨m, x, rfl, hx⟩
  · simp at hl
  · rw [List.length_append] at hl
    have hm : m.length = n := by simpa using hl
    subst hm
    simpa [List.getD_eq_getElem?_getD] using hx
theorem two_limbs {l : List Nat} (h : AllB l) (hv : 4294967296 ≤ val l) : 2 ≤ l.length := by
  rcases Nat.lt_or_ge l.length 2 with h1 | h1
  · have := val_lt h
    have h2 := bp_mono (show l.length ≤ 1 by omega)
    rw [bp_one] at h2
    omega
  · exact h1

set_option maxHeartbeats 4000000 in
theorem divmod_big (v u : Value) (la lb : List Nat) (w : World) (ha : Lim w v la) (hb : Lim w u lb) (h1 : la.length ≤ 70368744177600) (h2 : lb.length ≤ 70368744177600) (hbig : 4294967296 ≤ val lb) :
    Calls Tryd.prog 46 #[v, u] w fun e w' => ∃ q r, e = .returned (.tuple #[q, r, .bool true]) ∧ DRes w w' q r (val la) (val lb) la.length lb.length := by
  obtain ⟨⟨A, c, rfl, hn, hc, hs⟩, hall⟩ := ha
  obtain ⟨⟨B, c', rfl, hn', hc', hs'⟩, hall'⟩ := hb
  have l1 := strip_len la
  have l2 := strip_len lb
  have HSA := Lib.hid (strip_val la)
  have HSB := Lib.hid (strip_val lb)
  have hLa := Lim.strip hs hn hc hall
  have hLb := Lim.strip hs' hn' hc' hall'
  have HC := Lib.hid (cmp_any _ _ (strip la) (strip lb) w hLa hLb)
  have hsA := hs.strip
  have hsB := hs'.strip
  have HT2 : Hid (∀ w', w = w' → Calls Tryd.prog 76 #[.slice B lb.length c'] w' fun e w'' => e = .returned (.slice B (strip lb).length c') ∧ w' = w'') := fun w' hw => by subst hw; exact trim_any B lb.length c' lb w hs' hn' hc'
  have HT1 : Hid (∀ w', w = w' → Calls Tryd.prog 76 #[.slice A la.length c] w' fun e w'' => e = .returned (.slice A (strip la).length c) ∧ w' = w'') := fun w' hw => by subst hw; exact trim_any A la.length c la w hs hn hc
  have hall1 := strip_all hall
  have hall2 := strip_all hall'
  have hnt1 := strip_noTop la
  have hnt2 := strip_noTop lb
  have hlv := val_lt hall'
  have htwo := two_limbs hall2 (by rw [HSB.out]; exact hbig)
  have hvb : 0 < val (strip lb) := by rw [HSB.out]; omega
  rw [← HSB.out] at hlv
  clear hs hs' hall hall' hbig
  rw [← HSA.out, ← HSB.out]
  generalize hsl : strip la = sa at *
  generalize hsm : strip lb = sb at *
  clear hsl hsm HSA HSB
  obtain ⟨n, hnb⟩ : ∃ n, sb.length = n + 2 := ⟨sb.length - 2, by omega⟩
  have htop := noTop_top hnt2 hnb
  obtain ⟨na, hna⟩ : ∃ na, sa.length = na := ⟨_, rfl⟩
  have HNA := Lib.hid hna
  have HNB := Lib.hid hnb
  have HNT1 := Lib.hid hnt1
  have HNT2 := Lib.hid hnt2
  rw [hna] at l1 hsA HT1 HC hLa
  rw [hnb] at l2 hsB HT2 HC hLb
  have cc1 : ((n + 2 : Nat) : Int) = (n : Int) + 2 := by omega
  have cc2 : ((n : Int) + 2 == 0) = false := by rw [beq_eq_false_iff_ne]; omega
  have cc3 : ((n : Int) + 2 == 1) = false := by rw [beq_eq_false_iff_ne]; omega
  clear hna hnb hnt1 hnt2 htwo
  go_enter Tryd.func46, Tryd.ntmps46
  go_wp2_with fail
  refine (HT1.out _ rfl).mono ?_
  rintro e w' ⟨rfl, rfl⟩
  go_wp2_with fail
  refine (HT2.out _ rfl).mono ?_
  rintro e w' ⟨rfl, rfl⟩
  clear HT1 HT2
  go_wp2_with fail
  refine HC.out.mono ?_
  rintro e w' ⟨rfl, dr, rfl⟩
  clear HC
  have BD : Below w.heap.size w (w.drewN dr) := below_drewN (Below.refl _ _) dr
  have hLa' := hLa.drewN dr
  have hsA' : Sl (w.drewN dr) A na (lims sa) := hsA
  have hsB' : Sl (w.drewN dr) B (n + 2) (lims sb) := hsB
  have hcA : na ≤ c := by obtain ⟨⟨_, _, e, h, _⟩, _⟩ := hLa; injection e with _ e1 e2; omega
  have hcB : n + 2 ≤ c' := by obtain ⟨⟨_, _, e, h, _⟩, _⟩ := hLb; injection e with _ e1 e2; omega
  clear hLa hLb hsA hsB
  by_cases hlt : val sa < val sb
  · have f1 : decide (cmpN (val sa) (val sb) < 0) = true := by rw [cmpN_lt hlt]; rfl
    have HQ : Hid (val sa / val sb = 0) := Nat.div_eq_of_lt hlt
    have HR : Hid (val sa % val sb = val sa) := Nat.mod_eq_of_lt hlt
    generalize cmpN (val sa) (val sb) = cm at *
    generalize w.drewN dr = wd at *
    go_wp2_with fail
    refine (norm_any _ sa _ hLa' (by rw [HNA.out]; omega)).mono ?_
    rintro e w2 ⟨v2, rfl, hN⟩
    have hb2 := hN.bel
    go_wp2_with fail
    go_ret3
    have hf := hN.fresh
    have hnat := hN.nat.short (k := lb.length) (Nat.lt_trans hlt hlv)
    exact ⟨_, v2, rfl, ⟨by rw [HQ.out]; exact natAt_nilD _ _, trivial⟩, ⟨by rw [HR.out]; exact hnat, hf.mono BD.size⟩, BD.trans (hb2.mono BD.size)⟩
  · have f1 : decide (cmpN (val sa) (val sb) < 0) = false := by
      refine decide_eq_false ?_
      unfold cmpN
      rw [if_neg (by omega)]
      split <;> omega
    obtain ⟨m, rfl⟩ : ∃ m, na = m + n + 2 := by
      rcases Nat.lt_or_ge na (n + 2) with h | h
      · have := val_lt_of_len hall1 HNT2.out (by rw [HNA.out, HNB.out]; exact h)
        omega
      · exact ⟨na - n - 2, by omega⟩
    have HDV := Lib.hid (divLong_any A B c c' n m sa sb (w.drewN dr) hsA' hsB' hall1 hall2 (by omega) hcA hc hcB hc' htop)
    generalize cmpN (val sa) (val sb) = cm at *
    generalize w.drewN dr = wd at *
    go_wp2_with fail
    refine HDV.out.mono ?_
    rintro e w2 ⟨q, r, rfl, ⟨hq, fq⟩, ⟨hr, fr⟩, hb2⟩
    go_wp2_with fail
    go_ret3
    exact ⟨q, r, rfl, ⟨hq.mono l1, fq.mono BD.size⟩, ⟨hr.mono l2, fr.mono BD.size⟩, BD.trans (hb2.mono BD.size)⟩
theorem divmod_all (v u : Value) (la lb : List Nat) (w : World) (ha : Lim w v la) (hb : Lim w u lb) (h1 : la.length ≤ 70368744177600) (h2 : lb.length ≤ 70368744177600) (h0 : 0 < val lb) :
    Calls Tryd.prog 46 #[v, u] w fun e w' => ∃ q r, e = .returned (.tuple #[q, r, .bool true]) ∧ DRes w w' q r (val la) (val lb) la.length lb.length := by
  rcases Nat.lt_or_ge (val lb) 4294967296 with h | h
  · exact divmod_any v u la lb w ha hb (by omega) (by omega) h0 h
  · exact divmod_big v u la lb w ha hb h1 h2 h

set_option maxHeartbeats 2000000 in
theorem gcd_all (v u : Value) (la lb : List Nat) (w : World) (ha : Lim w v la) (hb : Lim w u lb) (h1 : la.length ≤ 70368744177600) (h2 : lb.length ≤ 70368744177600) :
    Calls Tryd.prog 45 #[v, u] w fun e w' => ∃ g, e = .returned g ∧ NatAt w' g (Nat.gcd (val la) (val lb)) (max la.length lb.length) ∧ Fresh w.heap.size g ∧ Below w.heap.size w w' := by
  go_enter Tryd.func45, Tryd.ntmps45
  go_wp2_with fail
  refine (norm_any _ la _ ha (by omega)).mono ?_
  rintro e w1 ⟨v1, rfl, hN1⟩
  have hb1 := hN1.bel
  go_wp2_with fail
  refine (norm_any _ lb _ (hb.below hb1) (by omega)).mono ?_
  rintro e w2 ⟨v2, rfl, hN2⟩
  have hb2 := hN2.bel
  have B2 := hb1.trans (hb2.mono hb1.size)
  have hA := (hN1.nat.below hb2).mono (Nat.le_max_left la.length lb.length)
  have hB := hN2.nat.mono (Nat.le_max_right la.length lb.length)
  have fA := hN1.fresh
  have fB := hN2.fresh.mono hb1.size
  have hL : max la.length lb.length ≤ 70368744177600 := by omega
  obtain ⟨G, hG⟩ : ∃ G, Nat.gcd (val la) (val lb) = G := ⟨_, rfl⟩
  have HG := Lib.hid hG
  have HG0 := Lib.hid hG
  obtain ⟨L, hLm⟩ : ∃ L, max la.length lb.length = L := ⟨_, rfl⟩
  have HLM := Lib.hid hLm
  rw [hLm] at hA hB hL
  clear hN1 hN2 hb1 hb2 ha hb h1 h2 hG hLm
  have hA0 := hA
  have hB0 := hB
  obtain ⟨l1, ⟨⟨A1, c1, rfl, _, _, _⟩, _⟩, _, _, _⟩ := hA0
  obtain ⟨l2, ⟨⟨A2, c2, rfl, _, _, _⟩, _⟩, _, _, _⟩ := hB0
  go_wp2_with fail
  go_loopw [0, 1] (fun av bv wr => ∃ (x y : Value) (a b : Nat), av = x ∧ bv = y ∧ NatAt wr x a L ∧ NatAt wr y b L ∧ Fresh w.heap.size x ∧ Fresh w.heap.size y ∧ Hid (Nat.gcd a b = G) ∧ Below w.heap.size w wr) (fun _ bv wr => natOf wr bv)
  case atStart => exact ⟨_, _, val la, val lb, rfl, rfl, hA, hB, fA, fB, HG, B2⟩
  case round =>
    clear hA hB fA fB HG B2
    obtain ⟨x, y, a, b, rfl, rfl, hA, hB, fA, fB, HG, hb⟩ := hrel
    have hA0 := hA
    have hB0 := hB
    obtain ⟨l1, hl1, nt1, e1, k1⟩ := hA0
    obtain ⟨l2, hl2, nt2, e2, k2⟩ := hB0
    have HM := Lib.hid (natOf_eq hB)
    rcases Nat.eq_zero_or_pos b with h0 | hp
    · have hnil : l2 = [] := nt2.zero (by rw [e2]; exact h0)
      have HGA : Hid (a = G) := by unfold Hid; rw [← HG.out, h0, Nat.gcd_zero_right]
      subst hnil
      obtain ⟨⟨A2, c2, rfl, _, _, _⟩, _⟩ := hl2
      obtain ⟨⟨A1, c1, rfl, _, _, _⟩, _⟩ := hl1
      clear h0 e1 e2
      go_wp2_with fail
      go_ret
      exact ⟨_, rfl, by rw [HG0.out, ← HGA.out, HLM.out]; exact hA, fA, hb⟩
    · have hlen : 0 < l2.length := by
        rcases Nat.eq_zero_or_pos l2.length with h | h
        · have := List.eq_nil_of_length_eq_zero h; subst this; simp [val] at e2; omega
        · exact h
      have HD := Lib.hid (divmod_all _ _ l1 l2 wr hl1 hl2 (by omega) (by omega) (by rw [e2]; exact hp))
      obtain ⟨⟨A2, c2, rfl, _, _, _⟩, _⟩ := hl2
      obtain ⟨⟨A1, c1, rfl, _, _, _⟩, _⟩ := hl1
      have HE1 := Lib.hid e1
      have HE2 := Lib.hid e2
      have HGS : Hid (Nat.gcd b (a % b) = G) := by unfold Hid; rw [← gcd_step]; exact HG.out
      have hlt : a % b < b := Nat.mod_lt _ hp
      clear e1 e2
      go_wp2_with fail
      refine HD.out.mono ?_
      rintro e w3 ⟨q, r, rfl, ⟨hq, fq⟩, ⟨hr, fr⟩, hb3⟩
      rw [HE1.out, HE2.out] at hr
      have hr' := hr
      obtain ⟨l3, ⟨⟨A3, c3, rfl, _, _, _⟩, _⟩, _, _, _⟩ := hr'
      have hq' := hq
      obtain ⟨l4, ⟨⟨A4, c4, rfl, _, _, _⟩, _⟩, _, _, _⟩ := hq'
      go_wp2_with fail
      have HM2 := Lib.hid (natOf_eq hr)
      go_roundw
      case rel => exact ⟨_, _, b, a % b, rfl, rfl, hB.below hb3, hr.mono k2, fB, fr.mono hb.size, HGS, hb.trans (hb3.mono hb.size)⟩
      case measure =>
        show natOf _ _ < natOf _ _
        rw [HM.out, HM2.out]
        exact hlt
end Go.Proofs.YtoihjclkocffhaaDoor
