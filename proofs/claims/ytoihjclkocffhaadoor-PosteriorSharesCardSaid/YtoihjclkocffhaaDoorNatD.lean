/- The walks of nat's divLimb, DivMod at divisors of one limb, Gcd. -/
import Derived.Test.YtoihjclkocffhaaDoorNatL
import Derived.Test.YtoihjclkocffhaaDoorDivP
import Derived.Laws.BitsAllLaws
namespace Go.Proofs.YtoihjclkocffhaaDoor
open Go.RowKit
set_option linter.unusedVariables false

theorem fpad_set (l : List Nat) (k x : Nat) : (List.replicate (k + 1) 0 ++ l).set k x = List.replicate k 0 ++ x :: l := by
  rw [List.replicate_succ', List.append_assoc, List.set_append_right _ _ (by simp)]
  simp
theorem fpad_get (l : List Nat) (k : Nat) : (List.replicate (k + 1) 0 ++ l).getD k 0 = 0 := by
  rw [List.getD_eq_getElem?_getD, List.getElem?_append_left (by simp)]
  simp
theorem val_drop_step (l : List Nat) (k : Nat) (h : k < l.length) : val (l.drop k) = l.getD k 0 + 4294967296 * val (l.drop (k + 1)) := by
  have : l.drop k = l.getD k 0 :: l.drop (k + 1) := by
    rw [List.drop_eq_getElem_cons h]
    simp [List.getD, List.getElem?_eq_getElem h]
  rw [this]; rfl
theorem or_limb (R x : Nat) (hR : R < 4294967296) (hx : x < 4294967296) : bits .or .u64 ((R : Int) * 4294967296) (x : Int) = (R : Int) * 4294967296 + (x : Int) := by
  have h1 : ((R : Int) * 4294967296) = ((R * 4294967296 : Nat) : Int) := by omega
  rw [h1, u64_or_nat _ _ (by omega) (by omega)]
  have h2 := Nat.shiftLeft_add_eq_or_of_lt (i := 32) (b := x) (by omega) R
  rw [Nat.shiftLeft_eq] at h2
  have h3 : R * 2 ^ 32 = R * 4294967296 := by rw [show (2 : Nat) ^ 32 = 4294967296 by decide]
  rw [h3] at h2
  rw [← h2]
  omega

set_option maxHeartbeats 2000000 in
theorem divLimb_any (A : Option Addr) (n c d : Nat) (ls : List Nat) (w : World) (hs : Sl w A n (lims ls)) (hall : AllB ls) (hn : n ≤ c) (hc : c ≤ 9223372036854775807) (hl : n ≤ 70368744177650) (hd : 0 < d) (hd2 : d < 4294967296) :
    Calls Tryd.prog 80 #[.slice A n c, .int .u32 (d : Int)] w fun e w' => ∃ v, e = .returned (.tuple #[v, .int .u32 ((val ls % d : Nat) : Int)]) ∧ NRes w w' v (val ls / d) n := by
  have hmk := run_mk (P := Tryd.prog) Tryd.underlying50 infoU32 rfl n (by omega) (by omega)
  have hln : ls.length = n := by have := hs.1; rwa [lims_len] at this
  have HLN := Lib.hid hln
  have HD := Lib.hid hd
  have HD0 : ((d : Int) == 0) = false := by rw [beq_eq_false_iff_ne]; omega
  clear hln
  go_enter Tryd.func80, Tryd.ntmps80
  go_wp2_with fail
  clear hmk
  go_loopw [7, 8] (fun rv i wr => ∃ (k R : Nat) (Q : List Nat), k ≤ n ∧ i = .int .i64 ((k : Int) - 1) ∧ rv = .int .u64 (R : Int) ∧ R < d ∧ Hid (Q.length = n - k) ∧ AllB Q ∧ Hid (val (ls.drop k) = val Q * d + R) ∧ Row wr w.heap.size 69 (lims (List.replicate k 0 ++ Q)) ∧ Below w.heap.size w wr) (fun _ i _ => (intOf i + 1).toNat)
  case atStart => exact ⟨n, 0, [], by omega, rfl, rfl, hd, by simp [Hid], AllB.nil, by unfold Hid; rw [List.drop_of_length_le (by rw [HLN.out]; omega)]; simp [val], by rw [List.append_nil, lims_zeros]; exact Row.newz _ _ _ _, (Below.refl _ _).alloc (Nat.le_refl _) _⟩
  case round =>
    obtain ⟨k, R, Q, hk, rfl, rfl, hR, hQ, hallQ, hval, hrow, hb⟩ := hrel
    rcases Nat.eq_zero_or_pos k with h0 | hp
    · subst h0
      have hrow' : Row wr w.heap.size 69 (lims Q) := by simpa using hrow
      have hsl := hrow'.sl
      rw [lims_len, hQ.out, Nat.sub_zero] at hsl
      have hv : val ls = val Q * d + R := by have := hval.out; rwa [List.drop_zero] at this
      have HV1 : Hid (val ls / d = val Q) := by unfold Hid; rw [hv, Nat.mul_comm, Nat.mul_add_div HD.out, Nat.div_eq_of_lt hR]; rfl
      have HV2 : Hid (val ls % d = R) := by unfold Hid; rw [hv, Nat.mul_comm, Nat.mul_add_mod, Nat.mod_eq_of_lt hR]
      clear hv hval
      go_wp2_with fail
      refine (trim_any _ n n Q _ hsl (Nat.le_refl _) (by unfold maxLen; omega)).mono ?_
      rintro e w' ⟨rfl, rfl⟩
      go_wp2_with fail
      go_ret2
      refine ⟨_, by rw [HV2.out]; rfl, _, Lim.strip hsl (Nat.le_refl _) (by unfold maxLen; omega) hallQ, strip_noTop _, by rw [strip_val, HV1.out], Nat.le_trans (strip_len _) (by rw [hQ.out]; omega), Nat.le_refl _, hb⟩
    · obtain ⟨j, rfl⟩ : ∃ j, k = j + 1 := ⟨k - 1, by omega⟩
      have hjn : j < n := by omega
      obtain ⟨b1, o1, rfl, hb1, hcell⟩ := hs.lim hjn
      have g1 : wr.cell? ⟨b1, o1 + j, none⟩ = some (.int .u32 ((ls.getD j 0 : Nat) : Int)) := (hb.cell (p := ⟨b1, o1 + j, none⟩) hb1).trans (hcell j hjn)
      have hx := hall.getD j
      have HX := Lib.hid (val_drop_step ls j (by rw [HLN.out]; exact hjn))
      have hc0 : wr.cell? ⟨w.heap.size, j, none⟩ = some (.int .u32 0) := by
        rw [hrow.cell, lims_get _ (by simp; omega), fpad_get]; rfl
      have hf0 : wr.frozen? ⟨w.heap.size, j, none⟩ = false := hrow.frozen j
      generalize ls.getD j 0 = xx at *
      have hR2 : R < 4294967296 := by omega
      have hor := or_limb R xx hR2 hx
      have HS := Lib.hid (div_step hval.out hR (by omega) hx)
      have hq1 := HS.out.2.1
      have hq2 := HS.out.2.2
      have e1 : ((((j + 1 : Nat) : Int)) - 1) = (j : Int) := by omega
      have E1 := Lib.hid e1
      have HQ1 : Hid (((R : Int) * 4294967296 + (xx : Int)) / (d : Int) % 4294967296 = (((R * 4294967296 + xx) / d : Nat) : Int)) := by
        unfold Hid
        rw [show ((R : Int) * 4294967296 + (xx : Int)) = ((R * 4294967296 + xx : Nat) : Int) by omega, ← Int.natCast_ediv]
        generalize (R * 4294967296 + xx) / d = q at *
        omega
      have HQ2 : Hid (((R : Int) * 4294967296 + (xx : Int)) % (d : Int) = (((R * 4294967296 + xx) % d : Nat) : Int)) := by
        unfold Hid
        rw [show ((R : Int) * 4294967296 + (xx : Int)) = ((R * 4294967296 + xx : Nat) : Int) by omega, ← Int.natCast_emod]
      clear hcell e1
      rw [E1.out]
      go_wp2_with fail
      rw [HQ1.out, HQ2.out]
      go_roundw
      case rel =>
        refine ⟨j, (R * 4294967296 + xx) % d, (R * 4294967296 + xx) / d :: Q, by omega, rfl, rfl, hq2, by unfold Hid; rw [List.length_cons, hQ.out]; omega, AllB.cons hq1 hallQ, ?_, ?_, hb.setCell (Nat.le_refl _) _⟩
        · unfold Hid
          rw [HX.out, HS.out.1]
          show _ = ((R * 4294967296 + xx) / d + 4294967296 * val Q) * d + _
          rfl
        · rw [← fpad_set, ← lims_set]
          exact hrow.set_ j _
      case measure => simp [intOf]

/-- Quotient and remainder in new memory. -/
def DRes (w w' : World) (q r : Value) (a b La Lb : Nat) : Prop := (NatAt w' q (a / b) La ∧ Fresh w.heap.size q) ∧ (NatAt w' r (a % b) Lb ∧ Fresh w.heap.size r) ∧ Below w.heap.size w w'
theorem strip_one {lb : List Nat} (hall : AllB lb) (h0 : 0 < val lb) (h1 : val lb < 4294967296) : strip lb = [val lb] := by
  refine norm_inj (strip_all hall) (AllB.cons h1 AllB.nil) (strip_noTop lb) (noTop_snoc [] h0) ?_
  rw [strip_val]; simp [val]
theorem len_pos_of_val {lb : List Nat} (h0 : 0 < val lb) : 1 ≤ lb.length := by
  cases lb with
  | nil => simp [val] at h0
  | cons => simp
theorem natAt_nilD (w : World) (L : Nat) : NatAt w (.slice none 0 0) 0 L := ⟨[], ⟨⟨none, 0, rfl, by simp, by simp, Sl.nil⟩, AllB.nil⟩, by simp [NoTop], rfl, by simp⟩

set_option maxHeartbeats 2000000 in
theorem divmod_any (v u : Value) (la lb : List Nat) (w : World) (ha : Lim w v la) (hb : Lim w u lb) (h1 : la.length ≤ 70368744177650) (h2 : lb.length ≤ 70368744177650) (h0 : 0 < val lb) (hone : val lb < 4294967296) :
    Calls Tryd.prog 46 #[v, u] w fun e w' => ∃ q r, e = .returned (.tuple #[q, r, .bool true]) ∧ DRes w w' q r (val la) (val lb) la.length lb.length := by
  obtain ⟨⟨A, c, rfl, hn, hc, hs⟩, hall⟩ := ha
  obtain ⟨⟨B, c', rfl, hn', hc', hs'⟩, hall'⟩ := hb
  have l1 := strip_len la
  have lb1 := len_pos_of_val h0
  have hsb := strip_one hall' h0 hone
  have HSA := Lib.hid (strip_val la)
  have hLa := Lim.strip hs hn hc hall
  have hLb := Lim.strip hs' hn' hc' hall'
  rw [hsb] at hLb
  have HC := Lib.hid (cmp_any _ _ (strip la) [val lb] w hLa hLb)
  have HVB : Hid (val [val lb] = val lb) := by simp [Hid, val]
  have hsA := hs.strip
  have HT2 : Hid (∀ w', w = w' → Calls Tryd.prog 76 #[.slice B lb.length c'] w' fun e w'' => e = .returned (.slice B 1 c') ∧ w' = w'') := fun w' hw => by
    subst hw
    have := trim_any B lb.length c' lb w hs' hn' hc'
    rwa [hsb] at this
  have HT1 : Hid (∀ w', w = w' → Calls Tryd.prog 76 #[.slice A la.length c] w' fun e w'' => e = .returned (.slice A (strip la).length c) ∧ w' = w'') := fun w' hw => by subst hw; exact trim_any A la.length c la w hs hn hc
  have hsB : Sl w B 1 (lims [val lb]) := by
    have := hs'.strip
    rwa [hsb] at this
  obtain ⟨b1, o1, rfl, hb1, hcell⟩ := hsB.lim (show 0 < 1 by omega)
  have g1 : w.cell? ⟨b1, o1, none⟩ = some (.int .u32 ((val lb : Nat) : Int)) := by have := hcell 0 (by omega); simpa using this
  have hall1 := strip_all hall
  have HNT := Lib.hid (strip_noTop la)
  clear hsb hs hs' hall hall' hLb hsB hcell
  generalize hd : val lb = d at *
  clear hd
  rw [← HSA.out]
  generalize hsl : strip la = sa at *
  clear hsl HSA
  obtain ⟨na, hna⟩ : ∃ na, sa.length = na := ⟨_, rfl⟩
  have HNA := Lib.hid hna
  rw [hna] at l1 hsA HT1 HC hLa
  clear hna
  go_enter Tryd.func46, Tryd.ntmps46
  go_wp2_with fail
  refine (HT1.out _ rfl).mono ?_
  rintro e w' ⟨rfl, rfl⟩
  go_wp2_with fail
  refine (HT2.out _ rfl).mono ?_
  rintro e w' ⟨rfl, rfl⟩
  clear HT1 HT2
  go_wp2_with fail
  refine HC.out.mono ?_
  rintro e w' ⟨rfl, dr, rfl⟩
  rw [HVB.out]
  clear HC HVB
  have BD : Below w.heap.size w (w.drewN dr) := below_drewN (Below.refl _ _) dr
  have hLa' := hLa.drewN dr
  have hsA' : Sl (w.drewN dr) A na (lims sa) := hsA
  have g2 : (w.drewN dr).cell? ⟨b1, o1, none⟩ = some (.int .u32 (d : Int)) := g1
  have hcA : na ≤ c := by obtain ⟨⟨_, _, e, h, _⟩, _⟩ := hLa; injection e with _ e1 e2; omega
  clear g1 hLa hsA
  by_cases hlt : val sa < d
  · have f1 : decide (cmpN (val sa) d < 0) = true := by rw [cmpN_lt hlt]; rfl
    have HQ : Hid (val sa / d = 0) := Nat.div_eq_of_lt hlt
    have HR : Hid (val sa % d = val sa) := Nat.mod_eq_of_lt hlt
    generalize cmpN (val sa) d = cm at *
    generalize w.drewN dr = wd at *
    go_wp2_with fail
    refine (norm_any _ sa _ hLa' (by rw [HNA.out]; omega)).mono ?_
    rintro e w2 ⟨v2, rfl, hN⟩
    have hb2 := hN.bel
    go_wp2_with fail
    go_ret3
    have hf := hN.fresh
    have hnat := hN.nat.short (k := lb.length) (Nat.lt_of_lt_of_le (Nat.lt_trans hlt hone) (bp_mono (i := 1) lb1))
    exact ⟨_, v2, rfl, ⟨by rw [HQ.out]; exact natAt_nilD _ _, trivial⟩, ⟨by rw [HR.out]; exact hnat, hf.mono BD.size⟩, BD.trans (hb2.mono BD.size)⟩
  · have f1 : decide (cmpN (val sa) d < 0) = false := by
      refine decide_eq_false ?_
      unfold cmpN
      rw [if_neg (by omega)]
      split <;> omega
    have hm : val sa % d < d := Nat.mod_lt _ h0
    generalize cmpN (val sa) d = cm at *
    generalize w.drewN dr = wd at *
    go_wp2_with fail
    refine (divLimb_any A na c d sa _ hsA' hall1 hcA hc (by omega) h0 hone).mono ?_
    rintro e w2 ⟨v2, rfl, hN⟩
    have hb2 := hN.bel
    go_wp2_with fail
    refine (of_any (val sa % d) _ (by omega)).mono ?_
    rintro e w3 ⟨v3, rfl, hM⟩
    have hb3 := hM.bel
    go_wp2_with fail
    go_ret3
    have hnat := hM.nat.short (k := lb.length) (Nat.lt_of_lt_of_le (Nat.lt_trans hm hone) (bp_mono (i := 1) lb1))
    exact ⟨v2, v3, rfl, ⟨(hN.nat.below hb3).mono l1, hN.fresh.mono BD.size⟩, ⟨hnat, hM.fresh.mono (Nat.le_trans BD.size hb2.size)⟩, BD.trans ((hb2.trans (hb3.mono hb2.size)).mono BD.size)⟩

theorem Lim.unique {w : World} {v : Value} {a b : List Nat} (h : Lim w v a) (h' : Lim w v b) : a = b := by
  obtain ⟨⟨A, c, e1, _, _, hs⟩, _⟩ := h
  obtain ⟨⟨B, c', e2, _, _, hs'⟩, _⟩ := h'
  rw [e1] at e2
  injection e2 with x1 x2 x3
  subst x1
  apply List.ext_getElem x2
  intro i h1 h2
  obtain ⟨b1, o1, eA, hc⟩ := hs.2 (by omega)
  obtain ⟨b2, o2, eA', hc'⟩ := hs'.2 (by omega)
  rw [eA] at eA'
  injection eA' with eA'
  injection eA' with y1 y2 _
  subst y1 y2
  have g1 := hc i _ (lims_get a h1)
  have g2 := hc' i _ (lims_get b h2)
  rw [g1] at g2
  injection g2 with g2
  injection g2 with _ g2
  have e : ∀ (l : List Nat) (hi : i < l.length), l.getD i 0 = l[i] := fun l hi => by simp [List.getD, List.getElem?_eq_getElem hi]
  rw [e a h1, e b h2] at g2
  omega
theorem NatAt.unique {w : World} {v : Value} {n m L L' : Nat} (h : NatAt w v n L) (h' : NatAt w v m L') : n = m := by
  obtain ⟨a, h1, _, h3, _⟩ := h
  obtain ⟨b, h1', _, h3', _⟩ := h'
  rw [← h3, ← h3', h1.unique h1']
open Classical in
/-- The number that the value holds. -/
noncomputable def natOf (w : World) (v : Value) : Nat := if h : ∃ n L, NatAt w v n L then h.choose else 0
theorem natOf_eq {w : World} {v : Value} {n L : Nat} (h : NatAt w v n L) : natOf w v = n := by
  unfold natOf
  have hx : ∃ n L, NatAt w v n L := ⟨n, L, h⟩
  rw [dif_pos hx]
  obtain ⟨L', h'⟩ := hx.choose_spec
  exact h'.unique h
theorem NatAt.drewN {w : World} {v : Value} {n L : Nat} (h : NatAt w v n L) (d : Nat) : NatAt (w.drewN d) v n L := h

set_option maxHeartbeats 2000000 in
theorem gcd_any (v u : Value) (la lb : List Nat) (w : World) (ha : Lim w v la) (hb : Lim w u lb) (h1 : la.length ≤ 70368744177650) (h2 : lb.length ≤ 70368744177650) (hone : val lb < 4294967296) :
    Calls Tryd.prog 45 #[v, u] w fun e w' => ∃ g, e = .returned g ∧ NatAt w' g (Nat.gcd (val la) (val lb)) (max la.length lb.length) ∧ Fresh w.heap.size g ∧ Below w.heap.size w w' := by
  go_enter Tryd.func45, Tryd.ntmps45
  go_wp2_with fail
  refine (norm_any _ la _ ha (by omega)).mono ?_
  rintro e w1 ⟨v1, rfl, hN1⟩
  have hb1 := hN1.bel
  go_wp2_with fail
  refine (norm_any _ lb _ (hb.below hb1) (by omega)).mono ?_
  rintro e w2 ⟨v2, rfl, hN2⟩
  have hb2 := hN2.bel
  have B2 := hb1.trans (hb2.mono hb1.size)
  have hA := (hN1.nat.below hb2).mono (Nat.le_max_left la.length lb.length)
  have hB := hN2.nat.mono (Nat.le_max_right la.length lb.length)
  have fA := hN1.fresh
  have fB := hN2.fresh.mono hb1.size
  have hL : max la.length lb.length ≤ 70368744177650 := by omega
  obtain ⟨G, hG⟩ : ∃ G, Nat.gcd (val la) (val lb) = G := ⟨_, rfl⟩
  have HG := Lib.hid hG
  have HG0 := Lib.hid hG
  obtain ⟨L, hLm⟩ : ∃ L, max la.length lb.length = L := ⟨_, rfl⟩
  have HLM := Lib.hid hLm
  rw [hLm] at hA hB hL
  clear hN1 hN2 hb1 hb2 ha hb h1 h2 hG hLm
  have hA0 := hA
  have hB0 := hB
  obtain ⟨l1, ⟨⟨A1, c1, rfl, _, _, _⟩, _⟩, _, _, _⟩ := hA0
  obtain ⟨l2, ⟨⟨A2, c2, rfl, _, _, _⟩, _⟩, _, _, _⟩ := hB0
  go_wp2_with fail
  go_loopw [0, 1] (fun av bv wr => ∃ (x y : Value) (a b : Nat), av = x ∧ bv = y ∧ NatAt wr x a L ∧ NatAt wr y b L ∧ Fresh w.heap.size x ∧ Fresh w.heap.size y ∧ b < 4294967296 ∧ Hid (Nat.gcd a b = G) ∧ Below w.heap.size w wr) (fun _ bv wr => natOf wr bv)
  case atStart => exact ⟨_, _, val la, val lb, rfl, rfl, hA, hB, fA, fB, hone, HG, B2⟩
  case round =>
    clear hA hB fA fB HG B2
    obtain ⟨x, y, a, b, rfl, rfl, hA, hB, fA, fB, hb32, HG, hb⟩ := hrel
    have hA0 := hA
    have hB0 := hB
    obtain ⟨l1, hl1, nt1, e1, k1⟩ := hA0
    obtain ⟨l2, hl2, nt2, e2, k2⟩ := hB0
    have HM := Lib.hid (natOf_eq hB)
    rcases Nat.eq_zero_or_pos b with h0 | hp
    · have hnil : l2 = [] := nt2.zero (by rw [e2]; exact h0)
      have HGA : Hid (a = G) := by unfold Hid; rw [← HG.out, h0, Nat.gcd_zero_right]
      subst hnil
      obtain ⟨⟨A2, c2, rfl, _, _, _⟩, _⟩ := hl2
      obtain ⟨⟨A1, c1, rfl, _, _, _⟩, _⟩ := hl1
      clear h0 e1 e2
      go_wp2_with fail
      go_ret
      exact ⟨_, rfl, by rw [HG0.out, ← HGA.out, HLM.out]; exact hA, fA, hb⟩
    · have hlen : 0 < l2.length := by
        rcases Nat.eq_zero_or_pos l2.length with h | h
        · have := List.eq_nil_of_length_eq_zero h; subst this; simp [val] at e2; omega
        · exact h
      have HD := Lib.hid (divmod_any _ _ l1 l2 wr hl1 hl2 (by omega) (by omega) (by rw [e2]; exact hp) (by rw [e2]; exact hb32))
      obtain ⟨⟨A2, c2, rfl, _, _, _⟩, _⟩ := hl2
      obtain ⟨⟨A1, c1, rfl, _, _, _⟩, _⟩ := hl1
      have HE1 := Lib.hid e1
      have HE2 := Lib.hid e2
      have HGS : Hid (Nat.gcd b (a % b) = G) := by unfold Hid; rw [← gcd_step]; exact HG.out
      have hlt : a % b < b := Nat.mod_lt _ hp
      clear e1 e2
      go_wp2_with fail
      refine HD.out.mono ?_
      rintro e w3 ⟨q, r, rfl, ⟨hq, fq⟩, ⟨hr, fr⟩, hb3⟩
      rw [HE1.out, HE2.out] at hr
      have hr' := hr
      obtain ⟨l3, ⟨⟨A3, c3, rfl, _, _, _⟩, _⟩, _, _, _⟩ := hr'
      have hq' := hq
      obtain ⟨l4, ⟨⟨A4, c4, rfl, _, _, _⟩, _⟩, _, _, _⟩ := hq'
      go_wp2_with fail
      have HM2 := Lib.hid (natOf_eq hr)
      go_roundw
      case rel => exact ⟨_, _, b, a % b, rfl, rfl, hB.below hb3, hr.mono k2, fB, fr.mono hb.size, by omega, HGS, hb.trans (hb3.mono hb.size)⟩
      case measure =>
        show natOf _ _ < natOf _ _
        rw [HM.out, HM2.out]
        exact hlt
end Go.Proofs.YtoihjclkocffhaaDoor
