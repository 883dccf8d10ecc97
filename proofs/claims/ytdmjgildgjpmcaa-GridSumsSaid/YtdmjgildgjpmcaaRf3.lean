/- The walks of the reference's DivMod and Gcd (package examboardref01). -/
import Derived.Test.YtdmjgildgjpmcaaRf2
import Derived.Test.YtdmjgildgjpmcaaNatE
import Derived.Test.YtdmjgildgjpmcaaBx
namespace Go.Proofs.Ytdmjgildgjpmcaa
open Go.RowKit
set_option linter.unusedVariables false
set_option maxRecDepth 100000

theorem NatAt.off_set {w : World} {v : Value} {n L g : Nat} (h : NatAt w v n L) (ho : Off (some g) v) (i : Nat) (u : Value) : NatAt (w.setCell ⟨g, i, none⟩ u) v n L := h.grown (grownSet (grownRefl w (some g)) i u) ho
theorem bits_diff {a b : Nat} {n : Int} (h : (bitL a : Int) - (bitL b : Int) = n) (h0 : 0 ≤ n) : bitL a = bitL b + n.toNat := by omega

set_option maxHeartbeats 2000000 in
theorem rdivmod_one (v u : Value) (la lb : List Nat) (w : World) (ha : Lim w v la) (hb : Lim w u lb) (h1 : la.length ≤ 35184372088832) (h2 : lb.length ≤ 35184372088832) (h0 : 0 < val lb) (hs1 : val lb < 4294967296) :
    Calls Try.prog 89 #[v, u] w fun e w' => ∃ q r, e = .returned (.tuple #[q, r, .bool true]) ∧ DRes w w' q r (val la) (val lb) la.length 2 := by
  have HL1 := Lib.hid h1
  have ha0 := ha
  have hb0 := hb
  obtain ⟨⟨A0, c0, rfl, _, _, _⟩, _⟩ := ha0
  obtain ⟨⟨B0, d0, rfl, _, _, _⟩, _⟩ := hb0
  go_enter Try.func89, Try.ntmps89
  go_wp2_with fail
  refine (rnorm_any _ la _ ha h1).mono ?_
  rintro e w1 ⟨v1, rfl, l1, ⟨⟨A, c, rfl, hc, hm, hs⟩, hall⟩, nt, hv, hk, hf, hb1⟩
  go_wp2_with fail
  refine (rnorm_any _ lb _ (hb.below hb1) h2).mono ?_
  rintro e w2 ⟨v2, rfl, l2, hl2, nt2, hv2, hk2, hf2, hb2⟩
  obtain rfl : l2 = [val lb] := norm_inj hl2.2 (AllB.cons hs1 AllB.nil) nt2 (noTop_snoc [] h0) (by rw [hv2]; simp [val])
  obtain ⟨d, hd⟩ : ∃ d, val lb = d := ⟨_, rfl⟩
  rw [hd] at hl2 h0 hs1
  have HDD := Lib.hid hd
  obtain ⟨⟨B, cB, rfl, hcB, hmB, hsB⟩, _⟩ := hl2
  obtain ⟨b, o, rfl, hbl, hcell⟩ := hsB.lim (i := 0) (by simp)
  have g1 := hcell 0 (by simp)
  simp only [List.getD_cons_zero, Nat.add_zero] at g1
  have B2 : Below w.heap.size w w2 := hb1.trans (hb2.mono hb1.size)
  have hs2 := hs.below hb2
  obtain ⟨n, hn⟩ : ∃ n, l1.length = n := ⟨_, rfl⟩
  rw [hn] at hs2 hc hk ⊢
  have HV := Lib.hid hv
  unfold maxLen at hm
  clear hcell hv hv2 hd hn hs hsB hf hf2 nt nt2 hk2
  go_wp2_with fail
  refine (rshort_any A n c d l1 _ hs2 hall hc (by omega) (by omega) h0 hs1).mono ?_
  rintro e w3 ⟨q, rfl, hq⟩
  obtain ⟨lq, ⟨⟨QA, qc, rfl, _, _, _⟩, _⟩, _⟩ := id hq
  have HR := Lib.hid (Nat.mod_lt (val l1) h0)
  rw [HV.out] at hq HR ⊢
  generalize hr : val la % d = r at *
  have HRE := Lib.hid hr
  clear hr
  go_wp2_with fail
  refine (rof_any r _ (by have := HR.out; omega)).mono ?_
  rintro e w4 ⟨x, rfl, hx⟩
  go_wp2_with fail
  refine bodyPost_ret (v := .tuple #[.slice QA lq.length qc, x, .bool true]) (by simp [results, Try.results89, go_sem]) rfl ⟨_, _, rfl, ⟨?_, ?_⟩, ⟨?_, ?_⟩, ?_⟩
  · rw [HDD.out]; exact (hq.nat.below hx.bel).mono (by omega)
  · exact hq.fresh.mono B2.size
  · rw [HDD.out, HRE.out]; exact hx.nat
  · exact hx.fresh.mono (Nat.le_trans B2.size hq.bel.size)
  · exact B2.trans ((hq.bel.trans (hx.bel.mono hq.bel.size)).mono B2.size)
set_option maxHeartbeats 8000000 in
theorem rdivmod_big (v u : Value) (la lb : List Nat) (w : World) (ha : Lim w v la) (hb : Lim w u lb) (h12 : la.length + lb.length < 35184372088800) (hbig : 4294967296 ≤ val lb) :
    Calls Try.prog 89 #[v, u] w fun e w' => ∃ q r, e = .returned (.tuple #[q, r, .bool true]) ∧ DRes w w' q r (val la) (val lb) (la.length + 1) la.length := by
  have ha0 := ha
  have hb0 := hb
  obtain ⟨⟨A0, c0, rfl, _, _, _⟩, _⟩ := ha0
  obtain ⟨⟨B0, d0, rfl, _, _, _⟩, _⟩ := hb0
  have hla : la.length ≤ 35184372088832 := by omega
  have hlb : lb.length ≤ 35184372088832 := by omega
  go_enter Try.func89, Try.ntmps89
  go_wp2_with fail
  refine (rnorm_any _ la _ ha hla).mono ?_
  rintro e w1 ⟨v1, rfl, hN1⟩
  go_wp2_with fail
  refine (rnorm_any _ lb _ (hb.below hN1.bel) hlb).mono ?_
  rintro e w2 ⟨v2, rfl, l2, hl2, nt2, hv2, hk2, hf2, hb2⟩
  have hb1 := hN1.bel
  have B2 : Below w.heap.size w w2 := hb1.trans (hb2.mono hb1.size)
  have hA := hN1.nat.below hb2
  have fA := hN1.fresh
  obtain ⟨l1, hl1, nt1, hv1, hk1⟩ := id hA
  have hlen2 : 2 ≤ l2.length := by
    rcases Nat.lt_or_ge l2.length 2 with h | h
    · exfalso
      have h3 := val_lt hl2.2
      have h4 := bp_mono (show l2.length ≤ 1 by omega)
      rw [bp_one] at h4
      omega
    · exact h
  have HBT1 := Lib.hid (fun (W : World) (h : Below w2.heap.size w2 W) => rbits_any v1 l1 W (hl1.below h) (by omega))
  have HBT2 := Lib.hid (fun (W : World) (h : Below w2.heap.size w2 W) => rbits_any v2 l2 W (hl2.below h) (by omega))
  have hble := bitL_le hl1.2
  have hble2 := bitL_le hl2.2
  rw [hv1] at HBT1 hble
  rw [hv2] at HBT2 hble2
  obtain ⟨a, hae⟩ : ∃ a, val la = a := ⟨_, rfl⟩
  obtain ⟨b, hbe⟩ : ∃ b, val lb = b := ⟨_, rfl⟩
  rw [hae] at HBT1 hble hA
  rw [hbe] at HBT2 hble2 hbig
  have hv1b : val l1 = a := by rw [hv1, hae]
  have HAB : Hid (a < bp l1.length) := by have := val_lt hl1.2; rwa [hv1b] at this
  have hv2b : val l2 = b := by rw [hv2, hbe]
  obtain ⟨⟨A1, c1, rfl, _, _, _⟩, _⟩ := id hl1
  obtain ⟨⟨B1, d1, rfl, hcB, hmB, hsB⟩, hallB⟩ := id hl2
  unfold maxLen at hmB
  obtain ⟨n2, hn2⟩ : ∃ n, l2.length = n := ⟨_, rfl⟩
  have HLB : Hid (Lim w2 (.slice B1 l2.length d1) l2) := hl2
  have HSB : Hid (Sl w2 B1 l2.length (lims l2)) := hsB
  obtain ⟨x1, hx1⟩ : ∃ x, bitL a = x := ⟨_, rfl⟩
  obtain ⟨x2, hx2⟩ : ∃ x, bitL b = x := ⟨_, rfl⟩
  have HX1 := Lib.hid hx1
  have HX2 := Lib.hid hx2
  rw [hx1] at HBT1 hble
  rw [hx2] at HBT2 hble2
  have HNL := Lib.hid hn2
  rw [hn2] at HBT2 HLB HSB hcB hlen2 hk2 hble2 ⊢
  obtain ⟨n1, hn1⟩ : ∃ n, l1.length = n := ⟨_, rfl⟩
  have HL1 : Hid (NatAt w2 (.slice A1 l1.length c1) a la.length) := hA
  rw [hn1] at HL1 HBT1 HAB hble fA hk1 ⊢
  have HAE := Lib.hid hae
  have HBE := Lib.hid hbe
  have hb0 : 0 < b := by omega
  have HV2 := Lib.hid hv2b
  clear hx1 hx2 hn1 hn2 hl1 hl2 hv1 hv2 hv1b hv2b nt1 nt2 hN1 hA hae hbe hsB hf2 ha hb hla hlb
  have t0 : ((n2 : Int) == 0) = false := by rw [beq_eq_false_iff_ne]; omega
  have t1 : ((n2 : Int) == 1) = false := by rw [beq_eq_false_iff_ne]; omega
  have t00 : (n2 == 0) = false := by rw [beq_eq_false_iff_ne]; omega
  have t11 : (n2 == 1) = false := by rw [beq_eq_false_iff_ne]; omega
  go_wp2_with fail
  refine (HBT1.out _ (Below.refl _ _)).mono ?_
  rintro e w3 ⟨rfl, hb3⟩
  go_wp2_with fail
  refine (HBT2.out _ hb3).mono ?_
  rintro e w4 ⟨rfl, hb4⟩
  have B24 : Below w2.heap.size w2 w4 := hb3.trans (hb4.mono hb3.size)
  have B4 : Below w.heap.size w w4 := B2.trans (B24.mono B2.size)
  by_cases hneg : x1 < x2
  · have HLT : Hid (a < b) := bitL_lt (by rw [HX1.out, HX2.out]; exact hneg)
    have hng : (x1 : Int) - (x2 : Int) < 0 := by omega
    go_wp2_with fail
    refine bodyPost_ret (v := .tuple #[.slice none 0 0, .slice A1 n1 c1, .bool true]) (by simp [results, Try.results89, go_sem]) rfl ⟨_, _, rfl, ⟨?_, trivial⟩, ⟨?_, fA⟩, B4⟩
    · rw [HAE.out, HBE.out, Nat.div_eq_of_lt HLT.out]; exact natAt_nilD _ _
    · rw [HAE.out, HBE.out, Nat.mod_eq_of_lt HLT.out]; exact HL1.out.below B24
  · obtain ⟨n, hn⟩ : ∃ n, x1 = x2 + n := ⟨x1 - x2, by omega⟩
    have en : (x1 : Int) - (x2 : Int) = (n : Int) := by omega
    have HST : Hid (a < b * 2 ^ (n + 1)) := bitL_start hb0 (by rw [HX1.out, HX2.out]; exact hn)
    have hn32 : n ≤ 32 * n1 := by omega
    obtain ⟨m, hm⟩ : ∃ m, n / 32 = m := ⟨_, rfl⟩
    have em : (n : Int) / 32 = (m : Int) := by omega
    have hmn : m ≤ n1 := by omega
    have HM := Lib.hid hm
    have hmk := run_mkI (P := Try.prog) Try.underlying36 infoU32 rfl ((m : Int) + 1) (m + 1) (by omega) (by omega) (by omega)
    have hnI : (n : Int) ≤ 2000000000000000 := by omega
    have hnm : n < 32 * (m + 1) := by omega
    clear hneg hn hm
    obtain ⟨gq, hgq⟩ : ∃ g, w4.heap.size = g := ⟨_, rfl⟩
    have hrq0 : Row (w4.alloc (.cells (zrow (.int .u32 0) (m + 1)) 56)) gq 56 (lims (List.replicate (m + 1) 0)) := by
      rw [lims_zeros, ← hgq]; exact Row.newz _ _ _ _
    have hoA : Off (some gq) (.slice A1 n1 c1) := by rw [← hgq]; exact (HL1.out.below B24).off (Nat.le_refl _)
    have hlit := lit_below w4 (.cells (zrow (.int .u32 0) (m + 1)) 56)
    have hgw : w.heap.size ≤ gq := by rw [← hgq]; exact B4.size
    go_wp2_with fail
    have BA := B24.trans (hlit.mono B24.size)
    have hsB2 := HSB.out.below BA
    have HLS := Lib.hid (fun (W : World) (h : Sl W B1 n2 (lims l2)) => rshift_any B1 d1 n l2 W (by rw [HNL.out]; exact h) hallB (by omega) (by rw [HNL.out, HM.out]; omega))
    rw [HNL.out, HM.out, HV2.out] at HLS
    refine (HLS.out _ hsB2).mono ?_
    rintro e w5 ⟨dv, rfl, hD⟩
    have hrq := hrq0.keep hD.bel
    have hDn := hD.nat
    have hDo : Off (some gq) dv := Off.of_fresh hD.fresh (by have := hrq0.lt; omega)
    have hA5 := (HL1.out.below BA).below hD.bel
    have B5 : Below w.heap.size w w5 := (B4.trans (hlit.mono B4.size)).trans (hD.bel.mono (Nat.le_trans B4.size hlit.size))
    obtain ⟨ld0, ⟨⟨DA0, dc0, rfl, _, _, _⟩, _⟩, _⟩ := id hDn
    clear hD hrq0 hlit hmk hgq hsB2 HLS BA
    go_wp2_with fail
    go_loopw [0, 11, 12] (fun av dv iv wr => ∃ (k A R D : Nat) (x y : Value) (qs : List Nat), k ≤ n + 1 ∧ av = x ∧ dv = y ∧ iv = .int .i64 ((k : Int) - 1) ∧ NatAt wr x A n1 ∧ Off (some gq) x ∧ Fresh w.heap.size x ∧ NatAt wr y D (n2 + m + 1) ∧ Off (some gq) y ∧ Hid (∀ j, k = j + 1 → D = b * 2 ^ j) ∧ Row wr gq 56 (lims qs) ∧ Hid (qs.length = m + 1) ∧ AllB qs ∧ Hid (val qs = 2 ^ k * R) ∧ Hid (a = A + b * (2 ^ k * R)) ∧ Hid (A < b * 2 ^ k) ∧ Below w.heap.size w wr) (fun _ _ iv _ => (intOf iv + 1).toNat)
    case atStart => exact ⟨n + 1, a, 0, b * 2 ^ n, _, _, List.replicate (m + 1) 0, by omega, rfl, rfl, by (congr 1 <;> omega), hA5.short HAB.out, hoA, fA, hDn, hDo, (fun j hj => by have : j = n := (by omega); rw [this]), hrq, (by unfold Hid; simp), AllB.zeros _, by unfold Hid; rw [val_zeros]; simp, by unfold Hid; simp, HST.out, B5⟩
    case round =>
      clear hA5 hoA hDn hDo hrq HST
      obtain ⟨k, A, R, D, x, y, qs, hk, rfl, rfl, rfl, hA, oA, fx, hD, oD, HD, hrow, HQL, hallq, HQ, HA, HLT, BB⟩ := hrel
      have zq := hrow.lt
      rcases Nat.eq_zero_or_pos k with h0 | hp
      · subst h0
        have HE : Hid (a / b = val qs ∧ a % b = A) := by
          have h1 := HA.out
          have h2 := HLT.out
          rw [Nat.pow_zero, Nat.mul_one] at h2
          unfold Hid
          rw [HQ.out]
          exact dv_end h1 h2
        have hsl := hrow.sl
        rw [lims_len, HQL.out] at hsl
        obtain ⟨lA, ⟨⟨XA, xc, rfl, _, _, _⟩, _⟩, _⟩ := id hA
        go_wp2_with fail
        refine (rnorm_core _ (m + 1) (m + 1) qs _ hsl (by omega) (by omega) (by omega) hallq).mono ?_
        rintro e w6 ⟨q, rfl, hq⟩
        go_wp2_with fail
        refine bodyPost_ret (v := .tuple #[q, .slice XA lA.length xc, .bool true]) (by simp [results, Try.results89, go_sem]) rfl ⟨_, _, rfl, ⟨?_, hq.fresh.mono BB.size⟩, ⟨?_, fx⟩, BB.trans (hq.bel.mono BB.size)⟩
        · rw [HAE.out, HBE.out, HE.out.1]; exact hq.nat.mono (by omega)
        · rw [HAE.out, HBE.out, HE.out.2]; exact (hA.below hq.bel).mono (by omega)
      · obtain ⟨j, rfl⟩ : ∃ j, k = j + 1 := ⟨k - 1, by omega⟩
        have HDJ := Lib.hid (HD.out j rfl)
        obtain ⟨lA, hlA, ntA, hvA, hkA⟩ := id hA
        obtain ⟨lD, hlD, ntD, hvD, hkD⟩ := id hD
        have HCM := Lib.hid (rcmp_any _ _ lA lD wr hlA hlD (by omega) (by omega))
        rw [hvA, hvD] at HCM
        obtain ⟨⟨XA, xc, rfl, _, _, _⟩, _⟩ := id hlA
        obtain ⟨⟨YA, yc, rfl, _, _, _⟩, _⟩ := id hlD
        have HVA := Lib.hid hvA
        have HVD := Lib.hid hvD
        have E1 := Lib.hid (show (((j + 1 : Nat) : Int) - 1) = (j : Int) by omega)
        rw [E1.out]
        have hjn : j ≤ n := by omega
        have HLA := Lib.hid hlA
        have HLD := Lib.hid hlD
        have lA32 : lA.length ≤ 35184372088832 := by omega
        have lD32 : lD.length ≤ 35184372088832 := by omega
        clear hvA hvD ntA ntD hlA hlD
        by_cases hge : D ≤ A
        · have hc0 : 0 ≤ cmpN A D := by unfold cmpN; rw [if_neg (by omega)]; split <;> omega
          generalize cmpN A D = cm at HCM hc0
          have HSB := Lib.hid (rsub_ge _ _ lA lD wr HLA.out HLD.out lA32 lD32 (by rw [HVA.out, HVD.out]; exact hge))
          rw [HVA.out, HVD.out] at HSB
          obtain ⟨mj, hmj⟩ : ∃ x, j / 32 = x := ⟨_, rfl⟩
          obtain ⟨s, hs⟩ : ∃ x, j % 32 = x := ⟨_, rfl⟩
          have emj : (j : Int) / 32 = (mj : Int) := by omega
          have esj : (j : Int) % 32 = (s : Int) := by omega
          have hs32 : s < 32 := by omega
          have hmq : mj < m + 1 := by omega
          have HMJ := Lib.hid hmj
          have HSJ := Lib.hid hs
          clear hmj hs
          have hql : mj < qs.length := by rw [HQL.out]; exact hmq
          have hbl := bit_limb hallq (j := j) (R := R) (by rw [HMJ.out]; exact hql) HQ.out
          have HBV := Lib.hid (bit_val hallq (j := j) (R := R) (by rw [HMJ.out]; exact hql) HQ.out)
          rw [HMJ.out, HSJ.out] at hbl HBV
          have hx := hallq.getD mj
          have hcq : ∀ W, Row W gq 56 (lims qs) → W.cell? ⟨gq, mj, none⟩ = some (.int .u32 ((qs.getD mj 0 : Nat) : Int)) := fun W h => by rw [h.cell, lims_get _ hql]
          have HCQ := Lib.hid hcq
          clear hcq
          obtain ⟨p, hp2⟩ : ∃ p, 2 ^ s = p := ⟨_, rfl⟩
          have hp32 : p < 4294967296 := by rw [← hp2]; exact Nat.pow_lt_pow_right (by omega) hs32
          rw [hp2] at hbl HBV
          have hpI : (2 : Int) ^ s = (p : Int) := by rw [← hp2, Int.natCast_pow]; rfl
          have wP : IntKind.u32.wrap (p : Int) = (p : Int) := by rw [IntKind.wrap_u32]; omega
          have hor : bits .or .u32 ((qs.getD mj 0 : Nat) : Int) (p : Int) = ((qs.getD mj 0 + p : Nat) : Int) := by
            rw [u32_or_nat _ _ hx hp32, hbl.1]
          have HLM := Lib.hid hbl.2
          generalize qs.getD mj 0 = lm at *
          generalize lm + p = lx at *
          have HST := Lib.hid (dv_sub HA.out HLT.out (by rw [← HDJ.out]; exact hge))
          clear hp2 hbl hge
          go_wp2_with fail
          refine HCM.out.mono ?_
          rintro e w' ⟨rfl, rfl⟩
          go_wp2_with fail
          refine HSB.out.mono ?_
          rintro e w6 ⟨x2, rfl, hX⟩
          obtain ⟨lx2, ⟨⟨ZA, zc, rfl, _, _, _⟩, _⟩, _⟩ := id hX
          have hrow6 := hrow.keep hX.bel
          have g6 := HCQ.out _ hrow6
          have f6 := hrow6.frozen mj
          have z6 := hrow6.lt
          go_wp2_with fail
          have hD7 := (hD.below hX.bel).off_set oD mj (.int .u32 (lx : Int))
          have hX7 := hX.nat.off_set (Off.of_fresh hX.fresh zq) mj (.int .u32 (lx : Int))
          have hrow7 := hrow6.set_ mj (.int .u32 (lx : Int))
          have BB7 : Below w.heap.size w (w6.setCell ⟨gq, mj, none⟩ (.int .u32 (lx : Int))) := (BB.trans (hX.bel.mono BB.size)).setCell hgw _
          obtain ⟨lD7, hlD7, _, hvD7, hkD7⟩ := id hD7
          refine (rhalf_any _ lD7 _ hlD7 (by omega)).mono ?_
          rintro e w8 ⟨y2, rfl, hY⟩
          rw [hvD7] at hY
          go_wp2_with fail
          go_roundw
          case rel =>
            refine ⟨j, A - D, 2 * R + 1, D / 2, _, y2, qs.set mj lx, by omega, rfl, rfl, rfl, (hX7.below hY.bel).mono (by omega), Off.of_fresh hX.fresh zq, hX.fresh.mono BB.size, hY.nat.mono (by omega), Off.of_fresh hY.fresh (by simpa using z6), ?_, ?_, by unfold Hid; rw [List.length_set, HQL.out], hallq.set _ HLM.out, HBV, ?_, ?_, BB7.trans (hY.bel.mono BB7.size)⟩
            · intro i hi
              subst hi
              rw [HDJ.out]
              exact dv_half
            · have := hrow7.keep hY.bel
              rwa [lims_set] at this
            · have h1 := HST.out.1
              rw [← HDJ.out] at h1
              unfold Hid
              rw [show 2 ^ j * (2 * R + 1) = 2 ^ (j + 1) * R + 2 ^ j by rw [Nat.pow_succ]; grind]
              exact h1
            · unfold Hid
              rw [HDJ.out]
              exact HST.out.2
          case measure => simp [intOf]
        · have hc0 : cmpN A D < 0 := by unfold cmpN; rw [if_pos (by omega)]; decide
          generalize cmpN A D = cm at HCM hc0
          have HGE := Lib.hid hge
          clear hge
          go_wp2_with fail
          refine HCM.out.mono ?_
          rintro e w' ⟨rfl, rfl⟩
          go_wp2_with fail
          refine (rhalf_any _ lD _ HLD.out lD32).mono ?_
          rintro e w8 ⟨y2, rfl, hY⟩
          rw [HVD.out] at hY
          go_wp2_with fail
          go_roundw
          case rel =>
            refine ⟨j, A, 2 * R, D / 2, _, y2, qs, by omega, rfl, rfl, rfl, hA.below hY.bel, oA, fx, hY.nat.mono (by omega), Off.of_fresh hY.fresh zq, ?_, hrow.keep hY.bel, HQL, hallq, ?_, ?_, ?_, BB.trans (hY.bel.mono BB.size)⟩
            · intro i hi
              subst hi
              rw [HDJ.out]
              exact dv_half
            · unfold Hid; rw [HQ.out, Nat.pow_succ]; grind
            · unfold Hid
              have h1 := HA.out
              rw [Nat.pow_succ] at h1
              rw [show 2 ^ j * (2 * R) = 2 ^ j * 2 * R by grind]
              exact h1
            · unfold Hid
              have := HGE.out
              rw [HDJ.out] at this
              omega
          case measure => simp [intOf]

/-- Both sizes of the divisor. -/
theorem rdivmod_any (v u : Value) (la lb : List Nat) (w : World) (ha : Lim w v la) (hb : Lim w u lb) (h12 : la.length + lb.length < 35184372088800) (h0 : 0 < val lb) :
    Calls Try.prog 89 #[v, u] w fun e w' => ∃ q r, e = .returned (.tuple #[q, r, .bool true]) ∧ DRes w w' q r (val la) (val lb) la.length lb.length := by
  have hq : val la / val lb < bp la.length := Nat.lt_of_le_of_lt (Nat.div_le_self _ _) (val_lt ha.2)
  have hr : val la % val lb < bp lb.length := Nat.lt_trans (Nat.mod_lt _ h0) (val_lt hb.2)
  rcases Nat.lt_or_ge (val lb) 4294967296 with h | h
  · refine (rdivmod_one v u la lb w ha hb (by omega) (by omega) h0 h).mono ?_
    rintro e w' ⟨q, r, he, ⟨a1, a2⟩, ⟨b1, b2⟩, hb⟩
    exact ⟨q, r, he, ⟨a1.short hq, a2⟩, ⟨b1.short hr, b2⟩, hb⟩
  · refine (rdivmod_big v u la lb w ha hb h12 h).mono ?_
    rintro e w' ⟨q, r, he, ⟨a1, a2⟩, ⟨b1, b2⟩, hb⟩
    exact ⟨q, r, he, ⟨a1.short hq, a2⟩, ⟨b1.short hr, b2⟩, hb⟩

set_option maxHeartbeats 2000000 in
theorem rgcd_any (v u : Value) (la lb : List Nat) (w : World) (ha : Lim w v la) (hb : Lim w u lb) (h12 : la.length + lb.length < 17592186044400) :
    Calls Try.prog 88 #[v, u] w fun e w' => ∃ g, e = .returned g ∧ NatAt w' g (Nat.gcd (val la) (val lb)) (max la.length lb.length) ∧ Fresh w.heap.size g ∧ Below w.heap.size w w' := by
  go_enter Try.func88, Try.ntmps88
  go_wp2_with fail
  refine (rnorm_any _ la _ ha (by omega)).mono ?_
  rintro e w1 ⟨v1, rfl, hN1⟩
  have hb1 := hN1.bel
  go_wp2_with fail
  refine (rnorm_any _ lb _ (hb.below hb1) (by omega)).mono ?_
  rintro e w2 ⟨v2, rfl, hN2⟩
  have hb2 := hN2.bel
  have B2 := hb1.trans (hb2.mono hb1.size)
  have hA := (hN1.nat.below hb2).mono (Nat.le_max_left la.length lb.length)
  have hB := hN2.nat.mono (Nat.le_max_right la.length lb.length)
  have fA := hN1.fresh
  have fB := hN2.fresh.mono hb1.size
  have hL : max la.length lb.length < 17592186044400 := by omega
  obtain ⟨G, hG⟩ : ∃ G, Nat.gcd (val la) (val lb) = G := ⟨_, rfl⟩
  have HG := Lib.hid hG
  have HG0 := Lib.hid hG
  obtain ⟨L, hLm⟩ : ∃ L, max la.length lb.length = L := ⟨_, rfl⟩
  have HLM := Lib.hid hLm
  rw [hLm] at hA hB hL
  clear hN1 hN2 hb1 hb2 ha hb h12 hG hLm
  have hA0 := hA
  have hB0 := hB
  obtain ⟨l1, ⟨⟨A1, c1, rfl, _, _, _⟩, _⟩, _, _, _⟩ := hA0
  obtain ⟨l2, ⟨⟨A2, c2, rfl, _, _, _⟩, _⟩, _, _, _⟩ := hB0
  go_wp2_with fail
  go_loopw [0, 1] (fun av bv wr => ∃ (x y : Value) (a b : Nat), av = x ∧ bv = y ∧ NatAt wr x a L ∧ NatAt wr y b L ∧ Fresh w.heap.size x ∧ Fresh w.heap.size y ∧ Hid (Nat.gcd a b = G) ∧ Below w.heap.size w wr) (fun _ bv wr => natOf wr bv)
  case atStart => exact ⟨_, _, val la, val lb, rfl, rfl, hA, hB, fA, fB, HG, B2⟩
  case round =>
    clear hA hB fA fB HG B2
    obtain ⟨x, y, a, b, rfl, rfl, hA, hB, fA, fB, HG, hb⟩ := hrel
    have hA0 := hA
    have hB0 := hB
    obtain ⟨l1, hl1, nt1, e1, k1⟩ := hA0
    obtain ⟨l2, hl2, nt2, e2, k2⟩ := hB0
    have HM := Lib.hid (natOf_eq hB)
    rcases Nat.eq_zero_or_pos b with h0 | hp
    · have hnil : l2 = [] := nt2.zero (by rw [e2]; exact h0)
      have HGA : Hid (a = G) := by unfold Hid; rw [← HG.out, h0, Nat.gcd_zero_right]
      subst hnil
      obtain ⟨⟨A2, c2, rfl, _, _, _⟩, _⟩ := hl2
      obtain ⟨⟨A1, c1, rfl, _, _, _⟩, _⟩ := hl1
      clear h0 e1 e2
      go_wp2_with fail
      go_ret
      exact ⟨_, rfl, by rw [HG0.out, ← HGA.out, HLM.out]; exact hA, fA, hb⟩
    · have hlen : 0 < l2.length := by
        rcases Nat.eq_zero_or_pos l2.length with h | h
        · have := List.eq_nil_of_length_eq_zero h; subst this; simp [val] at e2; omega
        · exact h
      have HD := Lib.hid (rdivmod_any _ _ l1 l2 wr hl1 hl2 (by omega) (by rw [e2]; exact hp))
      obtain ⟨⟨A2, c2, rfl, _, _, _⟩, _⟩ := hl2
      obtain ⟨⟨A1, c1, rfl, _, _, _⟩, _⟩ := hl1
      have HE1 := Lib.hid e1
      have HE2 := Lib.hid e2
      have HGS : Hid (Nat.gcd b (a % b) = G) := by unfold Hid; rw [← gcd_step]; exact HG.out
      have hlt : a % b < b := Nat.mod_lt _ hp
      clear e1 e2
      go_wp2_with fail
      refine HD.out.mono ?_
      rintro e w3 ⟨q, r, rfl, ⟨hq, fq⟩, ⟨hr, fr⟩, hb3⟩
      rw [HE1.out, HE2.out] at hr
      have hr' := hr
      obtain ⟨l3, ⟨⟨A3, c3, rfl, _, _, _⟩, _⟩, _, _, _⟩ := hr'
      have hq' := hq
      obtain ⟨l4, ⟨⟨A4, c4, rfl, _, _, _⟩, _⟩, _, _, _⟩ := hq'
      go_wp2_with fail
      have HM2 := Lib.hid (natOf_eq hr)
      go_roundw
      case rel => exact ⟨_, _, b, a % b, rfl, rfl, hB.below hb3, hr.mono k2, fB, fr.mono hb.size, HGS, hb.trans (hb3.mono hb.size)⟩
      case measure =>
        show natOf _ _ < natOf _ _
        rw [HM.out, HM2.out]
        exact hlt
end Go.Proofs.Ytdmjgildgjpmcaa
