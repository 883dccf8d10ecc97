/- The walk of nat.Print for a number of any size: some text, not empty. The table of powers is laid. -/
import Derived.Test.YtoihjclkocffhaaDoorFui
import Derived.Lib.AppendStr
namespace Go.Proofs.YtoihjclkocffhaaDoor
open Go.RowKit
set_option linter.unusedVariables false

theorem infoU8 : (Tryd.prog.info? 5).map (fun i => (i.zero, i.size, i.bytes)) = some (some (.int .u8 0), 1, 1) := by kernel_rfl
theorem dig_pos (u : Nat) : 0 < (Lib.decDigits u).length := by unfold Lib.decDigits; split <;> simp
theorem dig_le (u : Nat) (h : u < 18446744073709551616) : (Lib.decDigits u).length ≤ 20 := by
  rcases Nat.eq_zero_or_pos u with h0 | h0
  · subst h0; decide +kernel
  · exact (dig_len h0 h).1
/-- How often a number can be divided by a thousand millions. -/
theorem grp_bound {k b V L : Nat} (h : 1000000000 ^ k * b ≤ V) (hb : 0 < b) (hV : V < bp L) : k < 2 * L ∨ k = 0 := by
  rcases Nat.lt_or_ge k (2 * L) with h1 | h1
  · exact .inl h1
  · rcases Nat.eq_zero_or_pos k with h0 | h0
    · exact .inr h0
    · exfalso
      have a : (1000000000 ^ (2 * L)) ≤ 1000000000 ^ k := Nat.pow_le_pow_right (by omega) h1
      have c : bp L ≤ 1000000000 ^ (2 * L) := by
        unfold bp
        rw [Nat.pow_mul]
        exact Nat.pow_le_pow_left (by decide) _
      have d : 1000000000 ^ k * 1 ≤ 1000000000 ^ k * b := Nat.mul_le_mul_left _ hb
      omega
theorem grp_step {k b V : Nat} (h : 1000000000 ^ k * b ≤ V) : 1000000000 ^ (k + 1) * (b / 1000000000) ≤ V := by
  have a := Nat.div_mul_le_self b 1000000000
  have c : 1000000000 ^ k * (b / 1000000000 * 1000000000) ≤ 1000000000 ^ k * b := Nat.mul_le_mul_left _ a
  rw [Nat.pow_succ, Nat.mul_assoc, Nat.mul_comm 1000000000]
  omega
theorem strBytes (s : ByteArray) : Lib.strCells s = Lib.byteCells s.data.toList := Lib.strCells_eq s
theorem byteCells_append (a b : List UInt8) : Lib.byteCells (a ++ b) = Lib.byteCells a ++ Lib.byteCells b := by simp [Lib.byteCells]

theorem off_own {w : World} {base e k : Nat} {gv v : Value} {xs : List Value} (h : w.ownsRow base e 1 gv k xs) (hf : Fresh w.heap.size v) : Off gv.ownBlock v := by
  have hlt := h.lt
  rcases hgo : gv.ownBlock with _ | g
  · exact Off.none_ _
  · exact Off.of_fresh hf (hlt g hgo).2

set_option maxRecDepth 100000 in
set_option maxHeartbeats 16000000 in
theorem nprint_gen (v : Value) (ls : List Nat) (w : World) (h : Lim w v ls) (hl : ls.length ≤ 1000000) (htab : Pow10 w) :
    Calls Tryd.prog 66 #[v] w fun e w' => ∃ s : ByteArray, e = .returned (.string s) ∧ 0 < s.size ∧ s.size ≤ 80 * ls.length + 60 ∧ Below w.heap.size w w' := by
  have hVL := val_lt h.2
  obtain ⟨⟨A, c, rfl, hn, hc, hs⟩, hall⟩ := h
  have HT := Lib.hid (trim_any A _ c ls w hs hn hc)
  have hL := Lim.strip hs hn hc hall
  have hsl := strip_len ls
  have HSV := Lib.hid (strip_val ls)
  have hnt := strip_noTop ls
  obtain ⟨L, hLL⟩ : ∃ L, ls.length = L := ⟨_, rfl⟩
  rw [hLL] at hl HT hVL hsl ⊢
  have HVL := Lib.hid hVL
  obtain ⟨V, hV⟩ : ∃ V, val ls = V := ⟨_, rfl⟩
  rw [hV] at HSV HVL
  obtain ⟨sa, hsa⟩ : ∃ sa, strip ls = sa := ⟨_, rfl⟩
  rw [hsa] at HT hL hsl HSV hnt
  clear hs hn hc hall hVL hLL hV hsa
  have HTAB := Lib.hid htab
  go_enter Tryd.func66, Tryd.ntmps66
  go_wp2_with fail
  refine HT.out.mono ?_
  rintro e w' ⟨rfl, rfl⟩
  clear HT htab
  by_cases h0 : sa = []
  · subst h0
    go_wp2_with fail
    go_ret
    exact ⟨_, rfl, by decide, by show 1 ≤ _; omega, Below.refl _ _⟩
  · have hpos : 0 < sa.length := List.length_pos_iff.2 h0
    have HV0 : Hid (0 < V) := by
      unfold Hid
      rw [← HSV.out]
      have := hnt.ge hpos
      have := bp_pos (sa.length - 1)
      omega
    have hlenI : ((sa.length : Int) == 0) = false := by rw [beq_eq_false_iff_ne]; omega
    clear h0
    have hNA : NatAt w (.slice A sa.length c) V L := ⟨sa, hL, hnt, HSV.out, hsl⟩
    have hsa2 : sa.length ≤ c := by obtain ⟨⟨_, _, e, h, _⟩, _⟩ := hL; injection e with _ e1 e2; omega
    clear hL hnt HSV hsl
    go_wp2_with fail
    go_loopw [3, 4] (fun xv gv wr => ∃ (k b n c : Nat) (A : Option Addr) (gs : List Nat) (gx : Value), xv = .slice A n c ∧ gv = gx ∧ NatAt wr (.slice A n c) b L ∧ wr.ownsRow w.heap.size 69 1 gx k (lims gs) ∧ AllB gs ∧ Hid (1000000000 ^ k * b ≤ V) ∧ Hid (0 < b ∨ 0 < k) ∧ k ≤ 2 * L + 1 ∧ Below w.heap.size w wr) (fun xv _ wr => natOf wr xv)
    case atStart => exact ⟨0, V, _, _, _, [], _, rfl, rfl, hNA, World.ownsRow_nil _ _ _ _, AllB.nil, by simp [Hid], .inl HV0.out, by omega, Below.refl _ _⟩
    case round =>
      clear hNA
      obtain ⟨k, b, n, c, A, gs, gx, rfl, rfl, hx, hown, hgs, hkb, hpb, hk2, BB⟩ := hrel
      have HM := Lib.hid (natOf_eq hx)
      have hx0 := hx
      obtain ⟨l1, hl1, nt1, e1, k1⟩ := hx0
      have hl1' := hl1
      obtain ⟨⟨A1, c1, hv1, hn1, hc1, hs1⟩, hall1⟩ := hl1'
      injection hv1 with a1 a2 a3
      subst a1 a2 a3
      rcases Nat.eq_zero_or_pos b with hb0 | hb0
      · have hnil : l1 = [] := nt1.zero (by rw [e1]; exact hb0)
        subst hnil
        have hkp : 0 < k := by rcases hpb.out with h | h; omega; exact h
        have hkI : (1 : Int) ≤ (k : Int) := by omega
        obtain ⟨GA, gc, rfl, hg1, hg2, hgsl⟩ := Sl.of_own hown
        obtain ⟨gb, go, rfl, hgb, hgc⟩ := hgsl.lim hkp
        have g1 := hgc (k - 1) (by omega)
        have hgl : gs.length = k := by have := hgsl.1; rwa [lims_len] at this
        have hgx := hgs.getD (k - 1)
        obtain ⟨z, hz⟩ : ∃ z, gs.getD (k - 1) 0 = z := ⟨_, rfl⟩
        rw [hz] at g1 hgx
        have HGC := Lib.hid hgc
        have ki1 : IntKind.i64.wrap ((k : Int) - 1) = (k : Int) - 1 := by unfold maxLen at hg2; rw [IntKind.wrap_i64]; omega
        have ki2 : ((k : Int) - 1).toNat = k - 1 := by omega
        have ki3 : 0 ≤ (k : Int) - 1 := by omega
        have ki4 : (k : Int) - 1 < (k : Int) := by omega
        unfold maxLen at hg2
        clear hx hl1 nt1 e1 k1 hc1 hs1 hall1 HM hkb hpb hgsl hgc hz hb0
        go_wp2_with fail
        refine (sau_any z (by omega) _ (HTAB.out.below BB)).mono ?_
        rintro e w4 ⟨tv, rfl, ho4, hb4⟩
        have B4 := BB.trans (hb4.mono BB.size)
        clear g1 hown
        obtain ⟨TA, tc, rfl, _, _, _⟩ := Sl.of_own ho4
        go_wp2_with fail
        obtain ⟨i0, hi, hz0, hz1, hz2'⟩ := info_parts infoU8
        have hdl := dig_le z (by omega)
        have hdp := dig_pos z
        obtain ⟨wo, rfl⟩ : ∃ wo : World, wo = wr := ⟨_, rfl⟩
        go_loopw [6, 7] (fun tv iv wq => ∃ (j : Nat) (bs : List UInt8), j + 1 ≤ k ∧ iv = .int .i64 ((j : Int) - 1) ∧ wq.ownsRow wo.heap.size 5 1 tv bs.length (Lib.byteCells bs) ∧ 0 < bs.length ∧ bs.length + 40 * j ≤ 20 + 40 * k ∧ Below wo.heap.size wo wq) (fun _ iv _ => (intOf iv + 1).toNat)
        case atStart => exact ⟨k - 1, Lib.decDigits z, by omega, by rw [show ((k - 1 : Nat) : Int) - 1 = (k : Int) - 2 by omega], ho4, hdp, by omega, hb4⟩
        case round =>
          clear ho4 hb4 B4 hdl hdp
          obtain ⟨j, bs, hj, rfl, hown, hbp, hbl, BQ⟩ := hrel
          rcases Nat.eq_zero_or_pos j with hj0 | hj0
          · subst hj0
            obtain ⟨XA, xc, rfl, j1, j2, hs4⟩ := Sl.of_own hown
            obtain ⟨b4, o4, rfl, hcell4⟩ := hs4.2 hbp
            have hcv := run_convert_bytes_back (P := Tryd.prog) wr 111 9 5 ⟨b4, o4, none⟩ xc bs Tryd.underlying111 Tryd.underlying5 Tryd.underlying9 (fun j hj => by
              have := hcell4 j (.int .u8 (((bs)[j].toNat : Nat) : Int)) (by simp [Lib.byteCells, hj])
              rw [show (⟨b4, o4, none⟩ : Addr).add j = ⟨b4, o4 + j, none⟩ by cases j <;> simp [Addr.add]]
              exact this)
            clear hcell4 hs4 hown
            go_wp2_with fail
            go_ret
            exact ⟨_, rfl, by show 0 < bs.toArray.size; simp; omega, by show bs.toArray.size ≤ _; simp; omega, BB.trans (BQ.mono BB.size)⟩
          · obtain ⟨i, rfl⟩ : ∃ i, j = i + 1 := ⟨j - 1, by omega⟩
            have hc0 : wr.cell? ⟨gb, go + i, none⟩ = some (.int .u32 ((gs.getD i 0 : Nat) : Int)) := (BQ.cell (p := ⟨gb, go + i, none⟩) hgb).trans (HGC.out i (by omega))
            have hz2 := hgs.getD i
            generalize gs.getD i 0 = y at *
            obtain ⟨S, hS⟩ : ∃ S : ByteArray, (⟨(Lib.decDigits y).toArray⟩ : ByteArray) = S := ⟨_, rfl⟩
            have HS1 := Lib.hid (sfu_any y (by omega) wr (HTAB.out.below (BB.trans (BQ.mono BB.size))))
            rw [hS] at HS1
            have HSC : Hid (Lib.strCells S = Lib.byteCells (Lib.decDigits y)) := by unfold Hid; rw [strBytes, ← hS]
            have HSL : Hid (S.size = (Lib.decDigits y).length) := by unfold Hid; rw [← hS]; show (Lib.decDigits y).toArray.size = _; simp
            have hsl1 : S.size ≤ 20 := by rw [HSL.out]; exact dig_le y (by omega)
            have hsl2 : 0 < S.size := by rw [HSL.out]; exact dig_pos y
            have e1 : (((i + 1 : Nat) : Int) - 1) = (i : Int) := by omega
            have E1 := Lib.hid e1
            clear hS e1
            rw [E1.out]
            go_wp2_with fail
            refine HS1.out.mono ?_
            rintro e w5 ⟨rfl, hb5⟩
            have hown5 := own_keep hown hb5
            have B5 := BQ.trans (hb5.mono BQ.size)
            clear hown hc0 HS1
            go_wp2_with fail
            go_loopw [6, 9] (fun tv dv wp => ∃ (d : Nat) (cs : List UInt8), dv = .int .i64 (d : Int) ∧ d ≤ 20 ∧ wp.ownsRow wo.heap.size 5 1 tv cs.length (Lib.byteCells cs) ∧ 0 < cs.length ∧ cs.length ≤ bs.length + 9 ∧ Hid (d < 9 → cs.length + (9 - d) ≤ bs.length + 9) ∧ Below wo.heap.size wo wp) (fun _ dv _ => (9 - intOf dv).toNat)
            case atStart => exact ⟨S.size, bs, rfl, hsl1, hown5, hbp, by omega, fun _ => by omega, B5⟩
            case round =>
              clear hown5 B5 hb5 BQ
              obtain ⟨d, cs, rfl, hd, hown, hcp, hcl, hcd, BQ⟩ := hrel
              by_cases hd9 : d < 9
              · have hdI : (d : Int) < 9 := by omega
                have hcd2 := hcd.out hd9
                go_wp2_with (at_builtin; refine wpList_append_one wr rfl (.tmp 54) (.tmp 55) 111 rfl wo.heap.size 5 (.int .u8 0) 1 Tryd.underlying111 infoU8 rfl _ cs.length (Lib.byteCells cs) (.int .u8 48) rfl rfl hown rfl (by unfold maxLen; omega) (by omega) BQ.size ?_; rintro G cG w6 hown6 hb6)
                go_roundw
                case rel => exact ⟨d + 1, cs ++ [48], by go_num, by omega, by rw [byteCells_append, List.length_append]; exact hown6, by rw [List.length_append]; omega, by rw [List.length_append]; simp; omega, fun h => by rw [List.length_append]; simp; omega, BQ.trans (hb6.mono (Nat.le_refl _))⟩
                case measure => simp [intOf]; omega
              · have hdI : (9 : Int) ≤ (d : Int) := by omega
                go_wp2_with (at_builtin; refine Lib.wpList_append_own_string _ rfl (.tmp 57) (.tmp 58) 111 9 rfl wo.heap.size 5 i0 Tryd.underlying111 Tryd.underlying9 hi hz0 hz1 hz2' _ cs.length (Lib.byteCells cs) rfl hown S rfl (by unfold maxLen; omega) (by omega) BQ.size ?_; intro v7 w7 hown7 hgr7 _)
                have B7 : Below wo.heap.size wo w7 := BQ.grown hgr7 BQ.size (fun q hq => (hown.lt q hq).1)
                rw [HSC.out, HSL.out, ← byteCells_append, ← List.length_append] at hown7
                go_roundw
                case rel => exact ⟨i, cs ++ Lib.decDigits y, by omega, rfl, hown7, by rw [List.length_append]; omega, by rw [List.length_append]; have := HSL.out; omega, B7⟩
                case measure => simp [intOf]
      · have hlen : 0 < l1.length := by
          rcases Nat.eq_zero_or_pos l1.length with h | h
          · have := List.eq_nil_of_length_eq_zero h; subst this; simp [val] at e1; omega
          · exact h
        have HE1 := Lib.hid e1
        have hlI : (0 : Int) < (l1.length : Int) := by omega
        have hkb' := grp_bound hkb.out hb0 HVL.out
        have hstep := grp_step hkb.out
        have hlt : b / 1000000000 < b := Nat.div_lt_self hb0 (by omega)
        have hgv : b % 1000000000 < 4294967296 := by omega
        unfold maxLen at hc1
        have HD := Lib.hid (divLimb_any A l1.length c 1000000000 l1 wr hs1 hall1 hn1 hc1 (by omega) (by omega) (by omega))
        rw [HE1.out] at HD
        clear e1 hl1 nt1
        go_wp2_with fail
        refine HD.out.mono ?_
        rintro e w2 ⟨v2, rfl, hN⟩
        have hb2 := hN.bel
        have hf2 := hN.fresh
        have hq2 := hN.nat
        have hown2 := own_keep hown hb2
        have hoff := off_own hown hf2
        clear hs1 hall1 hn1 hc1 hx hN hown HE1 HD
        obtain ⟨l2, ⟨⟨A2, c2, rfl, _, _, _⟩, _⟩, _⟩ := id hq2
        go_wp2_with (at_builtin; refine wpList_append_oneG w2 rfl (.tmp 23) (.tmp 25) 49 rfl w.heap.size 69 (.int .u32 0) 4 Tryd.underlying49 infoU32 rfl _ k (lims gs) (.int .u32 ((b % 1000000000 : Nat) : Int)) rfl rfl hown2 rfl (by unfold maxLen; omega) (by omega) (Nat.le_trans BB.size hb2.size) ?_; rintro G cG w3 hown3 hb3 hgr hob)
        have hq3 : NatAt w3 (.slice A2 l2.length c2) (b / 1000000000) L := (hq2.mono k1).grown hgr hoff
        have HM3 := Lib.hid (natOf_eq hq3)
        go_roundw
        case rel => exact ⟨k + 1, b / 1000000000, _, _, _, gs ++ [b % 1000000000], _, rfl, rfl, hq3, by rw [lims_append]; exact hown3, hgs.snoc hgv, hstep, .inr (by omega), by omega, (BB.trans (hb2.mono BB.size)).trans hb3⟩
        case measure =>
          show natOf _ _ < natOf _ _
          rw [HM.out, HM3.out]
          exact hlt
end Go.Proofs.YtoihjclkocffhaaDoor
