/- The walk of nat.divLong: quotient and remainder for a divisor of at least two limbs. -/
import Derived.Test.YtdmjgildgjpmcaaDoorKnsl
import Derived.Test.YtdmjgildgjpmcaaDoorKnsr
import Derived.Test.YtdmjgildgjpmcaaDoorKny
import Derived.Test.YtdmjgildgjpmcaaDoorKnt
import Derived.Test.YtdmjgildgjpmcaaDoorKne
import Derived.Test.YtdmjgildgjpmcaaDoorKnw
import Derived.Test.YtdmjgildgjpmcaaDoorKnx
import Derived.Test.YtdmjgildgjpmcaaDoorShelf
import Derived.Deep.RegionWith
namespace Go.Proofs.YtdmjgildgjpmcaaDoor
open Go.RowKit
set_option linter.unusedVariables false

theorem kd_call {a W w1 : World} (h : Below W.heap.size W w1) (h0 : Below a.heap.size a W) : Below a.heap.size a w1 := h0.trans (h.mono h0.size)
theorem kd_drew {a w : World} (h : Below a.heap.size a w) : Below a.heap.size a w.drew := h.drew
theorem Row.cutSl {w : World} {g t j n : Nat} {xs : List Value} (h : Row w g t xs) (hl : j + n ≤ xs.length) : Sl w (some ⟨g, j, none⟩) n ((xs.drop j).take n) := by
  refine ⟨by rw [List.length_take, List.length_drop]; omega, fun _ => ⟨g, j, rfl, fun i u hu => ?_⟩⟩
  rw [h.cell]
  rw [List.getElem?_take] at hu
  split at hu
  · rwa [List.getElem?_drop] at hu
  · cases hu
theorem Row.grown {w w' : World} {g t k : Nat} {xs : List Value} (h : Row w g t xs) (hg : w.grownBy w' (some k)) (hne : g ≠ k) : Row w' g t xs :=
  (hg.block g h.lt (by simpa using hne)).trans h
theorem part_at {w : World} {g t j n : Nat} {pre ps post : List Nat} (h : Row w g t (lims (pre ++ ps ++ post))) (h1 : pre.length = j) (h2 : ps.length = n) : Sl w (some ⟨g, j, none⟩) n (lims ps) := by
  have e := h.cutSl (j := j) (n := n) (by rw [lims_len, List.length_append, List.length_append]; omega)
  rwa [lims_drop, lims_take, List.append_assoc, List.drop_left' h1, List.take_left' h2] at e

theorem subtract_at (g cp : Nat) (D : Option Addr) (cD q j n : Nat) (pre ps post dv : List Nat) (w : World) (hrow : Row w g 42 (lims (pre ++ ps ++ post))) (hs : Sl w D (n + 2) (lims dv)) (hne : ∀ b o, D = some ⟨b, o, none⟩ → b ≠ g) (hpre : pre.length = j) (hdl : dv.length = n + 2) (hps : ps.length = n + 3) (ha : AllB ps) (hd : AllB dv)
    (hl : n ≤ 999999990) (hcp : n + 3 ≤ cp) (hcp2 : cp ≤ 9223372036854775807) (hcD : n + 2 ≤ cD) (hcD2 : cD ≤ 9223372036854775807) (hpl : j ≤ 1000000000) (hq : q < 4294967296) :
    Calls Tryd.prog 57 #[.slice (some ⟨g, j, none⟩) (n + 3) cp, .slice D (n + 2) cD, .int .u64 (q : Int)] w fun e w' => ∃ (ps' : List Nat) (b : Nat), e = .returned (.bool (b != 0)) ∧ b ≤ 1 ∧ ps'.length = n + 3 ∧ AllB ps' ∧ val ps + bp (n + 3) * b = val ps' + q * val dv ∧ Row w' g 42 (lims (pre ++ ps' ++ post)) ∧ w.grownBy w' (some g) := by
  have h := subtract_any g cp D cD q pre ps post dv w hrow (by rw [hdl]; exact hs) hne (by omega) ha hd (by omega) (by omega) (by omega) hcp2 (by omega) hcD2 (by omega) hq
  rw [hdl, hpre] at h
  exact h
theorem addBack_at (g cp : Nat) (D : Option Addr) (cD j n : Nat) (pre ps post dv : List Nat) (w : World) (hrow : Row w g 42 (lims (pre ++ ps ++ post))) (hs : Sl w D (n + 2) (lims dv)) (hne : ∀ b o, D = some ⟨b, o, none⟩ → b ≠ g) (hpre : pre.length = j) (hdl : dv.length = n + 2) (hps : ps.length = n + 3) (ha : AllB ps) (hd : AllB dv)
    (hl : n ≤ 999999990) (hcp : n + 3 ≤ cp) (hcp2 : cp ≤ 9223372036854775807) (hcD : n + 2 ≤ cD) (hcD2 : cD ≤ 9223372036854775807) (hpl : j ≤ 1000000000) :
    Calls Tryd.prog 58 #[.slice (some ⟨g, j, none⟩) (n + 3) cp, .slice D (n + 2) cD] w fun e w' => ∃ v ps' c, e = .returned v ∧ ps'.length = n + 3 ∧ AllB ps' ∧ val ps + val dv = val ps' + bp (n + 3) * c ∧ Row w' g 42 (lims (pre ++ ps' ++ post)) ∧ w.grownBy w' (some g) := by
  have h := addBack_any g cp D cD pre ps post dv w hrow (by rw [hdl]; exact hs) hne (by omega) ha hd (by omega) (by omega) (by omega) hcp2 (by omega) hcD2 (by omega)
  rw [hdl, hpre] at h
  exact h
theorem shiftRight_at (A : Option Addr) (c s n : Nat) (a : List Nat) (w : World) (hsa : Sl w A n (lims a)) (hn : a.length = n) (hall0 : AllB a) (hc : c ≤ 9223372036854775807) (la : n ≤ 1000000000) (hs : s < 32) :
    Calls Tryd.prog 59 #[.slice A n c, .int .i64 (s : Int)] w fun e w' => ∃ rs : List Nat, e = .returned (.slice (some ⟨w.heap.size, 0, none⟩) n n) ∧ rs.length = n ∧ AllB rs ∧ val rs = val a / 2 ^ s ∧ Row w' w.heap.size 42 (lims rs) ∧ Below w.heap.size w w' := by
  subst hn
  exact shiftRight_any A c s a w hsa hall0 hc la hs
/-- The difference with the divisor added back. -/
theorem back_exact {u' v r M x c : Nat} (h : u' + v = r + M) (h2 : u' + v = x + M * c) (hx : x < M) (hr : r < v) (hv : v ≤ M) : x = r := by
  have : c = 1 := by
    rcases Nat.lt_or_ge c 1 with h0 | h0
    · obtain rfl : c = 0 := by omega
      rw [Nat.mul_zero] at h2; omega
    · rcases Nat.lt_or_ge c 2 with h3 | h3
      · omega
      · have : M * 2 ≤ M * c := Nat.mul_le_mul_left _ h3
        omega
  subst this
  omega

set_option maxHeartbeats 8000000 in
theorem divLong_any (A D : Option Addr) (cA cD n m : Nat) (a dv : List Nat) (w : World) (hsa : Sl w A (m + n + 2) (lims a)) (hsd : Sl w D (n + 2) (lims dv)) (ha : AllB a) (hd : AllB dv) (hk : m + n ≤ 999999990) (hcA : m + n + 2 ≤ cA) (hcA2 : cA ≤ 9223372036854775807) (hcD : n + 2 ≤ cD) (hcD2 : cD ≤ 9223372036854775807) (htop : 0 < dv.getD (n + 1) 0) :
    Calls Tryd.prog 51 #[.slice A (m + n + 2) cA, .slice D (n + 2) cD] w fun e w' => ∃ q r, e = .returned (.tuple #[q, r]) ∧ DRes w w' q r (val a) (val dv) (m + n + 2) (n + 2) := by
  go_enter Tryd.func51, Tryd.ntmps51
  have hdl : dv.length = n + 2 := by have := hsd.1; rwa [lims_len] at this
  obtain ⟨b', o', rfl, hb', hc'⟩ := hsd.lim (show 0 < n + 2 by omega)
  have q1 := hc' (n + 1) (by omega)
  have hy := hd.getD (n + 1)
  have HSD := Lib.hid hsd
  have HSA := Lib.hid hsa
  clear hc' hsd hsa
  obtain ⟨v1, hv1⟩ : ∃ v1, dv.getD (n + 1) 0 = v1 := ⟨_, rfl⟩
  rw [hv1] at q1 hy htop
  have HV1 := Lib.hid hv1
  clear hv1
  have i1 : IntKind.i64.wrap ((n : Int) + 2 - 1) = (n : Int) + 1 := by rw [IntKind.wrap_i64]; omega
  have i2 : ((n + 2 : Nat) : Int) = (n : Int) + 2 := by omega
  have i3 : 0 ≤ (n : Int) + 1 := by omega
  have i4 : (n : Int) + 1 < (n : Int) + 2 := by omega
  have i5 : ((n : Int) + 1).toNat = n + 1 := by omega
  go_wp2_with fail
  refine (Tryd.bits_LeadingZeros32 (v1 : Int) _ (by omega) (by omega)).mono ?_
  rintro e w' ⟨rfl, rfl⟩
  obtain ⟨z1, z2, z3, z4⟩ := norm_top htop hy
  rw [Int.toNat_natCast]
  obtain ⟨s, hs⟩ : ∃ s, 32 - Lib.bitLen v1 = s := ⟨_, rfl⟩
  have hs2 : (32 : Int) - (Lib.bitLen v1 : Int) = (s : Int) := by omega
  rw [hs] at z2 z3 z4
  rw [hs2]
  clear hs hs2 z1
  go_wp2_with fail
  have SL := shiftLeft_any (some ⟨b', o', none⟩) cD s dv w' (by rw [hdl]; exact HSD.out) hd (by omega) (by omega) z2
  rw [hdl] at SL
  refine SL.mono ?_
  rintro e w1 ⟨ds, rfl, hdsl, hads, hdsv, hdrow, hb1⟩
  have HDIV := Lib.hid (dl_div hdl hd hdsl hads hdsv z2 (by rw [HV1.out]; exact z3) (by rw [HV1.out]; exact z4))
  clear SL
  have HX1 := Lib.hid (show a.length = m + n + 2 by have := HSA.out.1; rwa [lims_len] at this)
  have SA := Lib.hid (shiftLeft_any A cA s a w1 (by rw [HX1.out]; exact HSA.out.below hb1) ha hcA2 (by rw [HX1.out]; omega) z2)
  rw [HX1.out] at SA
  have HDL := Lib.hid hdsl
  have HDV := Lib.hid hdsv
  have hb1' := hb1.size
  clear hdsl hdsv hb' z3 z4 q1 HV1 hdl
  have j1 : IntKind.i64.wrap ((m + n + 2 : Nat) : Int) = ((m + n + 2 : Nat) : Int) := by rw [IntKind.wrap_i64]; omega
  go_wp2_with fail
  refine SA.out.mono ?_
  rintro e w2 ⟨rs, rfl, hrl, hrall, hrv, hrrow, hb2⟩
  have HRL := Lib.hid hrl
  have HRV := Lib.hid hrv
  have hb2' := hb2.size
  have hdrow2 := hdrow.keep hb2
  have hmk := run_mkI (P := Tryd.prog) Tryd.underlying26 infoU32 rfl ((m + n + 2 : Int) - (n + 2 : Int) + 1) (m + 1) (by omega) (by omega) (by omega)
  clear hrl hrv SA
  go_wp2_with fail
  clear hmk
  obtain ⟨gd, hgd⟩ : ∃ gd, w'.heap.size = gd := ⟨_, rfl⟩
  obtain ⟨gr, hgr⟩ : ∃ gr, w1.heap.size = gr := ⟨_, rfl⟩
  obtain ⟨gq, hgq⟩ : ∃ gq, w2.heap.size = gq := ⟨_, rfl⟩
  obtain ⟨V, hV⟩ : ∃ V, 2 ^ s * val dv = V := ⟨_, rfl⟩
  obtain ⟨X, hX⟩ : ∃ X, 2 ^ s * val a = X := ⟨_, rfl⟩
  obtain ⟨v1', v2', v3', v4'⟩ := HDIV.out
  rw [hV] at v1' v2' v3' HDV
  rw [hX] at HRV
  have HTOP := Lib.hid v4'
  have hV0 : 0 < V := Nat.lt_of_lt_of_le (Nat.mul_pos (by omega) (bp_pos _)) v3'
  have hst : X < bp (m + 1) * V := by
    rw [← hX]
    refine dl_start (n := n) ?_ z2 v3'
    have := val_lt ha
    rwa [HX1.out] at this
  have HVX := Lib.hid hV
  have HXX := Lib.hid hX
  have hda := hads.take (n + 2)
  have HDT := Lib.hid (show (ds.take (n + 2)).length = n + 2 by rw [List.length_take, HDL.out]; omega)
  have HDT1 := Lib.hid v1'
  have HV2 := Lib.hid v2'
  have BW : Below gd w' (w2.alloc (.cells (zrow (Value.int IntKind.u32 0) (m + 1)) 42)) := by
    rw [← hgd]
    exact (hb1.trans (hb2.mono hb1.size)).alloc (Nat.le_trans hb1.size hb2.size) _
  have rq : Row (w2.alloc (.cells (zrow (Value.int IntKind.u32 0) (m + 1)) 42)) gq 42 (lims (List.replicate (m + 1) 0)) := by
    rw [lims_zeros, ← hgq]; exact Row.newz _ _ _ _
  have rr := hrrow.alloc (.cells (zrow (Value.int IntKind.u32 0) (m + 1)) 42)
  have rd := hdrow2.alloc (.cells (zrow (Value.int IntKind.u32 0) (m + 1)) 42)
  have l1 : gd < gr := by have := hdrow.lt; omega
  have l2 : gr < gq := by have := hrrow.lt; omega
  rw [hgd] at rd
  rw [hgr] at rr
  have HGD := Lib.hid hgd
  rw [hgd, hgr, hgq]
  clear hgr hgq hV hX v1' v2' v3' v4' hdrow hdrow2 hrrow hb1 hb2 hb1' hb2' hgd
  generalize w2.alloc (.cells (zrow (Value.int IntKind.u32 0) (m + 1)) 42) = wz at *
  go_loopw [11] (fun i wr => ∃ (k : Nat) (R Q : List Nat), k ≤ m + 1 ∧ i = .int .i64 ((k : Int) - 1) ∧ Hid (R.length = m + n + 3) ∧ AllB R ∧ Hid (Q.length = m + 1 - k) ∧ AllB Q ∧ Hid (X = val R + bp k * (val Q * V)) ∧ Hid (val R < bp k * V) ∧ Row wr gd 42 (lims ds) ∧ Row wr gr 42 (lims R) ∧ Row wr gq 42 (lims (List.replicate k 0 ++ Q)) ∧ Below gd w' wr) (fun i _ => (intOf i + 1).toNat)
  case atStart =>
    exact ⟨m + 1, rs, [], by omega, by go_num, HRL.out, hrall, by simp [Hid], AllB.nil, by rw [HRV.out]; simp [Hid, val], by rw [HRV.out]; exact hst, rd, rr, by rw [List.append_nil]; exact rq, BW⟩
  case round =>
    clear rd rr rq BW hst
    obtain ⟨k, R, Q, hk, rfl, hRl, hRa, hQl, hQa, hval, hlt, rd, rr, rq, BW⟩ := hrel
    rcases Nat.eq_zero_or_pos k with h0 | hp
    · subst h0
      have hrq0 : List.replicate 0 0 ++ Q = Q := rfl
      rw [hrq0] at rq
      have hsQ : Sl wr (some ⟨gq, 0, none⟩) (m + 1) (lims Q) := by
        have := rq.sl
        rwa [lims_len, hQl.out] at this
      have hsR : Sl wr (some ⟨gr, 0, none⟩) (n + 2) (lims (R.take (n + 2))) := by
        have := rr.cutSl (j := 0) (n := n + 2) (by rw [lims_len, hRl.out]; omega)
        rwa [List.drop_zero, lims_take] at this
      have hRt := hRa.take (n + 2)
      have HRT := Lib.hid (show (R.take (n + 2)).length = n + 2 by rw [List.length_take, hRl.out]; omega)
      have hvl := hlt.out
      rw [bp_zero, Nat.one_mul] at hvl
      have HRV2 := Lib.hid (dl_take hvl HV2.out (by rw [hRl.out]; omega))
      have hve := hval.out
      rw [bp_zero, Nat.one_mul] at hve
      have HEND := Lib.hid (dl_end (Nat.pow_pos (by omega : 0 < 2)) (by
        rcases Nat.eq_zero_or_pos (val dv) with h0 | h0
        · have := HVX.out; rw [h0, Nat.mul_zero] at this; omega
        · exact h0) (by rw [HXX.out, HVX.out]; exact hve) (by rw [HVX.out]; exact hvl) : val Q = val a / val dv ∧ val R / 2 ^ s = val a % val dv)
      have HSR := Lib.hid (fun (W : World) (h : Sl W (some ⟨gr, 0, none⟩) (n + 2) (lims (R.take (n + 2)))) => shiftRight_at (some ⟨gr, 0, none⟩) (m + n + 2 + 1) s (n + 2) (R.take (n + 2)) W h HRT.out hRt (by omega) (by omega) z2)
      have hsn : (strip Q).length ≤ m + 1 := Nat.le_trans (strip_len Q) (by rw [hQl.out]; omega)
      have hsg : gd ≤ wr.heap.size := Nat.le_of_lt rd.lt
      clear rd rr rq hrq0 hvl hve hval hlt hRl hRa
      go_wp2_with fail
      go_region_with (first
        | (go_at_call 35; ((with_reducible refine (trim_any (some ⟨gq, 0, none⟩) (m + 1) (m + 1) Q _ (hsQ.below ?_) (Nat.le_refl _) (by unfold maxLen; omega)).mono ?_); (repeat (first | with_reducible exact Below.refl _ _ | with_reducible refine kd_call h5 ?_ | with_reducible refine kd_drew ?_)); rintro e w4 ⟨rfl, rfl⟩))
        | (go_at_call 59; ((with_reducible refine (HSR.out _ (hsR.below ?_)).mono ?_); (repeat (first | with_reducible exact Below.refl _ _ | with_reducible refine kd_call h5 ?_ | with_reducible refine kd_drew ?_)); rintro e w5 ⟨l5, rfl, k5, al5, v5, r5, h5⟩; have s5 := r5.sl; rw [lims_len, k5] at s5))
        | (go_at_call 35; ((refine (trim_any _ (n + 2) (n + 2) l5 _ s5 (Nat.le_refl _) (by unfold maxLen; omega)).mono ?_); rintro e w6 ⟨rfl, rfl⟩)))
      all_goals
        have B5 : Below wr.heap.size wr w5 := kd_call h5 (kd_drew (Below.refl _ _))
        go_wp2_with fail
        go_ret2
        refine ⟨_, _, rfl, ⟨⟨strip Q, Lim.strip (hsQ.below B5) (Nat.le_refl _) (by unfold maxLen; omega) hQa, strip_noTop _, by rw [strip_val]; exact HEND.out.1, by omega⟩, ?_⟩, ⟨⟨strip l5, Lim.strip s5 (Nat.le_refl _) (by unfold maxLen; omega) al5, strip_noTop _, by rw [strip_val, v5, HRV2.out]; exact HEND.out.2, Nat.le_trans (strip_len _) (by omega)⟩, ?_⟩, ?_⟩
        · rw [HGD.out]; show gd ≤ gq; omega
        · rw [HGD.out]; show gd ≤ wr.heap.size; exact hsg
        · rw [HGD.out]; exact BW.trans (B5.mono hsg)
    · obtain ⟨j, rfl⟩ : ∃ j, k = j + 1 := ⟨k - 1, by omega⟩
      have e1 : ((((j + 1 : Nat) : Int)) - 1) = (j : Int) := by omega
      have E1 := Lib.hid e1
      clear e1
      rw [E1.out]
      have c1 : (j : Int) + ((n : Int) + 2) + 1 = ((j + n + 3 : Nat) : Int) := by omega
      have c2 : ((m + n + 2 + 1 : Nat) : Int) = (m : Int) + n + 3 := by omega
      have c3 : j + n + 3 - j = n + 3 := by omega
      obtain ⟨pre, ps, post, hRe, hpre, hps, hpost⟩ : ∃ pre ps post, R = pre ++ ps ++ post ∧ pre.length = j ∧ ps.length = n + 3 ∧ post.length = m - j := by
        refine ⟨R.take j, (R.drop j).take (n + 3), R.drop (j + (n + 3)), (part_split R j (n + 3)).symm, ?_, ?_, ?_⟩
        · rw [List.length_take, hRl.out]; omega
        · rw [List.length_take, List.length_drop, hRl.out]; omega
        · rw [List.length_drop, hRl.out]; omega
      subst hRe
      have ha1 := hRa.left.left
      have ha2 := hRa.left.right
      have ha3 := hRa.right
      obtain ⟨hz, hps2⟩ := dl_part hpre hps HV2.out hlt.out
      have HSTEP := Lib.hid (fun (ps' : List Nat) (h : ps'.length = n + 3) => dl_step (ps' := ps') hpre hps h ha1 hz hV0 hval.out)
      have HPRE := Lib.hid hpre
      have HPS := Lib.hid hps
      have HEST := Lib.hid (estimate_any (some ⟨gr, j, none⟩) (some ⟨gd, 0, none⟩) (m + n + 2 + 1 - j) (n + 2 + 1) n ps (ds.take (n + 2)) wr (part_at rr hpre hps) (by
        have := rd.cutSl (j := 0) (n := n + 2) (by rw [lims_len, HDL.out]; omega)
        rwa [List.drop_zero, lims_take] at this) ha2 hda (by omega) (by omega) (by omega) (by omega) (by omega) HTOP.out (by rw [HDT1.out, HDV.out] at *; exact hps2))
      clear hps hpost hz hpre hlt hval
      go_wp2_with fail
      refine HEST.out.mono ?_
      rintro e we ⟨qh, de, rfl, hq1, hq2, hq3, rfl⟩
      rw [HDT1.out] at hq2 hq3
      have rr2 := rr.drewN de
      have rd2 := rd.drewN de
      have rq2 := rq.drewN de
      have BW2 : Below gd w' (wr.drewN de) := below_drewN BW de
      clear HEST rr rd rq BW
      generalize wr.drewN de = wy at *
      have hsd2 : Sl wy (some ⟨gd, 0, none⟩) (n + 2) (lims (ds.take (n + 2))) := by
        have := rd2.cutSl (j := 0) (n := n + 2) (by rw [lims_len, HDL.out]; omega)
        rwa [List.drop_zero, lims_take] at this
      have HSUB := Lib.hid (subtract_at gr (m + n + 2 + 1 - j) (some ⟨gd, 0, none⟩) (n + 2 + 1) qh j n pre ps post (ds.take (n + 2)) wy rr2 hsd2 (fun b o h => by injection h with h; injection h with h1 h2 h3; omega) HPRE.out HDT.out HPS.out ha2 hda (by omega) (by omega) (by omega) (by omega) (by omega) (by omega) hq1)
      clear hsd2
      go_wp2_with fail
      refine HSUB.out.mono ?_
      rintro e wx ⟨ps', b, rfl, hb1, hp1, hp2, hp3, rr3, hg3⟩
      rw [HDT1.out] at hp3
      have hM := val_lt hp2
      rw [hp1] at hM
      have hEX := step_exact hV0 hq2 hq3 hM (Nat.le_of_lt (Nat.lt_of_lt_of_le HV2.out (bp_mono (by omega)))) hp3 hb1
      have rd3 := rd2.grown hg3 (by omega)
      have rq3 := rq2.grown hg3 (by omega)
      have BW3 : Below gd w' wx := BW2.grown hg3 (by have := rr2.lt; omega) (fun k hk => by injection hk with hk; omega)
      clear HSUB rr2 rd2 rq2 BW2 hg3
      have hjm : j < m + 1 := by omega
      have hc0 : wx.cell? ⟨gq, j, none⟩ = some (.int .u32 0) := by
        rw [rq3.cell, lims_get _ (by simp; omega), fpad_get]; rfl
      have hf0 : wx.frozen? ⟨gq, j, none⟩ = false := rq3.frozen j
      have HLEN : ∀ qs : List Nat, qs.length = n + 3 → (pre ++ qs ++ post).length = m + n + 3 := by
        intro qs hqs
        have := hRl.out
        rw [List.length_append, List.length_append, HPS.out] at this
        rw [List.length_append, List.length_append, hqs]; exact this
      have HLEN := Lib.hid HLEN
      have HDG := Lib.hid (show val ps / V < 4294967296 from Nat.lt_of_le_of_lt hq2 hq1)
      rcases (by omega : b = 0 ∨ b = 1) with hb0 | hb0
      · subst hb0
        obtain ⟨x1, x2⟩ := hEX.1 rfl
        have HS := Lib.hid (HSTEP.out ps' hp1 x2)
        have HX := Lib.hid x1
        have HPL := Lib.hid (HLEN.out ps' hp1)
        have HPA := Lib.hid ((ha1.append hp2).append ha3)
        have hqi : (qh : Int) % 4294967296 = (qh : Int) := by omega
        rw [show ((0 : Nat) != 0) = false from rfl]
        clear hEX x1 x2 hp1 hp3 hM hq2 hq3 HSTEP hps2
        go_wp2_with fail
        go_roundw
        case rel =>
          refine ⟨j, pre ++ ps' ++ post, qh :: Q, by omega, rfl, HPL.out, HPA.out, by unfold Hid; rw [List.length_cons, hQl.out]; omega, AllB.cons hq1 hQa, by unfold Hid; rw [HX.out]; exact HS.out.1, HS.out.2, rd3.far (by show gd ≠ gq; omega) _, rr3.far (by show gr ≠ gq; omega) _, ?_, BW3.setCell (by show gd ≤ gq; omega) _⟩
          rw [← fpad_set, ← lims_set]
          exact rq3.set_ j _
        case measure => simp [intOf]
      · subst hb0
        obtain ⟨x0, x1, x2⟩ := hEX.2 rfl
        obtain ⟨qd, rfl⟩ : ∃ qd, qh = qd + 1 := ⟨qh - 1, by omega⟩
        rw [Nat.add_sub_cancel] at x1
        have HX := Lib.hid x1
        have HX2 := Lib.hid x2
        have hqd : qd < 4294967296 := by omega
        have hqi : (qd : Int) % 4294967296 = (qd : Int) := by omega
        have hqw : ((qd + 1 : Nat) : Int) = (qd : Int) + 1 := by omega
        have hsd3 : Sl wx (some ⟨gd, 0, none⟩) (n + 2) (lims (ds.take (n + 2))) := by
          have := rd3.cutSl (j := 0) (n := n + 2) (by rw [lims_len, HDL.out]; omega)
          rwa [List.drop_zero, lims_take] at this
        have HBK := Lib.hid (addBack_at gr (m + n + 2 + 1 - j) (some ⟨gd, 0, none⟩) (n + 2 + 1) j n pre ps' post (ds.take (n + 2)) wx rr3 hsd3 (fun b o h => by injection h with h; injection h with h1 h2 h3; omega) HPRE.out HDT.out hp1 hp2 hda (by omega) (by omega) (by omega) (by omega) (by omega) (by omega))
        rw [show ((1 : Nat) != 0) = true from rfl]
        clear hEX x0 x1 x2 hsd3 hp1 hp3 hq2 hq3 hps2
        go_wp2_with fail
        refine HBK.out.mono ?_
        rintro e wk ⟨v, pt, c, rfl, hp4, hp5, hp6, rr4, hg4⟩
        rw [HDT1.out] at hp6
        have hM2 := val_lt hp5
        rw [hp4] at hM2
        have hBE := back_exact HX2.out hp6 hM2 (Nat.mod_lt _ hV0) (Nat.le_of_lt (Nat.lt_of_lt_of_le HV2.out (bp_mono (by omega))))
        have HS := Lib.hid (HSTEP.out pt hp4 hBE)
        have HPL := Lib.hid (HLEN.out pt hp4)
        have HPA := Lib.hid ((ha1.append hp5).append ha3)
        have rd4 := rd3.grown hg4 (by omega)
        have rq4 := rq3.grown hg4 (by omega)
        have BW4 : Below gd w' wk := BW3.grown hg4 (by have := rr3.lt; omega) (fun k hk => by injection hk with hk; omega)
        have hc4 : wk.cell? ⟨gq, j, none⟩ = some (.int .u32 0) := by
          rw [rq4.cell, lims_get _ (by simp; omega), fpad_get]; rfl
        have hf4 : wk.frozen? ⟨gq, j, none⟩ = false := rq4.frozen j
        clear HBK hp4 hp6 hM hM2 hBE HSTEP HX2 hg4 hc0 hf0 rr3 rd3 rq3 BW3
        go_wp2_with fail
        go_roundw
        case rel =>
          refine ⟨j, pre ++ pt ++ post, qd :: Q, by omega, rfl, HPL.out, HPA.out, by unfold Hid; rw [List.length_cons, hQl.out]; omega, AllB.cons hqd hQa, by unfold Hid; rw [HX.out]; exact HS.out.1, HS.out.2, rd4.far (by show gd ≠ gq; omega) _, rr4.far (by show gr ≠ gq; omega) _, ?_, BW4.setCell (by show gd ≤ gq; omega) _⟩
          rw [← fpad_set, ← lims_set]
          exact rq4.set_ j _
        case measure => simp [intOf]
end Go.Proofs.YtdmjgildgjpmcaaDoor
