/- The walk of calibrate.Sweep. -/
import Derived.Test.YtneoglmfabilnaaSwA
import Derived.Test.YtneoglmfabilnaaOwn
import Derived.Test.YtneoglmfabilnaaShelf
import Derived.OneCell
namespace Go.Proofs.Ytneoglmfabilnaa
open Go.RowKit
set_option linter.unusedVariables false

theorem infoModel' : (Try.prog.info? 48).map (fun i => (i.zero, i.size, i.bytes)) = some (some (.agg #[.slice none 0 0]), 1, 24) := by kernel_rfl
theorem clone_any (v : Value) (l : List Int) (w : World) (h : Nums .i64 w v l) (hl8 : l.length * 8 ≤ 140737488351232) :
    Calls Try.prog 50 #[v] w fun e w' => ∃ A' c', e = .returned (.slice A' l.length c') ∧ w'.ownsRow w.heap.size 3 1 (.slice A' l.length c') l.length (l.map (Value.int .i64)) ∧ Below w.heap.size w w' := by
  obtain ⟨A, c, rfl, hc, hm, hs⟩ := h
  cases A with
  | none =>
    have h0 : l.length = 0 := by
      rcases Nat.eq_zero_or_pos l.length with h0 | h0
      · exact h0
      · obtain ⟨b, o, h, _⟩ := hs.2 h0; cases h
    have hl0 : l = [] := List.eq_nil_of_length_eq_zero h0
    subst hl0
    exact (Try.slices_Clone_int_nil _ _ _).mono fun e w' ⟨he, hw⟩ => by subst hw; exact ⟨none, 0, he, World.ownsRow_nil _ _ _ _, Below.refl _ _⟩
  | some ad =>
    rcases Nat.eq_zero_or_pos l.length with h0 | h0
    · have hl0 : l = [] := List.eq_nil_of_length_eq_zero h0
      subst hl0
      refine (Try.slices_Clone_int_zero _ _ _).mono fun e w' ⟨v', he, ho, _, hb⟩ => ?_
      obtain ⟨A', c', rfl, _, _, _⟩ := Sl.of_own ho
      exact ⟨A', c', he, ho, hb⟩
    · obtain ⟨b, o, hA, hb, hcell⟩ := hs.num h0
      injection hA with hA
      subst hA
      refine (Try.slices_Clone_int b o l.length c l w (Nat.le_refl _) (by omega) hcell).mono fun e w' ⟨v', he, ho, _, hbw⟩ => ?_
      rw [List.take_length] at ho
      obtain ⟨A', c', rfl, _, _, _⟩ := Sl.of_own ho
      exact ⟨A', c', he, ho, hbw⟩
theorem run_mkS {P : Program} {t e : TypeId} {z y : Value} {bytes : Nat} (ht : P.underlying t = some (.slice e)) (hinfo : (P.info? e).map (fun i => (i.zero, i.size, i.bytes)) = some (some z, 1, bytes)) (hz : z.cells = #[y])
    (n : Nat) (hb : bytes * n ≤ 281474976710656) (hm : n ≤ 9223372036854775807) (w : World) :
    (Instr.makeSlice t (.int .i64 (n : Int)) (.int .i64 (n : Int))).run P w = .ok (.slice (some ⟨w.heap.size, 0, none⟩) n n) (w.alloc (.cells (zrow y n) e)) := by
  obtain ⟨i, hi, hz0, hz1, hz2⟩ := info_parts hinfo
  have hb' : (i.bytes : Int) * (n : Int) ≤ 281474976710656 := by
    have h : ((i.bytes * n : Nat) : Int) ≤ 281474976710656 := by rw [hz2]; omega
    rwa [Int.natCast_mul] at h
  have hr := run_make (P := P) w t e i z ht hi hz0 .i64 .i64 n n (by omega) (Int.le_refl _) hb' (by omega)
  simp only [Int.toNat_natCast, hz1, Nat.mul_one, hz] at hr
  rw [hr]
  congr 3
  unfold zrow
  rw [← toList_madeCells_one]
theorem modL_row {w w' : World} {g t n : Nat} {us : List Value} {xs : List Mod} (hr : Row w' g t us) (hl : us.length = n) (hx : xs.length = n) (hm : n ≤ maxLen) (hel : ∀ i u, us[i]? = some u → IntsL w u (xs.getD i [])) (hb : Below w.heap.size w w') : ModL w' (.slice (some ⟨g, 0, none⟩) n n) xs := by
  have := hr.sl
  rw [hl] at this
  exact ⟨_, _, us, by rw [hx], by rw [hx]; exact Nat.le_refl _, hm, by rw [hx]; exact this, fun i u hi => (hel i u hi).below hb⟩
theorem els_set' {w : World} {us : List Value} {ms : List Mod} (h : ∀ i u, us[i]? = some u → IntsL w u (ms.getD i [])) (hl : us.length = ms.length) {it : Nat} {xv : Value} {x : Mod} (hx : IntsL w xv x) : ∀ i u, (us.set it xv)[i]? = some u → IntsL w u ((ms.set it x).getD i []) := by
  intro i u hi
  by_cases he : i = it
  · subst he
    have hl2 : i < us.length := by
      rcases Nat.lt_or_ge i us.length with h1 | h1
      · exact h1
      · rw [List.getElem?_eq_none (by rw [List.length_set]; exact h1)] at hi; cases hi
    rw [List.getElem?_set_self hl2] at hi
    injection hi with hi
    subst hi
    rw [set_get _ _ _ (by omega)]
    exact hx
  · rw [List.getElem?_set_ne (by omega)] at hi
    rw [set_other _ _ _ he]
    exact h i u hi
theorem snoc_get {us : List Value} {x : Value} {k : Nat} (hl : us.length = k) {P : Nat → Value → Prop} (h : ∀ i u, us[i]? = some u → P i u) (hx : P k x) : ∀ i u, (us ++ [x])[i]? = some u → P i u := by
  intro i u hi
  rcases Nat.lt_or_ge i us.length with h1 | h1
  · rw [List.getElem?_append_left h1] at hi
    exact h i u hi
  · rw [List.getElem?_append_right h1] at hi
    have h0 : i - us.length = 0 := by
      rcases Nat.eq_zero_or_pos (i - us.length) with h0 | h0
      · exact h0
      · rw [List.getElem?_eq_none (by simp; omega)] at hi; cases hi
    rw [h0] at hi
    simp at hi
    subst hi
    obtain rfl : i = k := by omega
    exact hx
theorem swTo_succ (rs : List Int) (cs : List (List Int)) (fs : List (List Mod)) (ch : List Int) (k : Nat) : swTo rs cs fs ch (k + 1) = if (swL rs cs fs (swTo rs cs fs ch k) k).getD ((swTo rs cs fs ch k).getD k 0).toNat 0 < (swL rs cs fs (swTo rs cs fs ch k) k).getD (grTo (swL rs cs fs (swTo rs cs fs ch k) k) (fs.getD k []).length) 0 then (swTo rs cs fs ch k).set k ((grTo (swL rs cs fs (swTo rs cs fs ch k) k) (fs.getD k []).length : Nat) : Int) else swTo rs cs fs ch k := rfl
def swV (ps rs qs is : List Int) (cs : List (List Int)) (fs : List (List Mod)) (ch : List Int) : List Int := if swE ps rs qs is cs fs ch = 0 then swp rs cs fs ch else []

set_option maxHeartbeats 2000000 in
theorem sweep_any (pv rv qv iv cv fv xv : Value) (ps rs qs is : List Int) (cs : List (List Int)) (fs : List (List Mod)) (ch : List Int) (w : World) (hp : Nums .i64 w pv ps) (hr : Nums .i64 w rv rs) (hq : Nums .i64 w qv qs) (hi : Nums .i64 w iv is) (hc : IntsL w cv cs) (hf : FamL w fv fs) (hx : Nums .i64 w xv ch) :
    Calls Try.prog 22 #[.agg #[pv, rv], .agg #[qv, iv, cv], fv, xv] w fun e w' => ∃ v, e = .returned (.tuple #[v, .int .i64 (swE ps rs qs is cs fs ch)]) ∧ Nums .i64 w' v (swV ps rs qs is cs fs ch) ∧ Below w.heap.size w w' := by
  have hp0 := hp
  have hr0 := hr
  have hq0 := hq
  have hi0 := hi
  have hc0 := hc
  have hf0 := hf
  have hx0 := hx
  obtain ⟨A, c, rfl, hc1, hm1, hsp⟩ := hp
  obtain ⟨B, c', rfl, hc', hm2, hsr⟩ := hr
  obtain ⟨X, cX, rfl, x1, x2, x3⟩ := hq
  obtain ⟨Y, cY, rfl, y1, y2, y3⟩ := hi
  obtain ⟨Z, cZ, vs, rfl, z1, z2, hsc, hcu⟩ := hc
  obtain ⟨Q, cQ, us, rfl, fq1, fq2, hsf, hfu⟩ := hf
  obtain ⟨D, cD, rfl, d1, d2, hsd⟩ := hx
  have HF := Lib.hid hfu
  unfold maxLen at x2 y2 z2 hm1 hm2 fq2 d2
  clear hsp hsr x3 y3 hcu hsc hfu
  have hgb := (Row.new w 24 [.slice A ps.length c, .slice B rs.length c']).alloc (.cells #[.slice X qs.length cX, .slice Y is.length cY, .slice Z cs.length cZ] 36)
  have hmb := Row.new (w.alloc (.cells #[.slice A ps.length c, .slice B rs.length c'] 24)) 36 [.slice X qs.length cX, .slice Y is.length cY, .slice Z cs.length cZ]
  have B0 : Below w.heap.size w ((w.alloc (.cells #[.slice A ps.length c, .slice B rs.length c'] 24)).alloc (.cells #[.slice X qs.length cX, .slice Y is.length cY, .slice Z cs.length cZ] 36)) := ((Below.refl _ _).alloc (Nat.le_refl _) _).alloc (by simp) _
  rw [show (w.alloc (.cells #[.slice A ps.length c, .slice B rs.length c'] 24)).heap.size = w.heap.size + 1 by simp] at hmb
  have qg0 : ((w.alloc (.cells #[.slice A ps.length c, .slice B rs.length c'] 24)).alloc (.cells #[.slice X qs.length cX, .slice Y is.length cY, .slice Z cs.length cZ] 36)).cell? ⟨w.heap.size, 0, none⟩ = some (.slice A ps.length c) := hgb.cell 0
  have qg1 : ((w.alloc (.cells #[.slice A ps.length c, .slice B rs.length c'] 24)).alloc (.cells #[.slice X qs.length cX, .slice Y is.length cY, .slice Z cs.length cZ] 36)).cell? ⟨w.heap.size, 1, none⟩ = some (.slice B rs.length c') := hgb.cell 1
  have q0 : ((w.alloc (.cells #[.slice A ps.length c, .slice B rs.length c'] 24)).alloc (.cells #[.slice X qs.length cX, .slice Y is.length cY, .slice Z cs.length cZ] 36)).cell? ⟨w.heap.size + 1, 0, none⟩ = some (.slice X qs.length cX) := hmb.cell 0
  have q1 : ((w.alloc (.cells #[.slice A ps.length c, .slice B rs.length c'] 24)).alloc (.cells #[.slice X qs.length cX, .slice Y is.length cY, .slice Z cs.length cZ] 36)).cell? ⟨w.heap.size + 1, 1, none⟩ = some (.slice Y is.length cY) := hmb.cell 1
  have q2 : ((w.alloc (.cells #[.slice A ps.length c, .slice B rs.length c'] 24)).alloc (.cells #[.slice X qs.length cX, .slice Y is.length cY, .slice Z cs.length cZ] 36)).cell? ⟨w.heap.size + 1, 2, none⟩ = some (.slice Z cs.length cZ) := hmb.cell 2
  go_enter Try.func22, Try.ntmps22
  go_wp2_with fail
  clear qg0 qg1 q0 q1 q2
  refine (chks_any _ _ _ _ _ _ _ ps rs qs is cs fs ch _ (hp0.below B0) (hr0.below B0) (hq0.below B0) (hi0.below B0) (hc0.below B0) (hf0.below B0) (hx0.below B0)).mono ?_
  rintro e w1 ⟨rfl, hb1⟩
  have B1 : Below w.heap.size w w1 := B0.trans (hb1.mono B0.size)
  replace hgb := hgb.keep hb1
  replace hmb := hmb.keep hb1
  clear hb1 B0
  by_cases he : swE ps rs qs is cs fs ch = 0
  case neg =>
    have HV : Hid (swV ps rs qs is cs fs ch = []) := if_neg he
    have f1 : (swE ps rs qs is cs fs ch != 0) = true := by rw [bne_iff_ne]; exact he
    clear he
    obtain ⟨E, hE⟩ : ∃ E, swE ps rs qs is cs fs ch = E := ⟨_, rfl⟩
    have HEE := Lib.hid hE
    rw [hE] at f1 ⊢
    clear hE
    go_wp2_with fail
    go_ret2
    exact ⟨.slice none 0 0, by rw [HEE.out]; rfl, by rw [HV.out]; exact Nums.nil _ _, B1⟩
  have HE := Lib.hid he
  have HV : Hid (swV ps rs qs is cs fs ch = swp rs cs fs ch) := if_pos he
  have f1 : (swE ps rs qs is cs fs ch != 0) = false := by rw [bne_eq_false_iff_eq]; exact he
  obtain ⟨h1, h2, h3, h4, h5, h6, h7, h8⟩ := swE_zero he
  have hcl : ch.length = fs.length := by omega
  have HCL := Lib.hid hcl
  have H3 := Lib.hid h3
  have hcs200 : cs.length ≤ 200 := by obtain ⟨h1, _, _, _, h5, _⟩ := matE_zero h7; omega
  obtain ⟨gn21, _, grp, _, _⟩ := gridE_zero h1
  have HRP := Lib.hid grp.symm
  have H21 := Lib.hid (show rs.length ≤ 21 by omega)
  have HPK := Lib.hid (pok_of h1)
  have hch : ch.length ≤ 60 := by omega
  clear he h1 h3 h4 h5 h6 h7 h8 hcl gn21 grp
  generalize swE ps rs qs is cs fs ch = E at f1 ⊢
  have hm1l := hmb.lt
  go_wp2_with fail
  clear f1
  refine (clone_any _ ch _ (hx0.below B1) (by omega)).mono ?_
  rintro e w2 ⟨V, cV, rfl, hown, hb2⟩
  have B2 : Below w.heap.size w w2 := B1.trans (hb2.mono B1.size)
  replace hgb := hgb.keep hb2
  replace hmb := hmb.keep hb2
  clear hb2
  obtain ⟨g, hg⟩ : ∃ g, w2.heap.size = g := ⟨_, rfl⟩
  have hgz : Hid (w.heap.size + 2 ≤ w1.heap.size) := hm1l
  have HOB := Lib.hid (fun q (hq : (Value.slice V ch.length cV).ownBlock = some q) => (hown.lt q hq))
  rw [hg] at HOB
  obtain ⟨W3, hW3⟩ : ∃ W3 : World, W3 = w2.alloc (.cells (zrow (.slice none 0 0) fs.length) 48) := ⟨_, rfl⟩
  have hr3 : Row W3 g 48 ([] ++ List.replicate (fs.length - 0) (.slice none 0 0)) := by
    rw [hW3, ← hg]
    have := Row.newz w2 48 (.slice none 0 0) fs.length
    simpa using this
  have hb3 : Below g w2 W3 := by rw [hW3, ← hg]; exact (Below.refl _ _).alloc (Nat.le_refl _) _
  have hmk := run_mkS (P := Try.prog) (y := .slice none 0 0) Try.underlying25 infoModel' rfl fs.length (by omega) (by omega)
  go_wp2_with fail
  try rw [hg]
  rw [← hW3]
  clear hmk hW3
  go_loopw [34] (fun i wr => ∃ (k : Nat) (ws : List Value), k ≤ fs.length ∧ i = .int .i64 (k : Int) ∧ ws.length = k ∧ Hid (∀ i u, ws[i]? = some u → IntsL w u ((msOf fs ch).getD i [])) ∧ Row wr g 48 (ws ++ List.replicate (fs.length - k) (.slice none 0 0)) ∧ Below g w2 wr) (fun i _ => fs.length - (intOf i).toNat)
  case atStart => exact ⟨0, [], by omega, rfl, rfl, fun i u h => by simp at h, hr3, hb3⟩
  case round =>
    clear hr3 hb3
    obtain ⟨k, ws, hk, rfl, hwl, hel, hrow, hb⟩ := hrel
    have hbg : Below w2.heap.size w2 wr := by rw [hg]; exact hb
    have hgw := hgb.keep hbg
    have hmw := hmb.keep hbg
    have BW : Below w.heap.size w wr := B2.trans (hbg.mono B2.size)
    have hown2 := own_keep hown hbg
    by_cases hlt : k < fs.length
    · obtain ⟨b1, o1, u1, rfl, hb1, g1, hI⟩ := lst_at hsf HF.out hlt
      have g2 : wr.cell? ⟨b1, o1 + k, none⟩ = some u1 := (BW.cell (p := ⟨b1, o1 + k, none⟩) hb1).trans g1
      obtain ⟨R, cR, ss, rfl, r1, r2, hsm, hmu⟩ := hI
      unfold maxLen at r2
      clear g1
      have hkc : k < ch.length := by rw [HCL.out]; exact hlt
      obtain ⟨gn, capn, hvn, _, _, _, hgn2, hcn, _, _⟩ := own_at hown2 hkc
      injection hvn with hV1 hV2 hV3
      subst hV1 hV3
      rw [List.getElem?_map, getD_some (d := 0) hkc, Option.map_some] at hcn
      have h8 := (swE_zero HE.out).2.2.2.2.2.2.2
      obtain ⟨x1', x2'⟩ := h8 k hkc
      obtain ⟨y, hy⟩ := Int.eq_ofNat_of_zero_le x1'
      rw [hy] at hcn x2'
      have hyl : y < (fs.getD k []).length := by omega
      obtain ⟨b2, o2, u2, rfl, hb2, g3, hJ⟩ := lst_at hsm hmu hyl
      have g4 : wr.cell? ⟨b2, o2 + y, none⟩ = some u2 := (BW.cell (p := ⟨b2, o2 + y, none⟩) hb2).trans g3
      have HM : Hid (IntsL w u2 ((msOf fs ch).getD k [])) := by unfold Hid; rw [msOf_get _ _ hlt, hy, Int.toNat_natCast]; exact hJ
      have hJ' := hJ
      obtain ⟨S, cS, ss2, rfl, _, _, _, _⟩ := hJ'
      clear g3 hJ h8 x1' x2' hy hmu hsm
      have hc0' : wr.cell? ⟨g, k, none⟩ = some (.slice none 0 0) := by rw [hrow.cell, padv_get _ _ _ _ hwl hlt]
      have hf0' : wr.frozen? ⟨g, k, none⟩ = false := hrow.frozen k
      have i1 : (k : Int) < (ch.length : Int) := by omega
      have i2 : (y : Int) < ((fs.getD k []).length : Int) := by omega
      have i3 : (k : Int) < (fs.length : Int) := by omega
      generalize (fs.getD k []).length = lk at *
      generalize ((fs.getD k []).getD y []).length = ly at *
      go_wp2_with fail
      go_roundw
      case rel =>
        refine ⟨k + 1, ws ++ [.slice S ly cS], by omega, by go_num, by rw [List.length_append, hwl]; rfl, snoc_get hwl hel.out HM.out, ?_, hb.setCell (by simp) _⟩
        rw [← padv_set _ _ _ _ _ hwl hlt]
        exact hrow.set_ k _
      case measure => simp [intOf]; omega
    · obtain rfl : k = fs.length := by omega
      rw [Nat.sub_self, List.replicate_zero, List.append_nil] at hrow
      go_wp2_with fail
      go_loopw [52] (fun i wr => ∃ (k : Nat) (ws : List Value), k ≤ fs.length ∧ i = .int .i64 (k : Int) ∧ ws.length = fs.length ∧ Hid (∀ i u, ws[i]? = some u → IntsL w u ((msOf fs (swTo rs cs fs ch k)).getD i [])) ∧ Row wr g 48 ws ∧ wr.ownsRow w1.heap.size 3 1 (.slice V ch.length cV) ch.length ((swTo rs cs fs ch k).map (Value.int .i64)) ∧ Row wr w.heap.size 24 [.slice A ps.length c, .slice B rs.length c'] ∧ Row wr (w.heap.size + 1) 36 [.slice X qs.length cX, .slice Y is.length cY, .slice Z cs.length cZ] ∧ Below w.heap.size w wr) (fun i _ => fs.length - (intOf i).toNat)
      case atStart => exact ⟨0, ws, by omega, rfl, hwl, hel, hrow, hown2, hgw, hmw, BW⟩
      case round =>
        clear hrow hown2 hgw hmw BW hel hwl hb hbg hown
        obtain ⟨k, ws, hk, rfl, hwl, hel, hrow, hown, hgw, hmw, hb⟩ := hrel
        by_cases hlt : k < fs.length
        · obtain ⟨b1, o1, u1, rfl, hb1, g1, hI⟩ := lst_at hsf HF.out hlt
          have g2 : wr.cell? ⟨b1, o1 + k, none⟩ = some u1 := (hb.cell (p := ⟨b1, o1 + k, none⟩) hb1).trans g1
          have hI0 := hI
          obtain ⟨R, cR, ss, rfl, r1, r2, hsm, hmu⟩ := hI
          have HMU := Lib.hid hmu
          unfold maxLen at r2
          clear g1 hmu
          have hkc : k < ch.length := by rw [HCL.out]; exact hlt
          have HEk := Lib.hid (swTo_E HE.out hk)
          have hml := modL_row hrow hwl (msOf_len fs (swTo rs cs fs ch k)) (by unfold maxLen; omega) hel.out hb
          have HLK := Lib.hid (fun j (hj : j < cs.length) => ms_like HEk.out hlt hj)
          have h24 := H3.out k hlt
          have hfp := (swE_fams HE.out hlt).2
          have hgl := grTo_lt (swL rs cs fs (swTo rs cs fs ch k) k) (fs.getD k []).length
          have HSW := Lib.hid (swTo_succ rs cs fs ch k)
          have HSS : Hid (∀ b, msOf fs ((swTo rs cs fs ch k).set k ((b : Nat) : Int)) = (msOf fs (swTo rs cs fs ch k)).set k ((fs.getD k []).getD b [])) := fun b => msOf_set fs _ hlt (by rw [swTo_len]; exact HCL.out)
          have HNL : Hid ((swTo rs cs fs ch k).length = ch.length) := swTo_len k
          have h8 := (swE_zero HEk.out).2.2.2.2.2.2.2
          obtain ⟨x1', x2'⟩ := h8 k (by rw [HNL.out]; exact hkc)
          have HLL : Hid ((swL rs cs fs (swTo rs cs fs ch k) k).length = (fs.getD k []).length) := likeL_len _ _ _ _ _
          have HSL : Hid (likeL rs (msOf fs (swTo rs cs fs ch k)) cs k (fs.getD k []) = swL rs cs fs (swTo rs cs fs ch k) k) := rfl
          have hkm : k < (msOf fs (swTo rs cs fs ch k)).length := by rw [msOf_len]; exact hlt
          have hml60 : (msOf fs (swTo rs cs fs ch k)).length ≤ 60 := by rw [msOf_len]; exact h2
          have hwm : ws.length = (msOf fs (swTo rs cs fs ch k)).length := by rw [msOf_len]; exact hwl
          have HWM := Lib.hid hwm
          have HMS : Hid (msOf fs (swTo rs cs fs ch k) = msOf fs (swTo rs cs fs ch k)) := rfl
          clear h8 hwm
          generalize hnx : swTo rs cs fs ch k = nx at *
          generalize hmm : msOf fs nx = ms at *
          replace HMS := Lib.hid hmm
          generalize hll : swL rs cs fs nx k = L at *
          have HFG := Lib.hid (rfl : fs.getD k [] = fs.getD k [])
          generalize hfg : fs.getD k [] = fam at *
          clear HFG hfg hnx hmm hll
          obtain ⟨y, hy⟩ := Int.eq_ofNat_of_zero_le x1'
          rw [hy] at x2'
          have HY := Lib.hid hy
          clear hy x1'
          have qg0 : wr.cell? ⟨w.heap.size, 0, none⟩ = some (.slice A ps.length c) := hgw.cell 0
          have qg1 : wr.cell? ⟨w.heap.size, 1, none⟩ = some (.slice B rs.length c') := hgw.cell 1
          have q0 : wr.cell? ⟨w.heap.size + 1, 0, none⟩ = some (.slice X qs.length cX) := hmw.cell 0
          have q1 : wr.cell? ⟨w.heap.size + 1, 1, none⟩ = some (.slice Y is.length cY) := hmw.cell 1
          have q2 : wr.cell? ⟨w.heap.size + 1, 2, none⟩ = some (.slice Z cs.length cZ) := hmw.cell 2
          obtain ⟨wo, rfl⟩ : ∃ wo : World, wo = wr := ⟨_, rfl⟩
          go_wp2_with fail
          clear qg0 qg1 q0 q1 q2
          refine (like_any _ _ _ _ _ _ _ ps rs ms qs is cs k fam _ (hp0.below hb) (hr0.below hb) hml (hq0.below hb) (hi0.below hb) (hc0.below hb) (hI0.below hb) H21.out HRP.out hkm hml60 hcs200 h24 HPK.out HLK.out).mono ?_
          rintro e w5 ⟨v5, rfl, hv5, hb5⟩
          rw [HSL.out] at hv5
          have hcan := hv5.can
          have hcan' := hcan
          obtain ⟨V5, c5, us5, rfl, m1, m2, hs5, hel5⟩ := hcan'
          have HE5 := Lib.hid hel5
          unfold maxLen at m2
          clear hel5 hv5 HLK hml
          go_wp2_with fail
          refine (greatest_any _ L _ _ hcan (by rw [HLL.out]; exact hfp)).mono ?_
          rintro e w6 ⟨rfl, d, rfl⟩
          rw [HLL.out] at hs5 m1 ⊢
          clear hcan
          have hown5 := own_keep hown hb5
          obtain ⟨gn, capn, hvn, _, _, hgn1, hgn2, hcn, hfn, hsn⟩ := own_at hown5 hkc
          injection hvn with hV1 hV2 hV3
          subst hV1 hV3
          rw [List.getElem?_map, getD_some (d := 0) (show k < nx.length by rw [HNL.out]; exact hkc), Option.map_some, HY.out] at hcn
          generalize hGG : grTo L fam.length = G at *
          have hG : G < fam.length := by omega
          have hyl : y < fam.length := by omega
          obtain ⟨b3, o3, xx, rfl, _, g3, hL1⟩ := lst_at (R := fun w u n => NatAt w u n 40000) (d := 0) (xs := L) hs5 HE5.out hG
          obtain ⟨b4, o4, yy, hA, _, g4, hL2⟩ := lst_at (R := fun w u n => NatAt w u n 40000) (d := 0) (xs := L) hs5 HE5.out hyl
          simp only [Option.some.injEq, Addr.mk.injEq, and_true] at hA
          obtain ⟨rfl, rfl⟩ := hA
          obtain ⟨la, ha1, _, ha3, _⟩ := hL1
          obtain ⟨lb, hb1', _, hb3, _⟩ := hL2
          have ha1' := ha1
          have hb1'' := hb1'
          obtain ⟨⟨X1, cx, rfl, _, _, _⟩, _⟩ := ha1'
          obtain ⟨⟨Y1, cy, rfl, _, _, _⟩, _⟩ := hb1''
          have HC := Lib.hid (fun (u : Nat) => cmp_any _ _ la lb (w5.drewN u) ha1 hb1')
          have HS : Hid (swTo rs cs fs ch (k + 1) = if decide (0 < cmpN (L.getD G 0) (L.getD y 0)) = true then nx.set k ((G : Nat) : Int) else nx) := by
            unfold Hid
            rw [cmpN_pos, HSW.out, HY.out, Int.toNat_natCast]
            simp only [decide_eq_true_eq]
          rw [ha3, hb3] at HC
          generalize cmpN (L.getD G 0) (L.getD y 0) = cm at *
          clear HSW ha1 hb1' ha3 hb3
          have i1 : (G : Int) < (fam.length : Int) := by omega
          have i2 : (y : Int) < (fam.length : Int) := by omega
          have i3 : (k : Int) < (ch.length : Int) := by omega
          go_wp2
          go_quiet ((go_at_call 20; exact quiet_addE (HC.out _)))
          obtain ⟨w7, hw7⟩ : ∃ w7 : World, w7 = (w5.drewN d).drewN nq := ⟨_, rfl⟩
          rw [← hw7]
          have B57 : Below w5.heap.size w5 w7 := by rw [hw7]; exact below_drewN (below_drewN (Below.refl _ _) _) _
          clear hw7
          have B7' : Below wo.heap.size wo w7 := hb5.trans (B57.mono hb5.size)
          have B7 : Below w.heap.size w w7 := hb.trans (B7'.mono hb.size)
          have hgw7 := hgw.keep B7'
          have hmw7 := hmw.keep B7'
          have hrow7 := hrow.keep B7'
          have hown7 := own_keep hown B7'
          have zg := hrow.lt
          clear hcn hfn hsn hgn1 hgn2 g3 g4 i1 i2
          rcases hd : decide (0 < cm) with _ | _
          · have HS' : Hid (swTo rs cs fs ch (k + 1) = nx) := by unfold Hid; rw [HS.out, hd]; rfl
            have HMs : Hid (msOf fs nx = ms) := HMS.out
            go_wp2_with fail
            go_roundw
            case rel => exact ⟨k + 1, ws, by omega, by go_num, hwl, by rw [HS'.out, HMs.out]; exact hel, hrow7, by rw [HS'.out]; exact hown7, hgw7, hmw7, B7⟩
            case measure => simp [intOf]; omega
          · have HS' : Hid (swTo rs cs fs ch (k + 1) = nx.set k ((G : Nat) : Int)) := by unfold Hid; rw [HS.out, hd]; rfl
            obtain ⟨gn', capn', hvn', _, _, hgn1, hgn2, hcn, hfn, hsn⟩ := own_at hown7 hkc
            injection hvn' with hV1 hV2 hV3
            injection hV1 with hV1
            injection hV1 with hV1
            subst hV1
            have hgng := HOB.out gn rfl
            rw [List.getElem?_map, getD_some (d := 0) (show k < nx.length by rw [HNL.out]; exact hkc), Option.map_some, HY.out] at hcn
            have hown8 := hsn (.int .i64 (G : Int))
            rw [← List.map_set] at hown8
            obtain ⟨b5, o5, u5, rfl, hb5', g5, hJ⟩ := lst_at hsm HMU.out hG
            have hJ' := hJ
            obtain ⟨S, cS, ss2, rfl, _, _, _, _⟩ := hJ'
            have B8 : Below w.heap.size w (w7.setCell ⟨gn, k, none⟩ (.int .i64 (G : Int))) := B7.setCell (by have := B1.size; simp; omega) _
            have hrowE : Row (w7.setCell ⟨gn, k, none⟩ (.int .i64 (G : Int))) g 48 ws := hrow7.far (by simp; omega) _
            have hgE : Row (w7.setCell ⟨gn, k, none⟩ (.int .i64 (G : Int))) w.heap.size 24 [.slice A ps.length c, .slice B rs.length c'] := hgw7.far (by have := hgz.out; simp; omega) _
            have hmE : Row (w7.setCell ⟨gn, k, none⟩ (.int .i64 (G : Int))) (w.heap.size + 1) 36 [.slice X qs.length cX, .slice Y is.length cY, .slice Z cs.length cZ] := hmw7.far (by have := hgz.out; simp; omega) _
            have g6 : (w7.setCell ⟨gn, k, none⟩ (.int .i64 (G : Int))).cell? ⟨b5, o5 + G, none⟩ = some (.slice S (fam.getD G []).length cS) := (B8.cell (p := ⟨b5, o5 + G, none⟩) hb5').trans g5
            have hwk : k < ws.length := by rw [hwl]; exact hlt
            have hc9 : (w7.setCell ⟨gn, k, none⟩ (.int .i64 (G : Int))).cell? ⟨g, k, none⟩ = some (ws[k]'hwk) := by rw [hrowE.cell, List.getElem?_eq_getElem hwk]
            have hf9 : (w7.setCell ⟨gn, k, none⟩ (.int .i64 (G : Int))).frozen? ⟨g, k, none⟩ = false := hrowE.frozen k
            generalize ws[k]'hwk = wk at hc9
            have HMs : Hid (msOf fs (nx.set k ((G : Nat) : Int)) = ms.set k (fam.getD G [])) := HSS.out G
            have HJ := Lib.hid hJ
            generalize hxg : fam.getD G [] = xg at *
            clear hJ hxg g5
            have i1 : (G : Int) < (fam.length : Int) := by omega
            have i4 : (k : Int) < (fs.length : Int) := by omega
            go_wp2_with fail
            go_roundw
            case rel =>
              refine ⟨k + 1, ws.set k (.slice S xg.length cS), by omega, by go_num, by rw [List.length_set]; exact hwl, ?_, hrowE.set_ k _, ?_, hgE.far (by simp; omega) _, hmE.far (by simp; omega) _, B8.setCell (by have := B2.size; simp; omega) _⟩
              · rw [HS'.out, HMs.out]
                exact els_set' hel.out HWM.out HJ.out
              · rw [HS'.out]
                exact ownsRow_setCell_other hown8 (by simp [Value.ownBlock]; omega) _
            case measure => simp [intOf]; omega
        · obtain rfl : k = fs.length := by omega
          have HSP : Hid (swTo rs cs fs ch fs.length = swp rs cs fs ch) := rfl
          rw [HSP.out] at hown
          go_wp2_with fail
          go_ret2
          exact ⟨_, by rw [HE.out]; rfl, by rw [HV.out]; exact Nums.of_own hown, hb⟩
end Go.Proofs.Ytneoglmfabilnaa
