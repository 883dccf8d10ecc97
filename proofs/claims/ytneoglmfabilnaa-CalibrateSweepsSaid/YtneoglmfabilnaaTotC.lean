/- The walk of the reference's total and Total. -/
import Derived.Test.YtneoglmfabilnaaTotB
namespace Go.Proofs.Ytneoglmfabilnaa
open Go.RowKit
set_option linter.unusedVariables false


set_option maxHeartbeats 4000000 in
theorem rtotal_any (pv rv mv qv iv cv : Value) (ps rs : List Int) (ms : List (List (List Int))) (qs is : List Int) (cs : List (List Int)) (w : World) (hp : Nums .i64 w pv ps) (hr : Nums .i64 w rv rs) (hm : ModL w mv ms) (hq : Nums .i64 w qv qs) (hi : Nums .i64 w iv is) (hc : IntsL w cv cs)
    (hz : totE ps rs ms qs is cs = 0) :
    Calls Try.prog 43 #[.agg #[pv, rv], mv, .agg #[qv, iv, cv]] w fun e w' => ∃ v, e = .returned v ∧ NatAt w' v (totTo rs ms cs cs.length) 40000 ∧ Below w.heap.size w w' := by
  have hp0 := hp
  have hr0 := hr
  have hm0 := hm
  have hq0 := hq
  have hi0 := hi
  have hc0 := hc
  obtain ⟨A, c, rfl, hc1, hm1, hsp⟩ := hp
  obtain ⟨B, c', rfl, hc', hm2, hsr⟩ := hr
  obtain ⟨M, cM, us, rfl, k1, k2, hs, hu⟩ := hm
  obtain ⟨X, cX, rfl, x1, x2, x3⟩ := hq
  obtain ⟨Y, cY, rfl, y1, y2, y3⟩ := hi
  obtain ⟨Z, cZ, vs, rfl, z1, z2, hsc, hcu⟩ := hc
  have HC := Lib.hid hcu
  unfold maxLen at k2 x2 y2 z2 hm1 hm2
  clear hu hs hsp hsr x3 y3 hcu
  have hgb := (Row.new w 24 [.slice A ps.length c, .slice B rs.length c']).alloc (.cells #[.slice X qs.length cX, .slice Y is.length cY, .slice Z cs.length cZ] 36)
  have hmb := Row.new (w.alloc (.cells #[.slice A ps.length c, .slice B rs.length c'] 24)) 36 [.slice X qs.length cX, .slice Y is.length cY, .slice Z cs.length cZ]
  have B0 : Below w.heap.size w ((w.alloc (.cells #[.slice A ps.length c, .slice B rs.length c'] 24)).alloc (.cells #[.slice X qs.length cX, .slice Y is.length cY, .slice Z cs.length cZ] 36)) := ((Below.refl _ _).alloc (Nat.le_refl _) _).alloc (by simp) _
  rw [show (w.alloc (.cells #[.slice A ps.length c, .slice B rs.length c'] 24)).heap.size = w.heap.size + 1 by simp] at hmb
  obtain ⟨e1, e2, e3, e4, e5⟩ := totE_zero hz
  have HRO := Lib.hid (fun k (hk : k < cs.length) => rows_ok (ms := ms) (qs := qs) e3 e5 (k := k) hk)
  have hcs200 : cs.length ≤ 200 := by obtain ⟨h1, _, _, _, h5, _⟩ := matE_zero e5; omega
  obtain ⟨hn21, _, hrp, _, _⟩ := gridE_zero e1
  have HRP := Lib.hid hrp.symm
  have H21 := Lib.hid (show rs.length ≤ 21 by omega)
  have HPK := Lib.hid (pok_of e1)
  have E4 := Lib.hid e4
  clear e1 e3 e4 e5 hn21 hrp hz
  obtain ⟨N, hN⟩ : ∃ N, cs.length = N := ⟨_, rfl⟩
  have HN := Lib.hid hN
  rw [hN] at hcs200 hsc z1 hgb hmb B0 ⊢
  clear hN
  go_enter Try.func43, Try.ntmps43
  go_wp2_with fail
  refine (rof_any 1 _ (by omega)).mono ?_
  rintro e w7 ⟨v, rfl, hv⟩
  have hbe := hv.bel
  have hna := hv.nat
  obtain ⟨ls, ⟨⟨C0, c0, rfl, _, _, _⟩, _⟩, _⟩ := hv
  have hgb7 := hgb.keep hbe
  have hmb7 := hmb.keep hbe
  have B7 : Below w.heap.size w w7 := B0.trans (hbe.mono B0.size)
  clear hgb hmb hbe B0
  go_wp2_with fail
  go_loopw [7, 8] (fun v i wr => ∃ (k : Nat) (C : Option Addr) (lc cc : Nat), k ≤ N ∧ i = .int .i64 (k : Int) ∧ v = .slice C lc cc ∧ NatAt wr (.slice C lc cc) (totTo rs ms cs k) (2 + 150 * k) ∧ Row wr w.heap.size 24 [.slice A ps.length c, .slice B rs.length c'] ∧ Row wr (w.heap.size + 1) 36 [.slice X qs.length cX, .slice Y is.length cY, .slice Z N cZ] ∧ Below w.heap.size w wr) (fun _ i _ => N - (intOf i).toNat)
  case atStart => exact ⟨0, C0, ls.length, c0, by omega, rfl, rfl, hna, hgb7, hmb7, B7⟩
  case round =>
    obtain ⟨k, C, lc, cc, hk, rfl, rfl, hnat, hg, hmm, hb⟩ := hrel
    clear hgb7 hmb7 B7 hna
    have q2 : wr.cell? ⟨w.heap.size + 1, 2, none⟩ = some (.slice Z N cZ) := hmm.cell 2
    by_cases hlt : k < N
    · obtain ⟨b1, o1, u1, rfl, hb1, g1, hr1⟩ := lst_at hsc HC.out hlt
      have hkl : Hid (k < cs.length) := by unfold Hid; rw [HN.out]; exact hlt
      have g2 : wr.cell? ⟨b1, o1 + k, none⟩ = some u1 := (hb.cell (p := ⟨b1, o1 + k, none⟩) hb1).trans g1
      have hx2 := hr1.below hb
      clear g1 hr1
      have hx2' := hx2
      obtain ⟨R, cR, rfl, _, _, _⟩ := hx2'
      obtain ⟨r1, r2⟩ := HRO.out k hkl.out
      have hwok := wok_of (rs := rs) (skip := -1) r1 E4.out r2 (-1)
      rw [HRP.out] at hwok
      have HT := Lib.hid (show totTo rs ms cs (k + 1) = totTo rs ms cs k * sumTo (wL rs ms (cs.getD k []) (-1) rs.length) rs.length from rfl)
      have hr60 : (cs.getD k []).length ≤ 60 := by omega
      have HR1 := Lib.hid r1
      clear r1 r2
      generalize cs.getD k [] = row at *
      have q0 : wr.cell? ⟨w.heap.size, 0, none⟩ = some (.slice A ps.length c) := hg.cell 0
      have q1 : wr.cell? ⟨w.heap.size, 1, none⟩ = some (.slice B rs.length c') := hg.cell 1
      have i1 : 0 ≤ (k : Int) := by omega
      have i2 : (k : Int) < (N : Int) := by omega
      have zg := hg.lt
      have zm := hmm.lt
      have hp2 := hp0.below hb
      have hr2 := hr0.below hb
      have hm2' := hm0.below hb
      obtain ⟨wo, rfl⟩ : ∃ wo : World, wo = wr := ⟨_, rfl⟩
      go_wp2_with fail
      go_region_held3 (fun w' => w'.cell? ⟨w.heap.size, 0, none⟩ = some (.slice A ps.length c) ∧ w'.cell? ⟨w.heap.size, 1, none⟩ = some (.slice B rs.length c') ∧ w'.cell? ⟨w.heap.size + 1, 2, none⟩ = some (.slice (some ⟨b1, o1, none⟩) N cZ) ∧ w'.cell? ⟨b1, o1 + k, none⟩ = some (.slice R row.length cR) ∧ Below wo.heap.size wo w')
        (first
          | exact ⟨q0, q1, q2, g2, Below.refl _ _⟩
          | exact ⟨q0, q1, q2, g2, (Below.refl _ _).drew⟩
          | exact ⟨(hb3.cell (p := ⟨w.heap.size, 0, none⟩) zg).trans q0, (hb3.cell (p := ⟨w.heap.size, 1, none⟩) zg).trans q1, (hb3.cell (p := ⟨w.heap.size + 1, 2, none⟩) zm).trans q2, (hb3.cell (p := ⟨b1, o1 + k, none⟩) (Nat.lt_of_lt_of_le hb1 hb.size)).trans g2, undrew1 hb3⟩)
        ((go_at_call 35; refine (rweights_any _ _ _ _ ps rs row ms (-1) _ ?_ ?_ ?_ ?_ H21.out HRP.out hr60 HR1.out hwok HPK.out).mono ?_; exact hp2; exact hr2; exact hm2'; exact hx2; rintro e w3 ⟨v3, rfl, ⟨V, cv, ws, rfl, v1, v2, hsv, hel⟩, hb3⟩))
      have hb3' := undrew1 hb3
      have HEl := Lib.hid hel
      have hln := wL_len rs ms row (-1) rs.length
      rw [hln] at v1 hsv ⊢
      unfold maxLen at v2
      clear hel hln q0 q1 q2 g2 hx2 hp2 hr2 hm2' hb3
      generalize hWW : wL rs ms row (-1) rs.length = W at *
      clear hWW hwok
      have hnn : rs.length ≤ 21 := H21.out
      go_wp2_with fail
      refine (rof_any 0 _ (by omega)).mono ?_
      rintro e w4 ⟨v4, rfl, hv4⟩
      have hbe4 := hv4.bel
      have hna4 := hv4.nat.mono (show 2 ≤ 122 + 0 by omega)
      obtain ⟨l4, ⟨⟨C4, c4, rfl, _, _, _⟩, _⟩, _⟩ := hv4
      go_wp2_with fail
      go_loopw [10, 11] (fun v i wr => ∃ (j : Nat) (S : Option Addr) (l2 c2 : Nat), j ≤ rs.length ∧ i = .int .i64 (j : Int) ∧ v = .slice S l2 c2 ∧ NatAt wr (.slice S l2 c2) (sumTo W j) (122 + j) ∧ Below w3.heap.size w3 wr) (fun _ i _ => rs.length - (intOf i).toNat)
      case atStart => exact ⟨0, C4, l4.length, c4, by omega, rfl, rfl, hna4, hbe4⟩
      case round =>
        obtain ⟨j, S, l2, c2, hj, rfl, rfl, hns, hbj⟩ := hrel
        clear hbe4 hna4
        by_cases hlj : j < rs.length
        · obtain ⟨b4, o4, u4, rfl, hb4, g4, hR4⟩ := lst_at (R := fun w u n => NatAt w u n 122) (d := 0) (xs := W) hsv HEl.out hlj
          have g5 : wr.cell? ⟨b4, o4 + j, none⟩ = some u4 := (hbj.cell (p := ⟨b4, o4 + j, none⟩) hb4).trans g4
          have hR5 := hR4.below hbj
          clear g4 hR4
          obtain ⟨lb, hlb1, hlb2, hlb3, hlb4⟩ := hR5
          obtain ⟨la, hla1, hla2, hla3, hla4⟩ := hns
          have hlb1' := hlb1
          obtain ⟨⟨L4, c4, rfl, _, _, _⟩, _⟩ := hlb1'
          go_wp2_with fail
          refine (radd_any _ _ la lb _ hla1 hlb1 (by omega) (by omega)).mono ?_
          rintro e w8 ⟨v8, rfl, hv8⟩
          have hbe8 := hv8.bel
          have hna8 := hv8.nat
          obtain ⟨l8, ⟨⟨C8, c8, rfl, _, _, _⟩, _⟩, _⟩ := hv8
          have hfin : NatAt w8 (.slice C8 l8.length c8) (sumTo W (j + 1)) (122 + (j + 1)) := by
            have h9 := hna8.mono (show max la.length lb.length + 1 ≤ 122 + (j + 1) by omega)
            rw [hla3, hlb3] at h9
            exact h9
          have hb9 := hbj.trans (hbe8.mono hbj.size)
          clear hna8 hbe8 hbj hla1 hlb1 g5
          go_wp2_with fail
          go_roundw
          case rel => exact ⟨j + 1, C8, l8.length, c8, by omega, by go_num, rfl, hfin, hb9⟩
          case measure => simp [intOf]; omega
        · have hjn : j = rs.length := by omega
          rw [hjn] at hns
          clear hjn
          have hP := (hnat.below hb3').below hbj
          obtain ⟨la, hla1, hla2, hla3, hla4⟩ := hP
          obtain ⟨lb, hlb1, hlb2, hlb3, hlb4⟩ := hns
          have hg8 := (hg.keep hb3').keep hbj
          have hm8 := (hmm.keep hb3').keep hbj
          have hb8 : Below w.heap.size w wr := (hb.trans (hb3'.mono hb.size)).trans (hbj.mono (Nat.le_trans hb.size hb3'.size))
          go_wp2_with fail
          refine (rmul_any _ _ la lb _ hla1 hlb1 (by omega) (by omega)).mono ?_
          rintro e w8 ⟨v8, rfl, hv8⟩
          have hbe8 := hv8.bel
          have hna8 := hv8.nat
          obtain ⟨l8, ⟨⟨C8, c8, rfl, _, _, _⟩, _⟩, _⟩ := hv8
          have hfin : NatAt w8 (.slice C8 l8.length c8) (totTo rs ms cs (k + 1)) (2 + 150 * (k + 1)) := by
            have h9 := hna8.mono (show la.length + lb.length ≤ 2 + 150 * (k + 1) by omega)
            rw [hla3, hlb3, ← HT.out] at h9
            exact h9
          have hg9 := hg8.keep hbe8
          have hm9 := hm8.keep hbe8
          have hb9 := hb8.trans (hbe8.mono hb8.size)
          clear hna8 hbe8 hla1 hlb1 hg8 hb8 hm8
          go_wp2_with fail
          go_roundw
          case rel => exact ⟨k + 1, C8, l8.length, c8, by omega, by go_num, rfl, hfin, hg9, hm9, hb9⟩
          case measure => simp [intOf]; omega
    · obtain rfl : k = N := by omega
      go_wp2_with fail
      go_ret
      exact ⟨_, rfl, hnat.mono (by omega), hb⟩

set_option maxHeartbeats 4000000 in
theorem rTotal_any (pv rv mv qv iv cv : Value) (ps rs : List Int) (ms : List (List (List Int))) (qs is : List Int) (cs : List (List Int)) (w : World) (hp : Nums .i64 w pv ps) (hr : Nums .i64 w rv rs) (hm : ModL w mv ms) (hq : Nums .i64 w qv qs) (hi : Nums .i64 w iv is) (hc : IntsL w cv cs) :
    Calls Try.prog 15 #[.agg #[pv, rv], mv, .agg #[qv, iv, cv]] w fun e w' => ∃ v, e = .returned (.tuple #[v, .int .i64 (totE ps rs ms qs is cs)]) ∧ NatAt w' v (totV ps rs ms qs is cs) 40000 ∧ Below w.heap.size w w' := by
  have hp0 := hp
  have hr0 := hr
  have hm0 := hm
  have hq0 := hq
  have hi0 := hi
  have hc0 := hc
  obtain ⟨A, c, rfl, hc1, hm1, hsp⟩ := hp
  obtain ⟨B, c', rfl, hc', hm2, hsr⟩ := hr
  obtain ⟨M, cM, us, rfl, k1, k2, hs, hu⟩ := hm
  obtain ⟨X, cX, rfl, x1, x2, x3⟩ := hq
  obtain ⟨Y, cY, rfl, y1, y2, y3⟩ := hi
  obtain ⟨Z, cZ, vs, rfl, z1, z2, hsc, hcu⟩ := hc
  have HC := Lib.hid hcu
  unfold maxLen at k2 x2 y2 z2 hm1 hm2
  clear hu hs hsp hsr x3 y3 hcu
  have hgb := (Row.new w 24 [.slice A ps.length c, .slice B rs.length c']).alloc (.cells #[.slice X qs.length cX, .slice Y is.length cY, .slice Z cs.length cZ] 36)
  have hmb := Row.new (w.alloc (.cells #[.slice A ps.length c, .slice B rs.length c'] 24)) 36 [.slice X qs.length cX, .slice Y is.length cY, .slice Z cs.length cZ]
  have B0 : Below w.heap.size w ((w.alloc (.cells #[.slice A ps.length c, .slice B rs.length c'] 24)).alloc (.cells #[.slice X qs.length cX, .slice Y is.length cY, .slice Z cs.length cZ] 36)) := ((Below.refl _ _).alloc (Nat.le_refl _) _).alloc (by simp) _
  rw [show (w.alloc (.cells #[.slice A ps.length c, .slice B rs.length c'] 24)).heap.size = w.heap.size + 1 by simp] at hmb
  go_enter Try.func15, Try.ntmps15
  go_wp2_with fail
  refine (rgvalid_any _ _ ps rs _ (hp0.below B0) (hr0.below B0)).mono ?_
  rintro e w1 ⟨rfl, hb1⟩
  have B1 : Below w.heap.size w w1 := B0.trans (hb1.mono B0.size)
  replace hgb := hgb.keep hb1
  replace hmb := hmb.keep hb1
  clear hb1 B0
  by_cases e1 : gridE ps rs = 0
  case neg =>
    have HE := Lib.hid (totE_1 (ms := ms) (qs := qs) (is := is) (cs := cs) e1)
    have HV := Lib.hid (totV_bad HE.out e1)
    have f1 : (gridE ps rs != 0) = true := by rw [bne_iff_ne]; exact e1
    clear e1
    generalize gridE ps rs = E at *
    go_wp2_with fail
    go_ret2
    exact ⟨_, by rw [HE.out]; rfl, by rw [HV.out]; exact natAt_nil _ _, B1⟩
  have f1 : (gridE ps rs != 0) = false := by rw [bne_eq_false_iff_eq]; exact e1
  by_cases e2 : 60 < ms.length
  case pos =>
    have HE := Lib.hid (totE_2 (qs := qs) (is := is) (cs := cs) e1 e2)
    have HV := Lib.hid (totV_bad HE.out (by omega))
    have f2 : decide (60 < (ms.length : Int)) = true := by simp; omega
    clear e1
    generalize gridE ps rs = E at *
    go_wp2_with fail
    go_ret2
    exact ⟨_, by rw [HE.out]; rfl, by rw [HV.out]; exact natAt_nil _ _, B1⟩
  have f2 : decide (60 < (ms.length : Int)) = false := by simp; omega
  have qm1 : w1.cell? ⟨w.heap.size + 1, 1, none⟩ = some (.slice Y is.length cY) := hmb.cell 1
  by_cases e3 : ms.length = is.length
  case neg =>
    have HE := Lib.hid (totE_3 (qs := qs) (cs := cs) e1 (by omega) e3)
    have HV := Lib.hid (totV_bad HE.out (by omega))
    have f3 : ((ms.length : Int) != (is.length : Int)) = true := by rw [bne_iff_ne]; omega
    clear e1 e3
    generalize gridE ps rs = E at *
    go_wp2_with fail
    go_ret2
    exact ⟨_, by rw [HE.out]; rfl, by rw [HV.out]; exact natAt_nil _ _, B1⟩
  have f3 : ((ms.length : Int) != (is.length : Int)) = false := by rw [e3]; simp
  have E1 := Lib.hid e1
  have E3 := Lib.hid e3
  have qg0 : w1.cell? ⟨w.heap.size, 0, none⟩ = some (.slice A ps.length c) := hgb.cell 0
  have qg1 : w1.cell? ⟨w.heap.size, 1, none⟩ = some (.slice B rs.length c') := hgb.cell 1
  clear e1 e3
  generalize gridE ps rs = E at f1
  go_wp2_with fail
  clear f1 f2 f3 qg0 qg1 qm1
  refine (rchkm_any _ ms (ps.length : Int) (-1) _ (hm0.below B1)).mono ?_
  rintro e w2 ⟨rfl, hb2⟩
  have B2 : Below w.heap.size w w2 := B1.trans (hb2.mono B1.size)
  replace hgb := hgb.keep hb2
  replace hmb := hmb.keep hb2
  clear hb2 B1
  by_cases e4 : chkFrom (ps.length : Int) (-1) 0 ms = 0
  case neg =>
    have HE := Lib.hid (totE_4 (qs := qs) (cs := cs) E1.out (by omega) E3.out e4)
    have HV := Lib.hid (totV_bad HE.out e4)
    have f1 : (chkFrom (ps.length : Int) (-1) 0 ms != 0) = true := by rw [bne_iff_ne]; exact e4
    clear e4
    generalize chkFrom (ps.length : Int) (-1) 0 ms = E at *
    go_wp2_with fail
    go_ret2
    exact ⟨_, by rw [HE.out]; rfl, by rw [HV.out]; exact natAt_nil _ _, B2⟩
  have f1 : (chkFrom (ps.length : Int) (-1) 0 ms != 0) = false := by rw [bne_eq_false_iff_eq]; exact e4
  have E4 := Lib.hid e4
  have HE := Lib.hid (totE_5 (qs := qs) (cs := cs) E1.out (by omega) E3.out e4)
  have q0 : w2.cell? ⟨w.heap.size + 1, 0, none⟩ = some (.slice X qs.length cX) := hmb.cell 0
  have q1 : w2.cell? ⟨w.heap.size + 1, 1, none⟩ = some (.slice Y is.length cY) := hmb.cell 1
  have q2 : w2.cell? ⟨w.heap.size + 1, 2, none⟩ = some (.slice Z cs.length cZ) := hmb.cell 2
  have zz := hmb.lt
  have hm2' := hm0.below B2
  have hq2 := hq0.below B2
  have hi2 := hi0.below B2
  have hc2 := hc0.below B2
  clear e4
  generalize chkFrom (ps.length : Int) (-1) 0 ms = E at f1
  go_wp2_with fail
  go_region_held3 (fun w' => w'.cell? ⟨w.heap.size + 1, 0, none⟩ = some (.slice X qs.length cX) ∧ w'.cell? ⟨w.heap.size + 1, 1, none⟩ = some (.slice Y is.length cY) ∧ w'.cell? ⟨w.heap.size + 1, 2, none⟩ = some (.slice Z cs.length cZ) ∧ Below w2.heap.size w2 w')
    (first
      | exact ⟨q0, q1, q2, Below.refl _ _⟩
      | exact ⟨q0, q1, q2, (Below.refl _ _).drew⟩
      | exact ⟨(hb6.cell (p := ⟨w.heap.size + 1, 0, none⟩) (Nat.lt_of_lt_of_le zz hb5.size)).trans ((hb5.cell (p := ⟨w.heap.size + 1, 0, none⟩) zz).trans q0), (hb6.cell (p := ⟨w.heap.size + 1, 1, none⟩) (Nat.lt_of_lt_of_le zz hb5.size)).trans ((hb5.cell (p := ⟨w.heap.size + 1, 1, none⟩) zz).trans q1), (hb6.cell (p := ⟨w.heap.size + 1, 2, none⟩) (Nat.lt_of_lt_of_le zz hb5.size)).trans ((hb5.cell (p := ⟨w.heap.size + 1, 2, none⟩) zz).trans q2), (undrew1 hb5).trans (hb6.mono hb5.size)⟩
      | exact ⟨(hb5.cell (p := ⟨w.heap.size + 1, 0, none⟩) zz).trans q0, (hb5.cell (p := ⟨w.heap.size + 1, 1, none⟩) zz).trans q1, (hb5.cell (p := ⟨w.heap.size + 1, 2, none⟩) zz).trans q2, undrew1 hb5⟩)
    (first
      | (go_at_call 42; refine (rpcats_any _ ms _ ?_ ?_).mono ?_; exact hm2'; omega; rintro e w5 ⟨_, rfl, ⟨VA, vc, rfl, hv1, hv2, hv3⟩, hb5⟩)
      | (go_at_call 41; refine (rmatv_any _ _ _ _ qs is (catsL ms) cs _ ?_ ?_ ?_ ?_).mono ?_; exact hq2.below (undrew1 hb5); exact hi2.below (undrew1 hb5); exact hc2.below (undrew1 hb5); exact ⟨VA, vc, rfl, hv1, hv2, hv3⟩; rintro e w6 ⟨rfl, hb6⟩))
  have B26 : Below w2.heap.size w2 w6 := (undrew1 hb5).trans (hb6.mono hb5.size)
  have B6 : Below w.heap.size w w6 := B2.trans (B26.mono B2.size)
  replace hgb := hgb.keep B26
  replace hmb := hmb.keep B26
  clear hb5 hb6 hv1 hv2 hv3 q0 q1 q2 hm2' hq2 hi2 hc2 f1 B26
  by_cases e5 : matE qs is cs (catsL ms) = 0
  case neg =>
    have HV := Lib.hid (totV_bad HE.out e5)
    have f5 : (matE qs is cs (catsL ms) != 0) = true := by rw [bne_iff_ne]; exact e5
    clear e5
    generalize matE qs is cs (catsL ms) = E5 at *
    go_wp2_with fail
    go_ret2
    exact ⟨_, by rw [HE.out]; rfl, by rw [HV.out]; exact natAt_nil _ _, B6⟩
  have f5 : (matE qs is cs (catsL ms) != 0) = false := by rw [bne_eq_false_iff_eq]; exact e5
  have HZ := Lib.hid (HE.out.trans e5)
  have HV := Lib.hid (totV_ok HZ.out)
  have HRO := Lib.hid (fun k (hk : k < cs.length) => rows_ok (ms := ms) (qs := qs) E3.out e5 (k := k) hk)
  have hcs200 : cs.length ≤ 200 := by obtain ⟨h1, _, _, _, h5, _⟩ := matE_zero e5; omega
  obtain ⟨hn21, _, hrp, _, _⟩ := gridE_zero E1.out
  have HRP := Lib.hid hrp.symm
  have H21 := Lib.hid (show rs.length ≤ 21 by omega)
  have HPK := Lib.hid (pok_of E1.out)
  clear e5 HE zz hn21 hrp
  generalize matE qs is cs (catsL ms) = E5 at f5
  have qg0 : w6.cell? ⟨w.heap.size, 0, none⟩ = some (.slice A ps.length c) := hgb.cell 0
  have qg1 : w6.cell? ⟨w.heap.size, 1, none⟩ = some (.slice B rs.length c') := hgb.cell 1
  have q0 : w6.cell? ⟨w.heap.size + 1, 0, none⟩ = some (.slice X qs.length cX) := hmb.cell 0
  have q1 : w6.cell? ⟨w.heap.size + 1, 1, none⟩ = some (.slice Y is.length cY) := hmb.cell 1
  have q2 : w6.cell? ⟨w.heap.size + 1, 2, none⟩ = some (.slice Z cs.length cZ) := hmb.cell 2
  go_wp2_with fail
  refine (rtotal_any _ _ _ _ _ _ ps rs ms qs is cs _ (hp0.below B6) (hr0.below B6) (hm0.below B6) (hq0.below B6) (hi0.below B6) (hc0.below B6) HZ.out).mono ?_
  rintro e w7 ⟨v, rfl, hv, hb7⟩
  have B7 := B6.trans (hb7.mono B6.size)
  have hv' := hv
  obtain ⟨ls, ⟨⟨C0, c0, rfl, _, _, _⟩, _⟩, _⟩ := hv'
  clear hb7
  go_wp2_with fail
  go_ret2
  exact ⟨_, by rw [HZ.out]; rfl, by rw [HV.out]; exact hv, B7⟩
end Go.Proofs.Ytneoglmfabilnaa
