/- The walks of the reference's Sweep and Run. -/
import Derived.Test.YtneoglmfabilnaaRsC
namespace Go.Proofs.Ytneoglmfabilnaa
open Go.RowKit
set_option linter.unusedVariables false

set_option maxHeartbeats 2000000 in
theorem rSweep_any (pv rv qv iv cv fv xv : Value) (ps rs qs is : List Int) (cs : List (List Int)) (fs : List (List Mod)) (ch : List Int) (w : World) (hp : Nums .i64 w pv ps) (hr : Nums .i64 w rv rs) (hq : Nums .i64 w qv qs) (hi : Nums .i64 w iv is) (hc : IntsL w cv cs) (hf : FamL w fv fs) (hx : Nums .i64 w xv ch) :
    Calls Try.prog 23 #[.agg #[pv, rv], .agg #[qv, iv, cv], fv, xv] w fun e w' => ∃ v, e = .returned (.tuple #[v, .int .i64 (swE ps rs qs is cs fs ch)]) ∧ Nums .i64 w' v (swV ps rs qs is cs fs ch) ∧ Below w.heap.size w w' := by
  have hp0 := hp
  have hr0 := hr
  have hq0 := hq
  have hi0 := hi
  have hc0 := hc
  have hf0 := hf
  have hx0 := hx
  obtain ⟨A, c, rfl, hc1, hm1, hsp⟩ := hp
  obtain ⟨B, c', rfl, hc', hm2, hsr⟩ := hr
  obtain ⟨X, cX, rfl, x1, x2, x3⟩ := hq
  obtain ⟨Y, cY, rfl, y1, y2, y3⟩ := hi
  obtain ⟨Z, cZ, vs, rfl, z1, z2, hsc, hcu⟩ := hc
  obtain ⟨Q, cQ, us, rfl, fq1, fq2, hsf, hfu⟩ := hf
  obtain ⟨D, cD, rfl, d1, d2, hsd⟩ := hx
  have HF := Lib.hid hfu
  unfold maxLen at x2 y2 z2 hm1 hm2 fq2 d2
  clear hsp hsr x3 y3 hcu hsc hfu
  have hgb := (Row.new w 24 [.slice A ps.length c, .slice B rs.length c']).alloc (.cells #[.slice X qs.length cX, .slice Y is.length cY, .slice Z cs.length cZ] 36)
  have hmb := Row.new (w.alloc (.cells #[.slice A ps.length c, .slice B rs.length c'] 24)) 36 [.slice X qs.length cX, .slice Y is.length cY, .slice Z cs.length cZ]
  have B0 : Below w.heap.size w ((w.alloc (.cells #[.slice A ps.length c, .slice B rs.length c'] 24)).alloc (.cells #[.slice X qs.length cX, .slice Y is.length cY, .slice Z cs.length cZ] 36)) := ((Below.refl _ _).alloc (Nat.le_refl _) _).alloc (by simp) _
  rw [show (w.alloc (.cells #[.slice A ps.length c, .slice B rs.length c'] 24)).heap.size = w.heap.size + 1 by simp] at hmb
  have qg0 : ((w.alloc (.cells #[.slice A ps.length c, .slice B rs.length c'] 24)).alloc (.cells #[.slice X qs.length cX, .slice Y is.length cY, .slice Z cs.length cZ] 36)).cell? ⟨w.heap.size, 0, none⟩ = some (.slice A ps.length c) := hgb.cell 0
  have qg1 : ((w.alloc (.cells #[.slice A ps.length c, .slice B rs.length c'] 24)).alloc (.cells #[.slice X qs.length cX, .slice Y is.length cY, .slice Z cs.length cZ] 36)).cell? ⟨w.heap.size, 1, none⟩ = some (.slice B rs.length c') := hgb.cell 1
  have q0 : ((w.alloc (.cells #[.slice A ps.length c, .slice B rs.length c'] 24)).alloc (.cells #[.slice X qs.length cX, .slice Y is.length cY, .slice Z cs.length cZ] 36)).cell? ⟨w.heap.size + 1, 0, none⟩ = some (.slice X qs.length cX) := hmb.cell 0
  have q1 : ((w.alloc (.cells #[.slice A ps.length c, .slice B rs.length c'] 24)).alloc (.cells #[.slice X qs.length cX, .slice Y is.length cY, .slice Z cs.length cZ] 36)).cell? ⟨w.heap.size + 1, 1, none⟩ = some (.slice Y is.length cY) := hmb.cell 1
  have q2 : ((w.alloc (.cells #[.slice A ps.length c, .slice B rs.length c'] 24)).alloc (.cells #[.slice X qs.length cX, .slice Y is.length cY, .slice Z cs.length cZ] 36)).cell? ⟨w.heap.size + 1, 2, none⟩ = some (.slice Z cs.length cZ) := hmb.cell 2
  go_enter Try.func23, Try.ntmps23
  go_wp2_with fail
  clear qg0 qg1 q0 q1 q2
  refine (rchk_any _ _ _ _ _ _ _ ps rs qs is cs fs ch _ (hp0.below B0) (hr0.below B0) (hq0.below B0) (hi0.below B0) (hc0.below B0) (hf0.below B0) (hx0.below B0)).mono ?_
  rintro e w1 ⟨rfl, hb1⟩
  have B1 : Below w.heap.size w w1 := B0.trans (hb1.mono B0.size)
  replace hgb := hgb.keep hb1
  replace hmb := hmb.keep hb1
  clear hb1
  by_cases he : swE ps rs qs is cs fs ch = 0
  case neg =>
    have HV : Hid (swV ps rs qs is cs fs ch = []) := if_neg he
    have f1 : (swE ps rs qs is cs fs ch != 0) = true := by rw [bne_iff_ne]; exact he
    clear he
    obtain ⟨E, hE⟩ : ∃ E, swE ps rs qs is cs fs ch = E := ⟨_, rfl⟩
    have HEE := Lib.hid hE
    rw [hE] at f1 ⊢
    clear hE
    go_wp2_with fail
    go_ret2
    exact ⟨_, by rw [HEE.out]; rfl, by rw [HV.out]; exact Nums.nil _ _, B1⟩
  have HE := Lib.hid he
  have HV : Hid (swV ps rs qs is cs fs ch = swp rs cs fs ch) := if_pos he
  rw [he]
  clear he
  have qg0 : w1.cell? ⟨w.heap.size, 0, none⟩ = some (.slice A ps.length c) := hgb.cell 0
  have qg1 : w1.cell? ⟨w.heap.size, 1, none⟩ = some (.slice B rs.length c') := hgb.cell 1
  have q0 : w1.cell? ⟨w.heap.size + 1, 0, none⟩ = some (.slice X qs.length cX) := hmb.cell 0
  have q1 : w1.cell? ⟨w.heap.size + 1, 1, none⟩ = some (.slice Y is.length cY) := hmb.cell 1
  have q2 : w1.cell? ⟨w.heap.size + 1, 2, none⟩ = some (.slice Z cs.length cZ) := hmb.cell 2
  go_wp2_with fail
  clear qg0 qg1 q0 q1 q2
  refine (rsweep_any _ _ _ _ _ _ _ ps rs qs is cs fs ch _ (hp0.below B1) (hr0.below B1) (hq0.below B1) (hi0.below B1) (hc0.below B1) (hf0.below B1) (hx0.below B1) HE.out).mono ?_
  rintro e w2 ⟨v2, rfl, hv2, hb2⟩
  have B2 : Below w.heap.size w w2 := B1.trans (hb2.mono B1.size)
  replace hgb := hgb.keep hb2
  replace hmb := hmb.keep hb2
  clear hb2
  go_wp2_with fail
  go_ret2
  exact ⟨_, by rw [HE.out]; rfl, by rw [HV.out]; exact hv2, B2⟩

theorem own_emptyR (w : World) (e : Nat) : (w.alloc (.cells #[] e)).ownsRow w.heap.size e 1 (.slice (some ⟨w.heap.size, 0, none⟩) 0 0) 0 [] :=
  World.ownsRow_made w #[] 0 (by omega) (by unfold maxLen; omega) (by simp)
/-- The lists differ at an index below k. -/
def difB (a b : List Int) : Nat → Bool
  | 0 => false
  | k + 1 => difB a b k || (a.getD k 0 != b.getD k 0)
theorem difB_false {a b : List Int} : ∀ {k}, difB a b k = false → ∀ i, i < k → a.getD i 0 = b.getD i 0
  | 0, _, i, hi => by omega
  | k + 1, h, i, hi => by
    rw [difB, Bool.or_eq_false_iff] at h
    rcases Nat.lt_or_ge i k with h1 | h1
    · exact difB_false h.1 i h1
    · obtain rfl : i = k := by omega
      exact bne_eq_false_iff_eq.1 h.2
theorem difB_self (a : List Int) : ∀ k, difB a a k = false
  | 0 => rfl
  | k + 1 => by rw [difB, difB_self a k]; simp
theorem difB_eq {a b : List Int} {n : Nat} (ha : a.length = n) (hb : b.length = n) (h : difB a b n = false) : a = b :=
  getD_ext 0 (ha.trans hb.symm) fun i hi => difB_false h i (by omega)
theorem itS_len (rs : List Int) (cs : List (List Int)) (fs : List (List Mod)) (ch : List Int) : ∀ k, (itS rs cs fs ch k).length = ch.length
  | 0 => rfl
  | k + 1 => (swTo_len fs.length).trans (itS_len rs cs fs ch k)

set_option maxHeartbeats 4000000 in
theorem rRun_any (pv rv qv iv cv fv xv : Value) (ps rs qs is : List Int) (cs : List (List Int)) (fs : List (List Mod)) (ch : List Int) (w : World) (hp : Nums .i64 w pv ps) (hr : Nums .i64 w rv rs) (hq : Nums .i64 w qv qs) (hi : Nums .i64 w iv is) (hc : IntsL w cv cs) (hf : FamL w fv fs) (hx : Nums .i64 w xv ch) :
    Calls Try.prog 26 #[.agg #[pv, rv], .agg #[qv, iv, cv], fv, xv] w fun e w' => ∃ v n l, e = .returned (.tuple #[v, .int .i64 ((n : Nat) : Int), .int .i64 (swE ps rs qs is cs fs ch)]) ∧ Nums .i64 w' v l ∧ RunV (swE ps rs qs is cs fs ch) rs cs fs ch n l ∧ Below w.heap.size w w' := by
  have hp0 := hp
  have hr0 := hr
  have hq0 := hq
  have hi0 := hi
  have hc0 := hc
  have hf0 := hf
  have hx0 := hx
  obtain ⟨A, c, rfl, hc1, hm1, hsp⟩ := hp
  obtain ⟨B, c', rfl, hc', hm2, hsr⟩ := hr
  obtain ⟨X, cX, rfl, x1, x2, x3⟩ := hq
  obtain ⟨Y, cY, rfl, y1, y2, y3⟩ := hi
  obtain ⟨Z, cZ, vs, rfl, z1, z2, hsc, hcu⟩ := hc
  obtain ⟨Q, cQ, us, rfl, fq1, fq2, hsf, hfu⟩ := hf
  obtain ⟨D, cD, rfl, d1, d2, hsd⟩ := hx
  have HF := Lib.hid hfu
  unfold maxLen at x2 y2 z2 hm1 hm2 fq2 d2
  clear hsp hsr x3 y3 hcu hsc hfu
  have hgb := (Row.new w 24 [.slice A ps.length c, .slice B rs.length c']).alloc (.cells #[.slice X qs.length cX, .slice Y is.length cY, .slice Z cs.length cZ] 36)
  have hmb := Row.new (w.alloc (.cells #[.slice A ps.length c, .slice B rs.length c'] 24)) 36 [.slice X qs.length cX, .slice Y is.length cY, .slice Z cs.length cZ]
  have B0 : Below w.heap.size w ((w.alloc (.cells #[.slice A ps.length c, .slice B rs.length c'] 24)).alloc (.cells #[.slice X qs.length cX, .slice Y is.length cY, .slice Z cs.length cZ] 36)) := ((Below.refl _ _).alloc (Nat.le_refl _) _).alloc (by simp) _
  rw [show (w.alloc (.cells #[.slice A ps.length c, .slice B rs.length c'] 24)).heap.size = w.heap.size + 1 by simp] at hmb
  have qg0 : ((w.alloc (.cells #[.slice A ps.length c, .slice B rs.length c'] 24)).alloc (.cells #[.slice X qs.length cX, .slice Y is.length cY, .slice Z cs.length cZ] 36)).cell? ⟨w.heap.size, 0, none⟩ = some (.slice A ps.length c) := hgb.cell 0
  have qg1 : ((w.alloc (.cells #[.slice A ps.length c, .slice B rs.length c'] 24)).alloc (.cells #[.slice X qs.length cX, .slice Y is.length cY, .slice Z cs.length cZ] 36)).cell? ⟨w.heap.size, 1, none⟩ = some (.slice B rs.length c') := hgb.cell 1
  have q0 : ((w.alloc (.cells #[.slice A ps.length c, .slice B rs.length c'] 24)).alloc (.cells #[.slice X qs.length cX, .slice Y is.length cY, .slice Z cs.length cZ] 36)).cell? ⟨w.heap.size + 1, 0, none⟩ = some (.slice X qs.length cX) := hmb.cell 0
  have q1 : ((w.alloc (.cells #[.slice A ps.length c, .slice B rs.length c'] 24)).alloc (.cells #[.slice X qs.length cX, .slice Y is.length cY, .slice Z cs.length cZ] 36)).cell? ⟨w.heap.size + 1, 1, none⟩ = some (.slice Y is.length cY) := hmb.cell 1
  have q2 : ((w.alloc (.cells #[.slice A ps.length c, .slice B rs.length c'] 24)).alloc (.cells #[.slice X qs.length cX, .slice Y is.length cY, .slice Z cs.length cZ] 36)).cell? ⟨w.heap.size + 1, 2, none⟩ = some (.slice Z cs.length cZ) := hmb.cell 2
  go_enter Try.func26, Try.ntmps26
  go_wp2_with fail
  clear qg0 qg1 q0 q1 q2
  refine (rchk_any _ _ _ _ _ _ _ ps rs qs is cs fs ch _ (hp0.below B0) (hr0.below B0) (hq0.below B0) (hi0.below B0) (hc0.below B0) (hf0.below B0) (hx0.below B0)).mono ?_
  rintro e w1 ⟨rfl, hb1⟩
  have B1 : Below w.heap.size w w1 := B0.trans (hb1.mono B0.size)
  replace hgb := hgb.keep hb1
  replace hmb := hmb.keep hb1
  clear hb1
  by_cases he : swE ps rs qs is cs fs ch = 0
  case neg =>
    have HV := Lib.hid (RunV.bad (rs := rs) (cs := cs) (fs := fs) (ch := ch) he)
    have f1 : (swE ps rs qs is cs fs ch != 0) = true := by rw [bne_iff_ne]; exact he
    clear he
    obtain ⟨E, hEE⟩ : ∃ E, swE ps rs qs is cs fs ch = E := ⟨_, rfl⟩
    have HEE := Lib.hid hEE
    rw [hEE] at f1 HV ⊢
    clear hEE
    go_wp2_with fail
    go_ret3
    exact ⟨_, 0, [], by rw [HEE.out]; rfl, Nums.nil _ _, by rw [HEE.out]; exact HV.out, B1⟩
  have HE := Lib.hid he
  rw [he]
  clear he
  have h60 : ch.length ≤ 60 := by
    obtain ⟨_, h60, _, h4, h5, _, _, _⟩ := swE_zero HE.out
    omega
  have hown0 := own_emptyR w1 3
  have hs' := hsd.below (B1.trans (((Below.refl w1.heap.size w1).alloc (Nat.le_refl _) (.cells #[] 3)).mono B1.size))
  have hones : ∀ u ∈ ch.map (Value.int .i64), u.oneCell' = true := by intro u hu; rw [List.mem_map] at hu; obtain ⟨z, _, rfl⟩ := hu; rfl
  go_wp2_with (at_builtin; refine wpList_append_sl0 _ rfl (.tmp 25) (.tmp 26) 22 rfl w1.heap.size 3 (.int .i64 0) 8 Try.underlying22 infoInt rfl _ D ch.length cD _ rfl rfl hown0 hs' hones (by unfold maxLen; omega) (by omega) (by simp) ?_; intro A' c5 w5 hown5 hb5')
  have hb5 : Below w1.heap.size w1 w5 := ((Below.refl _ _).alloc (Nat.le_refl _) _).trans hb5'
  have B5 : Below w.heap.size w w5 := B1.trans (hb5.mono B1.size)
  replace hgb := hgb.keep hb5
  replace hmb := hmb.keep hb5
  clear hb5
  have hnow := Nums.of_own hown5
  clear hown5 hown0 hs' hb5'
  have HRS : Hid (∀ k, itS rs cs fs ch (k + 1) = swp rs cs fs (itS rs cs fs ch k)) := fun k => rfl
  go_loopw [12, 13] (fun p i wr => ∃ (k : Nat) (v : Value), k ≤ 19 ∧ i = .int .i64 ((k : Int) + 1) ∧ p = v ∧ Nums .i64 wr v (itS rs cs fs ch k) ∧ Hid (∀ j, 1 ≤ j → j ≤ k → itS rs cs fs ch j ≠ itS rs cs fs ch (j - 1)) ∧ Row wr w.heap.size 24 [.slice A ps.length c, .slice B rs.length c'] ∧ Row wr (w.heap.size + 1) 36 [.slice X qs.length cX, .slice Y is.length cY, .slice Z cs.length cZ] ∧ Below w.heap.size w wr) (fun _ i _ => 20 - (intOf i).toNat)
  case atStart => exact ⟨0, _, by omega, rfl, rfl, hnow, fun j h1 h2 => by omega, hgb, hmb, B5⟩
  case round =>
    clear hgb hmb B5 hnow
    obtain ⟨k, v, hk, rfl, rfl, hnp, hne, hgb, hmb, hb⟩ := hrel
    have HEk := Lib.hid (itS_E HE.out k)
    have HN1 : Hid (itS rs cs fs ch (k + 1) ≠ itS rs cs fs ch k → ∀ j, 1 ≤ j → j ≤ k + 1 → itS rs cs fs ch j ≠ itS rs cs fs ch (j - 1)) := by
      intro h j h1 h2
      rcases Nat.lt_or_ge k j with h3 | h3
      · obtain rfl : j = k + 1 := by omega
        exact h
      · exact hne.out j h1 h3
    have HRK := Lib.hid (HRS.out k)
    have HL0 := Lib.hid (itS_len rs cs fs ch k)
    have HL1 := Lib.hid (itS_len rs cs fs ch (k + 1))
    have HNW : Hid (itS rs cs fs ch k = itS rs cs fs ch k) := rfl
    have HNX : Hid (itS rs cs fs ch (k + 1) = itS rs cs fs ch (k + 1)) := rfl
    obtain ⟨now, hnow⟩ : ∃ now, itS rs cs fs ch k = now := ⟨_, rfl⟩
    obtain ⟨nxt, hnxt⟩ : ∃ nxt, itS rs cs fs ch (k + 1) = nxt := ⟨_, rfl⟩
    replace HNW := Lib.hid hnow
    replace HNX := Lib.hid hnxt
    rw [hnow] at hnp HEk HN1 HRK HL0
    rw [hnxt] at HN1 HRK HL1
    clear hnow hnxt
    obtain ⟨P, cP, rfl, p1, p2, hsp0⟩ := hnp
    rw [HL0.out] at p1 hsp0 ⊢
    have hnp2 : Nums .i64 wr (.slice P ch.length cP) now := ⟨P, cP, by rw [HL0.out], by rw [HL0.out]; exact p1, p2, by rw [HL0.out]; exact hsp0⟩
    have qg0 : wr.cell? ⟨w.heap.size, 0, none⟩ = some (.slice A ps.length c) := hgb.cell 0
    have qg1 : wr.cell? ⟨w.heap.size, 1, none⟩ = some (.slice B rs.length c') := hgb.cell 1
    have q0 : wr.cell? ⟨w.heap.size + 1, 0, none⟩ = some (.slice X qs.length cX) := hmb.cell 0
    have q1 : wr.cell? ⟨w.heap.size + 1, 1, none⟩ = some (.slice Y is.length cY) := hmb.cell 1
    have q2 : wr.cell? ⟨w.heap.size + 1, 2, none⟩ = some (.slice Z cs.length cZ) := hmb.cell 2
    go_wp2_with fail
    clear qg0 qg1 q0 q1 q2
    refine (rsweep_any _ _ _ _ _ _ _ ps rs qs is cs fs now _ (hp0.below hb) (hr0.below hb) (hq0.below hb) (hi0.below hb) (hc0.below hb) (hf0.below hb) hnp2 HEk.out).mono ?_
    rintro e w6 ⟨v6, rfl, hv6, hb6⟩
    rw [← HRK.out] at hv6
    have B6 := hb.trans (hb6.mono hb.size)
    replace hgb := hgb.keep hb6
    replace hmb := hmb.keep hb6
    have hsp6 := hsp0.below hb6
    have hv6' := hv6
    obtain ⟨V6, c6, rfl, s1, s2, hs6⟩ := hv6'
    rw [HL1.out] at s1 hs6 hv6 ⊢
    clear hb6 hnp2 hsp0
    go_wp2_with fail
    go_loopw [15, 16] (fun cv i wq => ∃ j : Nat, j ≤ ch.length ∧ i = .int .i64 (j : Int) ∧ cv = .bool (difB nxt now j) ∧ ∃ d, wq = w6.drewN d) (fun _ i _ => ch.length - (intOf i).toNat)
    case atStart => exact ⟨0, by omega, rfl, rfl, 0, rfl⟩
    case round =>
      obtain ⟨j, hj, rfl, rfl, d, rfl⟩ := hrel
      have HD : Hid (difB nxt now (j + 1) = (difB nxt now j || (nxt.getD j 0 != now.getD j 0))) := rfl
      by_cases hlt : j < ch.length
      · have f1 : decide (j < ch.length) = true := decide_eq_true hlt
        rcases hd : difB nxt now j with _ | _
        · obtain ⟨b1, o1, rfl, hb1, hcell1⟩ := hs6.num hlt
          obtain ⟨b2, o2, rfl, hb2, hcell2⟩ := hsp6.num hlt
          have g1 := hcell1 j hlt
          have g2 := hcell2 j hlt
          have HD' : Hid (difB nxt now (j + 1) = (nxt.getD j 0 != now.getD j 0)) := by unfold Hid; rw [HD.out, hd]; rfl
          clear hcell1 hcell2 hd
          generalize nxt.getD j 0 = x at *
          generalize now.getD j 0 = y at *
          rcases hxy : (x != y) with _ | _
          · have HD2 : Hid (difB nxt now (j + 1) = false) := HD'.out.trans hxy
            go_wp2_with fail
            go_quiet (fail)
            go_wp2_with fail
            go_roundw
            case rel => exact ⟨j + 1, by omega, by go_num, by rw [HD2.out], _, rfl⟩
            case measure => simp [intOf]; omega
          · have HD2 : Hid (difB nxt now (j + 1) = true) := HD'.out.trans hxy
            go_wp2_with fail
            go_quiet (fail)
            go_wp2_with fail
            go_roundw
            case rel => exact ⟨j + 1, by omega, by go_num, by rw [HD2.out], _, rfl⟩
            case measure => simp [intOf]; omega
        · have HD2 : Hid (difB nxt now (j + 1) = true) := by unfold Hid; rw [HD.out, hd]; rfl
          clear hd
          go_wp2_with fail
          go_quiet (fail)
          go_wp2_with fail
          go_roundw
          case rel => exact ⟨j + 1, by omega, by go_num, by rw [HD2.out], _, rfl⟩
          case measure => simp [intOf]; omega
      · obtain rfl : j = ch.length := by omega
        have HQ : Hid (difB nxt now ch.length = false → nxt = now) := fun h => difB_eq HL1.out HL0.out h
        have HQ2 : Hid (nxt = now → difB nxt now ch.length = false) := fun h => by rw [h]; exact difB_self _ _
        have hnx : Nums .i64 (w6.drewN d) (.slice V6 ch.length c6) nxt := hv6
        have BD := below_drewN B6 d
        have hgb6 : Row (w6.drewN d) w.heap.size 24 [.slice A ps.length c, .slice B rs.length c'] := hgb
        have hmb6 : Row (w6.drewN d) (w.heap.size + 1) 36 [.slice X qs.length cX, .slice Y is.length cY, .slice Z cs.length cZ] := hmb
        rcases hd : difB nxt now ch.length with _ | _
        · have heq := HQ.out hd
          have HR : Hid (RunV 0 rs cs fs ch (k + 1) nxt) := by
            rw [← HNX.out]
            exact RunV.good rfl ⟨by omega, by omega, fun j h1 h2 => hne.out j h1 (by omega), .inr (by rw [HNX.out, heq, ← HNW.out]; rfl)⟩
          clear hd heq
          go_wp2_with fail
          go_ret3
          exact ⟨_, k + 1, nxt, by rw [HE.out]; exact ret3 (by omega), hnx, by rw [HE.out]; exact HR.out, BD⟩
        · have hne' : nxt ≠ now := fun h => by have := HQ2.out h; rw [hd] at this; cases this
          have HNE := Lib.hid (HN1.out hne')
          clear hd hne'
          by_cases h19 : k = 19
          · have f2 : (((k : Int) + 1) == 20) = true := by rw [beq_iff_eq]; omega
            have HR : Hid (RunV 0 rs cs fs ch (k + 1) nxt) := by
              rw [← HNX.out]
              exact RunV.good rfl ⟨by omega, by omega, fun j h1 h2 => hne.out j h1 (by omega), .inl (by omega)⟩
            clear h19
            go_wp2_with fail
            go_ret3
            exact ⟨_, k + 1, nxt, by rw [HE.out]; exact ret3 (by omega), hnx, by rw [HE.out]; exact HR.out, BD⟩
          · have f2 : (((k : Int) + 1) == 20) = false := by rw [beq_eq_false_iff_ne]; omega
            have hk19 : k ≤ 18 := by omega
            clear h19
            go_wp2_with fail
            go_roundw
            case rel => exact ⟨k + 1, _, by omega, by go_num, rfl, by rw [HNX.out]; exact hnx, HNE.out, hgb6, hmb6, BD⟩
            case measure => simp [intOf]; omega
end Go.Proofs.Ytneoglmfabilnaa
