/- The walks of the laws CalibrateStable and CalibrateAscent: they return true for all arguments. No condition. -/
import Derived.Test.YtneoglmfabilnaaLwCho
import Derived.Test.YtneoglmfabilnaaSwR
import Derived.Test.YtneoglmfabilnaaNatC
import Derived.Test.YtneoglmfabilnaaLwBest
namespace Go.Proofs.Ytneoglmfabilnaa
open Go.RowKit
set_option linter.unusedVariables false

theorem swV_bad {ps rs qs is : List Int} {cs : List (List Int)} {fs : List (List Mod)} {ch : List Int} (h : swE ps rs qs is cs fs ch ≠ 0) : swV ps rs qs is cs fs ch = [] := if_neg h
theorem swV_ok {ps rs qs is : List Int} {cs : List (List Int)} {fs : List (List Mod)} {ch : List Int} (h : swE ps rs qs is cs fs ch = 0) : swV ps rs qs is cs fs ch = swp rs cs fs ch := if_pos h
theorem nums_nil_slice {w : World} {v : Value} (h : Nums .i64 w v []) : ∃ A c, v = .slice A 0 c := by
  obtain ⟨A, c, h, _⟩ := h
  exact ⟨A, c, h⟩

set_option maxHeartbeats 8000000 in
set_option maxRecDepth 10000 in
theorem stable_all (pv rv qv iv cv fv xv : Value) (ps rs qs is : List Int) (cs : List (List Int)) (fs : List (List Mod)) (ch : List Int) (w : World) (hp : Nums .i64 w pv ps) (hr : Nums .i64 w rv rs) (hq : Nums .i64 w qv qs) (hi : Nums .i64 w iv is) (hc : IntsL w cv cs) (hf : FamL w fv fs) (hx : Nums .i64 w xv ch) :
    Calls Try.prog 8 #[.agg #[pv, rv], .agg #[qv, iv, cv], fv, xv] w fun e w' => e = .returned (.bool true) ∧ Below w.heap.size w w' := by
  have hp0 := hp
  have hr0 := hr
  have hq0 := hq
  have hi0 := hi
  have hc0 := hc
  have hf0 := hf
  have hx0 := hx
  obtain ⟨A, c, rfl, hc1, hm1, hsp⟩ := hp
  obtain ⟨B, c', rfl, hc', hm2, hsr⟩ := hr
  obtain ⟨X, cX, rfl, x1, x2, x3⟩ := hq
  obtain ⟨Y, cY, rfl, y1, y2, y3⟩ := hi
  obtain ⟨Z, cZ, vs, rfl, z1, z2, hsc, hcu⟩ := hc
  obtain ⟨Q, cQ, us, rfl, fq1, fq2, hsf, hfu⟩ := hf
  obtain ⟨D, cD, rfl, d1, d2, hsd⟩ := hx
  have HF := Lib.hid hfu
  unfold maxLen at x2 y2 z2 hm1 hm2 fq2 d2
  clear hsp hsr x3 y3 hcu hsc hfu
  have hgb := (Row.new w 24 [.slice A ps.length c, .slice B rs.length c']).alloc (.cells #[.slice X qs.length cX, .slice Y is.length cY, .slice Z cs.length cZ] 36)
  have hmb := Row.new (w.alloc (.cells #[.slice A ps.length c, .slice B rs.length c'] 24)) 36 [.slice X qs.length cX, .slice Y is.length cY, .slice Z cs.length cZ]
  have B0 : Below w.heap.size w ((w.alloc (.cells #[.slice A ps.length c, .slice B rs.length c'] 24)).alloc (.cells #[.slice X qs.length cX, .slice Y is.length cY, .slice Z cs.length cZ] 36)) := ((Below.refl _ _).alloc (Nat.le_refl _) _).alloc (by simp) _
  rw [show (w.alloc (.cells #[.slice A ps.length c, .slice B rs.length c'] 24)).heap.size = w.heap.size + 1 by simp] at hmb
  have qg0 : ((w.alloc (.cells #[.slice A ps.length c, .slice B rs.length c'] 24)).alloc (.cells #[.slice X qs.length cX, .slice Y is.length cY, .slice Z cs.length cZ] 36)).cell? ⟨w.heap.size, 0, none⟩ = some (.slice A ps.length c) := hgb.cell 0
  have qg1 : ((w.alloc (.cells #[.slice A ps.length c, .slice B rs.length c'] 24)).alloc (.cells #[.slice X qs.length cX, .slice Y is.length cY, .slice Z cs.length cZ] 36)).cell? ⟨w.heap.size, 1, none⟩ = some (.slice B rs.length c') := hgb.cell 1
  have q0 : ((w.alloc (.cells #[.slice A ps.length c, .slice B rs.length c'] 24)).alloc (.cells #[.slice X qs.length cX, .slice Y is.length cY, .slice Z cs.length cZ] 36)).cell? ⟨w.heap.size + 1, 0, none⟩ = some (.slice X qs.length cX) := hmb.cell 0
  have q1 : ((w.alloc (.cells #[.slice A ps.length c, .slice B rs.length c'] 24)).alloc (.cells #[.slice X qs.length cX, .slice Y is.length cY, .slice Z cs.length cZ] 36)).cell? ⟨w.heap.size + 1, 1, none⟩ = some (.slice Y is.length cY) := hmb.cell 1
  have q2 : ((w.alloc (.cells #[.slice A ps.length c, .slice B rs.length c'] 24)).alloc (.cells #[.slice X qs.length cX, .slice Y is.length cY, .slice Z cs.length cZ] 36)).cell? ⟨w.heap.size + 1, 2, none⟩ = some (.slice Z cs.length cZ) := hmb.cell 2
  clear qg0 qg1 q0 q1 q2
  go_enter Try.func8, Try.ntmps8
  go_wp2_with fail
  refine (heavy_any _ _ _ qs is _ (hq0.below B0) (hi0.below B0) ⟨_, _, _, rfl⟩).mono ?_
  rintro e w1 ⟨b, rfl, hb1⟩
  have B1 : Below w.heap.size w w1 := B0.trans (hb1.mono B0.size)
  replace hgb := hgb.keep hb1
  replace hmb := hmb.keep hb1
  clear hb1
  have qg0 : w1.cell? ⟨w.heap.size, 0, none⟩ = some (.slice A ps.length c) := hgb.cell 0
  have qg1 : w1.cell? ⟨w.heap.size, 1, none⟩ = some (.slice B rs.length c') := hgb.cell 1
  have q0 : w1.cell? ⟨w.heap.size + 1, 0, none⟩ = some (.slice X qs.length cX) := hmb.cell 0
  have q1 : w1.cell? ⟨w.heap.size + 1, 1, none⟩ = some (.slice Y is.length cY) := hmb.cell 1
  have q2 : w1.cell? ⟨w.heap.size + 1, 2, none⟩ = some (.slice Z cs.length cZ) := hmb.cell 2
  cases b
  case true =>
    go_wp2_with fail
    go_ret
    exact ⟨rfl, B1⟩
  go_wp2_with fail
  refine (anyWide_any _ fs _ (hf0.below B1)).mono ?_
  rintro e w1 ⟨b, rfl, rfl⟩
  cases b
  case true =>
    go_wp2_with fail
    go_ret
    exact ⟨rfl, B1⟩
  go_wp2_with fail
  clear qg0 qg1 q0 q1 q2
  refine (run_any _ _ _ _ _ _ _ ps rs qs is cs fs ch _ (hp0.below B1) (hr0.below B1) (hq0.below B1) (hi0.below B1) (hc0.below B1) (hf0.below B1) (hx0.below B1)).mono ?_
  rintro e w2 ⟨v2, n, l, rfl, hv2, hRV, hb2⟩
  have B2 : Below w.heap.size w w2 := B1.trans (hb2.mono B1.size)
  replace hgb := hgb.keep hb2
  replace hmb := hmb.keep hb2
  clear hb2
  have qg0 : w2.cell? ⟨w.heap.size, 0, none⟩ = some (.slice A ps.length c) := hgb.cell 0
  have qg1 : w2.cell? ⟨w.heap.size, 1, none⟩ = some (.slice B rs.length c') := hgb.cell 1
  have q0 : w2.cell? ⟨w.heap.size + 1, 0, none⟩ = some (.slice X qs.length cX) := hmb.cell 0
  have q1 : w2.cell? ⟨w.heap.size + 1, 1, none⟩ = some (.slice Y is.length cY) := hmb.cell 1
  have q2 : w2.cell? ⟨w.heap.size + 1, 2, none⟩ = some (.slice Z cs.length cZ) := hmb.cell 2
  have hv2' := hv2
  obtain ⟨V2, c2, rfl, _, _, _⟩ := hv2'
  have HRV := Lib.hid hRV
  clear hRV
  go_wp2_with fail
  clear qg0 qg1 q0 q1 q2
  refine (sweep_any _ _ _ _ _ _ _ ps rs qs is cs fs ch _ (hp0.below B2) (hr0.below B2) (hq0.below B2) (hi0.below B2) (hc0.below B2) (hf0.below B2) (hx0.below B2)).mono ?_
  rintro e w3 ⟨v3, rfl, hv3, hb3⟩
  have hv2 := hv2.below hb3
  have B3 : Below w.heap.size w w3 := B2.trans (hb3.mono B2.size)
  replace hgb := hgb.keep hb3
  replace hmb := hmb.keep hb3
  clear hb3
  by_cases he : swE ps rs qs is cs fs ch = 0
  case neg =>
    obtain ⟨rfl, rfl⟩ := HRV.out.2 he
    rw [swV_bad he] at hv3
    obtain ⟨V3, c3, rfl⟩ := nums_nil_slice hv3
    have f1 : (swE ps rs qs is cs fs ch != 0) = true := by rw [bne_iff_ne]; exact he
    clear he HRV
    generalize swE ps rs qs is cs fs ch = E at *
    have f2 : (E != E) = false := by simp
    have f3 : (E == E) = true := by simp
    go_wp2_with fail
    go_ret
    exact ⟨rfl, B3⟩
  obtain ⟨hRI, hl⟩ := HRV.out.1 he
  rw [swV_ok he] at hv3
  have HE := Lib.hid he
  have HRI := Lib.hid hRI
  obtain ⟨hn1, hn2, _, hn4⟩ := hRI
  have HN4 := Lib.hid hn4
  have HL := Lib.hid hl
  rw [he]
  clear he hl hn4 HRV
  have hv3' := hv3
  obtain ⟨V3, c3, rfl, _, _, _⟩ := hv3'
  have f1 : decide ((n : Int) < 1) = false := decide_eq_false (by omega)
  have f2 : decide (20 < (n : Int)) = false := decide_eq_false (by omega)
  go_wp2_with fail
  clear f1 f2
  go_loopw [12, 13, 14] (fun p f i wr => ∃ (k : Nat) (v : Value), k + 1 ≤ n ∧ i = .int .i64 ((k : Int) + 1) ∧ p = v ∧ f = .int .i64 0 ∧ Nums .i64 wr v (itS rs cs fs ch (k + 1)) ∧ Row wr w.heap.size 24 [.slice A ps.length c, .slice B rs.length c'] ∧ Row wr (w.heap.size + 1) 36 [.slice X qs.length cX, .slice Y is.length cY, .slice Z cs.length cZ] ∧ Below w3.heap.size w3 wr) (fun _ _ i _ => n - (intOf i).toNat)
  case atStart => exact ⟨0, _, by omega, rfl, rfl, rfl, hv3, hgb, hmb, Below.refl _ _⟩
  case round =>
    clear hgb hmb hv3
    obtain ⟨k, v, hk, rfl, rfl, rfl, hnp, hgb, hmb, hb⟩ := hrel
    have BW : Below w.heap.size w wr := B3.trans (hb.mono B3.size)
    have hnp' := hnp
    obtain ⟨P, cP, rfl, _, _, _⟩ := hnp'
    have HSE := Lib.hid (itS_E HE.out (k + 1))
    have HSV : Hid (swV ps rs qs is cs fs (itS rs cs fs ch (k + 1)) = itS rs cs fs ch (k + 1 + 1)) := swV_ok HSE.out
    have HQ : Hid (k + 1 = n → itS rs cs fs ch (k + 1) = l ∧ (n = 20 ∨ itS rs cs fs ch (k + 1 + 1) = itS rs cs fs ch (k + 1))) := by
      intro h
      subst h
      refine ⟨HL.out.symm, ?_⟩
      rcases HN4.out with h | h
      · exact .inl h
      · refine .inr ?_
        have h' : itS rs cs fs ch (k + 1) = itS rs cs fs ch k := h
        show swp rs cs fs (itS rs cs fs ch (k + 1)) = itS rs cs fs ch (k + 1)
        rw [h']
        exact h'
    generalize itS rs cs fs ch (k + 1) = now at *
    obtain ⟨nxt, hnxt⟩ : ∃ nxt, itS rs cs fs ch (k + 1 + 1) = nxt := ⟨_, rfl⟩
    have HNX := Lib.hid hnxt
    rw [hnxt] at HSV HQ
    clear hnxt
    have qg0 : wr.cell? ⟨w.heap.size, 0, none⟩ = some (.slice A ps.length c) := hgb.cell 0
    have qg1 : wr.cell? ⟨w.heap.size, 1, none⟩ = some (.slice B rs.length c') := hgb.cell 1
    have q0 : wr.cell? ⟨w.heap.size + 1, 0, none⟩ = some (.slice X qs.length cX) := hmb.cell 0
    have q1 : wr.cell? ⟨w.heap.size + 1, 1, none⟩ = some (.slice Y is.length cY) := hmb.cell 1
    have q2 : wr.cell? ⟨w.heap.size + 1, 2, none⟩ = some (.slice Z cs.length cZ) := hmb.cell 2
    by_cases hlt : k + 1 < n
    · have f1 : decide ((k : Int) + 1 < (n : Int)) = true := decide_eq_true (by omega)
      go_wp2_with fail
      clear qg0 qg1 q0 q1 q2
      refine (sweep_any _ _ _ _ _ _ _ ps rs qs is cs fs now _ (hp0.below BW) (hr0.below BW) (hq0.below BW) (hi0.below BW) (hc0.below BW) (hf0.below BW) hnp).mono ?_
      rintro e w4 ⟨v4, rfl, hv4, hb4⟩
      have B4 := hb.trans (hb4.mono hb.size)
      replace hgb := hgb.keep hb4
      replace hmb := hmb.keep hb4
      clear hb4
      rw [HSE.out]
      rw [HSV.out] at hv4
      have hv4' := hv4
      obtain ⟨V4, c4, rfl, _, _, _⟩ := hv4'
      go_wp2_with fail
      go_roundw
      case rel => exact ⟨k + 1, _, by omega, by go_num, rfl, rfl, by rw [HNX.out]; exact hv4, hgb, hmb, B4⟩
      case measure => simp [intOf]; omega
    · have f1 : decide ((k : Int) + 1 < (n : Int)) = false := decide_eq_false (by omega)
      obtain ⟨hq1, hq2⟩ := HQ.out (by omega)
      subst hq1
      have HQ2 := Lib.hid hq2
      clear hq2
      go_wp2_with fail
      clear qg0 qg1 q0 q1 q2
      refine (sweep_any _ _ _ _ _ _ _ ps rs qs is cs fs now _ (hp0.below BW) (hr0.below BW) (hq0.below BW) (hi0.below BW) (hc0.below BW) (hf0.below BW) hnp).mono ?_
      rintro e w4 ⟨v4, rfl, hv4, hb4⟩
      have B4 := hb.trans (hb4.mono hb.size)
      have hnp4 := hnp.below hb4
      have hv24 := hv2.below B4
      rw [HSE.out]
      rw [HSV.out] at hv4
      have hv4' := hv4
      obtain ⟨V4, c4, rfl, _, _, _⟩ := hv4'
      have B5 : Below w.heap.size w w4 := B3.trans (B4.mono B3.size)
      clear hb4
      by_cases h20 : n = 20
      · have f2 : ((n : Int) == 20) = true := by rw [beq_iff_eq]; omega
        clear h20
        go_wp2_with fail
        refine (ints_same _ _ now _ hnp4 hv24).mono ?_
        rintro e w5 ⟨rfl, d, rfl⟩
        go_wp2_with fail
        go_ret
        exact ⟨rfl, below_drewN B5 _⟩
      · have f2 : ((n : Int) == 20) = false := by rw [beq_eq_false_iff_ne]; omega
        have hq3 : nxt = now := by rcases HQ2.out with h | h; exact absurd h h20; exact h
        subst hq3
        clear h20
        go_wp2_with fail
        refine (ints_same _ _ _ _ hnp4 hv24).mono ?_
        rintro e w5 ⟨rfl, d, rfl⟩
        go_wp2_with fail
        refine (ints_same _ _ _ _ (nums_drewN hv4 d) (nums_drewN hnp4 d)).mono ?_
        rintro e w6 ⟨rfl, d2, rfl⟩
        go_wp2_with fail
        go_ret
        exact ⟨rfl, below_drewN B5 _⟩

theorem choB_E {ps rs qs is : List Int} {cs : List (List Int)} {fs : List (List Mod)} {ch : List Int} (h : swE ps rs qs is cs fs ch = 0) : choB fs ch = true := by
  obtain ⟨_, _, _, h4, h5, _, _, h8⟩ := swE_zero h
  exact choB_yes (by omega) h8

set_option maxHeartbeats 8000000 in
set_option maxRecDepth 10000 in
theorem ascent_all (pv rv qv iv cv fv xv : Value) (ps rs qs is : List Int) (cs : List (List Int)) (fs : List (List Mod)) (ch : List Int) (w : World) (hp : Nums .i64 w pv ps) (hr : Nums .i64 w rv rs) (hq : Nums .i64 w qv qs) (hi : Nums .i64 w iv is) (hc : IntsL w cv cs) (hf : FamL w fv fs) (hx : Nums .i64 w xv ch) (hbig : fs.length * 24 ≤ 140737488351232) :
    Calls Try.prog 9 #[.agg #[pv, rv], .agg #[qv, iv, cv], fv, xv] w fun e w' => e = .returned (.bool true) ∧ Below w.heap.size w w' := by
  have hp0 := hp
  have hr0 := hr
  have hq0 := hq
  have hi0 := hi
  have hc0 := hc
  have hf0 := hf
  have hx0 := hx
  obtain ⟨A, c, rfl, hc1, hm1, hsp⟩ := hp
  obtain ⟨B, c', rfl, hc', hm2, hsr⟩ := hr
  obtain ⟨X, cX, rfl, x1, x2, x3⟩ := hq
  obtain ⟨Y, cY, rfl, y1, y2, y3⟩ := hi
  obtain ⟨Z, cZ, vs, rfl, z1, z2, hsc, hcu⟩ := hc
  obtain ⟨Q, cQ, us, rfl, fq1, fq2, hsf, hfu⟩ := hf
  obtain ⟨D, cD, rfl, d1, d2, hsd⟩ := hx
  have HF := Lib.hid hfu
  unfold maxLen at x2 y2 z2 hm1 hm2 fq2 d2
  clear hsp hsr x3 y3 hcu hsc hfu
  have hgb := (Row.new w 24 [.slice A ps.length c, .slice B rs.length c']).alloc (.cells #[.slice X qs.length cX, .slice Y is.length cY, .slice Z cs.length cZ] 36)
  have hmb := Row.new (w.alloc (.cells #[.slice A ps.length c, .slice B rs.length c'] 24)) 36 [.slice X qs.length cX, .slice Y is.length cY, .slice Z cs.length cZ]
  have B0 : Below w.heap.size w ((w.alloc (.cells #[.slice A ps.length c, .slice B rs.length c'] 24)).alloc (.cells #[.slice X qs.length cX, .slice Y is.length cY, .slice Z cs.length cZ] 36)) := ((Below.refl _ _).alloc (Nat.le_refl _) _).alloc (by simp) _
  rw [show (w.alloc (.cells #[.slice A ps.length c, .slice B rs.length c'] 24)).heap.size = w.heap.size + 1 by simp] at hmb
  have qg0 : ((w.alloc (.cells #[.slice A ps.length c, .slice B rs.length c'] 24)).alloc (.cells #[.slice X qs.length cX, .slice Y is.length cY, .slice Z cs.length cZ] 36)).cell? ⟨w.heap.size, 0, none⟩ = some (.slice A ps.length c) := hgb.cell 0
  have qg1 : ((w.alloc (.cells #[.slice A ps.length c, .slice B rs.length c'] 24)).alloc (.cells #[.slice X qs.length cX, .slice Y is.length cY, .slice Z cs.length cZ] 36)).cell? ⟨w.heap.size, 1, none⟩ = some (.slice B rs.length c') := hgb.cell 1
  have q0 : ((w.alloc (.cells #[.slice A ps.length c, .slice B rs.length c'] 24)).alloc (.cells #[.slice X qs.length cX, .slice Y is.length cY, .slice Z cs.length cZ] 36)).cell? ⟨w.heap.size + 1, 0, none⟩ = some (.slice X qs.length cX) := hmb.cell 0
  have q1 : ((w.alloc (.cells #[.slice A ps.length c, .slice B rs.length c'] 24)).alloc (.cells #[.slice X qs.length cX, .slice Y is.length cY, .slice Z cs.length cZ] 36)).cell? ⟨w.heap.size + 1, 1, none⟩ = some (.slice Y is.length cY) := hmb.cell 1
  have q2 : ((w.alloc (.cells #[.slice A ps.length c, .slice B rs.length c'] 24)).alloc (.cells #[.slice X qs.length cX, .slice Y is.length cY, .slice Z cs.length cZ] 36)).cell? ⟨w.heap.size + 1, 2, none⟩ = some (.slice Z cs.length cZ) := hmb.cell 2
  clear qg0 qg1 q0 q1 q2
  go_enter Try.func9, Try.ntmps9
  go_wp2_with fail
  refine (heavy_any _ _ _ qs is _ (hq0.below B0) (hi0.below B0) ⟨_, _, _, rfl⟩).mono ?_
  rintro e w1 ⟨b, rfl, hb1⟩
  have B1 : Below w.heap.size w w1 := B0.trans (hb1.mono B0.size)
  replace hgb := hgb.keep hb1
  replace hmb := hmb.keep hb1
  clear hb1
  have qg0 : w1.cell? ⟨w.heap.size, 0, none⟩ = some (.slice A ps.length c) := hgb.cell 0
  have qg1 : w1.cell? ⟨w.heap.size, 1, none⟩ = some (.slice B rs.length c') := hgb.cell 1
  have q0 : w1.cell? ⟨w.heap.size + 1, 0, none⟩ = some (.slice X qs.length cX) := hmb.cell 0
  have q1 : w1.cell? ⟨w.heap.size + 1, 1, none⟩ = some (.slice Y is.length cY) := hmb.cell 1
  have q2 : w1.cell? ⟨w.heap.size + 1, 2, none⟩ = some (.slice Z cs.length cZ) := hmb.cell 2
  cases b
  case true =>
    go_wp2_with fail
    go_ret
    exact ⟨rfl, B1⟩
  go_wp2_with fail
  refine (anyWide_any _ fs _ (hf0.below B1)).mono ?_
  rintro e w1 ⟨b, rfl, rfl⟩
  cases b
  case true =>
    go_wp2_with fail
    go_ret
    exact ⟨rfl, B1⟩
  go_wp2_with fail
  clear qg0 qg1 q0 q1 q2
  refine (sweep_any _ _ _ _ _ _ _ ps rs qs is cs fs ch _ (hp0.below B1) (hr0.below B1) (hq0.below B1) (hi0.below B1) (hc0.below B1) (hf0.below B1) (hx0.below B1)).mono ?_
  rintro e w2 ⟨v2, rfl, hv2, hb2⟩
  have B2 : Below w.heap.size w w2 := B1.trans (hb2.mono B1.size)
  replace hgb := hgb.keep hb2
  replace hmb := hmb.keep hb2
  clear hb2
  have hv2' := hv2
  obtain ⟨V2, c2, rfl, _, _, _⟩ := hv2'
  go_wp2_with fail
  refine (chosen_any _ _ fs ch _ (hf0.below B2) (hx0.below B2) hbig).mono ?_
  rintro e w3 ⟨v3, rfl, ⟨V3, n3, c3, rfl⟩, hv3, hb3⟩
  have hv2 := hv2.below hb3
  have B3 : Below w.heap.size w w3 := B2.trans (hb3.mono B2.size)
  replace hgb := hgb.keep hb3
  replace hmb := hmb.keep hb3
  clear hb3
  by_cases he : swE ps rs qs is cs fs ch = 0
  case neg =>
    have HSV := Lib.hid (swV_bad he)
    rw [HSV.out] at hv2 ⊢
    have f1 : (swE ps rs qs is cs fs ch != 0) = true := by rw [bne_iff_ne]; exact he
    clear he hv3
    generalize swE ps rs qs is cs fs ch = E at *
    generalize choB fs ch = bb at *
    go_wp2_with fail
    go_ret
    exact ⟨rfl, B3⟩
  have HE := Lib.hid he
  have HE2 := Lib.hid (swp_E he)
  have HCB := Lib.hid (choB_E he)
  have HCB2 := Lib.hid (choB_E (swp_E he))
  have HSV := Lib.hid (swV_ok he)
  have HTE := Lib.hid (ms_tot he)
  have HTE2 := Lib.hid (ms_tot (swp_E he))
  have HUP := Lib.hid (swp_up he)
  rw [he]
  rw [HSV.out] at hv2 ⊢
  have hm3 := hv3 HCB.out
  rw [HCB.out]
  clear he hv3
  generalize swp rs cs fs ch = nx at *
  go_wp2_with fail
  refine (chosen_any _ _ fs nx _ (hf0.below B3) hv2 hbig).mono ?_
  rintro e w4 ⟨v4, rfl, ⟨V4, n4, c4, rfl⟩, hv4, hb4⟩
  have hm3 := hm3.below hb4
  have B4 : Below w.heap.size w w4 := B3.trans (hb4.mono B3.size)
  replace hgb := hgb.keep hb4
  replace hmb := hmb.keep hb4
  clear hb4
  have qg0 : w4.cell? ⟨w.heap.size, 0, none⟩ = some (.slice A ps.length c) := hgb.cell 0
  have qg1 : w4.cell? ⟨w.heap.size, 1, none⟩ = some (.slice B rs.length c') := hgb.cell 1
  have q0 : w4.cell? ⟨w.heap.size + 1, 0, none⟩ = some (.slice X qs.length cX) := hmb.cell 0
  have q1 : w4.cell? ⟨w.heap.size + 1, 1, none⟩ = some (.slice Y is.length cY) := hmb.cell 1
  have q2 : w4.cell? ⟨w.heap.size + 1, 2, none⟩ = some (.slice Z cs.length cZ) := hmb.cell 2
  have hm4 := hv4 HCB2.out
  rw [HCB2.out]
  clear hv4
  go_wp2_with fail
  clear qg0 qg1 q0 q1 q2
  refine (total_any _ _ _ _ _ _ ps rs (msOf fs ch) qs is cs _ (hp0.below B4) (hr0.below B4) hm3 (hq0.below B4) (hi0.below B4) (hc0.below B4)).mono ?_
  rintro e w5 ⟨v5, rfl, hv5, hb5⟩
  have hm4 := hm4.below hb5
  have B5 : Below w.heap.size w w5 := B4.trans (hb5.mono B4.size)
  replace hgb := hgb.keep hb5
  replace hmb := hmb.keep hb5
  clear hb5
  have qg0 : w5.cell? ⟨w.heap.size, 0, none⟩ = some (.slice A ps.length c) := hgb.cell 0
  have qg1 : w5.cell? ⟨w.heap.size, 1, none⟩ = some (.slice B rs.length c') := hgb.cell 1
  have q0 : w5.cell? ⟨w.heap.size + 1, 0, none⟩ = some (.slice X qs.length cX) := hmb.cell 0
  have q1 : w5.cell? ⟨w.heap.size + 1, 1, none⟩ = some (.slice Y is.length cY) := hmb.cell 1
  have q2 : w5.cell? ⟨w.heap.size + 1, 2, none⟩ = some (.slice Z cs.length cZ) := hmb.cell 2
  rw [HTE.out]
  have HP := Lib.hid (totV_pos HTE.out)
  obtain ⟨la, hla1, hla2, hla3⟩ := hv5.lim'
  have hla1' := hla1
  obtain ⟨⟨V5, c5, rfl, _, _, _⟩, _⟩ := hla1'
  go_wp2_with fail
  clear qg0 qg1 q0 q1 q2
  refine (total_any _ _ _ _ _ _ ps rs (msOf fs nx) qs is cs _ (hp0.below B5) (hr0.below B5) hm4 (hq0.below B5) (hi0.below B5) (hc0.below B5)).mono ?_
  rintro e w6 ⟨v6, rfl, hv6, hb6⟩
  have hla6 := hla1.below hb6
  have B6 : Below w.heap.size w w6 := B5.trans (hb6.mono B5.size)
  replace hgb := hgb.keep hb6
  replace hmb := hmb.keep hb6
  clear hb6
  rw [HTE2.out]
  obtain ⟨lb, hlb1, hlb2, hlb3⟩ := hv6.lim'
  have hlb1' := hlb1
  obtain ⟨⟨V6, c6, rfl, _, _, _⟩, _⟩ := hlb1'
  have HLE : Hid (val la ≤ val lb) := by unfold Hid; rw [hla2, hlb2, totV_ok HTE.out, totV_ok HTE2.out]; exact HUP.out
  rw [← hla2] at HP
  clear hla2 hlb2 hv5 hv6
  go_wp2_with fail
  refine (bits_any _ la _ hla6 (by omega)).mono ?_
  rintro e w' ⟨nb, rfl, rfl, hnb⟩
  have hnb1 := (hnb.2 HP.out).1
  have f2 : decide (0 < (nb : Int)) = true := decide_eq_true (by omega)
  clear hnb
  go_wp2_with fail
  refine (cmp_any _ _ la lb _ hla6 hlb1).mono ?_
  rintro e w7 ⟨rfl, d, rfl⟩
  have hcm : cmpN (val la) (val lb) ≤ 0 := by
    have := HLE.out
    unfold cmpN
    split
    · omega
    · rw [if_neg (by omega)]; omega
  generalize cmpN (val la) (val lb) = cm at *
  have f3 : decide (cm ≤ 0) = true := decide_eq_true hcm
  go_wp2_with fail
  go_ret
  exact ⟨rfl, below_drewN B6 _⟩
end Go.Proofs.Ytneoglmfabilnaa
