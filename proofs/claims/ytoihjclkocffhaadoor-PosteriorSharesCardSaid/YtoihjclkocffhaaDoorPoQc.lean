/- The walks of SameList at equal lists (package examboardref07), fraction, Share (package examboardref26). -/
import Derived.Test.YtoihjclkocffhaaDoorPqQ
import Derived.Test.YtoihjclkocffhaaDoorSrQ
import Derived.Test.YtoihjclkocffhaaDoorRf9
namespace Go.Proofs.YtoihjclkocffhaaDoor
open Go.RowKit
set_option linter.unusedVariables false
set_option maxRecDepth 100000

theorem own_zero3e (w : World) (e : Nat) : (w.alloc (.cells #[] e)).ownsRow w.heap.size e 3 (.slice (some ⟨w.heap.size, 0, none⟩) 0 0) 0 (flat []) :=
  ⟨rfl, .inr ⟨w.heap.size, 0, #[], rfl, Nat.le_refl _, heap_alloc_new w _, Nat.le_refl _, by unfold maxLen; omega, rfl, rfl⟩⟩
theorem keep6s {W w' : World} {p1 p2 p3 p4 p5 p6 : Addr} {x1 x2 x3 x4 x5 x6 : Value} (l1 : p1.block < W.heap.size) (l2 : p2.block < W.heap.size) (l3 : p3.block < W.heap.size) (l4 : p4.block < W.heap.size) (l5 : p5.block < W.heap.size) (l6 : p6.block < W.heap.size) (h1 : W.cell? p1 = some x1) (h2 : W.cell? p2 = some x2) (h3 : W.cell? p3 = some x3) (h4 : W.cell? p4 = some x4) (h5 : W.cell? p5 = some x5) (h6 : W.cell? p6 = some x6) (hb : Below W.heap.size W w') :
    w'.cell? p1 = some x1 ∧ w'.cell? p2 = some x2 ∧ w'.cell? p3 = some x3 ∧ w'.cell? p4 = some x4 ∧ w'.cell? p5 = some x5 ∧ w'.cell? p6 = some x6 := ⟨(hb.cell l1).trans h1, (hb.cell l2).trans h2, (hb.cell l3).trans h3, (hb.cell l4).trans h4, (hb.cell l5).trans h5, (hb.cell l6).trans h6⟩
theorem shareL_len (ns : List Nat) : (shareL ns).length = ns.length := by simp [shareL]
set_option maxHeartbeats 8000000 in
theorem rsl_yes (v u : Value) (zs : List (Int × Nat)) (L M : Nat) (w : World) (h1 : RatLs w v zs L) (h2 : RatLs w u zs M) (h9 : zs.length ≤ 1000) :
    Calls Tryd.prog 23 #[v, u] w fun e w' => e = .returned (.bool true) ∧ Below w.heap.size w w' := by
  obtain ⟨g1, c1, us, rfl, hg1, hl1, hc1, hu1⟩ := h1
  obtain ⟨g2, c2, vs, rfl, hg2, hl2, hc2, hu2⟩ := h2
  obtain ⟨n, hn⟩ : ∃ n, zs.length = n := ⟨_, rfl⟩
  rw [hn] at hl1 hl2 h9 ⊢
  clear hn
  have HC1 := Lib.hid hc1
  have HC2 := Lib.hid hc2
  have HU1 := Lib.hid hu1
  have HU2 := Lib.hid hu2
  have HL1 := Lib.hid hl1
  have HL2 := Lib.hid hl2
  clear hc1 hc2 hu1 hu2 hl1 hl2
  have hne : ((n : Int) != (n : Int)) = false := by simp
  go_enter Tryd.func23, Tryd.ntmps23
  go_wp2_with fail
  go_loopw [5] (fun iv wr => ∃ i : Nat, i ≤ n ∧ iv = .int .i64 (i : Int) ∧ Below w.heap.size w wr) (fun iv _ => n - (intOf iv).toNat)
  case atStart => exact ⟨0, by omega, rfl, Below.refl _ _⟩
  case round =>
    obtain ⟨i, hi, rfl, BQ⟩ := hrel
    by_cases hlt : i < n
    · obtain ⟨A, a, c, B, b, d, q0, q1, q2, hr⟩ := RatLs.at_ HL1.out HC1.out HU1.out hlt
      obtain ⟨A', a', c', B', b', d', q3, q4, q5, hr'⟩ := RatLs.at_ HL2.out HC2.out HU2.out hlt
      replace q0 := (BQ.cell (p := ⟨g1, i * 3, none⟩) hg1).trans q0
      replace q1 := (BQ.cell (p := ⟨g1, i * 3 + 1, none⟩) hg1).trans q1
      replace q2 := (BQ.cell (p := ⟨g1, i * 3 + 2, none⟩) hg1).trans q2
      replace q3 := (BQ.cell (p := ⟨g2, i * 3, none⟩) hg2).trans q3
      replace q4 := (BQ.cell (p := ⟨g2, i * 3 + 1, none⟩) hg2).trans q4
      replace q5 := (BQ.cell (p := ⟨g2, i * 3 + 2, none⟩) hg2).trans q5
      have z1 : g1 < wr.heap.size := Nat.lt_of_lt_of_le hg1 BQ.size
      have z2 : g2 < wr.heap.size := Nat.lt_of_lt_of_le hg2 BQ.size
      have HR := Lib.hid (hr.below BQ)
      have HR' := Lib.hid (hr'.below BQ)
      clear hr hr'
      have hiI : (i : Int) < (n : Int) := by omega
      generalize (zs.getD i (0, 1)).1 = p at *
      generalize (zs.getD i (0, 1)).2 = q at *
      go_wp2_with fail
      go_region_held3 (fun w' => w'.cell? ⟨g1, i * 3, none⟩ = some (.bool (decide (p < 0))) ∧ w'.cell? ⟨g1, i * 3 + 1, none⟩ = some (.slice A a c) ∧ w'.cell? ⟨g1, i * 3 + 2, none⟩ = some (.slice B b d) ∧ w'.cell? ⟨g2, i * 3, none⟩ = some (.bool (decide (p < 0))) ∧ w'.cell? ⟨g2, i * 3 + 1, none⟩ = some (.slice A' a' c') ∧ w'.cell? ⟨g2, i * 3 + 2, none⟩ = some (.slice B' b' d'))
        ((refine keep6s z1 z1 z1 z2 z2 z2 q0 q1 q2 q3 q4 q5 ?_; (repeat (first | with_reducible exact Below.refl _ _ | with_reducible refine bl_call h5 ?_ | with_reducible refine bl_alloc ?_ _ | with_reducible refine bl_drew ?_)); done))
        (first
          | (go_at_call 61; ((with_reducible refine (srat_yes _ _ p q L M 0 0 _ (HR.out.below ?_) (HR'.out.below ?_)).mono ?_); (repeat (first | with_reducible exact Below.refl _ _ | with_reducible refine bl_call h5 ?_ | with_reducible refine bl_alloc ?_ _ | with_reducible refine bl_drew ?_)); (repeat (first | with_reducible exact Below.refl _ _ | with_reducible refine bl_call h5 ?_ | with_reducible refine bl_alloc ?_ _ | with_reducible refine bl_drew ?_)); rintro e w5 ⟨rfl, h5⟩)))
      all_goals
        have hb5 : Below wr.heap.size wr w5 := (by (repeat (first | with_reducible exact Below.refl _ _ | with_reducible refine bl_call h5 ?_ | with_reducible refine bl_alloc ?_ _ | with_reducible refine bl_drew ?_)))
        go_wp2_with fail
        go_roundw
        case rel => exact ⟨i + 1, by omega, by go_num, BQ.trans (hb5.mono BQ.size)⟩
        case measure => simp [intOf]; omega
    · obtain rfl : i = n := by omega
      go_wp2_with fail
      go_ret
      exact ⟨rfl, BQ⟩
set_option maxHeartbeats 4000000 in
theorem rsl_nil (w : World) :
    Calls Tryd.prog 23 #[.slice none 0 0, .slice none 0 0] w fun e w' => e = .returned (.bool true) ∧ Below w.heap.size w w' := by
  go_enter Tryd.func23, Tryd.ntmps23
  go_wp2_with fail
  go_loopw [5] (fun iv wr => iv = .int .i64 0 ∧ Below w.heap.size w wr) (fun iv _ => 0)
  case atStart => exact ⟨rfl, Below.refl _ _⟩
  case round =>
    obtain ⟨rfl, BQ⟩ := hrel
    go_wp2_with fail
    go_ret
    exact ⟨rfl, BQ⟩
set_option maxHeartbeats 8000000 in
theorem rfrac26_any (nv dv : Value) (a b L : Nat) (w : World) (ha : NatAny w nv a L) (hb0 : NatAny w dv b L) (h2 : 2 ≤ L) (hL : L ≤ 70368744177600) (hp : 0 < b) :
    Calls Tryd.prog 60 #[nv, dv] w fun e w' => ∃ x, e = .returned x ∧ RatF w.heap.size w' x (redP (a : Int) b) (redQ (a : Int) b) L ∧ Below w.heap.size w w' := by
  obtain ⟨la, hla, hva, hka⟩ := ha
  obtain ⟨lb, hlb, hvb, hkb⟩ := hb0
  obtain ⟨⟨AN, cn, rfl, _, _, _⟩, _⟩ := id hla
  obtain ⟨⟨BN, cm, rfl, _, _, _⟩, _⟩ := id hlb
  have HLA := Lib.hid hla
  have HLB := Lib.hid hlb
  have HVA := Lib.hid hva
  have HVB := Lib.hid hvb
  clear hla hlb hva hvb
  obtain ⟨W0, hW0⟩ : ∃ W0 : World, W0 = w.alloc (.cells #[.bool false, .slice none 0 0, .slice none 0 0] 54) := ⟨_, rfl⟩
  have r0 : Row W0 w.heap.size 54 [.bool false, .slice none 0 0, .slice none 0 0] := by
    rw [hW0]
    have := Row.new w 54 [.bool false, .slice none 0 0, .slice none 0 0]
    simpa using this
  have B0 : Below w.heap.size w W0 := by rw [hW0]; exact ((Below.refl _ _).alloc (Nat.le_refl _) _)
  go_enter Tryd.func60, Tryd.ntmps60
  go_wp2_with fail
  rw [← hW0]
  clear hW0
  have BB := B0
  have hr4 := r0
  clear B0 r0
  have hia : IntA W0 (.agg #[.bool false, .slice AN la.length cn]) (a : Int) L := ⟨false, _, la, rfl, HLA.out.below BB, hka, by rw [HVA.out]; rfl⟩
  have hib : IntA W0 (.agg #[.bool false, .slice BN lb.length cm]) (b : Int) L := ⟨false, _, lb, rfl, HLB.out.below BB, hkb, by rw [HVB.out]; rfl⟩
  have hpI : 0 < (b : Int) := by omega
  have hm1 : 2 ≤ max L L := by omega
  have hm2 : max L L ≤ 70368744177600 := by omega
  have c40 : W0.cell? ⟨w.heap.size, 0, none⟩ = some (.bool false) := hr4.cell 0
  have c41 : W0.cell? ⟨w.heap.size, 1, none⟩ = some (.slice none 0 0) := hr4.cell 1
  have c42 : W0.cell? ⟨w.heap.size, 2, none⟩ = some (.slice none 0 0) := hr4.cell 2
  have f40 : W0.frozen? ⟨w.heap.size, 0, none⟩ = false := hr4.frozen 0
  have f41 : W0.frozen? ⟨w.heap.size, 1, none⟩ = false := hr4.frozen 1
  have f42 : W0.frozen? ⟨w.heap.size, 2, none⟩ = false := hr4.frozen 2
  have z4 := hr4.lt
  go_wp2_with fail
  clear c40 c41 c42 f40 f41 f42 z4
  refine (r3make_pos _ _ (a : Int) (b : Int) L L _ hia hib hpI hm1 hm2).mono ?_
  have hz6 := hr4.lt
  rintro e x1 ⟨vq, rfl, hvq, hb⟩
  replace hr4 := hr4.keep hb
  replace BB : Below w.heap.size w x1 := BB.trans (hb.mono BB.size)
  clear hb
  rw [Int.natAbs_natCast, Nat.max_self] at hvq
  clear hia hib hpI hm1 hm2
  have hq' := hvq
  obtain ⟨mq, dq, eq, hmq, hdq, _, _⟩ := hq'
  subst eq
  obtain ⟨Aq, kq, cq, rfl⟩ := hmq.lim1.choose_spec.1.show_
  obtain ⟨Dq, lq, bq, rfl⟩ := hdq.lim1.choose_spec.1.show_
  clear hmq hdq
  have hl := lit_below x1 (.cells #[.bool (decide (redP (a : Int) b < 0)), .slice Aq kq cq, .slice Dq lq bq] 54)
  have q4 := hr4.keep hl
  have c40 : (x1.alloc (.cells #[.bool (decide (redP (a : Int) b < 0)), .slice Aq kq cq, .slice Dq lq bq] 54)).cell? ⟨w.heap.size, 0, none⟩ = some (.bool false) := q4.cell 0
  have f40 : (x1.alloc (.cells #[.bool (decide (redP (a : Int) b < 0)), .slice Aq kq cq, .slice Dq lq bq] 54)).frozen? ⟨w.heap.size, 0, none⟩ = false := q4.frozen 0
  have c41 : (x1.alloc (.cells #[.bool (decide (redP (a : Int) b < 0)), .slice Aq kq cq, .slice Dq lq bq] 54)).cell? ⟨w.heap.size, 1, none⟩ = some (.slice none 0 0) := q4.cell 1
  have f41 : (x1.alloc (.cells #[.bool (decide (redP (a : Int) b < 0)), .slice Aq kq cq, .slice Dq lq bq] 54)).frozen? ⟨w.heap.size, 1, none⟩ = false := q4.frozen 1
  have c42 : (x1.alloc (.cells #[.bool (decide (redP (a : Int) b < 0)), .slice Aq kq cq, .slice Dq lq bq] 54)).cell? ⟨w.heap.size, 2, none⟩ = some (.slice none 0 0) := q4.cell 2
  have f42 : (x1.alloc (.cells #[.bool (decide (redP (a : Int) b < 0)), .slice Aq kq cq, .slice Dq lq bq] 54)).frozen? ⟨w.heap.size, 2, none⟩ = false := q4.frozen 2
  have z4 := q4.lt
  clear q4
  replace BB := BB.trans (hl.mono BB.size)
  replace hvq := hvq.below hl
  clear hl
  go_wp2_with fail
  refine bodyPost_ret (v := .agg #[.bool (decide (redP (a : Int) b < 0)), .slice Aq kq cq, .slice Dq lq bq]) (by simp [results, Tryd.results60, go_sem, c40, c41, c42]) rfl ⟨_, rfl, ?_, ((BB.setCell (by simp) _).setCell (by simp) _).setCell (by simp) _⟩
  exact ((((hvq.set_ (a := ⟨w.heap.size, 0, none⟩) hz6 _).set_ (a := ⟨w.heap.size, 1, none⟩) hz6 _).set_ (a := ⟨w.heap.size, 2, none⟩) hz6 _).base (by omega))
set_option maxHeartbeats 4000000 in
theorem rshare26_no (wv : Value) (ns : List Nat) (L : Nat) (w : World) (hw : Wts w wv ns L) (hL : L ≤ 70368744177000) (hE : chkE ns ≠ 0) :
    Calls Tryd.prog 22 #[wv] w fun e w' => e = .returned (.tuple #[.slice none 0 0, .int .i64 (chkE ns)]) ∧ Below w.heap.size w w' := by
  have HC := Lib.hid (rcheck26_any wv ns L w hw hL)
  obtain ⟨WA, wc, us, rfl, hwc, hwm, hws, hwu⟩ := hw
  have HWU := Lib.hid hwu
  unfold maxLen at hwm
  clear hwu
  have hne : (chkE ns != 0) = true := by rw [bne_iff_ne]; exact hE
  generalize chkE ns = E at *
  clear hE hws
  go_enter Tryd.func22, Tryd.ntmps22
  go_wp2_with fail
  refine HC.out.mono ?_
  rintro e w1 ⟨rfl, hb⟩
  go_wp2_with fail
  go_ret2
  exact ⟨rfl, hb⟩

set_option maxHeartbeats 8000000 in
theorem rshare26_yes (wv : Value) (ns : List Nat) (L : Nat) (w : World) (hw : Wts w wv ns L) (hL : L ≤ 70368744177000) (hE : chkE ns = 0) :
    Calls Tryd.prog 22 #[wv] w fun e w' => ∃ v, e = .returned (.tuple #[v, .int .i64 0]) ∧ RatLs w' v (shareL ns) (L + 2) ∧ Below w.heap.size w w' := by
  have HC := Lib.hid (rcheck26_any wv ns L w hw hL)
  have HS := Lib.hid (fun (W : World) (h : Below w.heap.size w W) => rsumw_any wv ns L W (hw.below h) hL)
  rw [hE] at HC
  obtain ⟨h21, hz0⟩ := chkE_zero hE
  have hpos := sum_pos hz0
  have HPOS := Lib.hid hpos
  have hn0 : 0 < ns.length := by
    rcases ns with _ | ⟨x, ns⟩
    · simp at hpos
    · simp
  obtain ⟨WA, wc, us, rfl, hwc, hwm, hws, hwu⟩ := hw
  have HWU := Lib.hid hwu
  unfold maxLen at hwm
  clear hwu
  obtain ⟨n, hn⟩ : ∃ n, ns.length = n := ⟨_, rfl⟩
  have HN := Lib.hid hn
  rw [hn] at hws hwc HC HS h21 hn0 ⊢
  clear hn hE hz0 hpos
  obtain ⟨i0, iz0, hi0, hz0, hz1, hz2, hzc⟩ := info_parts3 infoRatio
  have hzs : iz0.cells.size = 3 := by rw [hzc]; rfl
  clear hzc
  go_enter Tryd.func22, Tryd.ntmps22
  go_wp2_with fail
  refine HC.out.mono ?_
  rintro e w1 ⟨rfl, hb1⟩
  go_wp2_with fail
  refine (HS.out _ hb1).mono ?_
  rintro e w2 ⟨v2, rfl, hsv, hb2⟩
  have BB := hb1.trans (hb2.mono hb1.size)
  obtain ⟨ls, hls, _, _, _⟩ := id hsv
  obtain ⟨⟨S2, c2, rfl, _, _, _⟩, _⟩ := hls
  have HSV := Lib.hid hsv.any
  clear hsv hb1 hb2
  go_wp2_with fail
  go_loopw [6, 7] (fun lv iv wr => ∃ (j : Nat) (gx : Value) (vs : List T3), j ≤ n ∧ iv = .int .i64 (j : Int) ∧ lv = gx ∧ wr.ownsRow w2.heap.size 54 3 gx j (flat vs) ∧ RatO wr vs (shareL ns) j (L + 2) gx.ownBlock ∧ Below w2.heap.size w2 wr) (fun _ iv _ => n - (intOf iv).toNat)
  case atStart => exact ⟨0, _, [], by omega, rfl, rfl, own_zero3e _ _, RatO.zero _ _ _ _, (Below.refl _ _).alloc (Nat.le_refl _) _⟩
  case round =>
    obtain ⟨j, gx, vs, hj, rfl, rfl, hown, hco, BR⟩ := hrel
    have BQ := BB.trans (BR.mono BB.size)
    by_cases hlt : j < n
    · obtain ⟨b, o, u, rfl, hbl, hcell, hu⟩ := lst_at (R := fun w u x => NatAny w u x L) (d := 0) (xs := ns) hws HWU.out hlt
      have hu' := (hu.below BQ).mono (show L ≤ L + 2 by omega)
      obtain ⟨lk, hlim, _, _⟩ := hu
      have g2 := (BQ.cell (p := ⟨b, o + j, none⟩) hbl).trans hcell
      clear hcell
      have hjI : (j : Int) < (n : Int) := by omega
      have hj21 : j ≤ 21 := by omega
      have hm1 : j + 1 ≤ maxLen := by unfold maxLen; omega
      have hwz := BR.size
      obtain ⟨⟨UA, uc, rfl, _, _, _⟩, _⟩ := id hlim
      have HZJ := Lib.hid (shareL_get ns (i := j) (by rw [HN.out]; exact hlt))
      have HFR := Lib.hid (rfrac26_any _ _ (ns.getD j 0) ns.sum (L + 2) wr hu' (HSV.out.below BR) (by omega) (by omega) HPOS.out)
      clear hu' hlim
      generalize redP ((ns.getD j 0 : Nat) : Int) ns.sum = p at *
      generalize redQ ((ns.getD j 0 : Nat) : Int) ns.sum = q at *
      go_wp2_with fail
      refine HFR.out.mono ?_
      rintro e w5 ⟨v5, rfl, hv5, h5⟩
      obtain ⟨m5, d5, e5, hm5, hd5, _, _⟩ := id hv5
      subst e5
      obtain ⟨A5, k5, c5, rfl⟩ := hm5.lim1.choose_spec.1.show_
      obtain ⟨D5, l5, b5, rfl⟩ := hd5.lim1.choose_spec.1.show_
      clear hm5 hd5
      have B5 := h5
      have hsz5 : wr.heap.size ≤ wr.heap.size := Nat.le_refl _
      have hown5 := own_keep hown B5
      have hs5 := B5.size
      go_wp2_with (at_builtin; refine wpList_append_lies _ rfl (.tmp 22) (.tmp 29) 40 (by rfl) w2.heap.size 54 i0 iz0 3 56 Tryd.underlying40 hi0 hz0 hz1 hz2 hzs (by omega) _ j _ (by rfl) (hown5.alloc _) ⟨w5.heap.size, 0, none⟩ 1 1 [.bool (decide (p < 0)), .slice A5 k5 c5, .slice D5 l5 b5] (by rfl) (by rfl) (World.news_of_block (cs := #[.bool (decide (p < 0)), .slice A5 k5 c5, .slice D5 l5 b5]) (t := 54) (fr := (0, 0)) (heap_alloc_new w5 _)) (by simp [Value.oneCell']) (by decide) hm1 (by omega) (by simp; omega) (w5.heap.size + 1) (by simp) ?_; intro gg cap w7 hown7 hgrow hat hlt7)
      obtain ⟨hra, hfy, hfz⟩ := hv5.ratAt
      have hBl := B5.trans (((Below.refl w5.heap.size w5).alloc (Nat.le_refl _) (.cells #[.bool (decide (p < 0)), .slice A5 k5 c5, .slice D5 l5 b5] 54)).mono B5.size)
      have hoy := off_own3 hown (hfy.mono hsz5)
      have hoz := off_own3 hown (hfz.mono hsz5)
      obtain ⟨ra0, ra1, ra2⟩ := hra
      have ra1' := (ra1.below ((Below.refl w5.heap.size w5).alloc (Nat.le_refl _) (.cells #[.bool (decide (p < 0)), .slice A5 k5 c5, .slice D5 l5 b5] 54))).grown hgrow hoy
      have ra2' := (ra2.below ((Below.refl w5.heap.size w5).alloc (Nat.le_refl _) (.cells #[.bool (decide (p < 0)), .slice A5 k5 c5, .slice D5 l5 b5] 54))).grown hgrow hoz
      have hf1 : Off (some gg) (.slice A5 k5 c5) := by
        rcases hat with hh | hh
        · rw [← hh]; exact hoy
        · subst hh; exact ra1.off (by omega)
      have hf2 : Off (some gg) (.slice D5 l5 b5) := by
        rcases hat with hh | hh
        · rw [← hh]; exact hoz
        · subst hh; exact ra2.off (by omega)
      have hcol7 := ((hco.below hBl).grown hgrow (row' := some gg) (by rcases hat with hh | hh; exact .inl hh.symm; exact .inr ⟨gg, rfl, by rw [hh]; simp⟩)).snoc (u := (.bool (decide (p < 0)), .slice A5 k5 c5, .slice D5 l5 b5)) (by rw [HZJ.out]; exact ⟨rfl, ra1', ra2'⟩) hf1 hf2
      have hB7 : Below w2.heap.size w2 w7 := (BR.trans (hBl.mono BR.size)).grown hgrow (Nat.le_trans BR.size hBl.size) (fun q hq => (hown.lt q hq).1)
      go_wp2_with fail
      go_roundw
      case rel => exact ⟨j + 1, _, vs ++ [((Value.bool (decide (p < 0)), Value.slice A5 k5 c5, Value.slice D5 l5 b5) : T3)], by omega, by go_num, rfl, by rw [flat_append]; exact hown7, hcol7, hB7⟩
      case measure => simp [intOf]; omega
    · obtain rfl : j = n := by omega
      have hls := hco.ls (by rw [shareL_len]; exact HN.out) hn0 hown
      obtain ⟨VA, vc, rfl⟩ := own_slice3 hown
      go_wp2_with fail
      go_ret2
      exact ⟨_, rfl, hls, BQ⟩
end Go.Proofs.YtoihjclkocffhaaDoor
