/- The walk of the law CalibrateOrder: it returns true for all arguments. No condition. -/
import Derived.Test.YtneoglmfabilnaaCalP
import Derived.Test.YtneoglmfabilnaaLaw28
import Derived.Test.YtneoglmfabilnaaNatC
import Derived.Test.YtneoglmfabilnaaOwn
import Derived.Test.YtneoglmfabilnaaLwHeavy
import Derived.Deep.AppendLies
import Derived.Deep.RegionLaw
namespace Go.Proofs.Ytneoglmfabilnaa
open Go.RowKit Go.Deep
set_option linter.unusedVariables false

theorem natAt_zero {w : World} {v : Value} {n L : Nat} (h : NatAt w v n L) (h0 : n = 0) : ∃ A c, v = .slice A 0 c := by
  obtain ⟨ls, ⟨⟨A, c, rfl, _, _, _⟩, _⟩, h2, h3, _⟩ := h
  have : ls = [] := h2.zero (h3.trans h0)
  subst this
  exact ⟨A, c, rfl⟩
theorem infoInts : (Try.prog.info? 22).map (fun i => (i.zero, i.size, i.bytes)) = some (some (.slice none 0 0), 1, 24) := by kernel_rfl
theorem rev_take {α : Type} (l : List α) (d : α) {k : Nat} (h : k < l.length) : l.reverse.take (k + 1) = l.reverse.take k ++ [l.getD (l.length - 1 - k) d] := by
  rw [List.take_add_one, List.getElem?_reverse h, List.getElem?_eq_getElem (by omega), List.getD_eq_getElem?_getD, List.getElem?_eq_getElem (by omega)]; rfl
theorem ints_one (k : IntKind) (l : List Int) : ∀ u ∈ l.map (Value.int k), u.oneCell' = true := by
  intro u hu
  obtain ⟨z, _, rfl⟩ := List.mem_map.1 hu
  rfl
theorem own_empty (w : World) (e : Nat) : (w.alloc (.cells #[] e)).ownsRow w.heap.size e 1 (.slice (some ⟨w.heap.size, 0, none⟩) 0 0) 0 [] :=
  own_zero w (.int .i64 0) e 0 (by unfold maxLen; omega)
theorem Nums.slice {k : IntKind} {w : World} {v : Value} {l : List Int} (h : Nums k w v l) : ∃ R c, v = .slice R l.length c := by
  obtain ⟨R, c, h, _⟩ := h
  exact ⟨R, c, h⟩
theorem intsL_rev {w w' : World} {base e N cv : Nat} {V : Option Addr} {vs : List Value} {cs : List (List Int)} (hN : cs.length = N) (hl : vs.length = N) (h : ∀ i u, vs[i]? = some u → Nums .i64 w u (cs.getD i [])) (hb : Below w.heap.size w w') (ho : w'.ownsRow base e 1 (.slice V N cv) N vs.reverse) : IntsL w' (.slice V N cv) cs.reverse := by
  obtain ⟨A, c, hv, h1, h2, hs⟩ := Sl.of_own ho
  injection hv with e1 e2 e3
  subst e1 e3
  have hr : cs.reverse.length = N := by rw [List.length_reverse, hN]
  refine ⟨V, cv, vs.reverse, by rw [hr], by rw [hr]; exact h1, h2, by rw [hr]; exact hs, fun i u hu => ?_⟩
  have hi : i < vs.length := by
    rcases Nat.lt_or_ge i vs.length with h | h
    · exact h
    · rw [List.getElem?_eq_none (by rw [List.length_reverse]; exact h)] at hu; cases hu
  rw [List.getElem?_reverse hi] at hu
  have := h _ _ hu
  rw [rev_get cs [] (by omega), hN, ← hl]
  exact this.below hb
theorem NatAt.lim {w : World} {v : Value} {n L : Nat} (h : NatAt w v n L) : ∃ ls, Lim w v ls ∧ val ls = n ∧ ls.length ≤ L := by
  obtain ⟨ls, h1, _, h3, h4⟩ := h
  exact ⟨ls, h1, h3, h4⟩

set_option maxHeartbeats 8000000 in
set_option maxRecDepth 10000 in
theorem order_all (pv rv mv qv iv cv : Value) (ps rs : List Int) (ms : List (List (List Int))) (qs is : List Int) (cs : List (List Int)) (skip : Int) (w : World) (hp : Nums .i64 w pv ps) (hr : Nums .i64 w rv rs) (hm : ModL w mv ms) (hq : Nums .i64 w qv qs) (hi : Nums .i64 w iv is) (hc : IntsL w cv cs) :
    Calls Try.prog 5 #[.agg #[pv, rv], mv, .agg #[qv, iv, cv], .int .i64 skip] w fun e w' => e = .returned (.bool true) ∧ Below w.heap.size w w' := by
  have hp0 := hp
  have hr0 := hr
  have hm0 := hm
  have hq0 := hq
  have hi0 := hi
  have hc0 := hc
  obtain ⟨A, c, rfl, hc1, hm1, hsp⟩ := hp
  obtain ⟨B, c', rfl, hc', hm2, hsr⟩ := hr
  obtain ⟨M, cM, us, rfl, k1, k2, hs, hu⟩ := hm
  obtain ⟨X, cX, rfl, x1, x2, x3⟩ := hq
  obtain ⟨Y, cY, rfl, y1, y2, y3⟩ := hi
  obtain ⟨Z, cZ, vs, rfl, z1, z2, hsc, hcu⟩ := hc
  have HC := Lib.hid hcu
  unfold maxLen at k2 x2 y2 z2 hm1 hm2
  clear hu hs hsp hsr x3 y3 hcu
  have hgb := (Row.new w 24 [.slice A ps.length c, .slice B rs.length c']).alloc (.cells #[.slice X qs.length cX, .slice Y is.length cY, .slice Z cs.length cZ] 36)
  have hmb := Row.new (w.alloc (.cells #[.slice A ps.length c, .slice B rs.length c'] 24)) 36 [.slice X qs.length cX, .slice Y is.length cY, .slice Z cs.length cZ]
  have B0 : Below w.heap.size w ((w.alloc (.cells #[.slice A ps.length c, .slice B rs.length c'] 24)).alloc (.cells #[.slice X qs.length cX, .slice Y is.length cY, .slice Z cs.length cZ] 36)) := ((Below.refl _ _).alloc (Nat.le_refl _) _).alloc (by simp) _
  rw [show (w.alloc (.cells #[.slice A ps.length c, .slice B rs.length c'] 24)).heap.size = w.heap.size + 1 by simp] at hmb
  obtain ⟨N, hN⟩ : ∃ N, cs.length = N := ⟨_, rfl⟩
  have HN := Lib.hid hN
  rw [hN] at hsc z1 hmb hgb B0 ⊢
  clear hN
  go_enter Try.func5, Try.ntmps5
  go_wp2_with fail
  refine (heavy_any _ _ _ qs is _ (hq0.below B0) (hi0.below B0) ⟨_, _, _, rfl⟩).mono ?_
  rintro e w1 ⟨b, rfl, hb1⟩
  have B1 : Below w.heap.size w w1 := B0.trans (hb1.mono B0.size)
  replace hgb := hgb.keep hb1
  replace hmb := hmb.keep hb1
  clear hb1 B0
  have qg0 : w1.cell? ⟨w.heap.size, 0, none⟩ = some (.slice A ps.length c) := hgb.cell 0
  have qg1 : w1.cell? ⟨w.heap.size, 1, none⟩ = some (.slice B rs.length c') := hgb.cell 1
  have q0 : w1.cell? ⟨w.heap.size + 1, 0, none⟩ = some (.slice X qs.length cX) := hmb.cell 0
  have q1 : w1.cell? ⟨w.heap.size + 1, 1, none⟩ = some (.slice Y is.length cY) := hmb.cell 1
  have q2 : w1.cell? ⟨w.heap.size + 1, 2, none⟩ = some (.slice Z N cZ) := hmb.cell 2
  cases b
  case true =>
    go_wp2_with fail
    go_ret
    exact ⟨rfl, B1⟩
  go_wp2_with fail
  refine (total_any _ _ _ _ _ _ ps rs ms qs is cs _ (hp0.below B1) (hr0.below B1) (hm0.below B1) (hq0.below B1) (hi0.below B1) (by have := hc0.below B1; rwa [HN.out] at this)).mono ?_
  rintro e w2 ⟨v2, rfl, hv2, hb2⟩
  have B2 : Below w.heap.size w w2 := B1.trans (hb2.mono B1.size)
  replace hgb := hgb.keep hb2
  replace hmb := hmb.keep hb2
  clear hb2 B1 qg0 qg1 q0 q1 q2
  by_cases he : totE ps rs ms qs is cs = 0
  case neg =>
    obtain ⟨C2, c2, rfl⟩ := natAt_zero hv2 (totV_bad rfl he)
    have f1 : (totE ps rs ms qs is cs != 0) = true := by rw [bne_iff_ne]; exact he
    clear he hv2
    generalize totE ps rs ms qs is cs = E at *
    go_wp2_with fail
    go_ret
    exact ⟨rfl, B2⟩
  have f1 : (totE ps rs ms qs is cs != 0) = false := by rw [bne_eq_false_iff_eq]; exact he
  have HE := Lib.hid he
  have HP := Lib.hid (totV_pos he)
  have HRV := Lib.hid (totV_rev he)
  have HRE := Lib.hid (totE_rev he)
  clear he
  generalize totE ps rs ms qs is cs = E at f1 ⊢
  have hn200 : N ≤ 200 := by
    obtain ⟨_, _, _, _, h5⟩ := totE_zero HE.out
    obtain ⟨h1, _, _, _, h6, _⟩ := matE_zero h5
    have := HN.out
    omega
  obtain ⟨g, hg⟩ : ∃ g, w2.heap.size = g := ⟨_, rfl⟩
  have hrg : Row (w2.alloc (.cells #[.slice X qs.length cX, .slice Y is.length cY, .slice none 0 0] 36)) g 36 [.slice X qs.length cX, .slice Y is.length cY, .slice none 0 0] := by rw [← hg]; exact Row.new w2 36 [.slice X qs.length cX, .slice Y is.length cY, .slice none 0 0]
  have hbg : Below g w2 (w2.alloc (.cells #[.slice X qs.length cX, .slice Y is.length cY, .slice none 0 0] 36)) := (Below.refl _ _).alloc (by omega) _
  have hv2' := hv2
  obtain ⟨l2, ⟨⟨C2, c2, rfl, _, _, _⟩, _⟩, _⟩ := hv2'
  have qg0 : w2.cell? ⟨w.heap.size, 0, none⟩ = some (.slice A ps.length c) := hgb.cell 0
  have qg1 : w2.cell? ⟨w.heap.size, 1, none⟩ = some (.slice B rs.length c') := hgb.cell 1
  have q0 : w2.cell? ⟨w.heap.size + 1, 0, none⟩ = some (.slice X qs.length cX) := hmb.cell 0
  have q1 : w2.cell? ⟨w.heap.size + 1, 1, none⟩ = some (.slice Y is.length cY) := hmb.cell 1
  have q2 : w2.cell? ⟨w.heap.size + 1, 2, none⟩ = some (.slice Z N cZ) := hmb.cell 2
  have r2 : (w2.alloc (.cells #[.slice X qs.length cX, .slice Y is.length cY, .slice none 0 0] 36)).cell? ⟨w.heap.size + 1, 2, none⟩ = some (.slice Z N cZ) := (hmb.alloc _).cell 2
  go_wp2_with fail
  clear f1 q0 q1 q2 qg0 qg1 r2
  try rw [hg]
  generalize (w2.alloc (.cells #[.slice X qs.length cX, .slice Y is.length cY, .slice none 0 0] 36)) = wz at *
  go_loopw [12] (fun i wr => ∃ (k : Nat) (V : Option Addr) (cv : Nat), k ≤ N ∧ i = .int .i64 ((N : Int) - 1 - (k : Int)) ∧ Row wr g 36 [.slice X qs.length cX, .slice Y is.length cY, .slice V k cv] ∧ wr.ownsRow (g + 1) 22 1 (.slice V k cv) k (vs.reverse.take k) ∧ Below g w2 wr) (fun i _ => (intOf i + 1).toNat)
  case atStart => exact ⟨0, none, 0, by omega, by go_num, hrg, World.ownsRow_nil _ _ _ _, hbg⟩
  case round =>
    obtain ⟨k, V, cv, hk, rfl, hrow, hown, hb⟩ := hrel
    clear hrg hbg
    have hgb3 := hgb.below hb (by have := hgb.lt; omega)
    have hmb3 := hmb.below hb (by have := hmb.lt; omega)
    have zg := hrow.lt
    have q2 : wr.cell? ⟨w.heap.size + 1, 2, none⟩ = some (.slice Z N cZ) := hmb3.cell 2
    by_cases hlt : k < N
    · have hj : N - 1 - k < N := by omega
      have HT := Lib.hid (rev_take vs (.slice none 0 0) (show k < vs.length by rw [hsc.1]; exact hlt))
      have hcv : vs[N - 1 - k]? = some (vs.getD (N - 1 - k) (.slice none 0 0)) := by rw [List.getD_eq_getElem?_getD, List.getElem?_eq_getElem (show N - 1 - k < vs.length by rw [hsc.1]; exact hj)]; rfl
      obtain ⟨b1, o1, hZ, hcell⟩ := hsc.2 (by omega)
      subst hZ
      have hb1 := hsc.lt (by omega) rfl
      have g1 := (B2.cell (p := ⟨b1, o1 + (N - 1 - k), none⟩) hb1).trans (hcell _ _ hcv)
      have g2 : wr.cell? ⟨b1, o1 + (N - 1 - k), none⟩ = some (vs.getD (N - 1 - k) (.slice none 0 0)) := (hb.cell (p := ⟨b1, o1 + (N - 1 - k), none⟩) (by have := B2.size; simp; omega)).trans g1
      obtain ⟨R, cR, hR⟩ := (HC.out _ _ hcv).slice
      rw [hsc.1] at HT
      rw [hR] at g2 HT
      have HLr := Lib.hid (rfl : (cs.getD (N - 1 - k) []).length = _)
      generalize (cs.getD (N - 1 - k) []).length = lr at *
      have r3 : wr.cell? ⟨g, 2, none⟩ = some (.slice V k cv) := hrow.cell 2
      have r4 : wr.frozen? ⟨g, 2, none⟩ = false := hrow.frozen 2
      have hix : (N : Int) - 1 - (k : Int) = ((N - 1 - k : Nat) : Int) := by omega
      rw [hix]
      clear hcell g1 hR hcv
      generalize hJ : N - 1 - k = J at *
      obtain ⟨i0, hi0', hz0, hz1, hz2⟩ := info_parts infoInts
      have i1 : (J : Int) < (N : Int) := by omega
      go_wp2_with fail
      go_region_law (refine step_append_lies _ (by rfl) (.tmp 49) (.tmp 55) 34 (by rfl) (g + 1) 22 i0 _ 1 24 Try.underlying34 hi0' hz0 hz1 hz2 rfl (by omega) (.slice V k cv) k _ (by rfl) ((hown.alloc _).drew) ⟨wr.heap.size, 0, none⟩ 1 1 [.slice R lr cR] (by rfl) (by rfl) (World.news_of_block (cs := #[.slice R lr cR]) (t := 22) (fr := (0, 0)) (heap_alloc_new wr _)) (by simp [Value.oneCell']) (by omega) (by unfold maxLen; omega) (by omega) (by simp; omega) (wr.heap.size + 1) (by simp) ?_; intro gg cap w7 hown1 hgrow hat hlt7; have hb7 : Below (g + 1) wr w7 := (((Below.refl _ _).alloc (by omega) _).drew).grown hgrow (by simp; omega) (fun q hq => (hown.lt q hq).1); have hrow3 := hrow.below hb7 (show g < g + 1 by omega); have d0 : w7.cell? ⟨g, 2, none⟩ = some (.slice V k cv) := hrow3.cell 2; have d1 : w7.frozen? ⟨g, 2, none⟩ = false := hrow3.frozen 2)
      all_goals
        go_wp2_with fail
        go_roundw
        case rel =>
          refine ⟨k + 1, some ⟨gg, 0, none⟩, cap, by omega, by go_num, hrow3.set_ 2 _, ?_, (hb.trans (hb7.mono (by omega))).setCell (by simp) _⟩
          rw [HT.out]
          exact own_far hown1 (p := ⟨g, 2, none⟩) (by simp) _
        case measure => (first | (simp [intOf]; done) | (simp [intOf]; omega))
    · obtain rfl : k = N := by omega
      rw [List.take_of_length_le (by rw [List.length_reverse, hsc.1]; exact Nat.le_refl _)] at hown
      have BW : Below w.heap.size w wr := B2.trans (hb.mono (by rw [← hg]; exact B2.size))
      have hcr := intsL_rev HN.out hsc.1 HC.out BW hown
      have hb3' : Below w2.heap.size w2 wr := by rw [hg]; exact hb
      have hv2w := hv2.below hb3'
      have s0 : wr.cell? ⟨g, 0, none⟩ = some (.slice X qs.length cX) := hrow.cell 0
      have s1 : wr.cell? ⟨g, 1, none⟩ = some (.slice Y is.length cY) := hrow.cell 1
      have s2 : wr.cell? ⟨g, 2, none⟩ = some (.slice V k cv) := hrow.cell 2
      have qg0 : wr.cell? ⟨w.heap.size, 0, none⟩ = some (.slice A ps.length c) := hgb3.cell 0
      have qg1 : wr.cell? ⟨w.heap.size, 1, none⟩ = some (.slice B rs.length c') := hgb3.cell 1
      go_wp2_with fail
      clear s0 s1 s2 qg0 qg1 q2 hrow hown hb hb3'
      refine (total_any _ _ _ _ _ _ ps rs ms qs is cs.reverse _ (hp0.below BW) (hr0.below BW) (hm0.below BW) (hq0.below BW) (hi0.below BW) hcr).mono ?_
      rintro e w3 ⟨v3, rfl, hv3, hb3⟩
      rw [HRE.out]
      rw [HRV.out] at hv3
      have B3 : Below w.heap.size w w3 := BW.trans (hb3.mono BW.size)
      replace hgb := hgb3.keep hb3
      replace hmb := hmb3.keep hb3
      replace hv2 := hv2w.below hb3
      clear hgb3 hmb3 hv2w hcr BW hb3
      obtain ⟨lim, hl1, hl2, _⟩ := hv2.same hv3
      have hl2' := hl2
      obtain ⟨⟨C3, c3, rfl, _, _, _⟩, _⟩ := hl2'
      obtain ⟨lb, hlb1, hlb2, hlb3⟩ := hv2.lim
      have HB := Lib.hid (bits_any _ lb _ hlb1 (by omega))
      rw [hlb2] at HB
      have hv2k := hv2
      clear hlb1 hlb2 hlb3 hv2 hv3
      go_wp2_with fail
      refine HB.out.mono ?_
      rintro e w' ⟨nb, rfl, rfl, hnb⟩
      have hnb1 := (hnb.2 HP.out).1
      clear hnb
      have f2 : ((nb : Int) == 0) = false := by rw [beq_eq_false_iff_ne]; omega
      go_wp2_with fail
      refine (limbs_same _ _ lim _ hl1 hl2).mono ?_
      rintro e w4 ⟨rfl, hd⟩
      have B34 : Below w3.heap.size w3 w4 := by obtain ⟨d, rfl⟩ := hd; exact below_drewN (Below.refl _ _) d
      have B4 : Below w.heap.size w w4 := B3.trans (B34.mono B3.size)
      replace hgb := hgb.keep B34
      replace hmb := hmb.keep B34
      replace hl1 := hl1.below B34
      replace hl2 := hl2.below B34
      obtain ⟨lc, hlc1, hlc2, hlc3⟩ := (hv2k.below B34).lim
      have HB2 := Lib.hid (bits_any _ lc _ hlc1 (by omega))
      rw [hlc2] at HB2
      clear hlc1 hlc2 hlc3 hd B34 f2 HB B3
      by_cases c1 : skip < 0
      · have d1 : decide (skip < 0) = true := by simpa using c1
        go_wp2_with fail
        refine HB2.out.mono ?_
        rintro e w' ⟨nb2, rfl, rfl, hnb2⟩
        have hnb3 := (hnb2.2 HP.out).1
        have f3 : decide (0 < (nb2 : Int)) = true := by simp; omega
        go_wp2_with fail
        refine (limbs_same _ _ lim _ hl1 hl2).mono ?_
        rintro e w5 ⟨rfl, d, rfl⟩
        go_wp2_with fail
        go_ret
        exact ⟨rfl, below_drewN B4 _⟩
      have d1 : decide (skip < 0) = false := by simpa using c1
      by_cases c2 : (ms.length : Int) ≤ skip
      · have d2 : decide ((ms.length : Int) ≤ skip) = true := by simpa using c2
        go_wp2_with fail
        refine HB2.out.mono ?_
        rintro e w' ⟨nb2, rfl, rfl, hnb2⟩
        have hnb3 := (hnb2.2 HP.out).1
        have f3 : decide (0 < (nb2 : Int)) = true := by simp; omega
        go_wp2_with fail
        refine (limbs_same _ _ lim _ hl1 hl2).mono ?_
        rintro e w5 ⟨rfl, d, rfl⟩
        go_wp2_with fail
        go_ret
        exact ⟨rfl, below_drewN B4 _⟩
      have d2 : decide ((ms.length : Int) ≤ skip) = false := by simpa using c2
      obtain ⟨s, rfl⟩ := Int.eq_ofNat_of_zero_le (show 0 ≤ skip by omega)
      have hsm : s < ms.length := by omega
      go_wp2_with fail
      generalize decide (ms.length ≤ s) = db2 at *
      clear d1 d2 c1 c2 HB2 hl1 hl2 HP HRV HRE hnb1
      obtain ⟨T1, T2, T3, T4, T5⟩ := totE_zero HE.out
      have HRO := Lib.hid (fun j (hj : j < cs.length) => rows_ok (ms := ms) (qs := qs) T3 T5 (k := j) hj)
      have HT1 := Lib.hid T1
      have HT2 := Lib.hid T2
      have HT4 := Lib.hid T4
      have HPR : Hid (rs.length = ps.length) := by obtain ⟨_, _, h3, _, _⟩ := gridE_zero T1; exact h3
      clear T1 T3 T4 T5 HE
      go_loopw [14] (fun i wr => ∃ j : Nat, j ≤ k ∧ i = .int .i64 (j : Int) ∧ Below w4.heap.size w4 wr) (fun i _ => k - (intOf i).toNat)
      case atStart => exact ⟨0, by omega, rfl, Below.refl _ _⟩
      case round =>
        obtain ⟨j, hj, rfl, hb⟩ := hrel
        have hgb5 := hgb.keep hb
        have hmb5 := hmb.keep hb
        have q2 : wr.cell? ⟨w.heap.size + 1, 2, none⟩ = some (.slice Z k cZ) := hmb5.cell 2
        by_cases hlt : j < k
        · obtain ⟨b1, o1, u1, rfl, hb1, g1, hr1⟩ := lst_at hsc HC.out hlt
          have BR : Below w.heap.size w wr := B4.trans (hb.mono B4.size)
          have g2 : wr.cell? ⟨b1, o1 + j, none⟩ = some u1 := (BR.cell (p := ⟨b1, o1 + j, none⟩) hb1).trans g1
          have hx2 := hr1.below BR
          clear g1 hr1
          obtain ⟨r1, r2⟩ := HRO.out j (by rw [HN.out]; exact hlt)
          generalize cs.getD j [] = row at *
          obtain ⟨R, cR, rfl, e1, e2, hsr2⟩ := hx2
          have HR1 := Lib.hid r1
          rw [r1] at hsr2 e1 g2
          clear r1
          have q2' : (wr.alloc (.cells #[] 3)).cell? ⟨w.heap.size + 1, 2, none⟩ = some (.slice (some ⟨b1, o1, none⟩) k cZ) := (hmb5.alloc _).cell 2
          have g2' : (wr.alloc (.cells #[] 3)).cell? ⟨b1, o1 + j, none⟩ = some (.slice R ms.length cR) := (((Below.refl _ _).alloc (Nat.le_refl _) _).cell (p := ⟨b1, o1 + j, none⟩) (by have := BR.size; simp; omega)).trans g2
          have hown0 := own_empty wr 3
          have hs' := hsr2.below ((Below.refl _ _).alloc (Nat.le_refl _) (.cells #[] 3))
          have hm60 := HT2.out
          go_wp2_with (at_builtin; refine wpList_append_sl0 _ rfl (.tmp 107) (.tmp 112) 22 rfl wr.heap.size 3 (.int .i64 0) 8 Try.underlying22 infoInt rfl _ R ms.length cR _ rfl rfl hown0 hs' (ints_one _ _) (by unfold maxLen; omega) (by omega) (by simp) ?_; intro A' c5 w5 hown5 hb5'; have hb5 : Below wr.heap.size wr w5 := ((Below.refl _ _).alloc (Nat.le_refl _) _).trans hb5'; have BR5 : Below w.heap.size w w5 := BR.trans (hb5.mono BR.size); have hgb6 := hgb5.keep hb5; have hmb6 := hmb5.keep hb5; have qg0 : w5.cell? ⟨w.heap.size, 0, none⟩ = some (.slice A ps.length c) := hgb6.cell 0; have qg1 : w5.cell? ⟨w.heap.size, 1, none⟩ = some (.slice B rs.length c') := hgb6.cell 1)
          clear q2 q2' g2 g2' hown0 hs' hb5'
          clear qg0 qg1
          refine (cweightsF_yes _ _ _ _ ps rs row ms (s : Int) _ (hp0.below BR5) (hr0.below BR5) (hm0.below BR5) (Nums.of_own hown5) (wtE_mk HT1.out HT2.out HR1.out HT4.out r2 (by omega) (by omega))).mono ?_
          rintro e w6 ⟨v6, rfl, hv6, hb6⟩
          have BR6 : Below w.heap.size w w6 := BR5.trans (hb6.mono BR5.size)
          have hgb7 := hgb6.keep hb6
          have hown6 := own_keep hown5 hb6
          obtain ⟨g5, cap, hA', _, _, hg5, hg5', hcell5, hfz5, hset5⟩ := own_at hown6 hsm
          injection hA' with hA1 hA2 hA3
          subst hA1 hA3
          have hg5l : g5 < w5.heap.size := by
            obtain ⟨g6, cap6, hA', _, _, _, hlt6, _⟩ := own_at hown5 hsm
            injection hA' with hA1 _ _
            injection hA1 with hA1
            injection hA1 with hA1
            omega
          obtain ⟨x5, hx5⟩ : ∃ x, w6.cell? ⟨g5, s, none⟩ = some x := by
            rw [hcell5, List.getElem?_map, List.getElem?_eq_getElem (by rw [HR1.out]; exact hsm)]
            exact ⟨_, rfl⟩
          have hz5 := hset5 (.int .i64 (-1))
          clear hcell5 hset5
          have hn5 : Nums .i64 (w6.setCell ⟨g5, s, none⟩ (.int .i64 (-1))) (.slice (some ⟨g5, 0, none⟩) ms.length c5) (row.set s (-1)) := Nums.own_set hz5
          have hv7 := hv6.set_ (p := ⟨g5, s, none⟩) hg5l (.int .i64 (-1))
          have hb7 : Below wr.heap.size wr (w6.setCell ⟨g5, s, none⟩ (.int .i64 (-1))) := (hb5.trans (hb6.mono hb5.size)).setCell (by simp; omega) _
          have hgb8 : Row (w6.setCell ⟨g5, s, none⟩ (.int .i64 (-1))) w.heap.size 24 [.slice A ps.length c, .slice B rs.length c'] := hgb5.keep hb7
          have qg0 : (w6.setCell ⟨g5, s, none⟩ (.int .i64 (-1))).cell? ⟨w.heap.size, 0, none⟩ = some (.slice A ps.length c) := hgb8.cell 0
          have qg1 : (w6.setCell ⟨g5, s, none⟩ (.int .i64 (-1))).cell? ⟨w.heap.size, 1, none⟩ = some (.slice B rs.length c') := hgb8.cell 1
          have i1 : (0 : Int) ≤ (s : Int) := by omega
          have i2 : (s : Int) < (ms.length : Int) := by omega
          obtain ⟨V6, cv6, us6, rfl, m1, m2, hs6, hf6, hel6⟩ := hv7
          go_wp2_with fail
          clear i1 i2 qg0 qg1 hx5 hfz5 hz5
          generalize w6.setCell ⟨g5, s, none⟩ (.int .i64 (-1)) = w7 at *
          have BR7 : Below w.heap.size w w7 := BR.trans (hb7.mono BR.size)
          refine (cweightsF_yes _ _ _ _ ps rs (row.set s (-1)) ms (-1) _ (hp0.below BR7) (hr0.below BR7) (hm0.below BR7) hn5 (wtE_mk HT1.out HT2.out (by rw [List.length_set]; exact HR1.out) HT4.out (rowOK_set r2) (by omega) (by omega))).mono ?_
          rintro e w8 ⟨v8, rfl, hv8, hb8⟩
          rw [wL_out (by rw [HR1.out]; exact hsm)] at hv8
          obtain ⟨V8, cv8, us8, rfl, n1, n2, hs8, hf8, hel8⟩ := hv8
          have hgb9 := hgb8.keep hb8
          replace hs6 := hs6.below hb8
          have HE6 := Lib.hid (fun i u (hi : us6[i]? = some u) => (hel6 i u hi).1.below hb8)
          have HE8 := Lib.hid (fun i u (hi : us8[i]? = some u) => (hel8 i u hi).1)
          have B8 : Below w4.heap.size w4 w8 := hb.trans ((hb7.trans (hb8.mono hb7.size)).mono hb.size)
          have hln : (wL rs ms row (s : Int) rs.length).length = ps.length := by rw [wL_len]; exact HPR.out
          rw [hln] at hs6 hs8 m1 n1 ⊢
          unfold maxLen at m2 n2
          generalize wL rs ms row (s : Int) rs.length = WW at *
          have qg0 : w8.cell? ⟨w.heap.size, 0, none⟩ = some (.slice A ps.length c) := hgb9.cell 0
          have qg1 : w8.cell? ⟨w.heap.size, 1, none⟩ = some (.slice B rs.length c') := hgb9.cell 1
          clear hel6 hel8 hgb5 hmb5 hgb6 hmb6 hgb7 hgb8 hgb9 hb7 hb8 hb5 hb6 BR BR5 BR6 BR7 hown5 hown6 hn5 hv6 hln r2
          have hnn : ((ps.length : Int) != (ps.length : Int)) = false := by simp
          go_wp2_with fail
          clear hnn qg0 qg1
          go_loopw [20] (fun i wr => ∃ k : Nat, k ≤ ps.length ∧ i = .int .i64 (k : Int) ∧ ∃ d, wr = w8.drewN d) (fun i _ => ps.length - (intOf i).toNat)
          case atStart => exact ⟨0, by omega, rfl, 0, rfl⟩
          case round =>
            obtain ⟨q, hq, rfl, d, rfl⟩ := hrel
            by_cases hlt2 : q < ps.length
            · obtain ⟨b1, o1, x, rfl, _, g1, hL1⟩ := lst_at (R := fun w u n => NatAt w u n 122) (d := 0) (xs := WW) hs6 HE6.out hlt2
              obtain ⟨b2, o2, y, rfl, _, g2, hL2⟩ := lst_at (R := fun w u n => NatAt w u n 122) (d := 0) (xs := WW) hs8 HE8.out hlt2
              obtain ⟨ls, hl1, hl2, _⟩ := hL1.same hL2
              have hl1' := hl1
              have hl2' := hl2
              obtain ⟨⟨X1, cx, rfl, _, _, _⟩, _⟩ := hl1'
              obtain ⟨⟨Y1, cy, rfl, _, _, _⟩, _⟩ := hl2'
              go_wp2
              go_quiet ((go_at_call 12; exact quiet_addE (limbs_same _ _ ls _ hl1 hl2)))
              go_wp2
              go_roundw
              case rel => exact ⟨q + 1, by omega, by go_num, _, rfl⟩
              case measure => simp [intOf]; omega
            · go_wp2_with fail
              go_roundw
              case rel => exact ⟨j + 1, by omega, by go_num, below_drewN B8 _⟩
              case measure => simp [intOf]; omega
        · go_wp2_with fail
          go_ret
          exact ⟨rfl, B4.trans (hb.mono B4.size)⟩
end Go.Proofs.Ytneoglmfabilnaa
