/- The walks of calibrate's weigh and of the reference's weights. -/
import Derived.Test.YtneoglmfabilnaaCalA
import Derived.Deep.RegionWith
namespace Go.Proofs.Ytneoglmfabilnaa
open Go.RowKit
set_option linter.unusedVariables false

/-- The weight of the response to item i at grid index q. -/
def fac (ms : List (List (List Int))) (row : List Int) (q i : Nat) : Nat := (((ms.getD i []).getD q []).getD (row.getD i 0).toNat 0).toNat
/-- The weight at a grid index from the first responses. -/
def wUp (ms : List (List (List Int))) (row : List Int) (skip : Int) (q p0 : Nat) : Nat → Nat
  | 0 => p0
  | i + 1 => if (i : Int) ≠ skip ∧ 0 ≤ row.getD i 0 then wUp ms row skip q p0 i * fac ms row q i else wUp ms row skip q p0 i
/-- The weights of a person. -/
def wL (rs : List Int) (ms : List (List (List Int))) (row : List Int) (skip : Int) (n : Nat) : List Nat := (List.range n).map fun q => wUp ms row skip q (rs.getD q 0).toNat row.length
theorem wL_len (rs : List Int) (ms : List (List (List Int))) (row : List Int) (skip : Int) (n : Nat) : (wL rs ms row skip n).length = n := by simp [wL]
theorem wL_get (rs : List Int) (ms : List (List (List Int))) (row : List Int) (skip : Int) (n q : Nat) (h : q < n) : (wL rs ms row skip n).getD q 0 = wUp ms row skip q (rs.getD q 0).toNat row.length := by
  unfold wL
  rw [List.getD_eq_getElem?_getD, List.getElem?_map, List.getElem?_range h]
  rfl
theorem wUp_yes {ms : List (List (List Int))} {row : List Int} {skip : Int} {q p0 i : Nat} (h1 : (i : Int) ≠ skip) (h2 : 0 ≤ row.getD i 0) : wUp ms row skip q p0 (i + 1) = wUp ms row skip q p0 i * fac ms row q i := by rw [wUp, if_pos ⟨h1, h2⟩]
theorem wUp_no {ms : List (List (List Int))} {row : List Int} {skip : Int} {q p0 i : Nat} (h : ¬ ((i : Int) ≠ skip ∧ 0 ≤ row.getD i 0)) : wUp ms row skip q p0 (i + 1) = wUp ms row skip q p0 i := by rw [wUp, if_neg h]
/-- Each response that counts has its weight. -/
def WOK (n : Nat) (ms : List (List (List Int))) (row : List Int) (skip : Int) : Prop :=
  ∀ i, i < row.length → (i : Int) ≠ skip → 0 ≤ row.getD i 0 → i < ms.length ∧ ∀ q, q < n → q < (ms.getD i []).length ∧ (row.getD i 0).toNat < ((ms.getD i []).getD q []).length ∧
    0 ≤ ((ms.getD i []).getD q []).getD (row.getD i 0).toNat 0 ∧ ((ms.getD i []).getD q []).getD (row.getD i 0).toNat 0 ≤ 1000
def POK (n : Nat) (rs : List Int) : Prop := ∀ q, q < n → 0 ≤ rs.getD q 0 ∧ rs.getD q 0 ≤ 1000

/-- A list of numbers whose slice and whose limbs lie from block base on. -/
def CanF (base : Nat) (w : World) (v : Value) (ns : List Nat) (L : Nat) : Prop :=
  ∃ A c us, v = .slice A ns.length c ∧ ns.length ≤ c ∧ c ≤ maxLen ∧ Sl w A ns.length us ∧ Fresh base v ∧ ∀ i u, us[i]? = some u → NatAt w u (ns.getD i 0) L ∧ Fresh base u
theorem CanF.can {base : Nat} {w : World} {v : Value} {ns : List Nat} {L : Nat} (h : CanF base w v ns L) : CanL w v ns L := by
  obtain ⟨A, c, us, hv, h1, h2, hs, _, hu⟩ := h
  exact ⟨A, c, us, hv, h1, h2, hs, fun i u hi => (hu i u hi).1⟩
theorem CanF.fresh {base : Nat} {w : World} {v : Value} {ns : List Nat} {L : Nat} (h : CanF base w v ns L) : Fresh base v := by
  obtain ⟨A, c, us, hv, h1, h2, hs, hf, hu⟩ := h
  exact hf
theorem CanF.mono {base base' : Nat} {w : World} {v : Value} {ns : List Nat} {L : Nat} (h : CanF base w v ns L) (hb : base' ≤ base) : CanF base' w v ns L := by
  obtain ⟨A, c, us, hv, h1, h2, hs, hf, hu⟩ := h
  exact ⟨A, c, us, hv, h1, h2, hs, hf.mono hb, fun i u hi => ⟨(hu i u hi).1, (hu i u hi).2.mono hb⟩⟩
theorem CanF.below {base : Nat} {w w' : World} {v : Value} {ns : List Nat} {L : Nat} (h : CanF base w v ns L) (hb : Below w.heap.size w w') : CanF base w' v ns L := by
  obtain ⟨A, c, us, hv, h1, h2, hs, hf, hu⟩ := h
  exact ⟨A, c, us, hv, h1, h2, hs.below hb, hf, fun i u hi => ⟨(hu i u hi).1.below hb, (hu i u hi).2⟩⟩
theorem CanF.set_ {base : Nat} {w : World} {v : Value} {ns : List Nat} {L : Nat} (h : CanF base w v ns L) {p : Addr} (hp : p.block < base) (x : Value) : CanF base (w.setCell p x) v ns L := by
  obtain ⟨A, c, us, rfl, h1, h2, hs, hf, hu⟩ := h
  exact ⟨A, c, us, rfl, h1, h2, hs.set_ hf hp x, hf, fun i u hi => ⟨(hu i u hi).1.set_ (hu i u hi).2 hp x, (hu i u hi).2⟩⟩
theorem Coll.canF_row {w : World} {us : List Value} {ns : List Nat} {L base g t : Nat} (h : Coll w us ns ns.length L base) (hr : Row w g t us) (hm : ns.length ≤ maxLen) {b : Nat} (hg : b ≤ g) (hb : b ≤ base) : CanF b w (.slice (some ⟨g, 0, none⟩) ns.length ns.length) ns L := by
  have := hr.sl
  rw [h.1] at this
  exact ⟨_, _, us, rfl, Nat.le_refl _, hm, this, hg, fun i u hi => ⟨(h.2 i u hi).1, (h.2 i u hi).2.mono hb⟩⟩

set_option maxHeartbeats 4000000 in
theorem weighF_any (pv rv mv xv : Value) (ps rs row : List Int) (ms : List (List (List Int))) (skip : Int) (w : World) (hp : Nums .i64 w pv ps) (hr : Nums .i64 w rv rs) (hm : ModL w mv ms) (hx : Nums .i64 w xv row)
    (hn21 : rs.length ≤ 21) (hpr : ps.length = rs.length) (hrow60 : row.length ≤ 60) (hok : WOK rs.length ms row skip) (hpk : POK rs.length rs) :
    Calls Try.prog 31 #[.agg #[pv, rv], mv, xv, .int .i64 skip] w fun e w' => ∃ v, e = .returned v ∧ CanF w.heap.size w' v (wL rs ms row skip rs.length) 122 ∧ Below w.heap.size w w' := by
  have hbox : Below w.heap.size w (w.alloc (.cells #[pv, rv] 24)) := (Below.refl _ _).alloc (Nat.le_refl _) _
  obtain ⟨A, c, rfl, hc, hm1, hsp⟩ := hp
  obtain ⟨B, c', rfl, hc', hm2, hsr⟩ := hr
  obtain ⟨M, cM, us, rfl, k1, k2, hs, hu⟩ := hm
  obtain ⟨X, cX, rfl, x1, x2, hsx⟩ := hx
  rw [hpr]
  have HU := Lib.hid hu
  have HOK := Lib.hid hok
  have HPK := Lib.hid hpk
  obtain ⟨n, hn⟩ : ∃ n, rs.length = n := ⟨_, rfl⟩
  obtain ⟨m, hm'⟩ : ∃ m, row.length = m := ⟨_, rfl⟩
  have HN := Lib.hid hn
  have HM := Lib.hid hm'
  rw [hn] at hsr hn21 HOK HPK ⊢
  rw [hm'] at hsx hrow60
  clear hu hsp hok hpk hpr hc hc' hn hm1 hm2
  unfold maxLen at k2 x2
  have hmk := run_mk (P := Try.prog) Try.underlying26 infoNat rfl n (by omega) (by omega)
  go_enter Try.func31, Try.ntmps31
  rw [hm']
  clear hm'
  go_wp2_with fail
  clear hmk
  go_loopw [21] (fun i wr => ∃ (k : Nat) (ws : List Value), k ≤ n ∧ i = .int .i64 (k : Int) ∧ Coll wr ws (wL rs ms row skip n) k 122 (w.heap.size + 2) ∧ Row wr (w.heap.size + 1) 32 (ws ++ List.replicate (n - k) (.slice none 0 0)) ∧ Below w.heap.size w wr) (fun i _ => n - (intOf i).toNat)
  case atStart =>
    refine ⟨0, [], by omega, rfl, Coll.zero _ _ _ _, ?_, ((Below.refl _ _).alloc (Nat.le_refl _) _).alloc (by simp) _⟩
    have := Row.newz (w.alloc (.cells #[.slice A n c, .slice B n c'] 24)) 32 (.slice none 0 0) n
    simpa using this
  case round =>
    obtain ⟨k, ws, hk, rfl, hco, hrow, hb⟩ := hrel
    by_cases hlt : k < n
    · obtain ⟨b2, o2, rfl, hb2, hcell⟩ := hsr.num hlt
      have g1 : wr.cell? ⟨b2, o2 + k, none⟩ = some (.int .i64 (rs.getD k 0)) := (hb.cell (p := ⟨b2, o2 + k, none⟩) hb2).trans (hcell k hlt)
      obtain ⟨y1, y2⟩ := HPK.out k hlt
      obtain ⟨p0, hp0⟩ := Int.eq_ofNat_of_zero_le y1
      have HG := Lib.hid (wL_get rs ms row skip n k hlt)
      rw [hp0] at g1 y1 y2 HG
      rw [Int.toNat_natCast, HM.out] at HG
      clear hcell hp0
      have zr := hrow.lt
      obtain ⟨wo, rfl⟩ : ∃ wo : World, wo = wr := ⟨_, rfl⟩
      go_wp2_with fail
      refine (of_any p0 _ (by omega)).mono ?_
      rintro e w2 ⟨v, rfl, hv⟩
      have hbe := hv.bel
      have hrow2 := hrow.keep hbe
      have hc0 : w2.cell? ⟨w.heap.size + 1, k, none⟩ = some (.slice none 0 0) := by rw [hrow2.cell, padv_get _ _ _ _ hco.1 hlt]
      have hf0 : w2.frozen? ⟨w.heap.size + 1, k, none⟩ = false := hrow2.frozen k
      have hv' := hv
      obtain ⟨ls, ⟨⟨V, cv, rfl, _, _, _⟩, _⟩, _⟩ := hv'
      have hst : Coll w2 ws (wL rs ms row skip n) k 122 (w.heap.size + 2) := hco.below hbe
      have hb3 : Below w.heap.size w w2 := hb.trans (hbe.mono hb.size)
      have hfr : Fresh (w.heap.size + 2) (.slice V ls.length cv) := hv.fresh.mono zr
      have hna := hv.nat
      go_wp2_with fail
      go_loopw [34] (fun i wr => ∃ (j : Nat) (C : Option Addr) (lc cc : Nat), j ≤ m ∧ i = .int .i64 (j : Int) ∧ NatAt wr (.slice C lc cc) (wUp ms row skip k p0 j) (2 + 2 * j) ∧ Fresh (w.heap.size + 2) (.slice C lc cc) ∧ Coll wr ws (wL rs ms row skip n) k 122 (w.heap.size + 2) ∧ Row wr (w.heap.size + 1) 32 ((ws ++ [.slice C lc cc]) ++ List.replicate (n - (k + 1)) (.slice none 0 0)) ∧ Below w.heap.size w wr) (fun i _ => m - (intOf i).toNat)
      case atStart =>
        refine ⟨0, V, ls.length, cv, by omega, rfl, hna.set_ hfr (p := ⟨w.heap.size + 1, k, none⟩) (by simp) _, hfr, hst.set_ (p := ⟨w.heap.size + 1, k, none⟩) (by simp) _, ?_, hb3.setCell (by simp) _⟩
        rw [← padv_set _ _ _ _ _ hco.1 hlt]
        exact hrow2.set_ k _
      case round =>
        obtain ⟨j, C, lc, cc, hj, rfl, hnat, hfc, hcl, hrw, hbb⟩ := hrel
        clear hrow hrow2 hc0 hf0 hst hb3 hfr hna hv hbe hco hb g1
        have zl := hrw.lt
        by_cases hlt2 : j < m
        · obtain ⟨b3, o3, rfl, hb3, hcell⟩ := hsx.num hlt2
          have g3 : wr.cell? ⟨b3, o3 + j, none⟩ = some (.int .i64 (row.getD j 0)) := (hbb.cell (p := ⟨b3, o3 + j, none⟩) hb3).trans (hcell j hlt2)
          clear hcell
          by_cases hcase : (j : Int) ≠ skip ∧ 0 ≤ row.getD j 0
          · obtain ⟨e1, e2⟩ := hcase
            obtain ⟨z1, z2⟩ := HOK.out j (by rw [HM.out]; exact hlt2) e1 e2
            obtain ⟨z3, z4, z5, z6⟩ := z2 k hlt
            obtain ⟨b4, o4, u4, rfl, hb4, g4, hI⟩ := lst_at hs HU.out z1
            have g5 : wr.cell? ⟨b4, o4 + j, none⟩ = some u4 := (hbb.cell (p := ⟨b4, o4 + j, none⟩) hb4).trans g4
            have hI2 := hI.below hbb
            have hI' := hI2
            obtain ⟨R, cR, vs, rfl, _, _, _, _⟩ := hI'
            have HW := Lib.hid (wUp_yes (ms := ms) (q := k) (p0 := p0) e1 e2)
            have f1 : ((j : Int) != skip) = true := by rw [bne_iff_ne]; exact e1
            have f2 : decide (0 ≤ row.getD j 0) = true := by simpa using e2
            have hcw : wr.cell? ⟨w.heap.size + 1, k, none⟩ = some (.slice C lc cc) := by
              rw [hrw.cell, List.getElem?_append_left (by simp [hcl.1]), List.getElem?_append_right (by rw [hcl.1]; omega), hcl.1]; simp
            have hfw : wr.frozen? ⟨w.heap.size + 1, k, none⟩ = false := hrw.frozen k
            obtain ⟨y, hy⟩ := Int.eq_ofNat_of_zero_le e2
            obtain ⟨fx, hfx⟩ := Int.eq_ofNat_of_zero_le z5
            have HF := Lib.hid (show fac ms row k j = fx by unfold fac; rw [hfx]; rfl)
            rw [hfx] at z6
            rw [hy] at g3 f2 z4 hfx
            rw [Int.toNat_natCast] at z4 hfx
            have HFX := Lib.hid hfx
            have HZ1 := Lib.hid z1
            have HZ3 := Lib.hid z3
            have HZ4 := Lib.hid z4
            clear z1 z2 z3 z4 z5 hy hfx e1 e2 hI g4
            obtain ⟨la, hla1, hla2, hla3, hla4⟩ := hnat
            have i1 : 0 ≤ (k : Int) := by omega
            have i2 : (k : Int) < (n : Int) := by omega
            have i3 : 0 ≤ (j : Int) := by omega
            have i4 : (j : Int) < (ms.length : Int) := by have := HZ1.out; omega
            go_wp2_with fail
            go_region_with (first
                | (go_at_call 55; refine (factor_any _ (ms.getD j []) k y fx _ ?_ HZ3.out HZ4.out HFX.out ?_).mono ?_; exact hI2; omega; rintro e w5 ⟨v5, rfl, lf, h51, h52, h53, h54, h55, h56⟩; have q51 := (h56.cell (p := ⟨w.heap.size + 1, k, none⟩) zl).trans hcw; have q52 := (h56.frozen (p := ⟨w.heap.size + 1, k, none⟩) zl).trans hfw; have zl5 := Nat.lt_of_lt_of_le zl h56.size)
                | (go_at_call 40; refine (mul_any _ _ la lf _ ?_ ?_ ?_ ?_).mono ?_; exact hla1.below (undrew1 h56); exact h51; omega; omega; rintro e w6 ⟨v6, rfl, lg, ⟨⟨VA, vc, rfl, hv1, hv2, hv3⟩, hv4⟩, h62, h63, h64, h65, h66⟩; have q61 := (h66.cell (p := ⟨w.heap.size + 1, k, none⟩) zl5).trans q51; have q62 := (h66.frozen (p := ⟨w.heap.size + 1, k, none⟩) zl5).trans q52))
            all_goals
              have B6 : Below wr.heap.size wr w6 := (undrew1 h56).trans (h66.mono h56.size)
              go_wp2
              go_roundw
              case rel =>
                have hN6 : NatAt w6 (.slice VA lg.length vc) (wUp ms row skip k p0 (j + 1)) (2 + 2 * (j + 1)) := ⟨lg, ⟨⟨VA, vc, rfl, hv1, hv2, hv3⟩, hv4⟩, h62, by rw [h63, hla3, h53, HW.out, HF.out], by omega⟩
                have hF6 : Fresh (w.heap.size + 2) (.slice VA lg.length vc) := h65.mono zl5
                refine ⟨j + 1, VA, lg.length, vc, by omega, by go_num, hN6.set_ hF6 (p := ⟨w.heap.size + 1, k, none⟩) (by simp) _, hF6, (hcl.below B6).set_ (p := ⟨w.heap.size + 1, k, none⟩) (by simp) _, ?_, (hbb.trans (B6.mono hbb.size)).setCell (by simp) _⟩
                have := (hrw.keep B6).set_ k (.slice VA lg.length vc)
                rw [List.set_append_left _ _ (by simp [hcl.1]), List.set_append_right _ _ (by rw [hcl.1]; omega), hcl.1, Nat.sub_self, List.set_cons_zero] at this
                exact this
              case measure => simp [intOf]; omega
          · have HW := Lib.hid (wUp_no (ms := ms) (q := k) (p0 := p0) hcase)
            by_cases e1 : (j : Int) = skip
            · have f1 : ((j : Int) != skip) = false := by rw [bne_eq_false_iff_eq]; exact e1
              clear hcase e1
              generalize row.getD j 0 = rj at *
              go_wp2_with fail
              go_roundw
              case rel => exact ⟨j + 1, C, lc, cc, by omega, by go_num, by rw [HW.out]; exact hnat.mono (by omega), hfc, hcl, hrw, hbb⟩
              case measure => simp [intOf]; omega
            · have f1 : ((j : Int) != skip) = true := by rw [bne_iff_ne]; exact e1
              have e2 : row.getD j 0 < 0 := by
                rcases Int.lt_or_le (row.getD j 0) 0 with h | h
                · exact h
                · exact absurd ⟨e1, h⟩ hcase
              have f2 : decide (0 ≤ row.getD j 0) = false := by simp only [decide_eq_false_iff_not]; omega
              clear hcase e1
              generalize row.getD j 0 = rj at *
              go_wp2_with fail
              go_roundw
              case rel => exact ⟨j + 1, C, lc, cc, by omega, by go_num, by rw [HW.out]; exact hnat.mono (by omega), hfc, hcl, hrw, hbb⟩
              case measure => simp [intOf]; omega
        · obtain rfl : j = m := by omega
          go_wp2_with fail
          go_roundw
          case rel =>
            refine ⟨k + 1, ws ++ [.slice C lc cc], by omega, by go_num, hcl.snoc (by rw [HG.out]; exact hnat.mono (by omega)) hfc, hrw, hbb⟩
          case measure => simp [intOf]; omega
    · obtain rfl : k = n := by omega
      go_wp2_with fail
      go_ret
      have hl : (wL rs ms row skip k).length = k := wL_len _ _ _ _ _
      have hrow' : Row wr (w.heap.size + 1) 32 ws := by simpa using hrow
      refine ⟨.slice (some ⟨w.heap.size + 1, 0, none⟩) k k, rfl, ?_, hb⟩
      have hco' : Coll wr ws (wL rs ms row skip k) (wL rs ms row skip k).length 122 (w.heap.size + 2) := by rw [hl]; exact hco
      have := hco'.canF_row hrow' (by rw [hl]; unfold maxLen; omega) (b := w.heap.size) (by omega) (by omega)
      rwa [hl] at this
theorem weigh_any (pv rv mv xv : Value) (ps rs row : List Int) (ms : List (List (List Int))) (skip : Int) (w : World) (hp : Nums .i64 w pv ps) (hr : Nums .i64 w rv rs) (hm : ModL w mv ms) (hx : Nums .i64 w xv row)
    (hn21 : rs.length ≤ 21) (hpr : ps.length = rs.length) (hrow60 : row.length ≤ 60) (hok : WOK rs.length ms row skip) (hpk : POK rs.length rs) :
    Calls Try.prog 31 #[.agg #[pv, rv], mv, xv, .int .i64 skip] w fun e w' => ∃ v, e = .returned v ∧ CanL w' v (wL rs ms row skip rs.length) 122 ∧ Fresh w.heap.size v ∧ Below w.heap.size w w' :=
  (weighF_any pv rv mv xv ps rs row ms skip w hp hr hm hx hn21 hpr hrow60 hok hpk).mono fun e w' ⟨v, he, h1, h2⟩ => ⟨v, he, h1.can, h1.fresh, h2⟩
end Go.Proofs.Ytneoglmfabilnaa
