/- The walk of the reference's weights. -/
import Derived.Test.YtneoglmfabilnaaCalB
namespace Go.Proofs.Ytneoglmfabilnaa
open Go.RowKit
set_option linter.unusedVariables false

theorem off_own {w w' : World} {base e n L : Nat} {v x : Value} {us : List Value} {N : Nat} (ho : w.ownsRow base e 1 v n us) (hx : NRes w w' x N L) : Off v.ownBlock x := by
  rcases hb : v.ownBlock with _ | j
  · exact Off.none_ _
  · exact Off.of_fresh hx.fresh ((ho.lt j hb).2)

set_option maxHeartbeats 4000000 in
theorem rweights_any (pv rv mv xv : Value) (ps rs row : List Int) (ms : List (List (List Int))) (skip : Int) (w : World) (hp : Nums .i64 w pv ps) (hr : Nums .i64 w rv rs) (hm : ModL w mv ms) (hx : Nums .i64 w xv row)
    (hn21 : rs.length ≤ 21) (hpr : ps.length = rs.length) (hrow60 : row.length ≤ 60) (hrm : row.length = ms.length) (hok : WOK rs.length ms row skip) (hpk : POK rs.length rs) :
    Calls Try.prog 35 #[.agg #[pv, rv], mv, xv, .int .i64 skip] w fun e w' => ∃ v, e = .returned v ∧ CanL w' v (wL rs ms row skip rs.length) 122 ∧ Below w.heap.size w w' := by
  obtain ⟨A, c, rfl, hc, hm1, hsp⟩ := hp
  obtain ⟨B, c', rfl, hc', hm2, hsr⟩ := hr
  obtain ⟨M, cM, us, rfl, k1, k2, hs, hu⟩ := hm
  obtain ⟨X, cX, rfl, x1, x2, hsx⟩ := hx
  have HU := Lib.hid hu
  have HOK := Lib.hid hok
  have HPK := Lib.hid hpk
  obtain ⟨n, hn⟩ : ∃ n, rs.length = n := ⟨_, rfl⟩
  obtain ⟨m, hm'⟩ : ∃ m, row.length = m := ⟨_, rfl⟩
  have hpn : ps.length = n := by omega
  have hmm : ms.length = m := by omega
  have HN := Lib.hid hn
  have HM := Lib.hid hm'
  have HMM := Lib.hid hmm
  rw [hpn]
  rw [hmm] at hs k1 ⊢
  rw [hn] at hsr hn21 HOK HPK ⊢
  rw [hm'] at hsx hrow60 ⊢
  have hrb := Row.new w 24 [.slice A n c, .slice B n c']
  clear hu hsp hok hpk hpr hc hc' hn hm1 hm2 hpn hmm hm' hrm
  unfold maxLen at k2 x2
  go_enter Try.func35, Try.ntmps35
  go_wp2_with fail
  go_loopw [9, 10] (fun v i wr => ∃ (k : Nat) (ws : List Value) (V : Option Addr) (cv : Nat), k ≤ n ∧ i = .int .i64 (k : Int) ∧ v = .slice V k cv ∧ CollO wr ws (wL rs ms row skip n) k 122 (Value.slice V k cv).ownBlock ∧ wr.ownsRow (w.heap.size + 1) 32 1 (.slice V k cv) k ws ∧ Row wr w.heap.size 24 [.slice A n c, .slice B n c'] ∧ Below w.heap.size w wr) (fun _ i _ => n - (intOf i).toNat)
  case atStart => exact ⟨0, [], none, 0, by omega, rfl, rfl, CollO.zero _ _ _ _, World.ownsRow_nil _ _ _ _, hrb, (Below.refl _ _).alloc (Nat.le_refl _) _⟩
  case round =>
    obtain ⟨k, ws, V, cv, hk, rfl, rfl, hco, hown, hg, hb⟩ := hrel
    have q0 : wr.cell? ⟨w.heap.size, 0, none⟩ = some (.slice A n c) := hg.cell 0
    have q1 : wr.cell? ⟨w.heap.size, 1, none⟩ = some (.slice B n c') := hg.cell 1
    by_cases hlt : k < n
    · obtain ⟨b2, o2, rfl, hb2, hcell⟩ := hsr.num hlt
      have g1 : wr.cell? ⟨b2, o2 + k, none⟩ = some (.int .i64 (rs.getD k 0)) := (hb.cell (p := ⟨b2, o2 + k, none⟩) hb2).trans (hcell k hlt)
      obtain ⟨y1, y2⟩ := HPK.out k hlt
      obtain ⟨p0, hp0⟩ := Int.eq_ofNat_of_zero_le y1
      have HG := Lib.hid (wL_get rs ms row skip n k hlt)
      rw [hp0] at g1 y1 y2 HG
      rw [Int.toNat_natCast, HM.out] at HG
      clear hcell hp0
      obtain ⟨wo, rfl⟩ : ∃ wo : World, wo = wr := ⟨_, rfl⟩
      go_wp2_with fail
      refine (rof_any p0 _ (by omega)).mono ?_
      rintro e w2 ⟨v, rfl, hv⟩
      have hbe := hv.bel
      have hoff := off_own hown hv
      have hv' := hv
      obtain ⟨ls, ⟨⟨C0, c0, rfl, _, _, _⟩, _⟩, _⟩ := hv'
      have hst := hco.below hbe
      have hown2 := own_keep hown hbe
      have hg2 := hg.keep hbe
      have hb3 : Below w.heap.size w w2 := hb.trans (hbe.mono hb.size)
      have hna := hv.nat
      go_wp2_with fail
      go_loopw [11, 12] (fun v i wr => ∃ (j : Nat) (C : Option Addr) (lc cc : Nat), j ≤ m ∧ i = .int .i64 (j : Int) ∧ v = .slice C lc cc ∧ NatAt wr (.slice C lc cc) (wUp ms row skip k p0 j) (2 + 2 * j) ∧ Off (Value.slice V k cv).ownBlock (.slice C lc cc) ∧ CollO wr ws (wL rs ms row skip n) k 122 (Value.slice V k cv).ownBlock ∧ wr.ownsRow (w.heap.size + 1) 32 1 (.slice V k cv) k ws ∧ Row wr w.heap.size 24 [.slice A n c, .slice (some ⟨b2, o2, none⟩) n c'] ∧ Below w.heap.size w wr) (fun _ i _ => m - (intOf i).toNat)
      case atStart => exact ⟨0, C0, ls.length, c0, by omega, rfl, rfl, hna, hoff, hst, hown2, hg2, hb3⟩
      case round =>
        obtain ⟨j, C, lc, cc, hj, rfl, rfl, hnat, hfc, hcl, howr, hgr, hbb⟩ := hrel
        clear hst hown2 hg2 hb3 hna hv hbe hco hb g1 hoff hown hg q0 q1
        by_cases hlt2 : j < m
        · obtain ⟨b3, o3, rfl, hb3, hcell⟩ := hsx.num hlt2
          have g3 : wr.cell? ⟨b3, o3 + j, none⟩ = some (.int .i64 (row.getD j 0)) := (hbb.cell (p := ⟨b3, o3 + j, none⟩) hb3).trans (hcell j hlt2)
          clear hcell
          by_cases hcase : (j : Int) ≠ skip ∧ 0 ≤ row.getD j 0
          · obtain ⟨e1, e2⟩ := hcase
            obtain ⟨z1, z2⟩ := HOK.out j (by rw [HM.out]; exact hlt2) e1 e2
            obtain ⟨z3, z4, z5, z6⟩ := z2 k hlt
            obtain ⟨b4, o4, u4, rfl, hb4, g4, hI⟩ := lst_at hs HU.out hlt2
            have g5 : wr.cell? ⟨b4, o4 + j, none⟩ = some u4 := (hbb.cell (p := ⟨b4, o4 + j, none⟩) hb4).trans g4
            obtain ⟨R, cR, vs, rfl, r1, r2, r3, r4⟩ := hI
            obtain ⟨b5, o5, u5, rfl, hb5, g6, hI5⟩ := lst_at r3 r4 z3
            have g7 : wr.cell? ⟨b5, o5 + k, none⟩ = some u5 := (hbb.cell (p := ⟨b5, o5 + k, none⟩) hb5).trans g6
            obtain ⟨S5, c5, rfl, s1, s2, s3⟩ := hI5
            obtain ⟨b6, o6, rfl, hb6, hcell6⟩ := s3.num z4
            have g8 := (hbb.cell (p := ⟨b6, o6 + (row.getD j 0).toNat, none⟩) hb6).trans (hcell6 _ z4)
            have HW := Lib.hid (wUp_yes (ms := ms) (q := k) (p0 := p0) e1 e2)
            have f1 : ((j : Int) != skip) = true := by rw [bne_iff_ne]; exact e1
            have f2 : decide (0 ≤ row.getD j 0) = true := by simpa using e2
            obtain ⟨y, hy⟩ := Int.eq_ofNat_of_zero_le e2
            obtain ⟨fx, hfx⟩ := Int.eq_ofNat_of_zero_le z5
            have HF := Lib.hid (show fac ms row k j = fx by unfold fac; rw [hfx]; rfl)
            rw [hfx] at z6 g8
            rw [hy] at g3 f2 z4 g8
            rw [Int.toNat_natCast] at z4 g8
            clear z1 z2 z5 hy hfx e1 e2 g4 g6 hcell6 s3 r3 r4
            obtain ⟨la, hla1, hla2, hla3, hla4⟩ := hnat
            unfold maxLen at r2 s2
            generalize (ms.getD j []).getD k [] = rowq at *
            generalize ms.getD j [] = rows at *
            have i1 : 0 ≤ (k : Int) := by omega
            have i2 : (k : Int) < (rows.length : Int) := by omega
            have i3 : 0 ≤ (j : Int) := by omega
            have i4 : (j : Int) < (m : Int) := by omega
            have i5 : 0 ≤ (y : Int) := by omega
            have i6 : (y : Int) < (rowq.length : Int) := by omega
            have i7 : IntKind.u64.wrap (fx : Int) = (fx : Int) := by rw [IntKind.wrap_u64]; omega
            go_wp2_with fail
            go_region_held3 (fun w' => w'.cell? ⟨b4, o4 + j, none⟩ = some (.slice (some ⟨b5, o5, none⟩) rows.length cR) ∧ w'.cell? ⟨b5, o5 + k, none⟩ = some (.slice (some ⟨b6, o6, none⟩) rowq.length c5) ∧ w'.cell? ⟨b3, o3 + j, none⟩ = some (.int .i64 (y : Int)) ∧ w'.cell? ⟨b6, o6 + y, none⟩ = some (.int .i64 (fx : Int)) ∧ Below wr.heap.size wr w')
              (first
                | exact ⟨g5, g7, g3, g8, Below.refl _ _⟩
                | exact ⟨g5, g7, g3, g8, (Below.refl _ _).drew⟩
                | exact ⟨(h66.cell (p := ⟨b4, o4 + j, none⟩) (Nat.lt_of_lt_of_le hb4 (Nat.le_trans hbb.size h56.size))).trans ((h56.cell (p := ⟨b4, o4 + j, none⟩) (Nat.lt_of_lt_of_le hb4 hbb.size)).trans g5), (h66.cell (p := ⟨b5, o5 + k, none⟩) (Nat.lt_of_lt_of_le hb5 (Nat.le_trans hbb.size h56.size))).trans ((h56.cell (p := ⟨b5, o5 + k, none⟩) (Nat.lt_of_lt_of_le hb5 hbb.size)).trans g7), (h66.cell (p := ⟨b3, o3 + j, none⟩) (Nat.lt_of_lt_of_le hb3 (Nat.le_trans hbb.size h56.size))).trans ((h56.cell (p := ⟨b3, o3 + j, none⟩) (Nat.lt_of_lt_of_le hb3 hbb.size)).trans g3), (h66.cell (p := ⟨b6, o6 + y, none⟩) (Nat.lt_of_lt_of_le hb6 (Nat.le_trans hbb.size h56.size))).trans ((h56.cell (p := ⟨b6, o6 + y, none⟩) (Nat.lt_of_lt_of_le hb6 hbb.size)).trans g8), (undrew1 h56).trans (h66.mono h56.size)⟩
                | exact ⟨(h56.cell (p := ⟨b4, o4 + j, none⟩) (Nat.lt_of_lt_of_le hb4 hbb.size)).trans g5, (h56.cell (p := ⟨b5, o5 + k, none⟩) (Nat.lt_of_lt_of_le hb5 hbb.size)).trans g7, (h56.cell (p := ⟨b3, o3 + j, none⟩) (Nat.lt_of_lt_of_le hb3 hbb.size)).trans g3, (h56.cell (p := ⟨b6, o6 + y, none⟩) (Nat.lt_of_lt_of_le hb6 hbb.size)).trans g8, undrew1 h56⟩)
              (first
                | (go_at_call 57; refine (rof_any fx _ ?_).mono ?_; omega; rintro e w5 ⟨v5, rfl, lf, h51, h52, h53, h54, h55, h56⟩)
                | (go_at_call 58; refine (rmul_any _ _ la lf _ ?_ ?_ ?_ ?_).mono ?_; exact hla1.below (undrew1 h56); exact h51; omega; omega; rintro e w6 ⟨v6, rfl, lg, ⟨⟨VA, vc, rfl, hv1, hv2, hv3⟩, hv4⟩, h62, h63, h64, h65, h66⟩))
            clear i7
            have B6 : Below wr.heap.size wr w6 := (undrew1 h56).trans (h66.mono h56.size)
            have hN6 : NatAt w6 (.slice VA lg.length vc) (wUp ms row skip k p0 (j + 1)) (2 + 2 * (j + 1)) := ⟨lg, ⟨⟨VA, vc, rfl, hv1, hv2, hv3⟩, hv4⟩, h62, by rw [h63, hla3, h53, HW.out, HF.out], by omega⟩
            have hO6 : Off (Value.slice V k cv).ownBlock (.slice VA lg.length vc) := by
              rcases hx : (Value.slice V k cv).ownBlock with _ | jj
              · exact Off.none_ _
              · exact Off.of_fresh h65 (Nat.lt_of_lt_of_le (howr.lt jj hx).2 h56.size)
            have hc6 := hcl.below B6
            have ho6 := own_keep howr B6
            have hg6 := hgr.keep B6
            have hb6' : Below w.heap.size w w6 := hbb.trans (B6.mono hbb.size)
            clear h51 h52 h53 h54 h55 h56 hv1 hv2 hv3 hv4 h62 h63 h64 h65 h66 B6 g3 g5 g7 g8
            go_wp2
            go_roundw
            case rel => exact ⟨j + 1, VA, lg.length, vc, by omega, by go_num, rfl, hN6, hO6, hc6, ho6, hg6, hb6'⟩
            case measure => simp [intOf]; omega
          · have HW := Lib.hid (wUp_no (ms := ms) (q := k) (p0 := p0) hcase)
            by_cases e1 : (j : Int) = skip
            · have f1 : ((j : Int) != skip) = false := by rw [bne_eq_false_iff_eq]; exact e1
              clear hcase e1
              generalize row.getD j 0 = rj at *
              go_wp2_with fail
              go_roundw
              case rel => exact ⟨j + 1, C, lc, cc, by omega, by go_num, rfl, by rw [HW.out]; exact hnat.mono (by omega), hfc, hcl, howr, hgr, hbb⟩
              case measure => simp [intOf]; omega
            · have f1 : ((j : Int) != skip) = true := by rw [bne_iff_ne]; exact e1
              have e2 : row.getD j 0 < 0 := by
                rcases Int.lt_or_le (row.getD j 0) 0 with h | h
                · exact h
                · exact absurd ⟨e1, h⟩ hcase
              have f2 : decide (0 ≤ row.getD j 0) = false := by simp only [decide_eq_false_iff_not]; omega
              clear hcase e1
              generalize row.getD j 0 = rj at *
              go_wp2_with fail
              go_roundw
              case rel => exact ⟨j + 1, C, lc, cc, by omega, by go_num, rfl, by rw [HW.out]; exact hnat.mono (by omega), hfc, hcl, howr, hgr, hbb⟩
              case measure => simp [intOf]; omega
        · obtain rfl : j = m := by omega
          have zb : w.heap.size + 1 ≤ wr.heap.size := hgr.lt
          have hsn := hcl.snoc (by rw [HG.out]; exact hnat.mono (by omega)) hfc
          go_wp2_with (at_builtin; refine wpList_append_oneG wr rfl (.tmp 61) (.tmp 63) 26 rfl (w.heap.size + 1) 32 (.slice none 0 0) 24 Try.underlying26 infoNat rfl (.slice V k cv) k ws (.slice C lc cc) rfl rfl howr rfl (by unfold maxLen; omega) (by omega) zb ?_; intro A' c3 w3 hown3 hb3 hg3 hr3)
          go_roundw
          case rel => exact ⟨k + 1, ws ++ [.slice C lc cc], A', c3, by omega, by go_num, rfl, hsn.grown hg3 hr3, hown3, hgr.below hb3 (by omega), hbb.trans (hb3.mono (by omega))⟩
          case measure => simp [intOf]; omega
    · obtain rfl : k = n := by omega
      go_wp2_with fail
      go_ret
      have hl : (wL rs ms row skip k).length = k := wL_len _ _ _ _ _
      refine ⟨.slice V k cv, rfl, ?_, hb⟩
      rw [← hl] at hco
      exact CollO.can (row := (Value.slice V (wL rs ms row skip k).length cv).ownBlock) (by rw [hl]; rw [hl] at hco; exact hco) (by rw [hl]; exact hown)
end Go.Proofs.Ytneoglmfabilnaa
