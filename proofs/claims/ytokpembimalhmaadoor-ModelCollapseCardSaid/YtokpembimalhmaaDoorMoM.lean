/- The walk of model.Monotone. -/
import Derived.Test.YtokpembimalhmaaDoorMoL
import Derived.Test.YtokpembimalhmaaDoorMoR
import Derived.Test.YtokpembimalhmaaDoorOwn
import Derived.WalkSpells
import Derived.Lib.SliceRun
import Derived.Deep.QuietTactic
import Derived.BigQuiet
import Derived.RegionTactic
import Derived.BigRegion
namespace Go.Proofs.YtokpembimalhmaaDoor
open Go.RowKit
set_option linter.unusedVariables false

theorem nums_one (zs : List Int) : ∀ u ∈ zs.map (Value.int .i64), u.oneCell' = true := by
  intro u hu
  obtain ⟨x, _, rfl⟩ := List.mem_map.1 hu
  rfl
set_option maxRecDepth 10000 in
set_option maxHeartbeats 2000000 in
theorem clone_any (v : Value) (zs : List Int) (w : World) (h : Nums .i64 w v zs) (hn : 0 < zs.length) (h6 : zs.length ≤ 100) :
    Calls Tryd.prog 34 #[v] w fun e w' => ∃ A c, e = .returned (.slice A zs.length c) ∧ w'.ownsRow w.heap.size 3 1 (.slice A zs.length c) zs.length (zs.map (Value.int .i64)) ∧ Below w.heap.size w w' := by
  obtain ⟨A, c, rfl, hc, hm, hs⟩ := h
  obtain ⟨b, o, rfl, hb, _⟩ := hs.num hn
  have hs' := hs.below ((Below.refl w.heap.size w).alloc (Nat.le_refl _) (.cells #[] 3))
  have hown : (w.alloc (.cells #[] 3)).ownsRow w.heap.size 3 1 (.slice (some ⟨w.heap.size, 0, none⟩) 0 0) 0 [] := own_zero w (.int .i64 0) 3 0 (by unfold maxLen; omega)
  have ho := nums_one zs
  have HO := Lib.hid ho
  clear ho
  unfold maxLen at hm
  generalize zs.length = n at *
  have q22 : ∀ (w : World) (a : Option Addr) (n c n' c' : Nat), (binOp .eql 31 (.slice a n c) (.slice none n' c')).run Tryd.prog w = .ok (.bool a.isNone) w := fun w a n c n' c' => Lib.run_eql_slice_nil w _ _ a n c n' c' Tryd.underlying31
  go_enter Tryd.func34, Tryd.ntmps34
  go_wp2_with (at_builtin; refine wpList_append_sl0 _ rfl (.tmp 5) (.tmp 6) 31 rfl w.heap.size 3 (.int .i64 0) 8 Tryd.underlying31 infoInt rfl _ _ n c _ rfl rfl hown hs' HO.out (by unfold maxLen; omega) (by omega) (by simp) ?_; intro A' c' w' ho' hb')
  go_ret
  exact ⟨A', c', rfl, ho', ((Below.refl _ _).alloc (Nat.le_refl _) _).trans hb'⟩

set_option maxHeartbeats 8000000 in
theorem mmono_any (rv : Value) (rows : List (List Int)) (w : World) (h : IntsL w rv rows) :
    Calls Tryd.prog 14 #[.agg #[rv]] w fun e w' => e = .returned (.bool (monoB (modE rows (rows.length : Int)) (catsOf rows) rows)) ∧ Below w.heap.size w w' := by
  have h0 := h
  obtain ⟨A, c, us0, rfl, hc, hm, hs, hu⟩ := h
  have HU := Lib.hid hu
  unfold maxLen at hm
  clear hu
  have hrb := Row.new w 24 [.slice A rows.length c]
  have B0 : Below w.heap.size w (w.alloc (.cells #[.slice A rows.length c] 24)) := (Below.refl _ _).alloc (Nat.le_refl _) _
  have a0 : (w.alloc (.cells #[.slice A rows.length c] 24)).cell? ⟨w.heap.size, 0, none⟩ = some (.slice A rows.length c) := hrb.cell 0
  go_enter Tryd.func14, Tryd.ntmps14
  go_wp2_with fail
  refine (mvalid1_any _ rows _ (h0.below B0)).mono ?_
  rintro e w1 ⟨rfl, hb⟩
  have B1 : Below w.heap.size w w1 := B0.trans (hb.mono B0.size)
  replace hrb := hrb.keep hb
  clear hb B0 a0
  have a0 : w1.cell? ⟨w.heap.size, 0, none⟩ = some (.slice A rows.length c) := hrb.cell 0
  by_cases v1 : modE rows (rows.length : Int) = 0
  case neg =>
    have HE := Lib.hid (monoB_no (m := catsOf rows) (rows := rows) v1)
    have f : (modE rows (rows.length : Int) != 0) = true := by rw [bne_iff_ne]; exact v1
    clear v1
    obtain ⟨E, hE⟩ : ∃ E, modE rows (rows.length : Int) = E := ⟨_, rfl⟩
    rw [hE] at f ⊢
    have HEE := Lib.hid hE
    clear hE
    go_wp2_with fail
    go_ret
    exact ⟨by rw [HE.out]; rfl, B1⟩
  have f : (modE rows (rows.length : Int) != 0) = false := by rw [bne_eq_false_iff_eq]; exact v1
  obtain ⟨z1, z2, z3, z4, z5, z6⟩ := modE_zero v1
  have HE := Lib.hid (monoB_eq (m := catsOf rows) (rows := rows) v1)
  have HG := Lib.hid (show ∀ r ∈ rows, r.length = catsOf rows ∧ ∀ x ∈ r, 1 ≤ x ∧ x ≤ 1000 from fun r hr => ⟨(z6 r hr).1, (z6 r hr).2.1⟩)
  have z2' : rows.length ≤ 21 := by omega
  clear z3 z6 v1 z1 z2
  obtain ⟨E, hE⟩ : ∃ E, modE rows (rows.length : Int) = E := ⟨_, rfl⟩
  rw [hE] at f ⊢
  have HEE := Lib.hid hE
  clear hE
  have HCt := Lib.hid (cats_any _ rows w1 (h0.below B1))
  obtain ⟨m, hcm⟩ : ∃ m, catsOf rows = m := ⟨_, rfl⟩
  rw [hcm] at z4 z5 HG HCt HE
  have HM := Lib.hid hcm
  clear hcm
  go_wp2_with fail
  refine HCt.out.mono ?_
  clear HCt
  rintro e w2 ⟨rfl, hb⟩
  have B2 : Below w.heap.size w w2 := B1.trans (hb.mono B1.size)
  replace hrb := hrb.keep hb
  clear hb B1 a0
  have a0 : w2.cell? ⟨w.heap.size, 0, none⟩ = some (.slice A rows.length c) := hrb.cell 0
  have zl := hrb.lt
  have hmk := run_mk (P := Tryd.prog) Tryd.underlying31 infoInt rfl m (by omega) (by omega)
  have hnew : Nums .i64 (w2.alloc (.cells (zrow (.int .i64 0) m) 3)) (.slice (some ⟨w2.heap.size, 0, none⟩) m m) (prevL m rows 0) := by
    have := Nums.of_row (zs := List.replicate m 0) (k := .i64) (t := 3) (w := w2.alloc (.cells (zrow (.int .i64 0) m) 3)) (g := w2.heap.size) (by simpa using Row.newz w2 3 (.int .i64 0) m) (by simp; unfold maxLen; omega)
    simpa [prevL_zero] using this
  have BN : Below w.heap.size w (w2.alloc (.cells (zrow (.int .i64 0) m) 3)) := B2.alloc B2.size _
  go_wp2_with fail
  clear f hmk
  go_loopw [3, 19] (fun v i wr => ∃ (q : Nat) (V : Option Addr) (cv : Nat), q ≤ rows.length ∧ i = .int .i64 (q : Int) ∧ v = .slice V m cv ∧ Nums .i64 wr (.slice V m cv) (prevL m rows q) ∧ Hid (∀ p, p < q → 0 < p → leS m (rows.getD (p - 1) []) (rows.getD p []) = true) ∧ Below w.heap.size w wr) (fun _ i _ => rows.length - (intOf i).toNat)
  case atStart => exact ⟨0, _, _, by omega, rfl, rfl, hnew, fun p hp => by omega, BN⟩
  case round =>
    clear hnew BN
    obtain ⟨q, V, cv, hq, rfl, rfl, hpv, hinv, BW⟩ := hrel
    obtain ⟨wo, rfl⟩ : ∃ wo : World, wo = wr := ⟨_, rfl⟩
    by_cases hlt : q < rows.length
    · obtain ⟨b1, o1, u1, rfl, hb1, g1, hI⟩ := lst_at hs HU.out hlt
      have g2 : wo.cell? ⟨b1, o1 + q, none⟩ = some u1 := (BW.cell (p := ⟨b1, o1 + q, none⟩) hb1).trans g1
      have HRm := HG.out _ (mem_getD [] hlt)
      have HBAD := Lib.hid (fun k hk hb => prev_bad (q := q) (k := k) HG.out z5 hlt hk hb)
      have HOK := Lib.hid (fun hb h0 => prev_ok (q := q) HG.out hlt hb h0)
      have HPS := Lib.hid (prevL_succ m rows q)
      have hI' := hI.below BW
      clear g1
      have HLP := Lib.hid (prevL_len (m := m) (rows := rows) (q := q) (fun r hr => (HG.out r hr).1) (by omega))
      generalize hrr : rows.getD q [] = r at *
      have HRR := Lib.hid hrr
      clear hrr
      obtain ⟨hrl, hrx⟩ := HRm
      have HSX := Lib.hid (fun k => sfx_in hrx (by omega) k)
      have HRX := Lib.hid hrx
      have hI0 := hI'
      obtain ⟨R, cR, rfl, r1, r2, r3⟩ := hI
      unfold maxLen at r2
      have HC := Lib.hid (clone_any _ r wo hI0 (by omega) (by omega))
      rw [hrl] at r1 r3 g2 HC
      have HRL := Lib.hid hrl
      clear hrl hrx hI' hI0
      go_wp2_with fail
      refine HC.out.mono ?_
      rintro e w3 ⟨C, cc, rfl, hown, hb3⟩
      have hpv3 := hpv.below hb3
      have B3 : Below w.heap.size w w3 := BW.trans (hb3.mono BW.size)
      have hps : Hid (psum r (m - 1) = r) := psum_full (by rw [HRL.out]; omega)
      have i1 : 0 ≤ (m : Int) - 2 := by omega
      go_wp2_with fail
      go_loopw [7] (fun i wr => ∃ K : Nat, K + 1 ≤ m ∧ i = .int .i64 ((K : Int) - 1) ∧ wr.ownsRow wo.heap.size 3 1 (.slice C m cc) m ((psum r K).map (Value.int .i64)) ∧ Below wo.heap.size w3 wr) (fun i _ => (intOf i + 1).toNat)
      case atStart => exact ⟨m - 1, by omega, by go_num, by rw [hps.out]; exact hown, Below.refl _ _⟩
      case round =>
        obtain ⟨K, hK, rfl, howk, hbk⟩ := hrel
        rcases K with _ | K
        case succ =>
          rw [show ((K + 1 : Nat) : Int) - 1 = (K : Int) by omega]
          obtain ⟨g, cap, hv, k1, k2, k3, k4, k5, k6, k7⟩ := own_at howk (show K < m by omega)
          obtain ⟨g', cap', hv', _, _, _, _, k5', _, _⟩ := own_at howk (show K + 1 < m by omega)
          rw [hv] at hv'
          injection hv' with e1 e2 e3
          injection e1 with e1
          injection e1 with e1
          subst e1
          clear e2 e3
          injection hv with d1 d2 d3
          subst d1 d3
          have g3 := k5.trans (map_get (by rw [psum_len, HRL.out]; omega))
          have g4 := k5'.trans (map_get (by rw [psum_len, HRL.out]; omega))
          rw [psum_get (by rw [HRL.out]; omega), if_neg (by omega)] at g3
          rw [psum_get (by rw [HRL.out]; omega), if_pos (Nat.le_refl _)] at g4
          have HSET := Lib.hid (psum_set (r := r) (K := K) (by rw [HRL.out]; omega))
          obtain ⟨x1, x2⟩ := HRX.out _ (mem_getD 0 (show K < r.length by rw [HRL.out]; omega))
          obtain ⟨x3, x4⟩ := HSX.out (K + 1)
          have HP := Lib.hid (k7 (.int .i64 (r.getD K 0 + sfx r (K + 1))))
          rw [← List.map_set, HSET.out] at HP
          clear k5 k5' k7 HSET
          generalize r.getD K 0 = x at *
          generalize sfx r (K + 1) = y at *
          have s1 : IntKind.i64.wrap (x + y) = x + y := by rw [IntKind.wrap_i64]; omega
          have s2 : IntKind.i64.wrap ((K : Int) + 1) = (K : Int) + 1 := by rw [IntKind.wrap_i64]; omega
          have s3 : ((K : Int) + 1).toNat = K + 1 := by omega
          have i2 : 0 ≤ (K : Int) + 1 := by omega
          have i3 : (K : Int) + 1 < (m : Int) := by omega
          have i4 : (K : Int) < (m : Int) := by omega
          go_wp2_with fail
          go_region
          all_goals
            clear s1 s2 s3
            go_wp2_with fail
            go_roundw
            case rel => exact ⟨K, by omega, by go_num, HP.out, (hbk.setCell k3 _).drew⟩
            case measure => (first | (simp [intOf]; done) | (simp [intOf]; omega))
        case zero =>
          have hnu := Nums.of_own howk
          have hpv4 := hpv.below (hb3.trans hbk)
          have BR : Below w.heap.size w wr := B3.trans (hbk.mono BW.size)
          have hsn : Sl wr C m ((psum r 0).map (Value.int .i64)) := by
            obtain ⟨A', c', e, _, _, s⟩ := hnu
            rw [psum_len, HRL.out] at e s
            injection e with e1 _ _
            subst e1
            exact s
          have hsp : Sl wr V m ((prevL m rows q).map (Value.int .i64)) := by
            obtain ⟨A', c', e, _, _, s⟩ := hpv4
            rw [HLP.out] at e s
            injection e with e1 _ _
            subst e1
            exact s
          rw [show ((0 : Nat) : Int) - 1 = -1 by omega]
          go_wp2_with fail
          go_loop [45] (fun i => ∃ j : Nat, j ≤ m ∧ i = .int .i64 (j : Int) ∧ Hid (∀ k, k < j → (prevL m rows q).getD k 0 ≤ sfx r k)) (fun i => m - (intOf i).toNat)
          case atStart => exact ⟨0, by omega, rfl, fun k hk => by omega⟩
          case round =>
            obtain ⟨j, hj, rfl, hin⟩ := hrel
            by_cases hltj : j < m
            · obtain ⟨b5, o5, rfl, hb5, hc5⟩ := hsn.num hltj
              obtain ⟨b6, o6, rfl, hb6, hc6⟩ := hsp.num hltj
              have g5 := hc5 j hltj
              have g6 := hc6 j hltj
              rw [psum_get (by rw [HRL.out]; exact hltj), if_pos (Nat.zero_le _)] at g5
              clear hc5 hc6
              have HB := Lib.hid (HBAD.out j hltj)
              have HI := Lib.hid (fun h => all_up (p := fun k => (prevL m rows q).getD k 0 ≤ sfx r k) (k := j) hin.out h)
              clear hin
              generalize (prevL m rows q).getD j 0 = y at *
              generalize sfx r j = x at *
              by_cases hxy : x < y
              · have HM2 := Lib.hid (HB.out hxy)
                have d := decide_eq_true hxy
                clear hxy
                go_wp2_with fail
                go_ret
                exact ⟨by rw [HM.out, HE.out, HM2.out]; rfl, BR⟩
              · have HJ := Lib.hid (HI.out (by omega))
                have d := decide_eq_false hxy
                clear hxy HB HI
                go_wp2_with fail
                go_round
                case rel => exact ⟨j + 1, by omega, by go_num, HJ.out⟩
                case measure => simp [intOf]; omega
            · have HIN : Hid (∀ p, p < q + 1 → 0 < p → leS m (rows.getD (p - 1) []) (rows.getD p []) = true) := fun p hp h1 => by
                rcases Nat.lt_succ_iff_lt_or_eq.1 hp with h2 | h2
                · exact hinv.out p h2 h1
                · subst h2
                  rw [HRR.out]
                  exact HOK.out (fun k hk => hin.out k (by omega)) h1
              have hnp : Nums .i64 wr (.slice C m cc) (prevL m rows (q + 1)) := by rw [HPS.out]; exact hnu
              clear hnu
              go_wp2_with fail
              go_roundw
              case rel => exact ⟨q + 1, C, cc, by omega, by go_num, rfl, hnp, HIN.out, BR⟩
              case measure => simp [intOf]; omega
    · obtain rfl : q = rows.length := by omega
      have HL := Lib.hid (monoL_upto (m := m) (rows := rows) hinv.out)
      go_wp2_with fail
      go_ret
      exact ⟨by rw [HM.out, HE.out, HL.out]; rfl, BW⟩
end Go.Proofs.YtokpembimalhmaaDoor
