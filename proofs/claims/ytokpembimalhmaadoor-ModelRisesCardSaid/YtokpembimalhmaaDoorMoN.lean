/- The walk of the reference's Monotone. -/
import Derived.Test.YtokpembimalhmaaDoorMoL
namespace Go.Proofs.YtokpembimalhmaaDoor
open Go.RowKit
set_option linter.unusedVariables false

theorem monoL_upto' {m : Nat} {rows : List (List Int)} (h : ∀ p, p + 1 < rows.length → leS m (rows.getD p []) (rows.getD (p + 1) []) = true) : monoL m rows = true := monoL_iff.2 h
set_option maxHeartbeats 8000000 in
theorem rmono_any (rv : Value) (rows : List (List Int)) (w : World) (h : IntsL w rv rows) :
    Calls Tryd.prog 15 #[.agg #[rv]] w fun e w' => e = .returned (.bool (monoB (modE rows (rows.length : Int)) (catsOf rows) rows)) ∧ Below w.heap.size w w' := by
  have h0 := h
  obtain ⟨A, c, us0, rfl, hc, hm, hs, hu⟩ := h
  have HU := Lib.hid hu
  unfold maxLen at hm
  clear hu
  have hrb := Row.new w 24 [.slice A rows.length c]
  have B0 : Below w.heap.size w (w.alloc (.cells #[.slice A rows.length c] 24)) := (Below.refl _ _).alloc (Nat.le_refl _) _
  have a0 : (w.alloc (.cells #[.slice A rows.length c] 24)).cell? ⟨w.heap.size, 0, none⟩ = some (.slice A rows.length c) := hrb.cell 0
  go_enter Tryd.func15, Tryd.ntmps15
  go_wp2_with fail
  refine (rmvalid_any _ rows _ _ (h0.below B0)).mono ?_
  rintro e w1 ⟨rfl, hb⟩
  have B1 : Below w.heap.size w w1 := B0.trans (hb.mono B0.size)
  replace hrb := hrb.keep hb
  clear hb B0 a0
  have a0 : w1.cell? ⟨w.heap.size, 0, none⟩ = some (.slice A rows.length c) := hrb.cell 0
  by_cases v1 : modE rows (rows.length : Int) = 0
  case neg =>
    have HE := Lib.hid (monoB_no (m := catsOf rows) (rows := rows) v1)
    have f : (modE rows (rows.length : Int) != 0) = true := by rw [bne_iff_ne]; exact v1
    clear v1
    obtain ⟨E, hE⟩ : ∃ E, modE rows (rows.length : Int) = E := ⟨_, rfl⟩
    rw [hE] at f ⊢
    have HEE := Lib.hid hE
    clear hE
    go_wp2_with fail
    go_ret
    exact ⟨by rw [HE.out]; rfl, B1⟩
  have f : (modE rows (rows.length : Int) != 0) = false := by rw [bne_eq_false_iff_eq]; exact v1
  obtain ⟨z1, z2, z3, z4, z5, z6⟩ := modE_zero v1
  have HE := Lib.hid (monoB_eq (m := catsOf rows) (rows := rows) v1)
  have HG := Lib.hid (show ∀ r ∈ rows, r.length = catsOf rows ∧ ∀ x ∈ r, 1 ≤ x ∧ x ≤ 1000 from fun r hr => ⟨(z6 r hr).1, (z6 r hr).2.1⟩)
  have z2' : rows.length ≤ 21 := by omega
  have z1' : 1 ≤ rows.length := by omega
  clear z3 z6 v1 z1 z2
  obtain ⟨E, hE⟩ : ∃ E, modE rows (rows.length : Int) = E := ⟨_, rfl⟩
  rw [hE] at f ⊢
  have HEE := Lib.hid hE
  clear hE
  have zl := hrb.lt
  obtain ⟨m, hcm⟩ : ∃ m, catsOf rows = m := ⟨_, rfl⟩
  rw [hcm] at z4 z5 HG HE
  have HM := Lib.hid hcm
  clear hcm
  go_wp2_with fail
  clear f
  go_loopw [3] (fun i wr => ∃ j : Nat, j + 1 ≤ rows.length ∧ i = .int .i64 ((j : Int) + 1) ∧ Hid (∀ p, p < j → leS m (rows.getD p []) (rows.getD (p + 1) []) = true) ∧ Below w1.heap.size w1 wr) (fun i _ => rows.length - (intOf i).toNat)
  case atStart => exact ⟨0, by omega, rfl, fun p hp => by omega, Below.refl _ _⟩
  case round =>
    obtain ⟨j, hj, rfl, hinv, hbo⟩ := hrel
    obtain ⟨wo, rfl⟩ : ∃ wo : World, wo = wr := ⟨_, rfl⟩
    have BW : Below w.heap.size w wo := B1.trans (hbo.mono B1.size)
    have hrbo := hrb.keep hbo
    have a0o : wo.cell? ⟨w.heap.size, 0, none⟩ = some (.slice A rows.length c) := hrbo.cell 0
    have zlo := hrbo.lt
    by_cases hlt : j + 1 < rows.length
    · obtain ⟨b1, o1, u1, rfl, hb1, g1, hI1⟩ := lst_at hs HU.out (show j < rows.length by omega)
      obtain ⟨b2, o2, u2, hA, hb2, g2, hI2⟩ := lst_at hs HU.out hlt
      injection hA with hA
      injection hA with hA1 hA2 _
      subst hA1 hA2
      have HR1 := HG.out _ (mem_getD [] (show j < rows.length by omega))
      have HR2 := HG.out _ (mem_getD [] hlt)
      have HBAD := Lib.hid (fun k hk hb => monoL_no (m := m) (k := k) hlt hk hb)
      have HOK := Lib.hid (fun h => all_up (p := fun p => leS m (rows.getD p []) (rows.getD (p + 1) []) = true) (k := j) hinv.out h)
      clear hinv
      generalize rows.getD j [] = a at *
      generalize rows.getD (j + 1) [] = b at *
      obtain ⟨ha, hax⟩ := HR1
      obtain ⟨hb, hbx⟩ := HR2
      have HSA := Lib.hid (fun k => sfx_in hax (by omega) k)
      have HSB := Lib.hid (fun k => sfx_in hbx (by omega) k)
      have HAX := Lib.hid hax
      have HBX := Lib.hid hbx
      obtain ⟨R1, c1, rfl, p1, p2, p3⟩ := hI1
      obtain ⟨R2, c2, rfl, q1, q2, q3⟩ := hI2
      unfold maxLen at p2 q2
      rw [ha] at p1 p3 g1
      rw [hb] at q1 q3 g2
      have HA := Lib.hid ha
      have HB := Lib.hid hb
      clear ha hb hax hbx
      have hC := Lib.hid (rcats_any _ rows wo (h0.below BW))
      rw [HM.out] at hC
      go_wp2_with fail
      refine hC.out.mono ?_
      rintro e w2 ⟨rfl, hb2'⟩
      have B2 : Below w.heap.size w w2 := BW.trans (hb2'.mono BW.size)
      have a02 : w2.cell? ⟨w.heap.size, 0, none⟩ = some (.slice (some ⟨b1, o1, none⟩) rows.length c) := (hrbo.keep hb2').cell 0
      have g1' := (B2.cell (p := ⟨b1, o1 + j, none⟩) hb1).trans g1
      have g2' := (B2.cell (p := ⟨b1, o1 + (j + 1), none⟩) hb1).trans g2
      have p3' := p3.below B2
      have q3' := q3.below B2
      clear g1 g2
      have hs1 : Hid (sfx a m = 0) := sfx_end (by rw [HA.out]; exact Nat.le_refl _)
      have hs2 : Hid (sfx b m = 0) := sfx_end (by rw [HB.out]; exact Nat.le_refl _)
      go_wp2_with fail
      go_loop [4, 5, 6] (fun lo up i => ∃ K : Nat, K ≤ m ∧ i = .int .i64 ((K : Int) - 1) ∧ lo = .int .i64 (sfx a K) ∧ up = .int .i64 (sfx b K) ∧ Hid (∀ k, K ≤ k → k < m → sfx a k ≤ sfx b k)) (fun _ _ i => (intOf i + 1).toNat)
      case atStart => exact ⟨m, by omega, by go_num, by rw [hs1.out], by rw [hs2.out], fun k h1 h2 => by omega⟩
      case round =>
        obtain ⟨K, hK, rfl, rfl, rfl, hin⟩ := hrel
        rcases K with _ | K
        case succ =>
          rw [show ((K + 1 : Nat) : Int) - 1 = (K : Int) by omega]
          obtain ⟨b3, o3, rfl, hb3, hc3⟩ := p3'.num (show K < m by omega)
          obtain ⟨b4, o4, rfl, hb4, hc4⟩ := q3'.num (show K < m by omega)
          have g3 := hc3 K (by omega)
          have g4 := hc4 K (by omega)
          obtain ⟨x1, x2⟩ := HAX.out _ (mem_getD 0 (show K < a.length by rw [HA.out]; omega))
          obtain ⟨y1, y2⟩ := HBX.out _ (mem_getD 0 (show K < b.length by rw [HB.out]; omega))
          obtain ⟨s1, s2⟩ := HSA.out (K + 1)
          obtain ⟨s3, s4⟩ := HSB.out (K + 1)
          have E1 := Lib.hid (sfx_step (r := a) (k := K) (by rw [HA.out]; omega))
          have E2 := Lib.hid (sfx_step (r := b) (k := K) (by rw [HB.out]; omega))
          clear hc3 hc4
          generalize a.getD K 0 = x at *
          generalize b.getD K 0 = y at *
          generalize sfx a (K + 1) = u at *
          generalize sfx b (K + 1) = v at *
          by_cases hxy : v + y < u + x
          · have HM2 := Lib.hid (HBAD.out K (by omega) (by rw [E1.out, E2.out]; omega))
            have d := decide_eq_true hxy
            clear hxy
            go_wp2_with fail
            go_ret
            exact ⟨by rw [HM.out, HE.out, HM2.out]; rfl, B2⟩
          · have HJ : Hid (∀ k, K ≤ k → k < m → sfx a k ≤ sfx b k) := fun k h1 h2 => by
              rcases Nat.lt_or_ge K k with h3 | h3
              · exact hin.out k h3 h2
              · obtain rfl : k = K := by omega
                rw [E1.out, E2.out]; omega
            have d := decide_eq_false hxy
            clear hxy hin HBAD
            go_wp2_with fail
            go_round
            case rel => exact ⟨K, by omega, by go_num, by rw [E1.out]; go_num, by rw [E2.out]; go_num, HJ.out⟩
            case measure => (first | (simp [intOf]; done) | (simp [intOf]; omega))
        case zero =>
          have HJ := Lib.hid (HOK.out (leS_iff.2 fun k hk => hin.out k (Nat.zero_le _) hk))
          clear hin HOK HBAD
          rw [show ((0 : Nat) : Int) - 1 = -1 by omega]
          go_wp2_with fail
          go_roundw
          case rel => exact ⟨j + 1, by omega, by go_num, HJ.out, hbo.trans (hb2'.mono hbo.size)⟩
          case measure => simp [intOf]; omega
    · have HL := Lib.hid (monoL_upto' (m := m) (rows := rows) fun p hp => hinv.out p (by omega))
      go_wp2_with fail
      go_ret
      exact ⟨by rw [HM.out, HE.out, HL.out]; rfl, BW⟩
end Go.Proofs.YtokpembimalhmaaDoor
