/- The walk of the law IdentDetects. No condition beyond the tables. -/
import Derived.Test.YtjjcicopblgdmaaDoorIdZ
import Derived.RegionTactic
import Derived.BigRegion
namespace Go.Proofs.YtjjcicopblgdmaaDoor
open Go.RowKit
set_option linter.unusedVariables false

/-- The block g begins with the bytes L, none of them frozen. -/
def BRow (w : World) (g : Nat) (L : List UInt8) : Prop := ∃ C n m, w.heap[g]? = some (.cells C 5 (n, m)) ∧ L.length ≤ n ∧ ∀ j, j < L.length → C[j]? = some (.int .u8 ((L.getD j 0).toNat : Int))
theorem BRow.cell {w : World} {g : Nat} {L : List UInt8} (h : BRow w g L) {j : Nat} (hj : j < L.length) : w.cell? ⟨g, j, none⟩ = some (.int .u8 ((L.getD j 0).toNat : Int)) := by
  obtain ⟨C, n, m, h1, h2, h3⟩ := h
  rw [cell_of_row w g j C 5 (n, m) h1, ← h3 j hj]
theorem BRow.frozen {w : World} {g : Nat} {L : List UInt8} (h : BRow w g L) {j : Nat} (hj : j < L.length) : w.frozen? ⟨g, j, none⟩ = false := by
  obtain ⟨C, n, m, h1, h2, h3⟩ := h
  simp [World.frozen?, h1]
  omega
theorem BRow.set {w : World} {g : Nat} {L : List UInt8} (h : BRow w g L) (j : Nat) (x : UInt8) : BRow (w.setCell ⟨g, j, none⟩ (.int .u8 (x.toNat : Int))) g (L.set j x) := by
  obtain ⟨C, n, m, h1, h2, h3⟩ := h
  refine ⟨C.setIfInBounds j (.int .u8 (x.toNat : Int)), n, m, by simp [World.setCell, Array.getElem?_modify, h1], by rw [List.length_set]; exact h2, fun i hi => ?_⟩
  rw [List.length_set] at hi
  by_cases he : i = j
  · subst he
    have hc : i < C.size := by
      rcases Nat.lt_or_ge i C.size with h | h
      · exact h
      · have := h3 i hi; rw [Array.getElem?_eq_none h] at this; cases this
    rw [Array.getElem?_setIfInBounds, if_pos rfl, if_pos hc, List.getD_eq_getElem?_getD, List.getElem?_set_self hi]
    rfl
  · rw [Array.getElem?_setIfInBounds, if_neg (by omega), h3 i hi, List.getD_eq_getElem?_getD, List.getD_eq_getElem?_getD, List.getElem?_set_ne (by omega)]
theorem BRow.back {w : World} {g : Nat} {L : List UInt8} (h : BRow w g L) (cap : Nat) : (convert 31 9 (.slice (some ⟨g, 0, none⟩) L.length cap)).run Tryd.prog w = .ok (.string ⟨L.toArray⟩) w :=
  run_convert_bytes_back w 31 9 5 ⟨g, 0, none⟩ cap L Tryd.underlying31 Tryd.underlying5 Tryd.underlying9 (fun j hj => by
    have e : (⟨g, 0, none⟩ : Addr).add j = ⟨g, j, none⟩ := by simp [Addr.add]; omega
    rw [e, h.cell hj]
    simp [List.getD, List.getElem?_eq_getElem hj])
theorem BRow.lt {w : World} {g : Nat} {L : List UInt8} (h : BRow w g L) : g < w.heap.size := by
  obtain ⟨C, n, m, h1, _⟩ := h
  rcases Nat.lt_or_ge g w.heap.size with h | h
  · exact h
  · rw [Array.getElem?_eq_none h] at h1; cases h1
theorem conv_any (x : ByteArray) (w : World) : ∃ cap W, (convert 9 31 (.string x)).run Tryd.prog w = .ok (.slice (some ⟨w.heap.size, 0, none⟩) x.size cap) W ∧ BRow W w.heap.size x.data.toList ∧ Below w.heap.size w W := by
  refine ⟨_, _, run_bytes_of_string w 9 31 5 x Tryd.underlying9 Tryd.underlying31 Tryd.underlying5, ?_, ?_⟩
  · refine ⟨_, _, _, heap_alloc_new w.drew _, ?_, fun j hj => ?_⟩
    · simp [bytesRow]
    · have hj' : j < x.data.size := by simpa using hj
      unfold bytesRow
      rw [Array.getElem?_append_left (by simpa using hj')]
      simp [List.getD, List.getElem?_eq_getElem hj]
      exact ⟨x.data[j], Array.getElem?_eq_getElem hj', rfl⟩
  · exact (Below.refl w.heap.size w).drew.alloc (Nat.le_refl _) _

theorem digitAt_any (i : Nat) (w : World) (hi : i ≤ 9) : Calls Tryd.prog 15 #[.int .i64 (i : Int)] w fun e w' => e = .returned (.int .i64 ((dAt i : Nat) : Int)) ∧ w = w' := by
  by_cases h : i < 7
  · have H : Hid (((dAt i : Nat) : Int) = 4 + (i : Int)) := by unfold Hid dAt; rw [if_pos h]; omega
    have f1 : decide ((i : Int) < 7) = true := decide_eq_true (by omega)
    go_enter Tryd.func15, Tryd.ntmps15
    go_wp2_with fail
    go_ret
    exact ⟨by rw [H.out]; rfl, rfl⟩
  · have H : Hid (((dAt i : Nat) : Int) = 5 + (i : Int)) := by unfold Hid dAt; rw [if_neg h]; omega
    have f1 : decide ((i : Int) < 7) = false := decide_eq_false (by omega)
    go_enter Tryd.func15, Tryd.ntmps15
    go_wp2_with fail
    go_ret
    exact ⟨by rw [H.out]; rfl, rfl⟩
theorem dAt_lt {i : Nat} (h : i ≤ 8) : dAt i < 14 := by unfold dAt; split <;> omega
theorem dAt_ne (i : Nat) : dAt i < dAt (i + 1) := by unfold dAt; split <;> split <;> omega

theorem vld_nat {K N : Int} (h : vld K N = true) : ∃ k n : Nat, K = (k : Int) ∧ N = (n : Int) ∧ (1 ≤ k ∧ k ≤ 6) ∧ (1 ≤ n ∧ n ≤ 9999999) := by
  obtain ⟨a, b, c, d⟩ := vld_iff.1 h
  exact ⟨K.toNat, N.toNat, by omega, by omega, by omega, by omega⟩
theorem parse_bad (s : ByteArray) (h : (pX s).2.2 ≠ 0) : ∃ a b c, c ≠ 0 ∧ ∀ w, Pres w → Calls Tryd.prog 8 #[.string s] w fun e w' => e = .returned (.tuple #[.int .i64 a, .int .i64 b, .int .i64 c]) ∧ w = w' :=
  ⟨(pX s).1, (pX s).2.1, (pX s).2.2, h, fun w hp => parse_at s rfl w hp⟩

set_option maxHeartbeats 8000000 in
set_option maxRecDepth 100000 in
theorem detects_walk (K N I D : Int) (w : World) (hD : 0 ≤ D) (hD2 : D ≤ 255) (hp : Pres w) (ht : Tab w) :
    Calls Tryd.prog 7 #[.int .i64 K, .int .i64 N, .int .i64 I, .int .u8 D] w fun e w' => e = .returned (.bool true) ∧ Below w.heap.size w w' := by
  have HV := Lib.hid (fun W => valid_any K N W)
  rcases hv : vld K N with _ | _
  · rw [hv] at HV
    clear hv hp ht
    go_enter Tryd.func7, Tryd.ntmps7
    go_wp2_with fail
    refine (HV.out _).mono ?_
    rintro e w' ⟨rfl, rfl⟩
    go_wp2_with fail
    go_ret
    exact ⟨rfl, Below.refl _ _⟩
  rw [hv] at HV
  obtain ⟨k, n, rfl, rfl, hk, hn⟩ := vld_nat hv
  clear hv
  by_cases hi1 : I < 0
  · clear hp ht hk hn
    go_enter Tryd.func7, Tryd.ntmps7
    go_wp2_with fail
    refine (HV.out _).mono ?_
    rintro e w' ⟨rfl, rfl⟩
    go_wp2_with fail
    go_ret
    exact ⟨rfl, Below.refl _ _⟩
  have hi1' : 0 ≤ I := by omega
  clear hi1
  by_cases hi2 : 8 < I
  · clear hp ht hk hn
    go_enter Tryd.func7, Tryd.ntmps7
    go_wp2_with fail
    refine (HV.out _).mono ?_
    rintro e w' ⟨rfl, rfl⟩
    go_wp2_with fail
    go_ret
    exact ⟨rfl, Below.refl _ _⟩
  obtain ⟨i, rfl⟩ := Int.eq_ofNat_of_zero_le hi1'
  have hi8 : i ≤ 8 := by omega
  clear hi1' hi2
  have HP := Lib.hid hp
  have HR1 := Lib.hid (print_ok k n w hk hn hp ht)
  have HQ := Lib.hid (fun W hW => parse_at (idB k n) (parse_id hk hn) W hW)
  have HWD := Lib.hid (fun (x : UInt8) (hx : digB x = true) (hne : x ≠ (idB k n).data.toList.getD (dAt i) 0) => parse_bad _ (wrong_digit hk hn (show i < 9 by omega) hx hne))
  have HWO := Lib.hid (fun (hi : i < 8) (hne : (idB k n).data.toList.getD (dAt i) 0 ≠ (idB k n).data.toList.getD (dAt (i + 1)) 0) => parse_bad _ (wrong_order hk hn hi hne))
  have hz : (idB k n).size ≤ 14 := by rw [idB_size hk]; exact Nat.le_refl _
  have hzl : (idB k n).data.toList.length = 14 := by rw [← size_list, idB_size hk]
  have HZ := Lib.hid (idB_size (n := n) hk)
  have f3 : (((idB k n).size : Int) != 14) = false := by rw [idB_size hk]; rfl
  have HDI := Lib.hid (fun W => digitAt_any i W (by omega))
  have HDJ : Hid (∀ W, Calls Tryd.prog 15 #[.int .i64 ((i : Int) + 1)] W fun e w' => e = .returned (.int .i64 ((dAt (i + 1) : Nat) : Int)) ∧ W = w') := fun W => by simpa using digitAt_any (i + 1) W (by omega)
  have hA := dAt_lt hi8
  have HAN := Lib.hid (dAt_ne i)
  have HBB := Lib.hid (fun (h : i < 8) => dAt_lt (show i + 1 ≤ 8 by omega))
  obtain ⟨dg, hdg⟩ : ∃ dg : UInt8, dg = UInt8.ofNat (48 + D.toNat % 10) := ⟨_, rfl⟩
  have hdn : (dg.toNat : Int) = 48 + D % 10 := by rw [hdg, dig_nat (Nat.mod_lt _ (by omega))]; omega
  have HDG := Lib.hid (show digB dg = true by rw [hdg]; exact dig_ok (Nat.mod_lt _ (by omega)))
  have HDN := Lib.hid hdn
  generalize idB k n = x at *
  generalize dAt (i + 1) = A2 at *
  generalize dAt i = A at *
  have HZL := Lib.hid hzl
  generalize hL : x.data.toList = L at *
  have HLL := Lib.hid hL
  clear hk hn hp ht hdg hdn hL hzl
  go_enter Tryd.func7, Tryd.ntmps7
  go_wp2_with fail
  refine (HV.out _).mono ?_
  rintro e w' ⟨rfl, rfl⟩
  go_wp2_with fail
  refine HR1.out.mono ?_
  rintro e w1 ⟨rfl, B1⟩
  go_wp2_with fail
  refine (HQ.out _ (HP.out.below B1)).mono ?_
  rintro e w' ⟨rfl, rfl⟩
  obtain ⟨cap, W, hcv, hrow, hb2⟩ := conv_any x w1
  have B2 := B1.trans (hb2.mono B1.size)
  rw [HLL.out] at hrow
  go_wp2_with fail
  refine (HDI.out _).mono ?_
  rintro e w' ⟨rfl, rfl⟩
  clear hcv f3
  have g1 := hrow.cell (j := A) (by rw [HZL.out]; omega)
  have g2 := hrow.frozen (j := A) (by rw [HZL.out]; omega)
  have iA : (A : Int) < (x.size : Int) := by rw [HZ.out]; omega
  have HN9 : Hid ((L.getD A 0 = dg → (((L.getD A 0).toNat : Int) != 48 + D % 10) = false) ∧ (L.getD A 0 ≠ dg → (((L.getD A 0).toNat : Int) != 48 + D % 10) = true)) := by
    refine ⟨fun h => ?_, fun h => ?_⟩
    · rw [h, HDN.out]; simp
    · rw [← HDN.out, bne_iff_ne]; exact toNat_ne h
  have HST := Lib.hid (hrow.set A dg)
  have hst := HST.out.back cap
  rw [show (L.set A dg).length = x.size by rw [List.length_set, HZL.out, HZ.out], HDN.out] at hst
  have zr := hrow.lt
  have BS : Below w.heap.size w (W.setCell ⟨w1.heap.size, A, none⟩ (.int .u8 (48 + D % 10))) := B2.setCell B1.size _
  have HWD2 := Lib.hid (HWD.out dg HDG.out)
  obtain ⟨c0, hc0⟩ : ∃ c0, L.getD A 0 = c0 := ⟨_, rfl⟩
  obtain ⟨c1, hc1⟩ : ∃ c1, L.getD A2 0 = c1 := ⟨_, rfl⟩
  rw [hc0] at HN9 HWD2 HWO g1
  rw [hc1] at HWO
  have HC0 := Lib.hid hc0
  have HC1 := Lib.hid hc1
  clear hc0 hc1 hrow
  by_cases h8 : i = 8
  · have f8 : ((i : Int) == 8) = true := by rw [beq_iff_eq]; omega
    clear h8
    by_cases he : c0 = dg
    · have f1 := HN9.out.1 he
      clear he hst
      go_wp2_with fail
      go_ret
      exact ⟨rfl, B2⟩
    · have f1 := HN9.out.2 he
      obtain ⟨a, b, c, hc, HX⟩ := HWD2.out (Ne.symm he)
      have HX' := Lib.hid HX
      have f2 : (c == 0) = false := by rw [beq_eq_false_iff_ne]; exact hc
      clear he hc HX
      go_wp2_with fail
      refine (HX'.out _ (HP.out.below BS)).mono ?_
      rintro e w' ⟨rfl, rfl⟩
      go_wp2_with fail
      go_ret
      exact ⟨rfl, BS⟩
  have f8 : ((i : Int) == 8) = false := by rw [beq_eq_false_iff_ne]; omega
  have hi7 : i < 8 := by omega
  have hA2 := HBB.out hi7
  have HWO2 := Lib.hid (HWO.out hi7)
  clear h8
  by_cases he : c0 = dg
  · have f1 := HN9.out.1 he
    obtain ⟨cap3, W3, hcv3, hrow3, hb3⟩ := conv_any x W
    have B3 := B2.trans (hb3.mono B2.size)
    rw [HLL.out] at hrow3
    clear he hst
    go_wp2_with fail
    refine (HDJ.out _).mono ?_
    rintro e w' ⟨rfl, rfl⟩
    clear hcv3 g1 g2
    have g3 := hrow3.cell (j := A) (by rw [HZL.out]; omega)
    have g4 := hrow3.frozen (j := A) (by rw [HZL.out]; omega)
    have g5 := hrow3.cell (j := A2) (by rw [HZL.out]; omega)
    have g6 := hrow3.frozen (j := A2) (by rw [HZL.out]; omega)
    rw [HC0.out] at g3
    rw [HC1.out] at g5
    have iA2 : (A2 : Int) < (x.size : Int) := by rw [HZ.out]; omega
    by_cases hcc : c0 = c1
    · have f9 : ((c0.toNat : Int) == (c1.toNat : Int)) = true := by rw [hcc]; simp
      clear hcc
      go_wp2_with fail
      go_quiet (fail)
      go_wp2_with fail
      go_ret
      exact ⟨rfl, below_drewN B3 _⟩
    · have f9 : ((c0.toNat : Int) == (c1.toNat : Int)) = false := by rw [beq_eq_false_iff_ne]; exact toNat_ne hcc
      obtain ⟨a', b', c', hc', HY⟩ := HWO2.out hcc
      have HY' := Lib.hid HY
      have f10 : (c' != 0) = true := by rw [bne_iff_ne]; exact hc'
      clear hcc hc' HY
      go_wp2_with fail
      go_quiet (fail)
      go_wp2_with fail
      obtain ⟨W4, hW4⟩ : ∃ W4 : World, W4 = W3.drewN nq := ⟨_, rfl⟩
      have B4 : Below w.heap.size w W4 := by rw [hW4]; exact below_drewN B3 nq
      have hrow4 : BRow W4 W.heap.size L := by rw [hW4]; exact hrow3
      have e3 : W4.cell? ⟨W.heap.size, A, none⟩ = some (.int .u8 (c0.toNat : Int)) := by rw [hW4]; exact g3
      have e4 : W4.frozen? ⟨W.heap.size, A, none⟩ = false := by rw [hW4]; exact g4
      have e5 : W4.cell? ⟨W.heap.size, A2, none⟩ = some (.int .u8 (c1.toNat : Int)) := by rw [hW4]; exact g5
      have e6 : W4.frozen? ⟨W.heap.size, A2, none⟩ = false := by rw [hW4]; exact g6
      rw [← hW4]
      have HR4 := Lib.hid hrow4
      have e7 : (W4.setCell ⟨W.heap.size, A, none⟩ (.int .u8 (c1.toNat : Int))).cell? ⟨W.heap.size, A2, none⟩ = some (.int .u8 (c1.toNat : Int)) := by
        rw [World.cell?_setCell_other _ _ _ _ (fun e => by have := HAN.out; injection e with _ e _; omega)]; exact e5
      have e8 : (W4.setCell ⟨W.heap.size, A2, none⟩ (.int .u8 (c0.toNat : Int))).cell? ⟨W.heap.size, A, none⟩ = some (.int .u8 (c0.toNat : Int)) := by
        rw [World.cell?_setCell_other _ _ _ _ (fun e => by have := HAN.out; injection e with _ e _; omega)]; exact e3
      clear hW4 g3 g4 g5 g6 f9 hrow3 hrow4 B3
      go_region
      obtain ⟨W5, hW5⟩ : ∃ W5 : World, W5 = ((W4.setCell ⟨W.heap.size, A, none⟩ (.int .u8 (c1.toNat : Int))).setCell ⟨W.heap.size, A2, none⟩ (.int .u8 (c0.toNat : Int))).drew := ⟨_, rfl⟩
      have hr5 : BRow W5 W.heap.size ((L.set A c1).set A2 c0) := by rw [hW5]; exact (HR4.out.set A c1).set A2 c0
      have B5 : Below w.heap.size w W5 := by rw [hW5]; exact ((B4.setCell (p := ⟨W.heap.size, A, none⟩) B2.size _).setCell (p := ⟨W.heap.size, A2, none⟩) B2.size _).drew
      have hst5 := hr5.back cap3
      rw [show ((L.set A c1).set A2 c0).length = x.size by rw [List.length_set, List.length_set, HZL.out, HZ.out]] at hst5
      rw [← hW5]
      clear hW5 e3 e4 e5 e6 e7 e8 hr5
      go_wp2_with fail
      refine (HY'.out _ (HP.out.below B5)).mono ?_
      rintro e w' ⟨rfl, rfl⟩
      go_wp2_with fail
      go_ret
      exact ⟨rfl, B5⟩
  · have f1 := HN9.out.2 he
    obtain ⟨a, b, c, hc, HX⟩ := HWD2.out (Ne.symm he)
    have HX' := Lib.hid HX
    have f2 : (c == 0) = false := by rw [beq_eq_false_iff_ne]; exact hc
    clear he hc HX
    go_wp2_with fail
    refine (HX'.out _ (HP.out.below BS)).mono ?_
    rintro e w' ⟨rfl, rfl⟩
    obtain ⟨WS, hWS⟩ : ∃ WS : World, WS = W.setCell ⟨w1.heap.size, A, none⟩ (.int .u8 (48 + D % 10)) := ⟨_, rfl⟩
    rw [← hWS] at BS ⊢
    clear hWS hst f1
    obtain ⟨cap3, W3, hcv3, hrow3, hb3⟩ := conv_any x WS
    have B3 := BS.trans (hb3.mono BS.size)
    rw [HLL.out] at hrow3
    go_wp2_with fail
    refine (HDJ.out _).mono ?_
    rintro e w' ⟨rfl, rfl⟩
    clear hcv3 g1 g2
    have g3 := hrow3.cell (j := A) (by rw [HZL.out]; omega)
    have g4 := hrow3.frozen (j := A) (by rw [HZL.out]; omega)
    have g5 := hrow3.cell (j := A2) (by rw [HZL.out]; omega)
    have g6 := hrow3.frozen (j := A2) (by rw [HZL.out]; omega)
    rw [HC0.out] at g3
    rw [HC1.out] at g5
    have iA2 : (A2 : Int) < (x.size : Int) := by rw [HZ.out]; omega
    by_cases hcc : c0 = c1
    · have f9 : ((c0.toNat : Int) == (c1.toNat : Int)) = true := by rw [hcc]; simp
      clear hcc
      go_wp2_with fail
      go_quiet (fail)
      go_wp2_with fail
      go_ret
      exact ⟨rfl, below_drewN B3 _⟩
    · have f9 : ((c0.toNat : Int) == (c1.toNat : Int)) = false := by rw [beq_eq_false_iff_ne]; exact toNat_ne hcc
      obtain ⟨a', b', c', hc', HY⟩ := HWO2.out hcc
      have HY' := Lib.hid HY
      have f10 : (c' != 0) = true := by rw [bne_iff_ne]; exact hc'
      clear hcc hc' HY
      go_wp2_with fail
      go_quiet (fail)
      go_wp2_with fail
      obtain ⟨W4, hW4⟩ : ∃ W4 : World, W4 = W3.drewN nq := ⟨_, rfl⟩
      have B4 : Below w.heap.size w W4 := by rw [hW4]; exact below_drewN B3 nq
      have hrow4 : BRow W4 WS.heap.size L := by rw [hW4]; exact hrow3
      have e3 : W4.cell? ⟨WS.heap.size, A, none⟩ = some (.int .u8 (c0.toNat : Int)) := by rw [hW4]; exact g3
      have e4 : W4.frozen? ⟨WS.heap.size, A, none⟩ = false := by rw [hW4]; exact g4
      have e5 : W4.cell? ⟨WS.heap.size, A2, none⟩ = some (.int .u8 (c1.toNat : Int)) := by rw [hW4]; exact g5
      have e6 : W4.frozen? ⟨WS.heap.size, A2, none⟩ = false := by rw [hW4]; exact g6
      rw [← hW4]
      have HR4 := Lib.hid hrow4
      have e7 : (W4.setCell ⟨WS.heap.size, A, none⟩ (.int .u8 (c1.toNat : Int))).cell? ⟨WS.heap.size, A2, none⟩ = some (.int .u8 (c1.toNat : Int)) := by
        rw [World.cell?_setCell_other _ _ _ _ (fun e => by have := HAN.out; injection e with _ e _; omega)]; exact e5
      have e8 : (W4.setCell ⟨WS.heap.size, A2, none⟩ (.int .u8 (c0.toNat : Int))).cell? ⟨WS.heap.size, A, none⟩ = some (.int .u8 (c0.toNat : Int)) := by
        rw [World.cell?_setCell_other _ _ _ _ (fun e => by have := HAN.out; injection e with _ e _; omega)]; exact e3
      clear hW4 g3 g4 g5 g6 f9 hrow3 hrow4 B3
      go_region
      obtain ⟨W5, hW5⟩ : ∃ W5 : World, W5 = ((W4.setCell ⟨WS.heap.size, A, none⟩ (.int .u8 (c1.toNat : Int))).setCell ⟨WS.heap.size, A2, none⟩ (.int .u8 (c0.toNat : Int))).drew := ⟨_, rfl⟩
      have hr5 : BRow W5 WS.heap.size ((L.set A c1).set A2 c0) := by rw [hW5]; exact (HR4.out.set A c1).set A2 c0
      have B5 : Below w.heap.size w W5 := by rw [hW5]; exact ((B4.setCell (p := ⟨WS.heap.size, A, none⟩) BS.size _).setCell (p := ⟨WS.heap.size, A2, none⟩) BS.size _).drew
      have hst5 := hr5.back cap3
      rw [show ((L.set A c1).set A2 c0).length = x.size by rw [List.length_set, List.length_set, HZL.out, HZ.out]] at hst5
      rw [← hW5]
      clear hW5 e3 e4 e5 e6 e7 e8 hr5
      go_wp2_with fail
      refine (HY'.out _ (HP.out.below B5)).mono ?_
      rintro e w' ⟨rfl, rfl⟩
      go_wp2_with fail
      go_ret
      exact ⟨rfl, B5⟩
end Go.Proofs.YtjjcicopblgdmaaDoor
