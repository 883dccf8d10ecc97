/- The walks of calibrate.Weights and of the reference's Weights. -/
import Derived.Test.YtneoglmfabilnaaCalC
namespace Go.Proofs.Ytneoglmfabilnaa
open Go.RowKit
set_option linter.unusedVariables false

def rowOK (ms : List (List (List Int))) (row : List Int) : Bool := (List.range row.length).all fun i => decide (-2 ≤ row.getD i 0) && decide (row.getD i 0 < ((catsOf (ms.getD i []) : Nat) : Int))
/-- The error of the weights of a person. -/
def wtE (ps rs row : List Int) (ms : List (List (List Int))) (skip : Int) : Int :=
  if gridE ps rs ≠ 0 then gridE ps rs else if 60 < ms.length then 5 else if row.length ≠ ms.length then 1 else if chkFrom (ps.length : Int) (-1) 0 ms ≠ 0 then chkFrom (ps.length : Int) (-1) 0 ms
  else if rowOK ms row = false then 3 else if skip < -1 ∨ (ms.length : Int) ≤ skip then 3 else 0
theorem rowOK_no {ms : List (List (List Int))} {row : List Int} {k : Nat} (hk : k < row.length) (h : row.getD k 0 < -2 ∨ ((catsOf (ms.getD k []) : Nat) : Int) ≤ row.getD k 0) : rowOK ms row = false := by
  unfold rowOK
  rw [List.all_eq_false]
  refine ⟨k, by simpa using hk, ?_⟩
  simp only [Bool.and_eq_true, decide_eq_true_eq]
  omega
theorem rowOK_yes {ms : List (List (List Int))} {row : List Int} (h : ∀ i, i < row.length → -2 ≤ row.getD i 0 ∧ row.getD i 0 < ((catsOf (ms.getD i []) : Nat) : Int)) : rowOK ms row = true := by
  unfold rowOK
  rw [List.all_eq_true]
  intro i hi
  simp only [Bool.and_eq_true, decide_eq_true_eq]
  exact h i (by simpa using hi)
theorem rowOK_at {ms : List (List (List Int))} {row : List Int} (h : rowOK ms row = true) {i : Nat} (hi : i < row.length) : -2 ≤ row.getD i 0 ∧ row.getD i 0 < ((catsOf (ms.getD i []) : Nat) : Int) := by
  unfold rowOK at h
  rw [List.all_eq_true] at h
  have := h i (by simpa using hi)
  simpa using this
theorem wtE_zero {ps rs row : List Int} {ms : List (List (List Int))} {skip : Int} (h : wtE ps rs row ms skip = 0) :
    gridE ps rs = 0 ∧ ms.length ≤ 60 ∧ row.length = ms.length ∧ chkFrom (ps.length : Int) (-1) 0 ms = 0 ∧ rowOK ms row = true ∧ -1 ≤ skip ∧ skip < (ms.length : Int) := by
  unfold wtE at h
  split at h
  · rename_i h1; exact absurd h h1
  · split at h
    · omega
    · split at h
      · omega
      · split at h
        · rename_i h1; exact absurd h h1
        · split at h
          · omega
          · split at h
            · omega
            · rename_i a b c d e f
              simp only [ne_eq, Decidable.not_not, Bool.not_eq_false] at a c d e
              exact ⟨a, by omega, c, d, e, by omega, by omega⟩
/-- Valid models give each response its weight. -/
theorem wok_of {ps rs row : List Int} {ms : List (List (List Int))} {skip : Int} (hlen : row.length = ms.length) (hc : chkFrom (ps.length : Int) (-1) 0 ms = 0) (hr : rowOK ms row = true) (skip' : Int) : WOK ps.length ms row skip' := by
  intro i hi _ h0
  have hi' : i < ms.length := by omega
  have hm : ms[i]? = some (ms.getD i []) := by rw [List.getD_eq_getElem?_getD, List.getElem?_eq_getElem hi']; rfl
  have hv := chk_zero hc i _ hm (by omega)
  obtain ⟨z1, z2, z3, z4, z5, z6⟩ := modE_zero hv
  refine ⟨hi', fun q hq => ?_⟩
  have hql : q < (ms.getD i []).length := by omega
  have hmem : (ms.getD i []).getD q [] ∈ ms.getD i [] := by
    rw [List.getD_eq_getElem?_getD (l := ms.getD i []), List.getElem?_eq_getElem hql]
    exact List.getElem_mem hql
  obtain ⟨l1, l2, l3⟩ := z6 _ hmem
  have hk := (rowOK_at hr hi).2
  have hkl : (row.getD i 0).toNat < ((ms.getD i []).getD q []).length := by rw [l1]; omega
  have hx := l2 (((ms.getD i []).getD q []).getD (row.getD i 0).toNat 0) (by
    rw [List.getD_eq_getElem?_getD (l := (ms.getD i []).getD q []), List.getElem?_eq_getElem hkl]
    exact List.getElem_mem hkl)
  exact ⟨hql, hkl, by omega, by omega⟩
theorem pok_of {ps rs : List Int} (h : gridE ps rs = 0) : POK rs.length rs := by
  obtain ⟨_, _, h3, h4, _⟩ := gridE_zero h
  intro q hq
  have := h4 q (by omega)
  omega

set_option maxHeartbeats 4000000 in
theorem cweightsF_yes (pv rv mv xv : Value) (ps rs row : List Int) (ms : List (List (List Int))) (skip : Int) (w : World) (hp : Nums .i64 w pv ps) (hr : Nums .i64 w rv rs) (hm : ModL w mv ms) (hx : Nums .i64 w xv row) (hE : wtE ps rs row ms skip = 0) :
    Calls Try.prog 10 #[.agg #[pv, rv], mv, xv, .int .i64 skip] w fun e w' => ∃ v, e = .returned (.tuple #[v, .int .i64 0]) ∧ CanF w.heap.size w' v (wL rs ms row skip rs.length) 122 ∧ Below w.heap.size w w' := by
  have hbox : Below w.heap.size w (w.alloc (.cells #[pv, rv] 24)) := (Below.refl _ _).alloc (Nat.le_refl _) _
  have hp0 := hp
  have hr0 := hr
  have hm0 := hm
  have hx0 := hx
  obtain ⟨A, c, rfl, hc, hm1, hsp⟩ := hp
  obtain ⟨B, c', rfl, hc', hm2, hsr⟩ := hr
  obtain ⟨M, cM, us, rfl, k1, k2, hs, hu⟩ := hm
  obtain ⟨X, cX, rfl, x1, x2, hsx⟩ := hx
  have hrb := Row.new w 24 [.slice A ps.length c, .slice B rs.length c']
  have HU := Lib.hid hu
  have HE := Lib.hid hE
  unfold maxLen at k2 x2 hm1 hm2
  clear hu hsp hsr hE
  obtain ⟨a1, a2, a3, a4, a5, a6, a7⟩ := wtE_zero HE.out
  have g0 : (gridE ps rs != 0) = false := by rw [bne_eq_false_iff_eq]; exact a1
  have g1 : decide (60 < (ms.length : Int)) = false := by simp; omega
  have g2 : ((row.length : Int) != (ms.length : Int)) = false := by rw [bne_eq_false_iff_eq]; omega
  have g3 : (chkFrom (ps.length : Int) (-1) 0 ms != 0) = false := by rw [bne_eq_false_iff_eq]; exact a4
  have g4 : decide (skip < -1) = false := by simp; omega
  have g5 : decide ((ms.length : Int) ≤ skip) = false := by simp; omega
  have HPS := Lib.hid (show ps.length = rs.length by have := (gridE_zero a1).2.2.1; omega)
  have H21 := Lib.hid (show rs.length ≤ 21 by have h := gridE_zero a1; omega)
  have HPOK := Lib.hid (pok_of a1)
  have HWOK := Lib.hid (wok_of (ps := ps) (rs := rs) (skip := skip) a3 a4 a5 skip)
  have A2 := Lib.hid a2
  have A3 := Lib.hid a3
  have A5 := Lib.hid a5
  clear a1 a2 a3 a4 a5
  go_enter Try.func10, Try.ntmps10
  go_wp2_with fail
  refine (gvalid_any _ _ ps rs _ (hp0.below hbox) (hr0.below hbox)).mono ?_
  rintro e w1 ⟨rfl, hb1⟩
  replace hrb := hrb.keep hb1
  have B1 : Below w.heap.size w w1 := hbox.trans (hb1.mono hbox.size)
  have q0 : w1.cell? ⟨w.heap.size, 0, none⟩ = some (.slice A ps.length c) := hrb.cell 0
  have q1 : w1.cell? ⟨w.heap.size, 1, none⟩ = some (.slice B rs.length c') := hrb.cell 1
  clear hb1
  generalize gridE ps rs = G at *
  go_wp2_with fail
  refine (chkm_any _ _ _ ps rs ms (-1) _ (hp0.below B1) (hr0.below B1) (hm0.below B1)).mono ?_
  rintro e w2 ⟨rfl, hb2⟩
  replace hrb := hrb.keep hb2
  have B2 : Below w.heap.size w w2 := B1.trans (hb2.mono B1.size)
  clear hb2 q0 q1 B1
  have q0 : w2.cell? ⟨w.heap.size, 0, none⟩ = some (.slice A ps.length c) := hrb.cell 0
  have q1 : w2.cell? ⟨w.heap.size, 1, none⟩ = some (.slice B rs.length c') := hrb.cell 1
  obtain ⟨m, hm'⟩ : ∃ m, row.length = m := ⟨_, rfl⟩
  have HM := Lib.hid hm'
  have hmm : ms.length = m := by rw [← A3.out]; exact hm'
  have HMM := Lib.hid hmm
  have hm60 : m ≤ 60 := by have := A2.out; omega
  rw [hm'] at hsx
  rw [hmm] at hs
  rw [hmm] at g1 g2 g5 a7
  rw [hm'] at g2
  rw [hm', hmm]
  clear hm' hmm
  generalize chkFrom (ps.length : Int) (-1) 0 ms = G2 at *
  go_wp2_with fail
  clear q0 q1
  go_loopw [12, 13, 35] (fun _ _ i wr => ∃ k : Nat, k ≤ m ∧ i = .int .i64 (k : Int) ∧ Hid (∀ i, i < k → -2 ≤ row.getD i 0 ∧ row.getD i 0 < ((catsOf (ms.getD i []) : Nat) : Int)) ∧ Row wr w.heap.size 24 [.slice A ps.length c, .slice B rs.length c'] ∧ Below w.heap.size w wr) (fun _ _ i _ => m - (intOf i).toNat)
  case atStart => exact ⟨0, by omega, rfl, by unfold Hid; intro i hi; omega, hrb, B2⟩
  case round =>
    obtain ⟨k, hk, rfl, hall, hg, hb⟩ := hrel
    clear hrb B2
    by_cases hlt : k < m
    · obtain ⟨b3, o3, rfl, hb3, hcell⟩ := hsx.num hlt
      have g6 : wr.cell? ⟨b3, o3 + k, none⟩ = some (.int .i64 (row.getD k 0)) := (hb.cell (p := ⟨b3, o3 + k, none⟩) hb3).trans (hcell k hlt)
      obtain ⟨b4, o4, u4, rfl, hb4, g7, hI⟩ := lst_at hs HU.out hlt
      have g8 : wr.cell? ⟨b4, o4 + k, none⟩ = some u4 := (hb.cell (p := ⟨b4, o4 + k, none⟩) hb4).trans g7
      have hI2 := hI.below hb
      have hI' := hI2
      obtain ⟨R, cR, vs, rfl, _, _, _, _⟩ := hI'
      clear hcell g7 hI
      have hkr : Hid (k < row.length) := by unfold Hid; rw [HM.out]; exact hlt
      have HNo := Lib.hid (fun h => rowOK_no (ms := ms) (row := row) hkr.out h)
      obtain ⟨j1, j2⟩ := rowOK_at A5.out hkr.out
      have HST : Hid (∀ i, i < k + 1 → -2 ≤ row.getD i 0 ∧ row.getD i 0 < ((catsOf (ms.getD i []) : Nat) : Int)) := by
        unfold Hid; intro i hi
        rcases Nat.lt_succ_iff_lt_or_eq.1 hi with h | h
        · exact hall.out i h
        · subst h; exact ⟨j1, j2⟩
      have i1 : 0 ≤ (k : Int) := by omega
      have i2 : (k : Int) < (m : Int) := by omega
      clear hall
      generalize hxe : row.getD k 0 = x at *
      clear hxe
      generalize hce : ms.getD k [] = rows at *
      clear hce
      by_cases e1 : x = -1
      · have f1 : (x != -1) = false := by rw [bne_eq_false_iff_eq]; exact e1
        have HX := Lib.hid e1
        clear e1
        go_wp2_with fail
        go_roundw
        case rel => exact ⟨k + 1, by omega, by go_num, HST, hg, hb⟩
        case measure => simp [intOf]; omega
      have f1 : (x != -1) = true := by rw [bne_iff_ne]; exact e1
      by_cases e2 : x = -2
      · have f2 : (x != -2) = false := by rw [bne_eq_false_iff_eq]; exact e2
        have HX := Lib.hid e2
        clear e1 e2
        go_wp2_with fail
        go_roundw
        case rel => exact ⟨k + 1, by omega, by go_num, HST, hg, hb⟩
        case measure => simp [intOf]; omega
      have f2 : (x != -2) = true := by rw [bne_iff_ne]; exact e2
      have e3 : 0 ≤ x := by omega
      have f3 : decide (x < 0) = false := by simp; omega
      have HX12 : Hid (0 ≤ x) := by unfold Hid; omega
      clear e1 e2
      go_wp2_with fail
      refine (cats_any _ rows _ hI2).mono ?_
      rintro e w5 ⟨rfl, hb5⟩
      have hg5 := hg.keep hb5
      have hb5' : Below w.heap.size w w5 := hb.trans (hb5.mono hb.size)
      have f4 : decide (((catsOf rows : Nat) : Int) ≤ x) = false := by simp; omega
      generalize catsOf rows = cq at *
      go_wp2_with fail
      go_roundw
      case rel => exact ⟨k + 1, by omega, by go_num, HST, hg5, hb5'⟩
      case measure => simp [intOf]; omega
    · obtain rfl : k = m := by omega
      have q0 : wr.cell? ⟨w.heap.size, 0, none⟩ = some (.slice A ps.length c) := hg.cell 0
      have q1 : wr.cell? ⟨w.heap.size, 1, none⟩ = some (.slice B rs.length c') := hg.cell 1
      have hwf := weighF_any _ _ _ _ ps rs row ms skip _ (hp0.below hb) (hr0.below hb) (hm0.below hb) (hx0.below hb) H21.out HPS.out (by rw [A3.out]; exact A2.out) (by rw [← HPS.out]; exact HWOK.out) HPOK.out
      rw [HMM.out, HM.out] at hwf
      replace hwf := Lib.hid hwf
      go_wp2_with fail
      refine hwf.out.mono ?_
      rintro e w5 ⟨v5, rfl, hv5, hb5⟩
      go_wp2_with fail
      go_ret2
      exact ⟨v5, rfl, hv5.mono hb.size, hb.trans (hb5.mono hb.size)⟩
theorem cweights_yes (pv rv mv xv : Value) (ps rs row : List Int) (ms : List (List (List Int))) (skip : Int) (w : World) (hp : Nums .i64 w pv ps) (hr : Nums .i64 w rv rs) (hm : ModL w mv ms) (hx : Nums .i64 w xv row) (hE : wtE ps rs row ms skip = 0) :
    Calls Try.prog 10 #[.agg #[pv, rv], mv, xv, .int .i64 skip] w fun e w' => ∃ v, e = .returned (.tuple #[v, .int .i64 0]) ∧ CanL w' v (wL rs ms row skip rs.length) 122 ∧ Below w.heap.size w w' :=
  (cweightsF_yes pv rv mv xv ps rs row ms skip w hp hr hm hx hE).mono fun e w' ⟨v, he, h1, h2⟩ => ⟨v, he, h1.can, h2⟩

set_option maxHeartbeats 4000000 in
theorem cweights_no (pv rv mv xv : Value) (ps rs row : List Int) (ms : List (List (List Int))) (skip : Int) (w : World) (hp : Nums .i64 w pv ps) (hr : Nums .i64 w rv rs) (hm : ModL w mv ms) (hx : Nums .i64 w xv row) (hE : wtE ps rs row ms skip ≠ 0) :
    Calls Try.prog 10 #[.agg #[pv, rv], mv, xv, .int .i64 skip] w fun e w' => e = .returned (.tuple #[.slice none 0 0, .int .i64 (wtE ps rs row ms skip)]) ∧ Below w.heap.size w w' := by
  have hbox : Below w.heap.size w (w.alloc (.cells #[pv, rv] 24)) := (Below.refl _ _).alloc (Nat.le_refl _) _
  have hp0 := hp
  have hr0 := hr
  have hm0 := hm
  have hx0 := hx
  obtain ⟨A, c, rfl, hc, hm1, hsp⟩ := hp
  obtain ⟨B, c', rfl, hc', hm2, hsr⟩ := hr
  obtain ⟨M, cM, us, rfl, k1, k2, hs, hu⟩ := hm
  obtain ⟨X, cX, rfl, x1, x2, hsx⟩ := hx
  have hrb := Row.new w 24 [.slice A ps.length c, .slice B rs.length c']
  have HU := Lib.hid hu
  have HE := Lib.hid hE
  unfold maxLen at k2 x2 hm1 hm2
  clear hu hsp hsr hE
  go_enter Try.func10, Try.ntmps10
  go_wp2_with fail
  refine (gvalid_any _ _ ps rs _ (hp0.below hbox) (hr0.below hbox)).mono ?_
  rintro e w1 ⟨rfl, hb1⟩
  replace hrb := hrb.keep hb1
  have B1 : Below w.heap.size w w1 := hbox.trans (hb1.mono hbox.size)
  have q0 : w1.cell? ⟨w.heap.size, 0, none⟩ = some (.slice A ps.length c) := hrb.cell 0
  have q1 : w1.cell? ⟨w.heap.size, 1, none⟩ = some (.slice B rs.length c') := hrb.cell 1
  clear hb1
  by_cases a1 : gridE ps rs = 0
  case neg =>
    have g0 : (gridE ps rs != 0) = true := by rw [bne_iff_ne]; exact a1
    have HW := Lib.hid (show wtE ps rs row ms skip = gridE ps rs by unfold wtE; rw [if_pos a1])
    clear a1
    generalize gridE ps rs = G at *
    go_wp2_with fail
    go_ret2
    exact ⟨by rw [HW.out]; rfl, B1⟩
  have g0 : (gridE ps rs != 0) = false := by rw [bne_eq_false_iff_eq]; exact a1
  by_cases a2 : 60 < ms.length
  · have g1 : decide (60 < (ms.length : Int)) = true := by simp; omega
    have HW := Lib.hid (show wtE ps rs row ms skip = 5 by unfold wtE; rw [if_neg (by simpa using a1), if_pos a2])
    clear a1
    generalize gridE ps rs = G at *
    go_wp2_with fail
    go_ret2
    exact ⟨by rw [HW.out]; rfl, B1⟩
  have g1 : decide (60 < (ms.length : Int)) = false := by simp; omega
  by_cases a3 : row.length = ms.length
  case neg =>
    have g2 : ((row.length : Int) != (ms.length : Int)) = true := by rw [bne_iff_ne]; omega
    have HW := Lib.hid (show wtE ps rs row ms skip = 1 by unfold wtE; rw [if_neg (by simpa using a1), if_neg a2, if_pos a3])
    clear a1 a3
    generalize gridE ps rs = G at *
    go_wp2_with fail
    go_ret2
    exact ⟨by rw [HW.out]; rfl, B1⟩
  have g2 : ((row.length : Int) != (ms.length : Int)) = false := by rw [bne_eq_false_iff_eq]; omega
  have A1 := Lib.hid a1
  have A2 := Lib.hid a2
  have A3 := Lib.hid a3
  clear a1 a3
  go_wp2_with fail
  refine (chkm_any _ _ _ ps rs ms (-1) _ (hp0.below B1) (hr0.below B1) (hm0.below B1)).mono ?_
  rintro e w2 ⟨rfl, hb2⟩
  replace hrb := hrb.keep hb2
  have B2 : Below w.heap.size w w2 := B1.trans (hb2.mono B1.size)
  clear hb2 q0 q1 B1
  have q0 : w2.cell? ⟨w.heap.size, 0, none⟩ = some (.slice A ps.length c) := hrb.cell 0
  have q1 : w2.cell? ⟨w.heap.size, 1, none⟩ = some (.slice B rs.length c') := hrb.cell 1
  by_cases a4 : chkFrom (ps.length : Int) (-1) 0 ms = 0
  case neg =>
    have g3 : (chkFrom (ps.length : Int) (-1) 0 ms != 0) = true := by rw [bne_iff_ne]; exact a4
    have HW := Lib.hid (show wtE ps rs row ms skip = chkFrom (ps.length : Int) (-1) 0 ms by unfold wtE; rw [if_neg (by simpa using A1.out), if_neg A2.out, if_neg (by simpa using A3.out), if_pos a4])
    clear a4 A1
    generalize chkFrom (ps.length : Int) (-1) 0 ms = G2 at *
    go_wp2_with fail
    go_ret2
    exact ⟨by rw [HW.out]; rfl, B2⟩
  have g3 : (chkFrom (ps.length : Int) (-1) 0 ms != 0) = false := by rw [bne_eq_false_iff_eq]; exact a4
  have A4 := Lib.hid a4
  clear a4
  obtain ⟨m, hm'⟩ : ∃ m, row.length = m := ⟨_, rfl⟩
  have HM := Lib.hid hm'
  have hmm : ms.length = m := by rw [← A3.out]; exact hm'
  have HMM := Lib.hid hmm
  have hm60 : m ≤ 60 := by have := A2.out; omega
  rw [hm'] at hsx
  rw [hmm] at hs
  rw [hmm] at g1 g2 a2
  rw [hm'] at g2
  rw [hm', hmm]
  clear hm' hmm
  go_wp2_with fail
  clear q0 q1
  go_loopw [12, 13, 35] (fun _ _ i wr => ∃ k : Nat, k ≤ m ∧ i = .int .i64 (k : Int) ∧ Hid (∀ i, i < k → -2 ≤ row.getD i 0 ∧ row.getD i 0 < ((catsOf (ms.getD i []) : Nat) : Int)) ∧ Row wr w.heap.size 24 [.slice A ps.length c, .slice B rs.length c'] ∧ Below w.heap.size w wr) (fun _ _ i _ => m - (intOf i).toNat)
  case atStart => exact ⟨0, by omega, rfl, by unfold Hid; intro i hi; omega, hrb, B2⟩
  case round =>
    obtain ⟨k, hk, rfl, hall, hg, hb⟩ := hrel
    clear hrb B2
    by_cases hlt : k < m
    · obtain ⟨b3, o3, rfl, hb3, hcell⟩ := hsx.num hlt
      have g6 : wr.cell? ⟨b3, o3 + k, none⟩ = some (.int .i64 (row.getD k 0)) := (hb.cell (p := ⟨b3, o3 + k, none⟩) hb3).trans (hcell k hlt)
      obtain ⟨b4, o4, u4, rfl, hb4, g7, hI⟩ := lst_at hs HU.out hlt
      have g8 : wr.cell? ⟨b4, o4 + k, none⟩ = some u4 := (hb.cell (p := ⟨b4, o4 + k, none⟩) hb4).trans g7
      have hI2 := hI.below hb
      have hI' := hI2
      obtain ⟨R, cR, vs, rfl, _, _, _, _⟩ := hI'
      clear hcell g7 hI
      have hkr : Hid (k < row.length) := by unfold Hid; rw [HM.out]; exact hlt
      have HNo := Lib.hid (fun h => rowOK_no (ms := ms) (row := row) hkr.out h)
      have HST : Hid (-2 ≤ row.getD k 0 → row.getD k 0 < ((catsOf (ms.getD k []) : Nat) : Int) → ∀ i, i < k + 1 → -2 ≤ row.getD i 0 ∧ row.getD i 0 < ((catsOf (ms.getD i []) : Nat) : Int)) := by
        unfold Hid; intro h1 h2 i hi
        rcases Nat.lt_succ_iff_lt_or_eq.1 hi with h | h
        · exact hall.out i h
        · subst h; exact ⟨h1, h2⟩
      have i1 : 0 ≤ (k : Int) := by omega
      have i2 : (k : Int) < (m : Int) := by omega
      clear hall
      generalize hxe : row.getD k 0 = x at *
      clear hxe
      generalize hce : ms.getD k [] = rows at *
      clear hce
      by_cases e1 : x = -1
      · have f1 : (x != -1) = false := by rw [bne_eq_false_iff_eq]; exact e1
        have HX := Lib.hid e1
        clear e1
        go_wp2_with fail
        go_roundw
        case rel => exact ⟨k + 1, by omega, by go_num, HST.out (by rw [HX.out]; omega) (by rw [HX.out]; omega), hg, hb⟩
        case measure => simp [intOf]; omega
      have f1 : (x != -1) = true := by rw [bne_iff_ne]; exact e1
      by_cases e2 : x = -2
      · have f2 : (x != -2) = false := by rw [bne_eq_false_iff_eq]; exact e2
        have HX := Lib.hid e2
        clear e1 e2
        go_wp2_with fail
        go_roundw
        case rel => exact ⟨k + 1, by omega, by go_num, HST.out (by rw [HX.out]; omega) (by rw [HX.out]; omega), hg, hb⟩
        case measure => simp [intOf]; omega
      have f2 : (x != -2) = true := by rw [bne_iff_ne]; exact e2
      by_cases e3 : x < 0
      · have f3 : decide (x < 0) = true := by simpa using e3
        have HW := Lib.hid (show wtE ps rs row ms skip = 3 by unfold wtE; rw [if_neg (by simpa using A1.out), if_neg A2.out, if_neg (by simpa using A3.out), if_neg (by simpa using A4.out), if_pos (HNo.out (by omega))])
        clear e1 e2
        go_wp2_with fail
        go_ret2
        exact ⟨by rw [HW.out]; rfl, hb⟩
      have f3 : decide (x < 0) = false := by simpa using e3
      have HX12 : Hid (0 ≤ x) := by unfold Hid; omega
      clear e1 e2
      go_wp2_with fail
      refine (cats_any _ rows _ hI2).mono ?_
      rintro e w5 ⟨rfl, hb5⟩
      have hg5 := hg.keep hb5
      have hb5' : Below w.heap.size w w5 := hb.trans (hb5.mono hb.size)
      by_cases e4 : ((catsOf rows : Nat) : Int) ≤ x
      · have f4 : decide (((catsOf rows : Nat) : Int) ≤ x) = true := by simpa using e4
        have HW := Lib.hid (show wtE ps rs row ms skip = 3 by unfold wtE; rw [if_neg (by simpa using A1.out), if_neg A2.out, if_neg (by simpa using A3.out), if_neg (by simpa using A4.out), if_pos (HNo.out (by omega))])
        generalize catsOf rows = cq at *
        go_wp2_with fail
        go_ret2
        exact ⟨by rw [HW.out]; rfl, hb5'⟩
      have f4 : decide (((catsOf rows : Nat) : Int) ≤ x) = false := by simpa using e4
      have HZ := HST.out (by have := HX12.out; omega) (by omega)
      have HZ' := Lib.hid HZ
      clear HZ
      generalize catsOf rows = cq at *
      go_wp2_with fail
      go_roundw
      case rel => exact ⟨k + 1, by omega, by go_num, HZ', hg5, hb5'⟩
      case measure => simp [intOf]; omega
    · obtain rfl : k = m := by omega
      have q0 : wr.cell? ⟨w.heap.size, 0, none⟩ = some (.slice A ps.length c) := hg.cell 0
      have q1 : wr.cell? ⟨w.heap.size, 1, none⟩ = some (.slice B rs.length c') := hg.cell 1
      have HRO := Lib.hid (rowOK_yes (ms := ms) (row := row) (fun i hi => hall.out i (by rw [HM.out] at hi; exact hi)))
      have HS3 : Hid (skip < -1 ∨ (k : Int) ≤ skip) := by
        unfold Hid
        rcases Int.lt_or_le skip (-1) with h | h
        · exact .inl h
        · rcases Int.lt_or_le skip (k : Int) with h' | h'
          · refine absurd ?_ HE.out
            unfold wtE
            rw [if_neg (by simpa using A1.out), if_neg A2.out, if_neg (by simpa using A3.out), if_neg (by simpa using A4.out), if_neg (by simp [HRO.out]), if_neg (by rw [HMM.out]; omega)]
          · exact .inr h'
      have HW := Lib.hid (show wtE ps rs row ms skip = 3 by
        unfold wtE
        rw [if_neg (by simpa using A1.out), if_neg A2.out, if_neg (by simpa using A3.out), if_neg (by simpa using A4.out), if_neg (by simp [HRO.out]), if_pos (by rw [HMM.out]; exact HS3.out)])
      clear hall
      by_cases e5 : skip < -1
      · have f5 : decide (skip < -1) = true := by simpa using e5
        go_wp2_with fail
        go_ret2
        exact ⟨by rw [HW.out]; rfl, hb⟩
      · have f5 : decide (skip < -1) = false := by simpa using e5
        have e6 : (k : Int) ≤ skip := by have := HS3.out; omega
        have f6 : decide ((k : Int) ≤ skip) = true := by simpa using e6
        go_wp2_with fail
        go_ret2
        exact ⟨by rw [HW.out]; rfl, hb⟩
end Go.Proofs.Ytneoglmfabilnaa
