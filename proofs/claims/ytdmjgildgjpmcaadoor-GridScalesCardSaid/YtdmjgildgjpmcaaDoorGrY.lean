/- The walk of GridScales (under way). -/
import Derived.Test.YtdmjgildgjpmcaaDoorGrZ
import Derived.Test.YtdmjgildgjpmcaaDoorPrr
import Derived.Test.YtdmjgildgjpmcaaDoorSm
import Derived.Deep.RegionLaw
import Derived.Deep.AppendLies

namespace Go.Proofs.YtdmjgildgjpmcaaDoor
open Go.RowKit
set_option linter.unusedVariables false

/-- Whether weights are too long, as the law asks. -/
def LargeP (lss : List (List Nat)) (e : Ending) : Prop := (e = .returned (.bool true) ∧ ∃ l ∈ lss, 20 < l.length) ∨ (e = .returned (.bool false) ∧ ∀ l ∈ lss, l.length ≤ 20)
set_option maxHeartbeats 1000000 in
theorem large_any (wv : Value) (lss : List (List Nat)) (w : World) (hw : LimL w wv lss) :
    Calls Tryd.prog 12 #[wv] w fun e w' => LargeP lss e ∧ w = w' := by
  obtain ⟨WA, wc, us, rfl, hwc, hwm, hws, hwu⟩ := hw
  unfold maxLen at hwm
  obtain ⟨n, hn⟩ : ∃ n, lss.length = n := ⟨_, rfl⟩
  have HN := Lib.hid hn
  have HWU := Lib.hid hwu
  rw [hn] at hws hwc ⊢
  clear hn hwu
  go_enter Tryd.func12, Tryd.ntmps12
  go_wp2
  go_loop [3] (fun i => ∃ k : Nat, k ≤ n ∧ i = .int .i64 (k : Int) ∧ Hid (∀ j, j < k → (lss.getD j []).length ≤ 20)) (fun i => n - (intOf i).toNat)
  case atStart => exact ⟨0, by omega, rfl, fun j hj => by omega⟩
  case round =>
    obtain ⟨k, hk, rfl, hall⟩ := hrel
    by_cases hlt : k < n
    · obtain ⟨b, o, u, rfl, hb, hcell, hu⟩ := lst_at (R := Lim) (d := []) (xs := lss) hws HWU.out hlt
      obtain ⟨⟨UA, uc, rfl, _, _, _⟩, _⟩ := hu
      obtain ⟨m, hm⟩ : ∃ m, (lss.getD k []).length = m := ⟨_, rfl⟩
      have HM := Lib.hid hm
      rw [hm] at hcell
      clear hm
      by_cases h20 : 20 < m
      · have t1 : decide (20 < (m : Int)) = true := decide_eq_true (by omega)
        go_wp2
        go_ret
        have hk2 : k < lss.length := by rw [HN.out]; exact hlt
        refine ⟨.inl ⟨rfl, lss[k], List.getElem_mem hk2, ?_⟩, rfl⟩
        have := HM.out
        rw [List.getD_eq_getElem?_getD, List.getElem?_eq_getElem hk2] at this
        simp only [Option.getD_some] at this
        omega
      · have t1 : decide (20 < (m : Int)) = false := decide_eq_false (by omega)
        go_wp2
        go_round
        case rel => exact ⟨k + 1, by omega, by go_num, fun j hj => by
          rcases Nat.lt_or_ge j k with h | h
          · exact hall.out j h
          · obtain rfl : j = k := by omega
            rw [HM.out]; omega⟩
        case measure => simp [intOf]; omega
    · obtain rfl : k = n := by omega
      go_wp2
      go_ret
      refine ⟨.inr ⟨rfl, fun l hl => ?_⟩, rfl⟩
      obtain ⟨i, hi, rfl⟩ := List.getElem_of_mem hl
      have := hall.out i (by rw [← HN.out]; exact hi)
      rwa [List.getD_eq_getElem?_getD, List.getElem?_eq_getElem hi] at this
theorem Row.grow {w w' : World} {g t base e n : Nat} {xs ys : List Value} {v : Value} {w0 : World} (h : Row w g t xs) (hg : w.grownBy w' v.ownBlock) (ho : w0.ownsRow base e 1 v n ys) (hb : g < base) : Row w' g t xs :=
  (hg.block g h.lt (fun hh => by have := (ho.lt g hh.symm).1; omega)).trans h
theorem take_move (d : Int) (ps : List Int) {k : Nat} (h : k < ps.length) : ((moveL d ps).take (k + 1)).map (Value.int .i64) = ((moveL d ps).take k).map (Value.int .i64) ++ [.int .i64 (ps.getD k 0 + d)] := by
  rw [← moveL_get d ps h, List.take_succ_eq_append_getElem (by rw [moveL_len]; exact h), List.map_append, List.getD_eq_getElem?_getD, List.getElem?_eq_getElem (by rw [moveL_len]; exact h)]
  rfl
theorem num_own {w : World} {base e n : Nat} {v : Value} {zs : List Int} (h : w.ownsRow base e 1 v n (zs.map (Value.int .i64))) : Nums .i64 w v zs := Nums.of_own h
theorem keep12c {W w' : World} {p1 p2 p3 p4 p5 p6 p7 p8 p9 p10 p11 p12 : Addr} {x1 x2 x3 x4 x5 x6 x7 x8 x9 x10 x11 x12 : Value} (l1 : p1.block < W.heap.size) (l2 : p2.block < W.heap.size) (l3 : p3.block < W.heap.size) (l4 : p4.block < W.heap.size) (l5 : p5.block < W.heap.size) (l6 : p6.block < W.heap.size) (l7 : p7.block < W.heap.size) (l8 : p8.block < W.heap.size) (l9 : p9.block < W.heap.size) (l10 : p10.block < W.heap.size) (l11 : p11.block < W.heap.size) (l12 : p12.block < W.heap.size) (h1 : W.cell? p1 = some x1) (h2 : W.cell? p2 = some x2) (h3 : W.cell? p3 = some x3) (h4 : W.cell? p4 = some x4) (h5 : W.cell? p5 = some x5) (h6 : W.cell? p6 = some x6) (h7 : W.cell? p7 = some x7) (h8 : W.cell? p8 = some x8) (h9 : W.cell? p9 = some x9) (h10 : W.cell? p10 = some x10) (h11 : W.cell? p11 = some x11) (h12 : W.cell? p12 = some x12) (hb : Below W.heap.size W w') :
    w'.cell? p1 = some x1 ∧ w'.cell? p2 = some x2 ∧ w'.cell? p3 = some x3 ∧ w'.cell? p4 = some x4 ∧ w'.cell? p5 = some x5 ∧ w'.cell? p6 = some x6 ∧ w'.cell? p7 = some x7 ∧ w'.cell? p8 = some x8 ∧ w'.cell? p9 = some x9 ∧ w'.cell? p10 = some x10 ∧ w'.cell? p11 = some x11 ∧ w'.cell? p12 = some x12 := ⟨(hb.cell l1).trans h1, (hb.cell l2).trans h2, (hb.cell l3).trans h3, (hb.cell l4).trans h4, (hb.cell l5).trans h5, (hb.cell l6).trans h6, (hb.cell l7).trans h7, (hb.cell l8).trans h8, (hb.cell l9).trans h9, (hb.cell l10).trans h10, (hb.cell l11).trans h11, (hb.cell l12).trans h12⟩
set_option maxHeartbeats 4000000 in
theorem lwhole_any (x : Int) (w : World) (hx1 : -100000 ≤ x) (hx2 : x ≤ 100000) :
    Calls Tryd.prog 9 #[.int .i64 x] w fun e w' => ∃ y, e = .returned y ∧ RatF w.heap.size w' y x 1 2 ∧ Below w.heap.size w w' := by
  obtain ⟨W0, hW0⟩ : ∃ W0 : World, W0 = w.alloc (.cells #[.bool false, .slice none 0 0, .slice none 0 0] 30) := ⟨_, rfl⟩
  have r0 : Row W0 w.heap.size 30 [.bool false, .slice none 0 0, .slice none 0 0] := by
    rw [hW0]
    have := Row.new w 30 [.bool false, .slice none 0 0, .slice none 0 0]
    simpa using this
  have B0 : Below w.heap.size w W0 := by rw [hW0]; exact ((Below.refl _ _).alloc (Nat.le_refl _) _)
  go_enter Tryd.func9, Tryd.ntmps9
  go_wp2_with fail
  rw [← hW0]
  clear hW0
  go_wp2_with fail
  refine (qof_any x 1 _ (by omega) (by omega) (by omega) (by omega)).mono ?_
  rintro e w1 ⟨y, rfl, hx, hb⟩
  rw [show (1 : Int).toNat = 1 from rfl, (redQ_one x).1, (redQ_one x).2] at hx
  have B1 := B0.trans (hb.mono B0.size)
  have hz : w.heap.size + 1 ≤ W0.heap.size := r0.lt
  have q0 := r0.keep hb
  replace hx := hx.base hz
  obtain ⟨mv, dv, rfl, hm, hd, fm, fd⟩ := hx
  obtain ⟨A6, n6, c6, rfl⟩ := hm.lim1.choose_spec.1.show_
  obtain ⟨A7, n7, c7, rfl⟩ := hd.lim1.choose_spec.1.show_
  have hl := lit_below w1 (.cells #[.bool (decide (x < 0)), .slice A6 n6 c6, .slice A7 n7 c7] 30)
  have q1 := q0.keep hl
  have c0 : (w1.alloc (.cells #[.bool (decide (x < 0)), .slice A6 n6 c6, .slice A7 n7 c7] 30)).cell? ⟨w.heap.size, 0, none⟩ = some (.bool false) := q1.cell 0
  have c1 : (w1.alloc (.cells #[.bool (decide (x < 0)), .slice A6 n6 c6, .slice A7 n7 c7] 30)).cell? ⟨w.heap.size, 1, none⟩ = some (.slice none 0 0) := q1.cell 1
  have c2 : (w1.alloc (.cells #[.bool (decide (x < 0)), .slice A6 n6 c6, .slice A7 n7 c7] 30)).cell? ⟨w.heap.size, 2, none⟩ = some (.slice none 0 0) := q1.cell 2
  have f0 := q1.frozen 0
  have f1 := q1.frozen 1
  have f2 := q1.frozen 2
  have z1 := q1.lt
  have hm1 := hm.below hl
  have hd1 := hd.below hl
  have BB := B1.trans (hl.mono B1.size)
  clear q0 q1 hl
  go_wp2_with fail
  refine bodyPost_ret (v := .agg #[.bool (decide (x < 0)), .slice A6 n6 c6, .slice A7 n7 c7]) (by simp [results, Tryd.results9, go_sem, c0, c1, c2]) rfl ⟨_, rfl, ⟨_, _, rfl, ?_, ?_, fm.mono (by omega), fd.mono (by omega)⟩, ((BB.setCell (by simp) _).setCell (by simp) _).setCell (by simp) _⟩
  · exact ((hm1.set_ fm (by simp) _).set_ fm (by simp) _).set_ fm (by simp) _
  · exact ((hd1.set_ fd (by simp) _).set_ fd (by simp) _).set_ fd (by simp) _


theorem some_ne {s : ByteArray} (h : 0 < s.size) : s.toList.isEmpty = false := by
  rw [Lib.toList_data]
  have : 0 < s.data.toList.length := by simpa using h
  cases hl : s.data.toList with
  | nil => rw [hl] at this; simp at this
  | cons => rfl

set_option maxRecDepth 100000 in
set_option maxHeartbeats 16000000 in
theorem scl_ok (pv rv wv : Value) (ps rs : List Int) (lss : List (List Nat)) (c : Nat) (d : Int) (w : World) (hp : Nums .i64 w pv ps) (hr : Nums .i64 w rv rs) (hw : LimL w wv lss) (hc : c < 4294967296) (htab : Pow10 w) (HLG : Hid (∀ W : World, Below w.heap.size w W → Calls Tryd.prog 12 #[wv] W fun e w' => e = .returned (.bool false) ∧ Below W.heap.size W w')) (h20 : ∀ l ∈ lss, l.length ≤ 20) (hc0 : 0 < c) (hd1 : -2000 ≤ d) (hd2 : d ≤ 2000) (hE : sumE ps rs (lss.map val) = 0) :
    Calls Tryd.prog 4 #[.agg #[pv, rv], wv, .int .u32 (c : Int), .int .i64 d] w fun e w' => e = .returned (.bool true) ∧ Below w.heap.size w w' := by
  have hwt := hw.wts h20
  obtain ⟨s1, s2, s3⟩ := sumE_zero hE
  have HME := Lib.hid (fun (W : World) (h : Below w.heap.size w W) => gmean_ok pv rv wv ps rs (lss.map val) 20 W (hp.below h) (hr.below h) (hwt.below h) (by omega) hE)
  have HVA := Lib.hid (fun (W : World) (h : Below w.heap.size w W) => gvar_ok pv rv wv ps rs (lss.map val) 20 W (hp.below h) (hr.below h) (hwt.below h) (by omega) hE)
  have HS3 := Lib.hid s3
  obtain ⟨F0, hF0⟩ : ∃ x, wF0 (lss.map val) ps.length = x := ⟨_, rfl⟩
  obtain ⟨F1, hF1⟩ : ∃ x, wF1 (lss.map val) ps ps.length = x := ⟨_, rfl⟩
  obtain ⟨F2, hF2⟩ : ∃ x, wF2 (lss.map val) ps ps.length = x := ⟨_, rfl⟩
  have hpos : 0 < F0 := by rw [← hF0]; exact wF0_pos s3
  rw [hF0, hF1] at HME
  rw [hF0, hF1, hF2] at HVA
  have HF0 := Lib.hid hF0
  have HF1 := Lib.hid hF1
  have HF2 := Lib.hid hF2
  have hmq := redQ_pos (p := F1) (q := F0.natAbs) (by omega)
  have HTAB := Lib.hid htab
  have hsc := scale_sums c (lss.map val) ps ps.length
  have HSE2 : Hid (sumE ps rs (scaleL c (lss.map val)) = 0) := by
    unfold Hid sumE
    rw [if_neg (by simpa using s1), if_neg (by rw [scaleL_len]; simpa using s2), if_neg (by rw [hsc.1, hF0]; exact Int.ne_of_gt (Int.mul_pos (by omega) hpos))]
  have HSR : Hid ((redP (wF1 (scaleL c (lss.map val)) ps ps.length) (wF0 (scaleL c (lss.map val)) ps.length).natAbs = redP F1 F0.natAbs ∧ redQ (wF1 (scaleL c (lss.map val)) ps ps.length) (wF0 (scaleL c (lss.map val)) ps.length).natAbs = redQ F1 F0.natAbs) ∧
      (redP (wF0 (scaleL c (lss.map val)) ps.length * wF2 (scaleL c (lss.map val)) ps ps.length - wF1 (scaleL c (lss.map val)) ps ps.length * wF1 (scaleL c (lss.map val)) ps ps.length) (wF0 (scaleL c (lss.map val)) ps.length * wF0 (scaleL c (lss.map val)) ps.length).natAbs = redP (F0 * F2 - F1 * F1) (F0 * F0).natAbs ∧
       redQ (wF0 (scaleL c (lss.map val)) ps.length * wF2 (scaleL c (lss.map val)) ps ps.length - wF1 (scaleL c (lss.map val)) ps ps.length * wF1 (scaleL c (lss.map val)) ps ps.length) (wF0 (scaleL c (lss.map val)) ps.length * wF0 (scaleL c (lss.map val)) ps.length).natAbs = redQ (F0 * F2 - F1 * F1) (F0 * F0).natAbs)) := by
    unfold Hid
    rw [hsc.1, hsc.2.1, hsc.2.2, hF0, hF1, hF2]
    exact scale_red F0 F1 F2 c hc0 hpos
  clear hsc
  have hcI : ((c : Int) == 0) = false := by rw [beq_eq_false_iff_ne]; omega
  have HC := Lib.hid hc
  have HC0 := Lib.hid hc0
  have HD1 := Lib.hid hd1
  have HD2 := Lib.hid hd2
  have hdd1 : decide (d < -2000) = false := decide_eq_false (by omega)
  have hdd2 : decide (2000 < d) = false := decide_eq_false (by omega)
  have HWT := Lib.hid hwt
  have HL20 := Lib.hid h20
  have HL21 : Hid (ps.length ≤ 21) := Lib.hid (gridE_zero s1).1
  have HZ : Hid (∀ j, j < ps.length → -1000 ≤ ps.getD j 0 ∧ ps.getD j 0 ≤ 1000) := Lib.hid (fun j hj => by have := (gridE_zero s1).2.2.2.1 j hj; omega)
  have hp0 := hp
  have hr0 := hr
  obtain ⟨PA, pc, rfl, hpc, hpm, hps⟩ := hp
  obtain ⟨RV, vc, rfl, hvc, hvm, hvs⟩ := hr
  obtain ⟨WA, wc, us, rfl, hwc, hwm, hws, hwu⟩ := hw
  have HWU := Lib.hid hwu
  have hln : lss.length = ps.length := by simpa using s2
  have HLN := Lib.hid hln
  have hn21 : lss.length ≤ 21 := by have := (gridE_zero s1).1; omega
  unfold maxLen at hpm hwm
  clear hE s1 s2 s3 hF0 hF1 hF2 htab hwt hwu h20 hln hc hc0 hd1 hd2
  obtain ⟨W0, hW0⟩ : ∃ W0 : World, W0 = w.alloc (.cells #[.slice PA ps.length pc, .slice RV rs.length vc] 24) := ⟨_, rfl⟩
  have r0 : Row W0 w.heap.size 24 [.slice PA ps.length pc, .slice RV rs.length vc] := by
    rw [hW0]
    have := Row.new w 24 [.slice PA ps.length pc, .slice RV rs.length vc]
    simpa using this
  have B0 : Below w.heap.size w W0 := by rw [hW0]; exact ((Below.refl _ _).alloc (Nat.le_refl _) _)
  go_enter Tryd.func4, Tryd.ntmps4
  go_wp2_with fail
  rw [← hW0]
  clear hW0
  have BB := B0
  have hr4 := r0
  clear B0 r0
  have c40 : W0.cell? ⟨w.heap.size, 0, none⟩ = some (.slice PA ps.length pc) := hr4.cell 0
  have c41 : W0.cell? ⟨w.heap.size, 1, none⟩ = some (.slice RV rs.length vc) := hr4.cell 1
  have z4 := hr4.lt
  go_wp2_with fail
  clear c40 c41 z4
  refine (HLG.out _ BB).mono ?_
  rintro e x1 ⟨rfl, hb⟩
  replace hr4 := hr4.keep hb
  replace BB : Below w.heap.size w x1 := BB.trans (hb.mono BB.size)
  clear hb
  have c40 : x1.cell? ⟨w.heap.size, 0, none⟩ = some (.slice PA ps.length pc) := hr4.cell 0
  have c41 : x1.cell? ⟨w.heap.size, 1, none⟩ = some (.slice RV rs.length vc) := hr4.cell 1
  have z4 := hr4.lt
  go_wp2_with fail
  clear c40 c41 z4
  refine (HME.out _ BB).mono ?_
  rintro e x2 ⟨v9, rfl, hv9, hb⟩
  replace hr4 := hr4.keep hb
  replace BB : Below w.heap.size w x2 := BB.trans (hb.mono BB.size)
  clear hb
  have h9' := hv9
  obtain ⟨m9, d9, e9, hm9, hd9, _, _⟩ := h9'
  subst e9
  obtain ⟨A9, k9, c9, rfl⟩ := hm9.lim1.choose_spec.1.show_
  obtain ⟨D9, l9, b9, rfl⟩ := hd9.lim1.choose_spec.1.show_
  clear hm9 hd9
  obtain ⟨g9, hg9⟩ : ∃ g, x2.heap.size = g := ⟨_, rfl⟩
  have hr9 : Row (x2.alloc (.cells #[.bool (decide ((redP F1 F0.natAbs) < 0)), .slice A9 k9 c9, .slice D9 l9 b9] 30)) g9 30 [.bool (decide ((redP F1 F0.natAbs) < 0)), .slice A9 k9 c9, .slice D9 l9 b9] := row_at hg9
  have hl := lit_below x2 (.cells #[.bool (decide ((redP F1 F0.natAbs) < 0)), .slice A9 k9 c9, .slice D9 l9 b9] 30)
  have o4_9 : w.heap.size < g9 := by have := hr4.lt; omega
  have ob_9 : w.heap.size ≤ g9 := by have := BB.size; omega
  have c40 : x2.cell? ⟨w.heap.size, 0, none⟩ = some (.slice PA ps.length pc) := hr4.cell 0
  have c41 : x2.cell? ⟨w.heap.size, 1, none⟩ = some (.slice RV rs.length vc) := hr4.cell 1
  have d40 : (x2.alloc (.cells #[.bool (decide ((redP F1 F0.natAbs) < 0)), .slice A9 k9 c9, .slice D9 l9 b9] 30)).cell? ⟨w.heap.size, 0, none⟩ = some (.slice PA ps.length pc) := (hr4.alloc _).cell 0
  have d41 : (x2.alloc (.cells #[.bool (decide ((redP F1 F0.natAbs) < 0)), .slice A9 k9 c9, .slice D9 l9 b9] 30)).cell? ⟨w.heap.size, 1, none⟩ = some (.slice RV rs.length vc) := (hr4.alloc _).cell 1
  have e0 : (x2.alloc (.cells #[.bool (decide ((redP F1 F0.natAbs) < 0)), .slice A9 k9 c9, .slice D9 l9 b9] 30)).cell? ⟨g9, 0, none⟩ = some (.bool (decide ((redP F1 F0.natAbs) < 0))) := hr9.cell 0
  have e1 : (x2.alloc (.cells #[.bool (decide ((redP F1 F0.natAbs) < 0)), .slice A9 k9 c9, .slice D9 l9 b9] 30)).cell? ⟨g9, 1, none⟩ = some (.slice A9 k9 c9) := hr9.cell 1
  have e2 : (x2.alloc (.cells #[.bool (decide ((redP F1 F0.natAbs) < 0)), .slice A9 k9 c9, .slice D9 l9 b9] 30)).cell? ⟨g9, 2, none⟩ = some (.slice D9 l9 b9) := hr9.cell 2
  go_wp2_with fail
  clear c40 c41 d40 d41 e0 e1 e2
  clear hg9
  generalize (x2.alloc (.cells #[.bool (decide ((redP F1 F0.natAbs) < 0)), .slice A9 k9 c9, .slice D9 l9 b9] 30)) = x3 at *
  replace hr4 := hr4.keep hl
  replace hv9 := hv9.below hl
  replace BB : Below w.heap.size w x3 := BB.trans (hl.mono BB.size)
  clear hl
  refine (HVA.out _ BB).mono ?_
  rintro e x4 ⟨v11, rfl, hv11, hb⟩
  replace hr4 := hr4.keep hb
  replace hv9 := hv9.below hb
  replace hr9 := hr9.keep hb
  replace BB : Below w.heap.size w x4 := BB.trans (hb.mono BB.size)
  clear hb
  have h11' := hv11
  obtain ⟨m11, d11, e11, hm11, hd11, _, _⟩ := h11'
  subst e11
  obtain ⟨A11, k11, c11, rfl⟩ := hm11.lim1.choose_spec.1.show_
  obtain ⟨D11, l11, b11, rfl⟩ := hd11.lim1.choose_spec.1.show_
  clear hm11 hd11
  obtain ⟨g11, hg11⟩ : ∃ g, x4.heap.size = g := ⟨_, rfl⟩
  have hr11 : Row (x4.alloc (.cells #[.bool (decide ((redP (F0 * F2 - F1 * F1) (F0 * F0).natAbs) < 0)), .slice A11 k11 c11, .slice D11 l11 b11] 30)) g11 30 [.bool (decide ((redP (F0 * F2 - F1 * F1) (F0 * F0).natAbs) < 0)), .slice A11 k11 c11, .slice D11 l11 b11] := row_at hg11
  have hl := lit_below x4 (.cells #[.bool (decide ((redP (F0 * F2 - F1 * F1) (F0 * F0).natAbs) < 0)), .slice A11 k11 c11, .slice D11 l11 b11] 30)
  have o4_11 : w.heap.size < g11 := by have := hr4.lt; omega
  have o9_11 : g9 < g11 := by have := hr9.lt; omega
  have ob_11 : w.heap.size ≤ g11 := by have := BB.size; omega
  have c40 : x4.cell? ⟨w.heap.size, 0, none⟩ = some (.slice PA ps.length pc) := hr4.cell 0
  have c41 : x4.cell? ⟨w.heap.size, 1, none⟩ = some (.slice RV rs.length vc) := hr4.cell 1
  have c90 : x4.cell? ⟨g9, 0, none⟩ = some (.bool (decide ((redP F1 F0.natAbs) < 0))) := hr9.cell 0
  have c91 : x4.cell? ⟨g9, 1, none⟩ = some (.slice A9 k9 c9) := hr9.cell 1
  have c92 : x4.cell? ⟨g9, 2, none⟩ = some (.slice D9 l9 b9) := hr9.cell 2
  have d40 : (x4.alloc (.cells #[.bool (decide ((redP (F0 * F2 - F1 * F1) (F0 * F0).natAbs) < 0)), .slice A11 k11 c11, .slice D11 l11 b11] 30)).cell? ⟨w.heap.size, 0, none⟩ = some (.slice PA ps.length pc) := (hr4.alloc _).cell 0
  have d41 : (x4.alloc (.cells #[.bool (decide ((redP (F0 * F2 - F1 * F1) (F0 * F0).natAbs) < 0)), .slice A11 k11 c11, .slice D11 l11 b11] 30)).cell? ⟨w.heap.size, 1, none⟩ = some (.slice RV rs.length vc) := (hr4.alloc _).cell 1
  have d90 : (x4.alloc (.cells #[.bool (decide ((redP (F0 * F2 - F1 * F1) (F0 * F0).natAbs) < 0)), .slice A11 k11 c11, .slice D11 l11 b11] 30)).cell? ⟨g9, 0, none⟩ = some (.bool (decide ((redP F1 F0.natAbs) < 0))) := (hr9.alloc _).cell 0
  have d91 : (x4.alloc (.cells #[.bool (decide ((redP (F0 * F2 - F1 * F1) (F0 * F0).natAbs) < 0)), .slice A11 k11 c11, .slice D11 l11 b11] 30)).cell? ⟨g9, 1, none⟩ = some (.slice A9 k9 c9) := (hr9.alloc _).cell 1
  have d92 : (x4.alloc (.cells #[.bool (decide ((redP (F0 * F2 - F1 * F1) (F0 * F0).natAbs) < 0)), .slice A11 k11 c11, .slice D11 l11 b11] 30)).cell? ⟨g9, 2, none⟩ = some (.slice D9 l9 b9) := (hr9.alloc _).cell 2
  have e0 : (x4.alloc (.cells #[.bool (decide ((redP (F0 * F2 - F1 * F1) (F0 * F0).natAbs) < 0)), .slice A11 k11 c11, .slice D11 l11 b11] 30)).cell? ⟨g11, 0, none⟩ = some (.bool (decide ((redP (F0 * F2 - F1 * F1) (F0 * F0).natAbs) < 0))) := hr11.cell 0
  have e1 : (x4.alloc (.cells #[.bool (decide ((redP (F0 * F2 - F1 * F1) (F0 * F0).natAbs) < 0)), .slice A11 k11 c11, .slice D11 l11 b11] 30)).cell? ⟨g11, 1, none⟩ = some (.slice A11 k11 c11) := hr11.cell 1
  have e2 : (x4.alloc (.cells #[.bool (decide ((redP (F0 * F2 - F1 * F1) (F0 * F0).natAbs) < 0)), .slice A11 k11 c11, .slice D11 l11 b11] 30)).cell? ⟨g11, 2, none⟩ = some (.slice D11 l11 b11) := hr11.cell 2
  go_wp2_with fail
  clear c40 c41 c90 c91 c92 d40 d41 d90 d91 d92 e0 e1 e2
  clear hg11
  generalize (x4.alloc (.cells #[.bool (decide ((redP (F0 * F2 - F1 * F1) (F0 * F0).natAbs) < 0)), .slice A11 k11 c11, .slice D11 l11 b11] 30)) = x5 at *
  replace hr4 := hr4.keep hl
  replace hv9 := hv9.below hl
  replace hr9 := hr9.keep hl
  replace hv11 := hv11.below hl
  replace BB : Below w.heap.size w x5 := BB.trans (hl.mono BB.size)
  clear hl
  refine (qprint_gen _ (redP F1 F0.natAbs) (redQ F1 F0.natAbs) (21 * (20 + 3)) _ (hv9.ratA hmq) (by decide) (by decide) (HTAB.out.below BB)).mono ?_
  rintro e x6 ⟨⟨s, rfl, hs1, hs2⟩, hb⟩
  replace hr4 := hr4.keep hb
  replace hv9 := hv9.below hb
  replace hr9 := hr9.keep hb
  replace hv11 := hv11.below hb
  replace hr11 := hr11.keep hb
  replace BB : Below w.heap.size w x6 := BB.trans (hb.mono BB.size)
  clear hb
  have c40 : x6.cell? ⟨w.heap.size, 0, none⟩ = some (.slice PA ps.length pc) := hr4.cell 0
  have c41 : x6.cell? ⟨w.heap.size, 1, none⟩ = some (.slice RV rs.length vc) := hr4.cell 1
  have c90 : x6.cell? ⟨g9, 0, none⟩ = some (.bool (decide ((redP F1 F0.natAbs) < 0))) := hr9.cell 0
  have c91 : x6.cell? ⟨g9, 1, none⟩ = some (.slice A9 k9 c9) := hr9.cell 1
  have c92 : x6.cell? ⟨g9, 2, none⟩ = some (.slice D9 l9 b9) := hr9.cell 2
  have c110 : x6.cell? ⟨g11, 0, none⟩ = some (.bool (decide ((redP (F0 * F2 - F1 * F1) (F0 * F0).natAbs) < 0))) := hr11.cell 0
  have c111 : x6.cell? ⟨g11, 1, none⟩ = some (.slice A11 k11 c11) := hr11.cell 1
  have c112 : x6.cell? ⟨g11, 2, none⟩ = some (.slice D11 l11 b11) := hr11.cell 2
  have z4 := hr4.lt
  have z9 := hr9.lt
  have z11 := hr11.lt
  skip
  have hse := some_ne hs1
  go_wp2_with fail
  clear c40 c41 c90 c91 c92 c110 c111 c112 z4 z9 z11 hse hs1 hs2
  obtain ⟨i0, hi0, hz0, hz1, hz2⟩ := info_parts infoNat
  go_loopw [13, 14] (fun lv iv wr => ∃ (k : Nat) (gx : Value) (us : List Value), k ≤ lss.length ∧ iv = .int .i64 (k : Int) ∧ lv = gx ∧ wr.ownsRow x6.heap.size 26 1 gx k us ∧ CollO wr us (scaleL c (lss.map val)) k 22 gx.ownBlock ∧ Below x6.heap.size x6 wr) (fun _ iv _ => lss.length - (intOf iv).toNat)
  case atStart => exact ⟨0, _, [], by omega, rfl, rfl, World.ownsRow_nil _ _ _ _, CollO.zero _ _ _ _, Below.refl _ _⟩
  case round =>
    obtain ⟨k, gx, us', hk, rfl, rfl, hown, hcol, BQ⟩ := hrel
    by_cases hlt : k < lss.length
    · obtain ⟨b, o, u, rfl, hbl, hcell, hu⟩ := lst_at (R := Lim) (d := []) (xs := lss) hws HWU.out hlt
      have BW := BB.trans (BQ.mono BB.size)
      have g2 := (BW.cell (p := ⟨b, o + k, none⟩) hbl).trans hcell
      have hu2 := hu.below BW
      have HSG : Hid (val (lss.getD k []) * c = (scaleL c (lss.map val)).getD k 0) := by
        unfold Hid scaleL
        simp only [List.getD_eq_getElem?_getD, List.getElem?_map, List.getElem?_eq_getElem hlt]
        rfl
      have hll := HL20.out _ (List.getElem_mem hlt)
      have hge : lss.getD k [] = lss[k] := by rw [List.getD_eq_getElem?_getD, List.getElem?_eq_getElem hlt]; rfl
      rw [← hge] at hll
      generalize lss.getD k [] = lk at *
      obtain ⟨⟨UA, uc, rfl, _, _, _⟩, _⟩ := id hu
      have hkI : (k : Int) < (lss.length : Int) := by omega
      have hlk : lk.length ≤ 1000000000 := by omega
      have hcc := HC.out
      have HOF := Lib.hid (of_any c)
      have hwz : x6.heap.size ≤ wr.heap.size := BQ.size
      have hkk : k ≤ 21 := by omega
      have wcc : IntKind.u64.wrap (c : Int) = (c : Int) := by rw [IntKind.wrap_u64]; omega
      clear hcell hge
      go_wp2_with fail
      go_region_law (first
        | (go_simp; go_at_call 16; (refine (HOF.out _ (Nat.lt_trans hcc (by decide))).mono ?_); rintro e w5 ⟨v5, rfl, l5, hl5, nt5, hv5, hk5, hf5, h5⟩; have g25 := ((bl_call h5 (bl_drew (Below.refl _ _)) : Below wr.heap.size wr w5).cell (p := ⟨b, o + k, none⟩) (Nat.lt_of_lt_of_le hbl BW.size)).trans g2)
        | (go_simp; go_at_call 15; ((with_reducible refine (mul_any _ _ lk l5 _ (hu2.below ?_) (hl5.below ?_) hlk (Nat.le_trans hk5 (by decide))).mono ?_); (repeat (first | with_reducible exact Below.refl _ _ | with_reducible refine bl_call h6 ?_ | with_reducible refine bl_call h5 ?_ | with_reducible refine bl_drew ?_)); (repeat (first | with_reducible exact Below.refl _ _ | with_reducible refine bl_call h6 ?_ | with_reducible refine bl_call h5 ?_ | with_reducible refine bl_drew ?_)); rintro e w6 ⟨v6, rfl, l6, hl6, nt6, hv6, hk6, hf6, h6⟩; obtain ⟨⟨A6, c6, rfl, _, _, _⟩, _⟩ := id hl6; have B6 : Below wr.heap.size wr w6 := bl_call h6 (bl_call h5 (bl_drew (Below.refl _ _))); have hown6 := own_keep hown B6))
        | (refine step_append_lies _ (by rfl) (.tmp 71) (.tmp 80) 41 (by rfl) x6.heap.size 26 i0 _ 1 24 Tryd.underlying41 hi0 hz0 hz1 hz2 rfl (by omega) _ k _ (by rfl) (hown6.alloc _) ⟨w6.heap.size, 0, none⟩ 1 1 [.slice A6 l6.length c6] (by rfl) (by rfl) (World.news_of_block (cs := #[.slice A6 l6.length c6]) (t := 26) (fr := (0, 0)) (heap_alloc_new w6 _)) (by simp [Value.oneCell']) (by omega) (by unfold maxLen; omega) (by omega) (by have := B6.size; simp; omega) (w6.heap.size + 1) (by simp) ?_; intro gg cap w7 hown7 hgrow hat hlt7))
      all_goals
        have hfv : Fresh wr.heap.size (.slice A6 l6.length c6) := hf6.mono (bl_call h5 (bl_drew (Below.refl _ _)) : Below wr.heap.size wr w5).size
        have hA6 := World.grownBy_alloc w6 (.cells #[.slice A6 l6.length c6] 26) none
        have hBl := B6.trans (((Below.refl w6.heap.size w6).alloc (Nat.le_refl _) (.cells #[.slice A6 l6.length c6] 26)).mono B6.size)
        have hnat : NatAt w6 (.slice A6 l6.length c6) ((scaleL c (lss.map val)).getD k 0) 22 := ⟨l6, hl6, nt6, by rw [hv6, hv5]; exact HSG.out, by omega⟩
        have hnat7 := (hnat.below ((Below.refl w6.heap.size w6).alloc (Nat.le_refl _) (.cells #[.slice A6 l6.length c6] 26))).grown hgrow (off_own hown hfv)
        have hoff7 : Off (some gg) (.slice A6 l6.length c6) := by
          rcases hat with hh | hh
          · rw [← hh]; exact off_own hown hfv
          · subst hh; exact hnat.off (by omega)
        have hcol7 := ((hcol.below hBl).grown hgrow (row' := some gg) (by rcases hat with hh | hh; exact .inl hh.symm; exact .inr ⟨gg, rfl, by rw [hh]; simp⟩)).snoc hnat7 hoff7
        have hB7 : Below x6.heap.size x6 w7 := (BQ.trans (hBl.mono BQ.size)).grown hgrow (Nat.le_trans BQ.size hBl.size) (fun q hq => (hown.lt q hq).1)
        go_wp2_with fail
        go_roundw
        case rel => exact ⟨k + 1, _, us' ++ [.slice A6 l6.length c6], by omega, by go_num, rfl, hown7, hcol7, hB7⟩
        case measure => simp [intOf]; omega
    · obtain ⟨mm, hmm⟩ : ∃ m, lss.length = m := ⟨_, rfl⟩
      obtain rfl : k = lss.length := by omega
      have BW := BB.trans (BQ.mono BB.size)
      obtain ⟨XA, xc, rfl, _, _, _⟩ := Sl.of_own hown
      have hcan : CanL wr (.slice XA lss.length xc) (scaleL c (lss.map val)) 22 := CollO.can (row := _) (by rw [scaleL_len, List.length_map]; exact hcol) (by rw [scaleL_len, List.length_map]; exact hown)
      have hwt2 := hcan.wts
      have q4 := hr4.keep BQ
      have q9 := hr9.keep BQ
      have q11 := hr11.keep BQ
      have u9 := hv9.below BQ
      have u11 := hv11.below BQ
      have uu9 := u9
      have uu11 := u11
      clear hr4 hr9 hr11 hv9 hv11 hown hcol hcan BQ hmm
      obtain ⟨wl, hwl⟩ : ∃ x, x = wr := ⟨_, rfl⟩
      subst hwl
      have BL := Below.refl wl.heap.size wl
      have BB := BW
      have c40 : wl.cell? ⟨w.heap.size, 0, none⟩ = some (.slice PA ps.length pc) := q4.cell 0
      have c41 : wl.cell? ⟨w.heap.size, 1, none⟩ = some (.slice RV rs.length vc) := q4.cell 1
      have c90 : wl.cell? ⟨g9, 0, none⟩ = some (.bool (decide ((redP F1 F0.natAbs) < 0))) := q9.cell 0
      have c91 : wl.cell? ⟨g9, 1, none⟩ = some (.slice A9 k9 c9) := q9.cell 1
      have c92 : wl.cell? ⟨g9, 2, none⟩ = some (.slice D9 l9 b9) := q9.cell 2
      have c110 : wl.cell? ⟨g11, 0, none⟩ = some (.bool (decide ((redP (F0 * F2 - F1 * F1) (F0 * F0).natAbs) < 0))) := q11.cell 0
      have c111 : wl.cell? ⟨g11, 1, none⟩ = some (.slice A11 k11 c11) := q11.cell 1
      have c112 : wl.cell? ⟨g11, 2, none⟩ = some (.slice D11 l11 b11) := q11.cell 2
      have z4 := q4.lt
      have z9 := q9.lt
      have z11 := q11.lt
      go_wp2_with fail
      clear c40 c41 c90 c91 c92 c110 c111 c112 z4 z9 z11
      refine (gmean_ok _ _ _ ps rs (scaleL c (lss.map val)) 22 _ (hp0.below BB) (hr0.below BB) hwt2 (by omega) HSE2.out).mono ?_
      rintro e x31 ⟨v15, rfl, hv15, hb⟩
      replace q4 := q4.keep hb
      replace q9 := q9.keep hb
      replace q11 := q11.keep hb
      replace u9 := u9.below hb
      replace u11 := u11.below hb
      replace hwt2 := hwt2.below hb
      replace BB : Below w.heap.size w x31 := BB.trans (hb.mono BB.size)
      replace BL : Below wl.heap.size wl x31 := BL.trans (hb.mono BL.size)
      clear hb
      skip
      rw [HSR.out.1.1, HSR.out.1.2] at hv15
      have h15' := hv15
      obtain ⟨m15, d15, e15, hm15, hd15, _, _⟩ := h15'
      subst e15
      obtain ⟨A15, k15, c15, rfl⟩ := hm15.lim1.choose_spec.1.show_
      obtain ⟨D15, l15, b15, rfl⟩ := hd15.lim1.choose_spec.1.show_
      clear hm15 hd15
      obtain ⟨g15, hg15⟩ : ∃ g, x31.heap.size = g := ⟨_, rfl⟩
      have hr15 : Row (x31.alloc (.cells #[.bool (decide ((redP F1 F0.natAbs) < 0)), .slice A15 k15 c15, .slice D15 l15 b15] 30)) g15 30 [.bool (decide ((redP F1 F0.natAbs) < 0)), .slice A15 k15 c15, .slice D15 l15 b15] := row_at hg15
      have hl := lit_below x31 (.cells #[.bool (decide ((redP F1 F0.natAbs) < 0)), .slice A15 k15 c15, .slice D15 l15 b15] 30)
      have o4_15 : w.heap.size < g15 := by have := q4.lt; omega
      have o9_15 : g9 < g15 := by have := q9.lt; omega
      have o11_15 : g11 < g15 := by have := q11.lt; omega
      have ob_15 : w.heap.size ≤ g15 := by have := BB.size; omega
      have oBL_15 : wl.heap.size ≤ g15 := by have := BL.size; omega
      have c40 : x31.cell? ⟨w.heap.size, 0, none⟩ = some (.slice PA ps.length pc) := q4.cell 0
      have c41 : x31.cell? ⟨w.heap.size, 1, none⟩ = some (.slice RV rs.length vc) := q4.cell 1
      have c90 : x31.cell? ⟨g9, 0, none⟩ = some (.bool (decide ((redP F1 F0.natAbs) < 0))) := q9.cell 0
      have c91 : x31.cell? ⟨g9, 1, none⟩ = some (.slice A9 k9 c9) := q9.cell 1
      have c92 : x31.cell? ⟨g9, 2, none⟩ = some (.slice D9 l9 b9) := q9.cell 2
      have c110 : x31.cell? ⟨g11, 0, none⟩ = some (.bool (decide ((redP (F0 * F2 - F1 * F1) (F0 * F0).natAbs) < 0))) := q11.cell 0
      have c111 : x31.cell? ⟨g11, 1, none⟩ = some (.slice A11 k11 c11) := q11.cell 1
      have c112 : x31.cell? ⟨g11, 2, none⟩ = some (.slice D11 l11 b11) := q11.cell 2
      have d40 : (x31.alloc (.cells #[.bool (decide ((redP F1 F0.natAbs) < 0)), .slice A15 k15 c15, .slice D15 l15 b15] 30)).cell? ⟨w.heap.size, 0, none⟩ = some (.slice PA ps.length pc) := (q4.alloc _).cell 0
      have d41 : (x31.alloc (.cells #[.bool (decide ((redP F1 F0.natAbs) < 0)), .slice A15 k15 c15, .slice D15 l15 b15] 30)).cell? ⟨w.heap.size, 1, none⟩ = some (.slice RV rs.length vc) := (q4.alloc _).cell 1
      have d90 : (x31.alloc (.cells #[.bool (decide ((redP F1 F0.natAbs) < 0)), .slice A15 k15 c15, .slice D15 l15 b15] 30)).cell? ⟨g9, 0, none⟩ = some (.bool (decide ((redP F1 F0.natAbs) < 0))) := (q9.alloc _).cell 0
      have d91 : (x31.alloc (.cells #[.bool (decide ((redP F1 F0.natAbs) < 0)), .slice A15 k15 c15, .slice D15 l15 b15] 30)).cell? ⟨g9, 1, none⟩ = some (.slice A9 k9 c9) := (q9.alloc _).cell 1
      have d92 : (x31.alloc (.cells #[.bool (decide ((redP F1 F0.natAbs) < 0)), .slice A15 k15 c15, .slice D15 l15 b15] 30)).cell? ⟨g9, 2, none⟩ = some (.slice D9 l9 b9) := (q9.alloc _).cell 2
      have d110 : (x31.alloc (.cells #[.bool (decide ((redP F1 F0.natAbs) < 0)), .slice A15 k15 c15, .slice D15 l15 b15] 30)).cell? ⟨g11, 0, none⟩ = some (.bool (decide ((redP (F0 * F2 - F1 * F1) (F0 * F0).natAbs) < 0))) := (q11.alloc _).cell 0
      have d111 : (x31.alloc (.cells #[.bool (decide ((redP F1 F0.natAbs) < 0)), .slice A15 k15 c15, .slice D15 l15 b15] 30)).cell? ⟨g11, 1, none⟩ = some (.slice A11 k11 c11) := (q11.alloc _).cell 1
      have d112 : (x31.alloc (.cells #[.bool (decide ((redP F1 F0.natAbs) < 0)), .slice A15 k15 c15, .slice D15 l15 b15] 30)).cell? ⟨g11, 2, none⟩ = some (.slice D11 l11 b11) := (q11.alloc _).cell 2
      have e0 : (x31.alloc (.cells #[.bool (decide ((redP F1 F0.natAbs) < 0)), .slice A15 k15 c15, .slice D15 l15 b15] 30)).cell? ⟨g15, 0, none⟩ = some (.bool (decide ((redP F1 F0.natAbs) < 0))) := hr15.cell 0
      have e1 : (x31.alloc (.cells #[.bool (decide ((redP F1 F0.natAbs) < 0)), .slice A15 k15 c15, .slice D15 l15 b15] 30)).cell? ⟨g15, 1, none⟩ = some (.slice A15 k15 c15) := hr15.cell 1
      have e2 : (x31.alloc (.cells #[.bool (decide ((redP F1 F0.natAbs) < 0)), .slice A15 k15 c15, .slice D15 l15 b15] 30)).cell? ⟨g15, 2, none⟩ = some (.slice D15 l15 b15) := hr15.cell 2
      go_wp2_with fail
      clear c40 c41 c90 c91 c92 c110 c111 c112 d40 d41 d90 d91 d92 d110 d111 d112 e0 e1 e2
      clear hg15
      generalize (x31.alloc (.cells #[.bool (decide ((redP F1 F0.natAbs) < 0)), .slice A15 k15 c15, .slice D15 l15 b15] 30)) = x32 at *
      replace q4 := q4.keep hl
      replace q9 := q9.keep hl
      replace q11 := q11.keep hl
      replace u9 := u9.below hl
      replace u11 := u11.below hl
      replace hwt2 := hwt2.below hl
      replace hv15 := hv15.below hl
      replace BB : Below w.heap.size w x32 := BB.trans (hl.mono BB.size)
      replace BL : Below wl.heap.size wl x32 := BL.trans (hl.mono BL.size)
      clear hl
      refine (gvar_ok _ _ _ ps rs (scaleL c (lss.map val)) 22 _ (hp0.below BB) (hr0.below BB) hwt2 (by omega) HSE2.out).mono ?_
      rintro e x33 ⟨v16, rfl, hv16, hb⟩
      replace q4 := q4.keep hb
      replace q9 := q9.keep hb
      replace q11 := q11.keep hb
      replace u9 := u9.below hb
      replace u11 := u11.below hb
      replace hwt2 := hwt2.below hb
      replace hv15 := hv15.below hb
      replace hr15 := hr15.keep hb
      replace BB : Below w.heap.size w x33 := BB.trans (hb.mono BB.size)
      replace BL : Below wl.heap.size wl x33 := BL.trans (hb.mono BL.size)
      clear hb
      rw [HSR.out.2.1, HSR.out.2.2] at hv16
      have h16' := hv16
      obtain ⟨m16, d16, e16, hm16, hd16, _, _⟩ := h16'
      subst e16
      obtain ⟨A16, k16, c16, rfl⟩ := hm16.lim1.choose_spec.1.show_
      obtain ⟨D16, l16, b16, rfl⟩ := hd16.lim1.choose_spec.1.show_
      clear hm16 hd16
      obtain ⟨g16, hg16⟩ : ∃ g, x33.heap.size = g := ⟨_, rfl⟩
      have hr16 : Row (x33.alloc (.cells #[.bool (decide ((redP (F0 * F2 - F1 * F1) (F0 * F0).natAbs) < 0)), .slice A16 k16 c16, .slice D16 l16 b16] 30)) g16 30 [.bool (decide ((redP (F0 * F2 - F1 * F1) (F0 * F0).natAbs) < 0)), .slice A16 k16 c16, .slice D16 l16 b16] := row_at hg16
      have hl := lit_below x33 (.cells #[.bool (decide ((redP (F0 * F2 - F1 * F1) (F0 * F0).natAbs) < 0)), .slice A16 k16 c16, .slice D16 l16 b16] 30)
      have o4_16 : w.heap.size < g16 := by have := q4.lt; omega
      have o9_16 : g9 < g16 := by have := q9.lt; omega
      have o11_16 : g11 < g16 := by have := q11.lt; omega
      have o15_16 : g15 < g16 := by have := hr15.lt; omega
      have ob_16 : w.heap.size ≤ g16 := by have := BB.size; omega
      have oBL_16 : wl.heap.size ≤ g16 := by have := BL.size; omega
      have c40 : x33.cell? ⟨w.heap.size, 0, none⟩ = some (.slice PA ps.length pc) := q4.cell 0
      have c41 : x33.cell? ⟨w.heap.size, 1, none⟩ = some (.slice RV rs.length vc) := q4.cell 1
      have c90 : x33.cell? ⟨g9, 0, none⟩ = some (.bool (decide ((redP F1 F0.natAbs) < 0))) := q9.cell 0
      have c91 : x33.cell? ⟨g9, 1, none⟩ = some (.slice A9 k9 c9) := q9.cell 1
      have c92 : x33.cell? ⟨g9, 2, none⟩ = some (.slice D9 l9 b9) := q9.cell 2
      have c110 : x33.cell? ⟨g11, 0, none⟩ = some (.bool (decide ((redP (F0 * F2 - F1 * F1) (F0 * F0).natAbs) < 0))) := q11.cell 0
      have c111 : x33.cell? ⟨g11, 1, none⟩ = some (.slice A11 k11 c11) := q11.cell 1
      have c112 : x33.cell? ⟨g11, 2, none⟩ = some (.slice D11 l11 b11) := q11.cell 2
      have c150 : x33.cell? ⟨g15, 0, none⟩ = some (.bool (decide ((redP F1 F0.natAbs) < 0))) := hr15.cell 0
      have c151 : x33.cell? ⟨g15, 1, none⟩ = some (.slice A15 k15 c15) := hr15.cell 1
      have c152 : x33.cell? ⟨g15, 2, none⟩ = some (.slice D15 l15 b15) := hr15.cell 2
      have d40 : (x33.alloc (.cells #[.bool (decide ((redP (F0 * F2 - F1 * F1) (F0 * F0).natAbs) < 0)), .slice A16 k16 c16, .slice D16 l16 b16] 30)).cell? ⟨w.heap.size, 0, none⟩ = some (.slice PA ps.length pc) := (q4.alloc _).cell 0
      have d41 : (x33.alloc (.cells #[.bool (decide ((redP (F0 * F2 - F1 * F1) (F0 * F0).natAbs) < 0)), .slice A16 k16 c16, .slice D16 l16 b16] 30)).cell? ⟨w.heap.size, 1, none⟩ = some (.slice RV rs.length vc) := (q4.alloc _).cell 1
      have d90 : (x33.alloc (.cells #[.bool (decide ((redP (F0 * F2 - F1 * F1) (F0 * F0).natAbs) < 0)), .slice A16 k16 c16, .slice D16 l16 b16] 30)).cell? ⟨g9, 0, none⟩ = some (.bool (decide ((redP F1 F0.natAbs) < 0))) := (q9.alloc _).cell 0
      have d91 : (x33.alloc (.cells #[.bool (decide ((redP (F0 * F2 - F1 * F1) (F0 * F0).natAbs) < 0)), .slice A16 k16 c16, .slice D16 l16 b16] 30)).cell? ⟨g9, 1, none⟩ = some (.slice A9 k9 c9) := (q9.alloc _).cell 1
      have d92 : (x33.alloc (.cells #[.bool (decide ((redP (F0 * F2 - F1 * F1) (F0 * F0).natAbs) < 0)), .slice A16 k16 c16, .slice D16 l16 b16] 30)).cell? ⟨g9, 2, none⟩ = some (.slice D9 l9 b9) := (q9.alloc _).cell 2
      have d110 : (x33.alloc (.cells #[.bool (decide ((redP (F0 * F2 - F1 * F1) (F0 * F0).natAbs) < 0)), .slice A16 k16 c16, .slice D16 l16 b16] 30)).cell? ⟨g11, 0, none⟩ = some (.bool (decide ((redP (F0 * F2 - F1 * F1) (F0 * F0).natAbs) < 0))) := (q11.alloc _).cell 0
      have d111 : (x33.alloc (.cells #[.bool (decide ((redP (F0 * F2 - F1 * F1) (F0 * F0).natAbs) < 0)), .slice A16 k16 c16, .slice D16 l16 b16] 30)).cell? ⟨g11, 1, none⟩ = some (.slice A11 k11 c11) := (q11.alloc _).cell 1
      have d112 : (x33.alloc (.cells #[.bool (decide ((redP (F0 * F2 - F1 * F1) (F0 * F0).natAbs) < 0)), .slice A16 k16 c16, .slice D16 l16 b16] 30)).cell? ⟨g11, 2, none⟩ = some (.slice D11 l11 b11) := (q11.alloc _).cell 2
      have d150 : (x33.alloc (.cells #[.bool (decide ((redP (F0 * F2 - F1 * F1) (F0 * F0).natAbs) < 0)), .slice A16 k16 c16, .slice D16 l16 b16] 30)).cell? ⟨g15, 0, none⟩ = some (.bool (decide ((redP F1 F0.natAbs) < 0))) := (hr15.alloc _).cell 0
      have d151 : (x33.alloc (.cells #[.bool (decide ((redP (F0 * F2 - F1 * F1) (F0 * F0).natAbs) < 0)), .slice A16 k16 c16, .slice D16 l16 b16] 30)).cell? ⟨g15, 1, none⟩ = some (.slice A15 k15 c15) := (hr15.alloc _).cell 1
      have d152 : (x33.alloc (.cells #[.bool (decide ((redP (F0 * F2 - F1 * F1) (F0 * F0).natAbs) < 0)), .slice A16 k16 c16, .slice D16 l16 b16] 30)).cell? ⟨g15, 2, none⟩ = some (.slice D15 l15 b15) := (hr15.alloc _).cell 2
      have e0 : (x33.alloc (.cells #[.bool (decide ((redP (F0 * F2 - F1 * F1) (F0 * F0).natAbs) < 0)), .slice A16 k16 c16, .slice D16 l16 b16] 30)).cell? ⟨g16, 0, none⟩ = some (.bool (decide ((redP (F0 * F2 - F1 * F1) (F0 * F0).natAbs) < 0))) := hr16.cell 0
      have e1 : (x33.alloc (.cells #[.bool (decide ((redP (F0 * F2 - F1 * F1) (F0 * F0).natAbs) < 0)), .slice A16 k16 c16, .slice D16 l16 b16] 30)).cell? ⟨g16, 1, none⟩ = some (.slice A16 k16 c16) := hr16.cell 1
      have e2 : (x33.alloc (.cells #[.bool (decide ((redP (F0 * F2 - F1 * F1) (F0 * F0).natAbs) < 0)), .slice A16 k16 c16, .slice D16 l16 b16] 30)).cell? ⟨g16, 2, none⟩ = some (.slice D16 l16 b16) := hr16.cell 2
      go_wp2_with fail
      clear c40 c41 c90 c91 c92 c110 c111 c112 c150 c151 c152 d40 d41 d90 d91 d92 d110 d111 d112 d150 d151 d152 e0 e1 e2
      clear hg16
      generalize (x33.alloc (.cells #[.bool (decide ((redP (F0 * F2 - F1 * F1) (F0 * F0).natAbs) < 0)), .slice A16 k16 c16, .slice D16 l16 b16] 30)) = x34 at *
      replace q4 := q4.keep hl
      replace q9 := q9.keep hl
      replace q11 := q11.keep hl
      replace u9 := u9.below hl
      replace u11 := u11.below hl
      replace hwt2 := hwt2.below hl
      replace hv15 := hv15.below hl
      replace hr15 := hr15.keep hl
      replace hv16 := hv16.below hl
      replace BB : Below w.heap.size w x34 := BB.trans (hl.mono BB.size)
      replace BL : Below wl.heap.size wl x34 := BL.trans (hl.mono BL.size)
      clear hl
      refine (qsame_yes _ _ _ _ _ _ _ _ _ hv15 u9).mono ?_
      rintro e x35 ⟨rfl, hb⟩
      replace q4 := q4.keep hb
      replace q9 := q9.keep hb
      replace q11 := q11.keep hb
      replace u9 := u9.below hb
      replace u11 := u11.below hb
      replace hwt2 := hwt2.below hb
      replace hv15 := hv15.below hb
      replace hr15 := hr15.keep hb
      replace hv16 := hv16.below hb
      replace hr16 := hr16.keep hb
      replace BB : Below w.heap.size w x35 := BB.trans (hb.mono BB.size)
      replace BL : Below wl.heap.size wl x35 := BL.trans (hb.mono BL.size)
      clear hb
      have c40 : x35.cell? ⟨w.heap.size, 0, none⟩ = some (.slice PA ps.length pc) := q4.cell 0
      have c41 : x35.cell? ⟨w.heap.size, 1, none⟩ = some (.slice RV rs.length vc) := q4.cell 1
      have c90 : x35.cell? ⟨g9, 0, none⟩ = some (.bool (decide ((redP F1 F0.natAbs) < 0))) := q9.cell 0
      have c91 : x35.cell? ⟨g9, 1, none⟩ = some (.slice A9 k9 c9) := q9.cell 1
      have c92 : x35.cell? ⟨g9, 2, none⟩ = some (.slice D9 l9 b9) := q9.cell 2
      have c110 : x35.cell? ⟨g11, 0, none⟩ = some (.bool (decide ((redP (F0 * F2 - F1 * F1) (F0 * F0).natAbs) < 0))) := q11.cell 0
      have c111 : x35.cell? ⟨g11, 1, none⟩ = some (.slice A11 k11 c11) := q11.cell 1
      have c112 : x35.cell? ⟨g11, 2, none⟩ = some (.slice D11 l11 b11) := q11.cell 2
      have c150 : x35.cell? ⟨g15, 0, none⟩ = some (.bool (decide ((redP F1 F0.natAbs) < 0))) := hr15.cell 0
      have c151 : x35.cell? ⟨g15, 1, none⟩ = some (.slice A15 k15 c15) := hr15.cell 1
      have c152 : x35.cell? ⟨g15, 2, none⟩ = some (.slice D15 l15 b15) := hr15.cell 2
      have c160 : x35.cell? ⟨g16, 0, none⟩ = some (.bool (decide ((redP (F0 * F2 - F1 * F1) (F0 * F0).natAbs) < 0))) := hr16.cell 0
      have c161 : x35.cell? ⟨g16, 1, none⟩ = some (.slice A16 k16 c16) := hr16.cell 1
      have c162 : x35.cell? ⟨g16, 2, none⟩ = some (.slice D16 l16 b16) := hr16.cell 2
      have z4 := q4.lt
      have z9 := q9.lt
      have z11 := q11.lt
      have z15 := hr15.lt
      have z16 := hr16.lt
      go_wp2_with fail
      clear c40 c41 c90 c91 c92 c110 c111 c112 c150 c151 c152 c160 c161 c162 z4 z9 z11 z15 z16
      refine (qsame_yes _ _ _ _ _ _ _ _ _ hv16 u11).mono ?_
      rintro e x36 ⟨rfl, hb⟩
      replace q4 := q4.keep hb
      replace q9 := q9.keep hb
      replace q11 := q11.keep hb
      replace u9 := u9.below hb
      replace u11 := u11.below hb
      replace hwt2 := hwt2.below hb
      replace hv15 := hv15.below hb
      replace hr15 := hr15.keep hb
      replace hv16 := hv16.below hb
      replace hr16 := hr16.keep hb
      replace BB : Below w.heap.size w x36 := BB.trans (hb.mono BB.size)
      replace BL : Below wl.heap.size wl x36 := BL.trans (hb.mono BL.size)
      clear hb
      have c40 : x36.cell? ⟨w.heap.size, 0, none⟩ = some (.slice PA ps.length pc) := q4.cell 0
      have c41 : x36.cell? ⟨w.heap.size, 1, none⟩ = some (.slice RV rs.length vc) := q4.cell 1
      have c90 : x36.cell? ⟨g9, 0, none⟩ = some (.bool (decide ((redP F1 F0.natAbs) < 0))) := q9.cell 0
      have c91 : x36.cell? ⟨g9, 1, none⟩ = some (.slice A9 k9 c9) := q9.cell 1
      have c92 : x36.cell? ⟨g9, 2, none⟩ = some (.slice D9 l9 b9) := q9.cell 2
      have c110 : x36.cell? ⟨g11, 0, none⟩ = some (.bool (decide ((redP (F0 * F2 - F1 * F1) (F0 * F0).natAbs) < 0))) := q11.cell 0
      have c111 : x36.cell? ⟨g11, 1, none⟩ = some (.slice A11 k11 c11) := q11.cell 1
      have c112 : x36.cell? ⟨g11, 2, none⟩ = some (.slice D11 l11 b11) := q11.cell 2
      have c150 : x36.cell? ⟨g15, 0, none⟩ = some (.bool (decide ((redP F1 F0.natAbs) < 0))) := hr15.cell 0
      have c151 : x36.cell? ⟨g15, 1, none⟩ = some (.slice A15 k15 c15) := hr15.cell 1
      have c152 : x36.cell? ⟨g15, 2, none⟩ = some (.slice D15 l15 b15) := hr15.cell 2
      have c160 : x36.cell? ⟨g16, 0, none⟩ = some (.bool (decide ((redP (F0 * F2 - F1 * F1) (F0 * F0).natAbs) < 0))) := hr16.cell 0
      have c161 : x36.cell? ⟨g16, 1, none⟩ = some (.slice A16 k16 c16) := hr16.cell 1
      have c162 : x36.cell? ⟨g16, 2, none⟩ = some (.slice D16 l16 b16) := hr16.cell 2
      have z4 := q4.lt
      have z9 := q9.lt
      have z11 := q11.lt
      have z15 := hr15.lt
      have z16 := hr16.lt
      go_wp2_with fail
      clear c40 c41 c90 c91 c92 c110 c111 c112 c150 c151 c152 c160 c161 c162 z4 z9 z11 z15 z16
      have pq4 := q4
      have pq9 := q9
      have pq11 := q11
      have pu9 := u9
      have pu11 := u11
      have phwt2 := hwt2
      have phv15 := hv15
      have phr15 := hr15
      have phv16 := hv16
      have phr16 := hr16
      have BBp := BB
      have BLp := BL
      obtain ⟨g17, hg17⟩ : ∃ g, x36.heap.size = g := ⟨_, rfl⟩
      have hr17 : Row (x36.alloc (.cells #[.slice none 0 0, .slice RV rs.length vc] 24)) g17 24 [.slice none 0 0, .slice RV rs.length vc] := row_at hg17
      have hl := lit_below x36 (.cells #[.slice none 0 0, .slice RV rs.length vc] 24)
      have o4_17 : w.heap.size < g17 := by have := q4.lt; omega
      have o9_17 : g9 < g17 := by have := q9.lt; omega
      have o11_17 : g11 < g17 := by have := q11.lt; omega
      have o15_17 : g15 < g17 := by have := hr15.lt; omega
      have o16_17 : g16 < g17 := by have := hr16.lt; omega
      have ob_17 : w.heap.size ≤ g17 := by have := BB.size; omega
      have oBL_17 : wl.heap.size ≤ g17 := by have := BL.size; omega
      have c40 : x36.cell? ⟨w.heap.size, 0, none⟩ = some (.slice PA ps.length pc) := q4.cell 0
      have c41 : x36.cell? ⟨w.heap.size, 1, none⟩ = some (.slice RV rs.length vc) := q4.cell 1
      have c90 : x36.cell? ⟨g9, 0, none⟩ = some (.bool (decide ((redP F1 F0.natAbs) < 0))) := q9.cell 0
      have c91 : x36.cell? ⟨g9, 1, none⟩ = some (.slice A9 k9 c9) := q9.cell 1
      have c92 : x36.cell? ⟨g9, 2, none⟩ = some (.slice D9 l9 b9) := q9.cell 2
      have c110 : x36.cell? ⟨g11, 0, none⟩ = some (.bool (decide ((redP (F0 * F2 - F1 * F1) (F0 * F0).natAbs) < 0))) := q11.cell 0
      have c111 : x36.cell? ⟨g11, 1, none⟩ = some (.slice A11 k11 c11) := q11.cell 1
      have c112 : x36.cell? ⟨g11, 2, none⟩ = some (.slice D11 l11 b11) := q11.cell 2
      have c150 : x36.cell? ⟨g15, 0, none⟩ = some (.bool (decide ((redP F1 F0.natAbs) < 0))) := hr15.cell 0
      have c151 : x36.cell? ⟨g15, 1, none⟩ = some (.slice A15 k15 c15) := hr15.cell 1
      have c152 : x36.cell? ⟨g15, 2, none⟩ = some (.slice D15 l15 b15) := hr15.cell 2
      have c160 : x36.cell? ⟨g16, 0, none⟩ = some (.bool (decide ((redP (F0 * F2 - F1 * F1) (F0 * F0).natAbs) < 0))) := hr16.cell 0
      have c161 : x36.cell? ⟨g16, 1, none⟩ = some (.slice A16 k16 c16) := hr16.cell 1
      have c162 : x36.cell? ⟨g16, 2, none⟩ = some (.slice D16 l16 b16) := hr16.cell 2
      have d40 : (x36.alloc (.cells #[.slice none 0 0, .slice RV rs.length vc] 24)).cell? ⟨w.heap.size, 0, none⟩ = some (.slice PA ps.length pc) := (q4.alloc _).cell 0
      have d41 : (x36.alloc (.cells #[.slice none 0 0, .slice RV rs.length vc] 24)).cell? ⟨w.heap.size, 1, none⟩ = some (.slice RV rs.length vc) := (q4.alloc _).cell 1
      have d90 : (x36.alloc (.cells #[.slice none 0 0, .slice RV rs.length vc] 24)).cell? ⟨g9, 0, none⟩ = some (.bool (decide ((redP F1 F0.natAbs) < 0))) := (q9.alloc _).cell 0
      have d91 : (x36.alloc (.cells #[.slice none 0 0, .slice RV rs.length vc] 24)).cell? ⟨g9, 1, none⟩ = some (.slice A9 k9 c9) := (q9.alloc _).cell 1
      have d92 : (x36.alloc (.cells #[.slice none 0 0, .slice RV rs.length vc] 24)).cell? ⟨g9, 2, none⟩ = some (.slice D9 l9 b9) := (q9.alloc _).cell 2
      have d110 : (x36.alloc (.cells #[.slice none 0 0, .slice RV rs.length vc] 24)).cell? ⟨g11, 0, none⟩ = some (.bool (decide ((redP (F0 * F2 - F1 * F1) (F0 * F0).natAbs) < 0))) := (q11.alloc _).cell 0
      have d111 : (x36.alloc (.cells #[.slice none 0 0, .slice RV rs.length vc] 24)).cell? ⟨g11, 1, none⟩ = some (.slice A11 k11 c11) := (q11.alloc _).cell 1
      have d112 : (x36.alloc (.cells #[.slice none 0 0, .slice RV rs.length vc] 24)).cell? ⟨g11, 2, none⟩ = some (.slice D11 l11 b11) := (q11.alloc _).cell 2
      have d150 : (x36.alloc (.cells #[.slice none 0 0, .slice RV rs.length vc] 24)).cell? ⟨g15, 0, none⟩ = some (.bool (decide ((redP F1 F0.natAbs) < 0))) := (hr15.alloc _).cell 0
      have d151 : (x36.alloc (.cells #[.slice none 0 0, .slice RV rs.length vc] 24)).cell? ⟨g15, 1, none⟩ = some (.slice A15 k15 c15) := (hr15.alloc _).cell 1
      have d152 : (x36.alloc (.cells #[.slice none 0 0, .slice RV rs.length vc] 24)).cell? ⟨g15, 2, none⟩ = some (.slice D15 l15 b15) := (hr15.alloc _).cell 2
      have d160 : (x36.alloc (.cells #[.slice none 0 0, .slice RV rs.length vc] 24)).cell? ⟨g16, 0, none⟩ = some (.bool (decide ((redP (F0 * F2 - F1 * F1) (F0 * F0).natAbs) < 0))) := (hr16.alloc _).cell 0
      have d161 : (x36.alloc (.cells #[.slice none 0 0, .slice RV rs.length vc] 24)).cell? ⟨g16, 1, none⟩ = some (.slice A16 k16 c16) := (hr16.alloc _).cell 1
      have d162 : (x36.alloc (.cells #[.slice none 0 0, .slice RV rs.length vc] 24)).cell? ⟨g16, 2, none⟩ = some (.slice D16 l16 b16) := (hr16.alloc _).cell 2
      have e0 : (x36.alloc (.cells #[.slice none 0 0, .slice RV rs.length vc] 24)).cell? ⟨g17, 0, none⟩ = some (.slice none 0 0) := hr17.cell 0
      have e1 : (x36.alloc (.cells #[.slice none 0 0, .slice RV rs.length vc] 24)).cell? ⟨g17, 1, none⟩ = some (.slice RV rs.length vc) := hr17.cell 1
      go_wp2_with fail
      clear c40 c41 c90 c91 c92 c110 c111 c112 c150 c151 c152 c160 c161 c162 d40 d41 d90 d91 d92 d110 d111 d112 d150 d151 d152 d160 d161 d162 e0 e1
      skip
      generalize (x36.alloc (.cells #[.slice none 0 0, .slice RV rs.length vc] 24)) = x37 at *
      have B17 := hl
      replace q4 := q4.keep hl
      replace q9 := q9.keep hl
      replace q11 := q11.keep hl
      replace u9 := u9.below hl
      replace u11 := u11.below hl
      replace hwt2 := hwt2.below hl
      replace hv15 := hv15.below hl
      replace hr15 := hr15.keep hl
      replace hv16 := hv16.below hl
      replace hr16 := hr16.keep hl
      replace BB : Below w.heap.size w x37 := BB.trans (hl.mono BB.size)
      replace BL : Below wl.heap.size wl x37 := BL.trans (hl.mono BL.size)
      clear hl
      obtain ⟨i1, hj0, hj1, hj2, hj3⟩ := info_parts infoInt
      have gz17 := hr17.lt
      try rw [hg17]
      have HG17 := Lib.hid hg17
      clear hg17
      skip
      go_loopw [18] (fun iv wr => ∃ (k : Nat) (A7 : Option Addr) (c7 : Nat), k ≤ ps.length ∧ iv = .int .i64 (k : Int) ∧ Row wr g17 24 [.slice A7 k c7, .slice RV rs.length vc] ∧ wr.ownsRow (g17 + 1) 3 1 (.slice A7 k c7) k (((moveL d ps).take k).map (Value.int .i64)) ∧ Below x36.heap.size x36 wr) (fun iv _ => ps.length - (intOf iv).toNat)
      case atStart => exact ⟨0, none, 0, by omega, rfl, hr17, World.ownsRow_nil _ _ _ _, B17⟩
      case round =>
        obtain ⟨k, A7, c7, hk, rfl, hrr, hown, BQ⟩ := hrel
        have BW := BBp.trans (BQ.mono BBp.size)
        by_cases hlt : k < ps.length
        · obtain ⟨pb, po, rfl, hpb, hcell⟩ := hps.num hlt
          have g2 := (BW.cell (p := ⟨pb, po + k, none⟩) hpb).trans (hcell k hlt)
          have hx := HZ.out k hlt
          have HXM := Lib.hid (moveL_get d ps hlt)
          have HTK := Lib.hid (take_move d ps hlt)
          generalize ps.getD k 0 = x at g2 hx HXM HTK
          have t4 := pq4.keep BQ
          have zpb : pb < wr.heap.size := Nat.lt_of_lt_of_le hpb BW.size
          have hkI : (k : Int) < (ps.length : Int) := by omega
          have wxx : IntKind.i64.wrap (x + d) = x + d := by have := HD1.out; have := HD2.out; rw [IntKind.wrap_i64]; omega
          have hk21 : k ≤ 21 := by have := HL21.out; omega
          have c40 : wr.cell? ⟨w.heap.size, 0, none⟩ = some (.slice (some ⟨pb, po, none⟩) ps.length pc) := t4.cell 0
          have c41 : wr.cell? ⟨w.heap.size, 1, none⟩ = some (.slice RV rs.length vc) := t4.cell 1
          have c170 : wr.cell? ⟨g17, 0, none⟩ = some (.slice A7 k c7) := hrr.cell 0
          have c171 : wr.cell? ⟨g17, 1, none⟩ = some (.slice RV rs.length vc) := hrr.cell 1
          have f170 : wr.frozen? ⟨g17, 0, none⟩ = false := hrr.frozen 0
          have f171 : wr.frozen? ⟨g17, 1, none⟩ = false := hrr.frozen 1
          have z4 := t4.lt
          have z17 := hrr.lt
          clear hcell hps
          go_wp2_with fail
          have hownN : ((wr.alloc (.cells #[.int .i64 (x + d)] 3)).drew).ownsRow (g17 + 1) 3 1 (.slice A7 k c7) k (((moveL d ps).take k).map (Value.int .i64)) := hown.alloc _
          have hrN : Row ((wr.alloc (.cells #[.int .i64 (x + d)] 3)).drew) g17 24 [.slice A7 k c7, .slice RV rs.length vc] := hrr.alloc _
          have hnN : ∀ j u, [Value.int .i64 (x + d)][j]? = some u → ((wr.alloc (.cells #[.int .i64 (x + d)] 3)).drew).cell? ((⟨wr.heap.size, 0, none⟩ : Addr).add j) = some u := World.news_of_block (w := ((wr.alloc (.cells #[.int .i64 (x + d)] 3)).drew)) (cs := #[.int .i64 (x + d)]) (t := 3) (fr := (0, 0)) (heap_alloc_new wr _)
          have hzN : ((wr.alloc (.cells #[.int .i64 (x + d)] 3)).drew).heap.size = wr.heap.size + 1 := World.size_alloc _ _
          have hm1 : k + 1 ≤ maxLen := by unfold maxLen; omega
          go_region_law (refine step_append_lies _ (by rfl) (.tmp 123) (.tmp 131) 22 (by rfl) (g17 + 1) 3 i1 (.int .i64 0) 1 8 Tryd.underlying22 hj0 hj1 hj2 hj3 rfl (by decide) (.slice A7 k c7) k _ (by rfl) hownN ⟨wr.heap.size, 0, none⟩ 1 1 [.int .i64 (x + d)] (by rfl) (by rfl) hnN (by simp [Value.oneCell']) (by decide) hm1 (by omega) (by rw [hzN]; omega) _ hzN ?_; intro gg cap w7 hown7 hgrow hat hlt7; have R7 := hrN.grow hgrow hown (Nat.lt_succ_self _); have R70 := R7.cell 0; have R7f := R7.frozen 0; have R7z := R7.lt; simp only [List.getElem?_cons_zero] at R70)
          all_goals
            go_wp2_with fail
            go_roundw
            case rel =>
              exact ⟨k + 1, some ⟨gg, 0, none⟩, cap, by omega, by go_num, R7.set_ 0 _, (by rw [HTK.out]; exact own_far hown7 (p := ⟨g17, 0, none⟩) (Nat.lt_succ_self _) _), (((BQ.trans (lit_below wr _ |>.mono BQ.size)).drew.grown hgrow (by rw [hzN]; have := BQ.size; omega) (fun q hq => by have := (hown.lt q hq).1; have := HG17.out; omega)).setCell (by show x36.heap.size ≤ g17; have := HG17.out; omega) _)⟩
            case measure => simp [intOf]; omega
        · obtain rfl : k = ps.length := by omega
          rw [List.take_of_length_le (by rw [moveL_len]; exact Nat.le_refl _)] at hown
          have t4 := pq4.keep BQ
          have t9 := pq9.keep BQ
          have t11 := pq11.keep BQ
          have t15 := phr15.keep BQ
          have t16 := phr16.keep BQ
          replace BL := BLp.trans (BQ.mono BLp.size)
          by_cases hGM : gridE (moveL d ps) rs = 0
          · have HGM := Lib.hid hGM
            clear hGM
            have HSE3 : Hid (sumE (moveL d ps) rs (lss.map val) = 0) := by
              unfold Hid sumE
              rw [if_neg (by simpa using HGM.out), if_neg (by rw [moveL_len, List.length_map]; simpa using HLN.out), if_neg (by rw [moveL_len, HF0.out]; omega)]
            have HMF : Hid (redP (wF1 (lss.map val) (moveL d ps) (moveL d ps).length) (wF0 (lss.map val) (moveL d ps).length).natAbs = redP (F1 + d * F0) F0.natAbs ∧ redQ (wF1 (lss.map val) (moveL d ps) (moveL d ps).length) (wF0 (lss.map val) (moveL d ps).length).natAbs = redQ (F1 + d * F0) F0.natAbs ∧
                redP (wF0 (lss.map val) (moveL d ps).length * wF2 (lss.map val) (moveL d ps) (moveL d ps).length - wF1 (lss.map val) (moveL d ps) (moveL d ps).length * wF1 (lss.map val) (moveL d ps) (moveL d ps).length) (wF0 (lss.map val) (moveL d ps).length * wF0 (lss.map val) (moveL d ps).length).natAbs = redP (F0 * F2 - F1 * F1) (F0 * F0).natAbs ∧
                redQ (wF0 (lss.map val) (moveL d ps).length * wF2 (lss.map val) (moveL d ps) (moveL d ps).length - wF1 (lss.map val) (moveL d ps) (moveL d ps).length * wF1 (lss.map val) (moveL d ps) (moveL d ps).length) (wF0 (lss.map val) (moveL d ps).length * wF0 (lss.map val) (moveL d ps).length).natAbs = redQ (F0 * F2 - F1 * F1) (F0 * F0).natAbs) := by
              have hms := move_sums d (lss.map val) ps (k := ps.length) (Nat.le_refl _)
              unfold Hid
              rw [moveL_len, hms.1, hms.2, HF0.out, HF1.out, HF2.out, (move_red F0 F1 F2 d hpos).2]
              exact ⟨rfl, rfl, rfl, rfl⟩
            have HMV := Lib.hid (move_red F0 F1 F2 d hpos).1
            have hdw1 : -100000 ≤ d := by have := HD1.out; omega
            have hdw2 : d ≤ 100000 := by have := HD2.out; omega
            have BB := BW
            have c40 : wr.cell? ⟨w.heap.size, 0, none⟩ = some (.slice PA ps.length pc) := t4.cell 0
            have c41 : wr.cell? ⟨w.heap.size, 1, none⟩ = some (.slice RV rs.length vc) := t4.cell 1
            have c90 : wr.cell? ⟨g9, 0, none⟩ = some (.bool (decide ((redP F1 F0.natAbs) < 0))) := t9.cell 0
            have c91 : wr.cell? ⟨g9, 1, none⟩ = some (.slice A9 k9 c9) := t9.cell 1
            have c92 : wr.cell? ⟨g9, 2, none⟩ = some (.slice D9 l9 b9) := t9.cell 2
            have c110 : wr.cell? ⟨g11, 0, none⟩ = some (.bool (decide ((redP (F0 * F2 - F1 * F1) (F0 * F0).natAbs) < 0))) := t11.cell 0
            have c111 : wr.cell? ⟨g11, 1, none⟩ = some (.slice A11 k11 c11) := t11.cell 1
            have c112 : wr.cell? ⟨g11, 2, none⟩ = some (.slice D11 l11 b11) := t11.cell 2
            have c150 : wr.cell? ⟨g15, 0, none⟩ = some (.bool (decide ((redP F1 F0.natAbs) < 0))) := t15.cell 0
            have c151 : wr.cell? ⟨g15, 1, none⟩ = some (.slice A15 k15 c15) := t15.cell 1
            have c152 : wr.cell? ⟨g15, 2, none⟩ = some (.slice D15 l15 b15) := t15.cell 2
            have c160 : wr.cell? ⟨g16, 0, none⟩ = some (.bool (decide ((redP (F0 * F2 - F1 * F1) (F0 * F0).natAbs) < 0))) := t16.cell 0
            have c161 : wr.cell? ⟨g16, 1, none⟩ = some (.slice A16 k16 c16) := t16.cell 1
            have c162 : wr.cell? ⟨g16, 2, none⟩ = some (.slice D16 l16 b16) := t16.cell 2
            have c170 : wr.cell? ⟨g17, 0, none⟩ = some (.slice A7 ps.length c7) := hrr.cell 0
            have c171 : wr.cell? ⟨g17, 1, none⟩ = some (.slice RV rs.length vc) := hrr.cell 1
            have f150 : wr.frozen? ⟨g15, 0, none⟩ = false := t15.frozen 0
            have f151 : wr.frozen? ⟨g15, 1, none⟩ = false := t15.frozen 1
            have f152 : wr.frozen? ⟨g15, 2, none⟩ = false := t15.frozen 2
            have f160 : wr.frozen? ⟨g16, 0, none⟩ = false := t16.frozen 0
            have f161 : wr.frozen? ⟨g16, 1, none⟩ = false := t16.frozen 1
            have f162 : wr.frozen? ⟨g16, 2, none⟩ = false := t16.frozen 2
            have z4 := t4.lt
            have z9 := t9.lt
            have z11 := t11.lt
            have z15 := t15.lt
            have z16 := t16.lt
            have z17 := hrr.lt
            go_wp2_with fail
            clear c40 c41 c90 c91 c92 c110 c111 c112 c150 c151 c152 c160 c161 c162 c170 c171 f150 f151 f152 f160 f161 f162 z4 z9 z11 z15 z16 z17
            refine (gmean_ok _ _ _ (moveL d ps) rs (lss.map val) 20 _ (num_own hown) (hr0.below BB) (HWT.out.below BB) (by omega) HSE3.out).mono ?_
            have yy15 := t15.lt
            have yy16 := t16.lt
            rintro e x91 ⟨v21, rfl, hv21, hb⟩
            replace t4 := t4.keep hb
            replace t9 := t9.keep hb
            replace t11 := t11.keep hb
            replace t15 := t15.keep hb
            replace t16 := t16.keep hb
            replace hrr := hrr.keep hb
            replace hown := own_keep hown hb
            replace BB : Below w.heap.size w x91 := BB.trans (hb.mono BB.size)
            replace BL : Below wl.heap.size wl x91 := BL.trans (hb.mono BL.size)
            clear hb
            rw [HMF.out.1, HMF.out.2.1] at hv21
            have h21' := hv21
            obtain ⟨m21, d21, e21, hm21, hd21, _, _⟩ := h21'
            subst e21
            obtain ⟨A21, k21, c21, rfl⟩ := hm21.lim1.choose_spec.1.show_
            obtain ⟨D21, l21, b21, rfl⟩ := hd21.lim1.choose_spec.1.show_
            clear hm21 hd21
            have c40 : x91.cell? ⟨w.heap.size, 0, none⟩ = some (.slice PA ps.length pc) := t4.cell 0
            have c41 : x91.cell? ⟨w.heap.size, 1, none⟩ = some (.slice RV rs.length vc) := t4.cell 1
            have c90 : x91.cell? ⟨g9, 0, none⟩ = some (.bool (decide ((redP F1 F0.natAbs) < 0))) := t9.cell 0
            have c91 : x91.cell? ⟨g9, 1, none⟩ = some (.slice A9 k9 c9) := t9.cell 1
            have c92 : x91.cell? ⟨g9, 2, none⟩ = some (.slice D9 l9 b9) := t9.cell 2
            have c110 : x91.cell? ⟨g11, 0, none⟩ = some (.bool (decide ((redP (F0 * F2 - F1 * F1) (F0 * F0).natAbs) < 0))) := t11.cell 0
            have c111 : x91.cell? ⟨g11, 1, none⟩ = some (.slice A11 k11 c11) := t11.cell 1
            have c112 : x91.cell? ⟨g11, 2, none⟩ = some (.slice D11 l11 b11) := t11.cell 2
            have c150 : x91.cell? ⟨g15, 0, none⟩ = some (.bool (decide ((redP F1 F0.natAbs) < 0))) := t15.cell 0
            have c151 : x91.cell? ⟨g15, 1, none⟩ = some (.slice A15 k15 c15) := t15.cell 1
            have c152 : x91.cell? ⟨g15, 2, none⟩ = some (.slice D15 l15 b15) := t15.cell 2
            have c160 : x91.cell? ⟨g16, 0, none⟩ = some (.bool (decide ((redP (F0 * F2 - F1 * F1) (F0 * F0).natAbs) < 0))) := t16.cell 0
            have c161 : x91.cell? ⟨g16, 1, none⟩ = some (.slice A16 k16 c16) := t16.cell 1
            have c162 : x91.cell? ⟨g16, 2, none⟩ = some (.slice D16 l16 b16) := t16.cell 2
            have c170 : x91.cell? ⟨g17, 0, none⟩ = some (.slice A7 ps.length c7) := hrr.cell 0
            have c171 : x91.cell? ⟨g17, 1, none⟩ = some (.slice RV rs.length vc) := hrr.cell 1
            have f150 : x91.frozen? ⟨g15, 0, none⟩ = false := t15.frozen 0
            have f151 : x91.frozen? ⟨g15, 1, none⟩ = false := t15.frozen 1
            have f152 : x91.frozen? ⟨g15, 2, none⟩ = false := t15.frozen 2
            have f160 : x91.frozen? ⟨g16, 0, none⟩ = false := t16.frozen 0
            have f161 : x91.frozen? ⟨g16, 1, none⟩ = false := t16.frozen 1
            have f162 : x91.frozen? ⟨g16, 2, none⟩ = false := t16.frozen 2
            have z4 := t4.lt
            have z9 := t9.lt
            have z11 := t11.lt
            have z15 := t15.lt
            have z16 := t16.lt
            have z17 := hrr.lt
            have nt4 : Row (((x91.setCell ⟨g15, 0, none⟩ (.bool (decide ((redP (F1 + d * F0) F0.natAbs) < 0)))).setCell ⟨g15, 1, none⟩ (.slice A21 k21 c21)).setCell ⟨g15, 2, none⟩ (.slice D21 l21 b21)) (w.heap.size) 24 [.slice PA ps.length pc, .slice RV rs.length vc] := (((t4.far (by show w.heap.size ≠ g15; omega) _).far (by show w.heap.size ≠ g15; omega) _).far (by show w.heap.size ≠ g15; omega) _)
            have nt9 : Row (((x91.setCell ⟨g15, 0, none⟩ (.bool (decide ((redP (F1 + d * F0) F0.natAbs) < 0)))).setCell ⟨g15, 1, none⟩ (.slice A21 k21 c21)).setCell ⟨g15, 2, none⟩ (.slice D21 l21 b21)) (g9) 30 [.bool (decide ((redP F1 F0.natAbs) < 0)), .slice A9 k9 c9, .slice D9 l9 b9] := (((t9.far (by show g9 ≠ g15; omega) _).far (by show g9 ≠ g15; omega) _).far (by show g9 ≠ g15; omega) _)
            have nt11 : Row (((x91.setCell ⟨g15, 0, none⟩ (.bool (decide ((redP (F1 + d * F0) F0.natAbs) < 0)))).setCell ⟨g15, 1, none⟩ (.slice A21 k21 c21)).setCell ⟨g15, 2, none⟩ (.slice D21 l21 b21)) (g11) 30 [.bool (decide ((redP (F0 * F2 - F1 * F1) (F0 * F0).natAbs) < 0)), .slice A11 k11 c11, .slice D11 l11 b11] := (((t11.far (by show g11 ≠ g15; omega) _).far (by show g11 ≠ g15; omega) _).far (by show g11 ≠ g15; omega) _)
            have nt15 : Row (((x91.setCell ⟨g15, 0, none⟩ (.bool (decide ((redP (F1 + d * F0) F0.natAbs) < 0)))).setCell ⟨g15, 1, none⟩ (.slice A21 k21 c21)).setCell ⟨g15, 2, none⟩ (.slice D21 l21 b21)) (g15) 30 [.bool (decide ((redP (F1 + d * F0) F0.natAbs) < 0)), .slice A21 k21 c21, .slice D21 l21 b21] := (((t15.set_ 0 (.bool (decide ((redP (F1 + d * F0) F0.natAbs) < 0)))).set_ 1 (.slice A21 k21 c21)).set_ 2 (.slice D21 l21 b21))
            have nt16 : Row (((x91.setCell ⟨g15, 0, none⟩ (.bool (decide ((redP (F1 + d * F0) F0.natAbs) < 0)))).setCell ⟨g15, 1, none⟩ (.slice A21 k21 c21)).setCell ⟨g15, 2, none⟩ (.slice D21 l21 b21)) (g16) 30 [.bool (decide ((redP (F0 * F2 - F1 * F1) (F0 * F0).natAbs) < 0)), .slice A16 k16 c16, .slice D16 l16 b16] := (((t16.far (by show g16 ≠ g15; omega) _).far (by show g16 ≠ g15; omega) _).far (by show g16 ≠ g15; omega) _)
            have nhrr : Row (((x91.setCell ⟨g15, 0, none⟩ (.bool (decide ((redP (F1 + d * F0) F0.natAbs) < 0)))).setCell ⟨g15, 1, none⟩ (.slice A21 k21 c21)).setCell ⟨g15, 2, none⟩ (.slice D21 l21 b21)) (g17) 24 [.slice A7 ps.length c7, .slice RV rs.length vc] := (((hrr.far (by show g17 ≠ g15; omega) _).far (by show g17 ≠ g15; omega) _).far (by show g17 ≠ g15; omega) _)
            have nBB : Below w.heap.size w (((x91.setCell ⟨g15, 0, none⟩ (.bool (decide ((redP (F1 + d * F0) F0.natAbs) < 0)))).setCell ⟨g15, 1, none⟩ (.slice A21 k21 c21)).setCell ⟨g15, 2, none⟩ (.slice D21 l21 b21)) := (((BB.setCell (by show w.heap.size ≤ g15; omega) _).setCell (by show w.heap.size ≤ g15; omega) _).setCell (by show w.heap.size ≤ g15; omega) _)
            have nBL : Below wl.heap.size wl (((x91.setCell ⟨g15, 0, none⟩ (.bool (decide ((redP (F1 + d * F0) F0.natAbs) < 0)))).setCell ⟨g15, 1, none⟩ (.slice A21 k21 c21)).setCell ⟨g15, 2, none⟩ (.slice D21 l21 b21)) := (((BL.setCell (by show wl.heap.size ≤ g15; omega) _).setCell (by show wl.heap.size ≤ g15; omega) _).setCell (by show wl.heap.size ≤ g15; omega) _)
            have nhown := (own_far (own_far (own_far hown (p := ⟨g15, 0, none⟩) (by show g15 < _; omega) (.bool (decide ((redP (F1 + d * F0) F0.natAbs) < 0)))) (p := ⟨g15, 1, none⟩) (by show g15 < _; omega) (.slice A21 k21 c21)) (p := ⟨g15, 2, none⟩) (by show g15 < _; omega) (.slice D21 l21 b21))
            have nhv21 := (((hv21.set_ (a := ⟨g15, 0, none⟩) (by show g15 < _; omega) (.bool (decide ((redP (F1 + d * F0) F0.natAbs) < 0)))).set_ (a := ⟨g15, 1, none⟩) (by show g15 < _; omega) (.slice A21 k21 c21)).set_ (a := ⟨g15, 2, none⟩) (by show g15 < _; omega) (.slice D21 l21 b21))
            have d40 : (((x91.setCell ⟨g15, 0, none⟩ (.bool (decide ((redP (F1 + d * F0) F0.natAbs) < 0)))).setCell ⟨g15, 1, none⟩ (.slice A21 k21 c21)).setCell ⟨g15, 2, none⟩ (.slice D21 l21 b21)).cell? ⟨w.heap.size, 0, none⟩ = some (.slice PA ps.length pc) := nt4.cell 0
            have d41 : (((x91.setCell ⟨g15, 0, none⟩ (.bool (decide ((redP (F1 + d * F0) F0.natAbs) < 0)))).setCell ⟨g15, 1, none⟩ (.slice A21 k21 c21)).setCell ⟨g15, 2, none⟩ (.slice D21 l21 b21)).cell? ⟨w.heap.size, 1, none⟩ = some (.slice RV rs.length vc) := nt4.cell 1
            have d90 : (((x91.setCell ⟨g15, 0, none⟩ (.bool (decide ((redP (F1 + d * F0) F0.natAbs) < 0)))).setCell ⟨g15, 1, none⟩ (.slice A21 k21 c21)).setCell ⟨g15, 2, none⟩ (.slice D21 l21 b21)).cell? ⟨g9, 0, none⟩ = some (.bool (decide ((redP F1 F0.natAbs) < 0))) := nt9.cell 0
            have d91 : (((x91.setCell ⟨g15, 0, none⟩ (.bool (decide ((redP (F1 + d * F0) F0.natAbs) < 0)))).setCell ⟨g15, 1, none⟩ (.slice A21 k21 c21)).setCell ⟨g15, 2, none⟩ (.slice D21 l21 b21)).cell? ⟨g9, 1, none⟩ = some (.slice A9 k9 c9) := nt9.cell 1
            have d92 : (((x91.setCell ⟨g15, 0, none⟩ (.bool (decide ((redP (F1 + d * F0) F0.natAbs) < 0)))).setCell ⟨g15, 1, none⟩ (.slice A21 k21 c21)).setCell ⟨g15, 2, none⟩ (.slice D21 l21 b21)).cell? ⟨g9, 2, none⟩ = some (.slice D9 l9 b9) := nt9.cell 2
            have d110 : (((x91.setCell ⟨g15, 0, none⟩ (.bool (decide ((redP (F1 + d * F0) F0.natAbs) < 0)))).setCell ⟨g15, 1, none⟩ (.slice A21 k21 c21)).setCell ⟨g15, 2, none⟩ (.slice D21 l21 b21)).cell? ⟨g11, 0, none⟩ = some (.bool (decide ((redP (F0 * F2 - F1 * F1) (F0 * F0).natAbs) < 0))) := nt11.cell 0
            have d111 : (((x91.setCell ⟨g15, 0, none⟩ (.bool (decide ((redP (F1 + d * F0) F0.natAbs) < 0)))).setCell ⟨g15, 1, none⟩ (.slice A21 k21 c21)).setCell ⟨g15, 2, none⟩ (.slice D21 l21 b21)).cell? ⟨g11, 1, none⟩ = some (.slice A11 k11 c11) := nt11.cell 1
            have d112 : (((x91.setCell ⟨g15, 0, none⟩ (.bool (decide ((redP (F1 + d * F0) F0.natAbs) < 0)))).setCell ⟨g15, 1, none⟩ (.slice A21 k21 c21)).setCell ⟨g15, 2, none⟩ (.slice D21 l21 b21)).cell? ⟨g11, 2, none⟩ = some (.slice D11 l11 b11) := nt11.cell 2
            have d150 : (((x91.setCell ⟨g15, 0, none⟩ (.bool (decide ((redP (F1 + d * F0) F0.natAbs) < 0)))).setCell ⟨g15, 1, none⟩ (.slice A21 k21 c21)).setCell ⟨g15, 2, none⟩ (.slice D21 l21 b21)).cell? ⟨g15, 0, none⟩ = some (.bool (decide ((redP (F1 + d * F0) F0.natAbs) < 0))) := nt15.cell 0
            have d151 : (((x91.setCell ⟨g15, 0, none⟩ (.bool (decide ((redP (F1 + d * F0) F0.natAbs) < 0)))).setCell ⟨g15, 1, none⟩ (.slice A21 k21 c21)).setCell ⟨g15, 2, none⟩ (.slice D21 l21 b21)).cell? ⟨g15, 1, none⟩ = some (.slice A21 k21 c21) := nt15.cell 1
            have d152 : (((x91.setCell ⟨g15, 0, none⟩ (.bool (decide ((redP (F1 + d * F0) F0.natAbs) < 0)))).setCell ⟨g15, 1, none⟩ (.slice A21 k21 c21)).setCell ⟨g15, 2, none⟩ (.slice D21 l21 b21)).cell? ⟨g15, 2, none⟩ = some (.slice D21 l21 b21) := nt15.cell 2
            have d160 : (((x91.setCell ⟨g15, 0, none⟩ (.bool (decide ((redP (F1 + d * F0) F0.natAbs) < 0)))).setCell ⟨g15, 1, none⟩ (.slice A21 k21 c21)).setCell ⟨g15, 2, none⟩ (.slice D21 l21 b21)).cell? ⟨g16, 0, none⟩ = some (.bool (decide ((redP (F0 * F2 - F1 * F1) (F0 * F0).natAbs) < 0))) := nt16.cell 0
            have d161 : (((x91.setCell ⟨g15, 0, none⟩ (.bool (decide ((redP (F1 + d * F0) F0.natAbs) < 0)))).setCell ⟨g15, 1, none⟩ (.slice A21 k21 c21)).setCell ⟨g15, 2, none⟩ (.slice D21 l21 b21)).cell? ⟨g16, 1, none⟩ = some (.slice A16 k16 c16) := nt16.cell 1
            have d162 : (((x91.setCell ⟨g15, 0, none⟩ (.bool (decide ((redP (F1 + d * F0) F0.natAbs) < 0)))).setCell ⟨g15, 1, none⟩ (.slice A21 k21 c21)).setCell ⟨g15, 2, none⟩ (.slice D21 l21 b21)).cell? ⟨g16, 2, none⟩ = some (.slice D16 l16 b16) := nt16.cell 2
            have d170 : (((x91.setCell ⟨g15, 0, none⟩ (.bool (decide ((redP (F1 + d * F0) F0.natAbs) < 0)))).setCell ⟨g15, 1, none⟩ (.slice A21 k21 c21)).setCell ⟨g15, 2, none⟩ (.slice D21 l21 b21)).cell? ⟨g17, 0, none⟩ = some (.slice A7 ps.length c7) := nhrr.cell 0
            have d171 : (((x91.setCell ⟨g15, 0, none⟩ (.bool (decide ((redP (F1 + d * F0) F0.natAbs) < 0)))).setCell ⟨g15, 1, none⟩ (.slice A21 k21 c21)).setCell ⟨g15, 2, none⟩ (.slice D21 l21 b21)).cell? ⟨g17, 1, none⟩ = some (.slice RV rs.length vc) := nhrr.cell 1
            have h150 : (((x91.setCell ⟨g15, 0, none⟩ (.bool (decide ((redP (F1 + d * F0) F0.natAbs) < 0)))).setCell ⟨g15, 1, none⟩ (.slice A21 k21 c21)).setCell ⟨g15, 2, none⟩ (.slice D21 l21 b21)).frozen? ⟨g15, 0, none⟩ = false := nt15.frozen 0
            have h151 : (((x91.setCell ⟨g15, 0, none⟩ (.bool (decide ((redP (F1 + d * F0) F0.natAbs) < 0)))).setCell ⟨g15, 1, none⟩ (.slice A21 k21 c21)).setCell ⟨g15, 2, none⟩ (.slice D21 l21 b21)).frozen? ⟨g15, 1, none⟩ = false := nt15.frozen 1
            have h152 : (((x91.setCell ⟨g15, 0, none⟩ (.bool (decide ((redP (F1 + d * F0) F0.natAbs) < 0)))).setCell ⟨g15, 1, none⟩ (.slice A21 k21 c21)).setCell ⟨g15, 2, none⟩ (.slice D21 l21 b21)).frozen? ⟨g15, 2, none⟩ = false := nt15.frozen 2
            have h160 : (((x91.setCell ⟨g15, 0, none⟩ (.bool (decide ((redP (F1 + d * F0) F0.natAbs) < 0)))).setCell ⟨g15, 1, none⟩ (.slice A21 k21 c21)).setCell ⟨g15, 2, none⟩ (.slice D21 l21 b21)).frozen? ⟨g16, 0, none⟩ = false := nt16.frozen 0
            have h161 : (((x91.setCell ⟨g15, 0, none⟩ (.bool (decide ((redP (F1 + d * F0) F0.natAbs) < 0)))).setCell ⟨g15, 1, none⟩ (.slice A21 k21 c21)).setCell ⟨g15, 2, none⟩ (.slice D21 l21 b21)).frozen? ⟨g16, 1, none⟩ = false := nt16.frozen 1
            have h162 : (((x91.setCell ⟨g15, 0, none⟩ (.bool (decide ((redP (F1 + d * F0) F0.natAbs) < 0)))).setCell ⟨g15, 1, none⟩ (.slice A21 k21 c21)).setCell ⟨g15, 2, none⟩ (.slice D21 l21 b21)).frozen? ⟨g16, 2, none⟩ = false := nt16.frozen 2
            go_wp2_with fail
            clear d40 d41 d90 d91 d92 d110 d111 d112 d150 d151 d152 d160 d161 d162 d170 d171 h150 h151 h152 h160 h161 h162 c40 c41 c90 c91 c92 c110 c111 c112 c150 c151 c152 c160 c161 c162 c170 c171 f150 f151 f152 f160 f161 f162 z4 z9 z11 z15 z16 z17
            replace t4 := nt4
            clear nt4
            replace t9 := nt9
            clear nt9
            replace t11 := nt11
            clear nt11
            replace t15 := nt15
            clear nt15
            replace t16 := nt16
            clear nt16
            replace hrr := nhrr
            clear nhrr
            replace hown := nhown
            clear nhown
            replace hv21 := nhv21
            clear nhv21
            replace BL := nBL
            clear nBL
            replace BB := nBB
            clear nBB
            generalize (((x91.setCell ⟨g15, 0, none⟩ (.bool (decide ((redP (F1 + d * F0) F0.natAbs) < 0)))).setCell ⟨g15, 1, none⟩ (.slice A21 k21 c21)).setCell ⟨g15, 2, none⟩ (.slice D21 l21 b21)) = x92 at *
            refine (gvar_ok _ _ _ (moveL d ps) rs (lss.map val) 20 _ (num_own hown) (hr0.below BB) (HWT.out.below BB) (by omega) HSE3.out).mono ?_
            have yz16 := t16.lt
            rintro e x93 ⟨v22, rfl, hv22, hb⟩
            replace t4 := t4.keep hb
            replace t9 := t9.keep hb
            replace t11 := t11.keep hb
            replace t15 := t15.keep hb
            replace t16 := t16.keep hb
            replace hrr := hrr.keep hb
            replace hown := own_keep hown hb
            replace hv21 := hv21.below hb
            replace BB : Below w.heap.size w x93 := BB.trans (hb.mono BB.size)
            replace BL : Below wl.heap.size wl x93 := BL.trans (hb.mono BL.size)
            clear hb
            rw [HMF.out.2.2.1, HMF.out.2.2.2] at hv22
            have h22' := hv22
            obtain ⟨m22, d22, e22, hm22, hd22, _, _⟩ := h22'
            subst e22
            obtain ⟨A22, k22, c22, rfl⟩ := hm22.lim1.choose_spec.1.show_
            obtain ⟨D22, l22, b22, rfl⟩ := hd22.lim1.choose_spec.1.show_
            clear hm22 hd22
            have c40 : x93.cell? ⟨w.heap.size, 0, none⟩ = some (.slice PA ps.length pc) := t4.cell 0
            have c41 : x93.cell? ⟨w.heap.size, 1, none⟩ = some (.slice RV rs.length vc) := t4.cell 1
            have c90 : x93.cell? ⟨g9, 0, none⟩ = some (.bool (decide ((redP F1 F0.natAbs) < 0))) := t9.cell 0
            have c91 : x93.cell? ⟨g9, 1, none⟩ = some (.slice A9 k9 c9) := t9.cell 1
            have c92 : x93.cell? ⟨g9, 2, none⟩ = some (.slice D9 l9 b9) := t9.cell 2
            have c110 : x93.cell? ⟨g11, 0, none⟩ = some (.bool (decide ((redP (F0 * F2 - F1 * F1) (F0 * F0).natAbs) < 0))) := t11.cell 0
            have c111 : x93.cell? ⟨g11, 1, none⟩ = some (.slice A11 k11 c11) := t11.cell 1
            have c112 : x93.cell? ⟨g11, 2, none⟩ = some (.slice D11 l11 b11) := t11.cell 2
            have c150 : x93.cell? ⟨g15, 0, none⟩ = some (.bool (decide ((redP (F1 + d * F0) F0.natAbs) < 0))) := t15.cell 0
            have c151 : x93.cell? ⟨g15, 1, none⟩ = some (.slice A21 k21 c21) := t15.cell 1
            have c152 : x93.cell? ⟨g15, 2, none⟩ = some (.slice D21 l21 b21) := t15.cell 2
            have c160 : x93.cell? ⟨g16, 0, none⟩ = some (.bool (decide ((redP (F0 * F2 - F1 * F1) (F0 * F0).natAbs) < 0))) := t16.cell 0
            have c161 : x93.cell? ⟨g16, 1, none⟩ = some (.slice A16 k16 c16) := t16.cell 1
            have c162 : x93.cell? ⟨g16, 2, none⟩ = some (.slice D16 l16 b16) := t16.cell 2
            have c170 : x93.cell? ⟨g17, 0, none⟩ = some (.slice A7 ps.length c7) := hrr.cell 0
            have c171 : x93.cell? ⟨g17, 1, none⟩ = some (.slice RV rs.length vc) := hrr.cell 1
            have f150 : x93.frozen? ⟨g15, 0, none⟩ = false := t15.frozen 0
            have f151 : x93.frozen? ⟨g15, 1, none⟩ = false := t15.frozen 1
            have f152 : x93.frozen? ⟨g15, 2, none⟩ = false := t15.frozen 2
            have f160 : x93.frozen? ⟨g16, 0, none⟩ = false := t16.frozen 0
            have f161 : x93.frozen? ⟨g16, 1, none⟩ = false := t16.frozen 1
            have f162 : x93.frozen? ⟨g16, 2, none⟩ = false := t16.frozen 2
            have z4 := t4.lt
            have z9 := t9.lt
            have z11 := t11.lt
            have z15 := t15.lt
            have z16 := t16.lt
            have z17 := hrr.lt
            have nt4 : Row (((x93.setCell ⟨g16, 0, none⟩ (.bool (decide ((redP (F0 * F2 - F1 * F1) (F0 * F0).natAbs) < 0)))).setCell ⟨g16, 1, none⟩ (.slice A22 k22 c22)).setCell ⟨g16, 2, none⟩ (.slice D22 l22 b22)) (w.heap.size) 24 [.slice PA ps.length pc, .slice RV rs.length vc] := (((t4.far (by show w.heap.size ≠ g16; omega) _).far (by show w.heap.size ≠ g16; omega) _).far (by show w.heap.size ≠ g16; omega) _)
            have nt9 : Row (((x93.setCell ⟨g16, 0, none⟩ (.bool (decide ((redP (F0 * F2 - F1 * F1) (F0 * F0).natAbs) < 0)))).setCell ⟨g16, 1, none⟩ (.slice A22 k22 c22)).setCell ⟨g16, 2, none⟩ (.slice D22 l22 b22)) (g9) 30 [.bool (decide ((redP F1 F0.natAbs) < 0)), .slice A9 k9 c9, .slice D9 l9 b9] := (((t9.far (by show g9 ≠ g16; omega) _).far (by show g9 ≠ g16; omega) _).far (by show g9 ≠ g16; omega) _)
            have nt11 : Row (((x93.setCell ⟨g16, 0, none⟩ (.bool (decide ((redP (F0 * F2 - F1 * F1) (F0 * F0).natAbs) < 0)))).setCell ⟨g16, 1, none⟩ (.slice A22 k22 c22)).setCell ⟨g16, 2, none⟩ (.slice D22 l22 b22)) (g11) 30 [.bool (decide ((redP (F0 * F2 - F1 * F1) (F0 * F0).natAbs) < 0)), .slice A11 k11 c11, .slice D11 l11 b11] := (((t11.far (by show g11 ≠ g16; omega) _).far (by show g11 ≠ g16; omega) _).far (by show g11 ≠ g16; omega) _)
            have nt15 : Row (((x93.setCell ⟨g16, 0, none⟩ (.bool (decide ((redP (F0 * F2 - F1 * F1) (F0 * F0).natAbs) < 0)))).setCell ⟨g16, 1, none⟩ (.slice A22 k22 c22)).setCell ⟨g16, 2, none⟩ (.slice D22 l22 b22)) (g15) 30 [.bool (decide ((redP (F1 + d * F0) F0.natAbs) < 0)), .slice A21 k21 c21, .slice D21 l21 b21] := (((t15.far (by show g15 ≠ g16; omega) _).far (by show g15 ≠ g16; omega) _).far (by show g15 ≠ g16; omega) _)
            have nt16 : Row (((x93.setCell ⟨g16, 0, none⟩ (.bool (decide ((redP (F0 * F2 - F1 * F1) (F0 * F0).natAbs) < 0)))).setCell ⟨g16, 1, none⟩ (.slice A22 k22 c22)).setCell ⟨g16, 2, none⟩ (.slice D22 l22 b22)) (g16) 30 [.bool (decide ((redP (F0 * F2 - F1 * F1) (F0 * F0).natAbs) < 0)), .slice A22 k22 c22, .slice D22 l22 b22] := (((t16.set_ 0 (.bool (decide ((redP (F0 * F2 - F1 * F1) (F0 * F0).natAbs) < 0)))).set_ 1 (.slice A22 k22 c22)).set_ 2 (.slice D22 l22 b22))
            have nhrr : Row (((x93.setCell ⟨g16, 0, none⟩ (.bool (decide ((redP (F0 * F2 - F1 * F1) (F0 * F0).natAbs) < 0)))).setCell ⟨g16, 1, none⟩ (.slice A22 k22 c22)).setCell ⟨g16, 2, none⟩ (.slice D22 l22 b22)) (g17) 24 [.slice A7 ps.length c7, .slice RV rs.length vc] := (((hrr.far (by show g17 ≠ g16; omega) _).far (by show g17 ≠ g16; omega) _).far (by show g17 ≠ g16; omega) _)
            have nBB : Below w.heap.size w (((x93.setCell ⟨g16, 0, none⟩ (.bool (decide ((redP (F0 * F2 - F1 * F1) (F0 * F0).natAbs) < 0)))).setCell ⟨g16, 1, none⟩ (.slice A22 k22 c22)).setCell ⟨g16, 2, none⟩ (.slice D22 l22 b22)) := (((BB.setCell (by show w.heap.size ≤ g16; omega) _).setCell (by show w.heap.size ≤ g16; omega) _).setCell (by show w.heap.size ≤ g16; omega) _)
            have nBL : Below wl.heap.size wl (((x93.setCell ⟨g16, 0, none⟩ (.bool (decide ((redP (F0 * F2 - F1 * F1) (F0 * F0).natAbs) < 0)))).setCell ⟨g16, 1, none⟩ (.slice A22 k22 c22)).setCell ⟨g16, 2, none⟩ (.slice D22 l22 b22)) := (((BL.setCell (by show wl.heap.size ≤ g16; omega) _).setCell (by show wl.heap.size ≤ g16; omega) _).setCell (by show wl.heap.size ≤ g16; omega) _)
            have nhown := (own_far (own_far (own_far hown (p := ⟨g16, 0, none⟩) (by show g16 < _; omega) (.bool (decide ((redP (F0 * F2 - F1 * F1) (F0 * F0).natAbs) < 0)))) (p := ⟨g16, 1, none⟩) (by show g16 < _; omega) (.slice A22 k22 c22)) (p := ⟨g16, 2, none⟩) (by show g16 < _; omega) (.slice D22 l22 b22))
            have nhv21 := (((hv21.set_ (a := ⟨g16, 0, none⟩) (by show g16 < _; omega) (.bool (decide ((redP (F0 * F2 - F1 * F1) (F0 * F0).natAbs) < 0)))).set_ (a := ⟨g16, 1, none⟩) (by show g16 < _; omega) (.slice A22 k22 c22)).set_ (a := ⟨g16, 2, none⟩) (by show g16 < _; omega) (.slice D22 l22 b22))
            have nhv22 := (((hv22.set_ (a := ⟨g16, 0, none⟩) (by show g16 < _; omega) (.bool (decide ((redP (F0 * F2 - F1 * F1) (F0 * F0).natAbs) < 0)))).set_ (a := ⟨g16, 1, none⟩) (by show g16 < _; omega) (.slice A22 k22 c22)).set_ (a := ⟨g16, 2, none⟩) (by show g16 < _; omega) (.slice D22 l22 b22))
            have d40 : (((x93.setCell ⟨g16, 0, none⟩ (.bool (decide ((redP (F0 * F2 - F1 * F1) (F0 * F0).natAbs) < 0)))).setCell ⟨g16, 1, none⟩ (.slice A22 k22 c22)).setCell ⟨g16, 2, none⟩ (.slice D22 l22 b22)).cell? ⟨w.heap.size, 0, none⟩ = some (.slice PA ps.length pc) := nt4.cell 0
            have d41 : (((x93.setCell ⟨g16, 0, none⟩ (.bool (decide ((redP (F0 * F2 - F1 * F1) (F0 * F0).natAbs) < 0)))).setCell ⟨g16, 1, none⟩ (.slice A22 k22 c22)).setCell ⟨g16, 2, none⟩ (.slice D22 l22 b22)).cell? ⟨w.heap.size, 1, none⟩ = some (.slice RV rs.length vc) := nt4.cell 1
            have d90 : (((x93.setCell ⟨g16, 0, none⟩ (.bool (decide ((redP (F0 * F2 - F1 * F1) (F0 * F0).natAbs) < 0)))).setCell ⟨g16, 1, none⟩ (.slice A22 k22 c22)).setCell ⟨g16, 2, none⟩ (.slice D22 l22 b22)).cell? ⟨g9, 0, none⟩ = some (.bool (decide ((redP F1 F0.natAbs) < 0))) := nt9.cell 0
            have d91 : (((x93.setCell ⟨g16, 0, none⟩ (.bool (decide ((redP (F0 * F2 - F1 * F1) (F0 * F0).natAbs) < 0)))).setCell ⟨g16, 1, none⟩ (.slice A22 k22 c22)).setCell ⟨g16, 2, none⟩ (.slice D22 l22 b22)).cell? ⟨g9, 1, none⟩ = some (.slice A9 k9 c9) := nt9.cell 1
            have d92 : (((x93.setCell ⟨g16, 0, none⟩ (.bool (decide ((redP (F0 * F2 - F1 * F1) (F0 * F0).natAbs) < 0)))).setCell ⟨g16, 1, none⟩ (.slice A22 k22 c22)).setCell ⟨g16, 2, none⟩ (.slice D22 l22 b22)).cell? ⟨g9, 2, none⟩ = some (.slice D9 l9 b9) := nt9.cell 2
            have d110 : (((x93.setCell ⟨g16, 0, none⟩ (.bool (decide ((redP (F0 * F2 - F1 * F1) (F0 * F0).natAbs) < 0)))).setCell ⟨g16, 1, none⟩ (.slice A22 k22 c22)).setCell ⟨g16, 2, none⟩ (.slice D22 l22 b22)).cell? ⟨g11, 0, none⟩ = some (.bool (decide ((redP (F0 * F2 - F1 * F1) (F0 * F0).natAbs) < 0))) := nt11.cell 0
            have d111 : (((x93.setCell ⟨g16, 0, none⟩ (.bool (decide ((redP (F0 * F2 - F1 * F1) (F0 * F0).natAbs) < 0)))).setCell ⟨g16, 1, none⟩ (.slice A22 k22 c22)).setCell ⟨g16, 2, none⟩ (.slice D22 l22 b22)).cell? ⟨g11, 1, none⟩ = some (.slice A11 k11 c11) := nt11.cell 1
            have d112 : (((x93.setCell ⟨g16, 0, none⟩ (.bool (decide ((redP (F0 * F2 - F1 * F1) (F0 * F0).natAbs) < 0)))).setCell ⟨g16, 1, none⟩ (.slice A22 k22 c22)).setCell ⟨g16, 2, none⟩ (.slice D22 l22 b22)).cell? ⟨g11, 2, none⟩ = some (.slice D11 l11 b11) := nt11.cell 2
            have d150 : (((x93.setCell ⟨g16, 0, none⟩ (.bool (decide ((redP (F0 * F2 - F1 * F1) (F0 * F0).natAbs) < 0)))).setCell ⟨g16, 1, none⟩ (.slice A22 k22 c22)).setCell ⟨g16, 2, none⟩ (.slice D22 l22 b22)).cell? ⟨g15, 0, none⟩ = some (.bool (decide ((redP (F1 + d * F0) F0.natAbs) < 0))) := nt15.cell 0
            have d151 : (((x93.setCell ⟨g16, 0, none⟩ (.bool (decide ((redP (F0 * F2 - F1 * F1) (F0 * F0).natAbs) < 0)))).setCell ⟨g16, 1, none⟩ (.slice A22 k22 c22)).setCell ⟨g16, 2, none⟩ (.slice D22 l22 b22)).cell? ⟨g15, 1, none⟩ = some (.slice A21 k21 c21) := nt15.cell 1
            have d152 : (((x93.setCell ⟨g16, 0, none⟩ (.bool (decide ((redP (F0 * F2 - F1 * F1) (F0 * F0).natAbs) < 0)))).setCell ⟨g16, 1, none⟩ (.slice A22 k22 c22)).setCell ⟨g16, 2, none⟩ (.slice D22 l22 b22)).cell? ⟨g15, 2, none⟩ = some (.slice D21 l21 b21) := nt15.cell 2
            have d160 : (((x93.setCell ⟨g16, 0, none⟩ (.bool (decide ((redP (F0 * F2 - F1 * F1) (F0 * F0).natAbs) < 0)))).setCell ⟨g16, 1, none⟩ (.slice A22 k22 c22)).setCell ⟨g16, 2, none⟩ (.slice D22 l22 b22)).cell? ⟨g16, 0, none⟩ = some (.bool (decide ((redP (F0 * F2 - F1 * F1) (F0 * F0).natAbs) < 0))) := nt16.cell 0
            have d161 : (((x93.setCell ⟨g16, 0, none⟩ (.bool (decide ((redP (F0 * F2 - F1 * F1) (F0 * F0).natAbs) < 0)))).setCell ⟨g16, 1, none⟩ (.slice A22 k22 c22)).setCell ⟨g16, 2, none⟩ (.slice D22 l22 b22)).cell? ⟨g16, 1, none⟩ = some (.slice A22 k22 c22) := nt16.cell 1
            have d162 : (((x93.setCell ⟨g16, 0, none⟩ (.bool (decide ((redP (F0 * F2 - F1 * F1) (F0 * F0).natAbs) < 0)))).setCell ⟨g16, 1, none⟩ (.slice A22 k22 c22)).setCell ⟨g16, 2, none⟩ (.slice D22 l22 b22)).cell? ⟨g16, 2, none⟩ = some (.slice D22 l22 b22) := nt16.cell 2
            have d170 : (((x93.setCell ⟨g16, 0, none⟩ (.bool (decide ((redP (F0 * F2 - F1 * F1) (F0 * F0).natAbs) < 0)))).setCell ⟨g16, 1, none⟩ (.slice A22 k22 c22)).setCell ⟨g16, 2, none⟩ (.slice D22 l22 b22)).cell? ⟨g17, 0, none⟩ = some (.slice A7 ps.length c7) := nhrr.cell 0
            have d171 : (((x93.setCell ⟨g16, 0, none⟩ (.bool (decide ((redP (F0 * F2 - F1 * F1) (F0 * F0).natAbs) < 0)))).setCell ⟨g16, 1, none⟩ (.slice A22 k22 c22)).setCell ⟨g16, 2, none⟩ (.slice D22 l22 b22)).cell? ⟨g17, 1, none⟩ = some (.slice RV rs.length vc) := nhrr.cell 1
            have h150 : (((x93.setCell ⟨g16, 0, none⟩ (.bool (decide ((redP (F0 * F2 - F1 * F1) (F0 * F0).natAbs) < 0)))).setCell ⟨g16, 1, none⟩ (.slice A22 k22 c22)).setCell ⟨g16, 2, none⟩ (.slice D22 l22 b22)).frozen? ⟨g15, 0, none⟩ = false := nt15.frozen 0
            have h151 : (((x93.setCell ⟨g16, 0, none⟩ (.bool (decide ((redP (F0 * F2 - F1 * F1) (F0 * F0).natAbs) < 0)))).setCell ⟨g16, 1, none⟩ (.slice A22 k22 c22)).setCell ⟨g16, 2, none⟩ (.slice D22 l22 b22)).frozen? ⟨g15, 1, none⟩ = false := nt15.frozen 1
            have h152 : (((x93.setCell ⟨g16, 0, none⟩ (.bool (decide ((redP (F0 * F2 - F1 * F1) (F0 * F0).natAbs) < 0)))).setCell ⟨g16, 1, none⟩ (.slice A22 k22 c22)).setCell ⟨g16, 2, none⟩ (.slice D22 l22 b22)).frozen? ⟨g15, 2, none⟩ = false := nt15.frozen 2
            have h160 : (((x93.setCell ⟨g16, 0, none⟩ (.bool (decide ((redP (F0 * F2 - F1 * F1) (F0 * F0).natAbs) < 0)))).setCell ⟨g16, 1, none⟩ (.slice A22 k22 c22)).setCell ⟨g16, 2, none⟩ (.slice D22 l22 b22)).frozen? ⟨g16, 0, none⟩ = false := nt16.frozen 0
            have h161 : (((x93.setCell ⟨g16, 0, none⟩ (.bool (decide ((redP (F0 * F2 - F1 * F1) (F0 * F0).natAbs) < 0)))).setCell ⟨g16, 1, none⟩ (.slice A22 k22 c22)).setCell ⟨g16, 2, none⟩ (.slice D22 l22 b22)).frozen? ⟨g16, 1, none⟩ = false := nt16.frozen 1
            have h162 : (((x93.setCell ⟨g16, 0, none⟩ (.bool (decide ((redP (F0 * F2 - F1 * F1) (F0 * F0).natAbs) < 0)))).setCell ⟨g16, 1, none⟩ (.slice A22 k22 c22)).setCell ⟨g16, 2, none⟩ (.slice D22 l22 b22)).frozen? ⟨g16, 2, none⟩ = false := nt16.frozen 2
            go_wp2_with fail
            clear d40 d41 d90 d91 d92 d110 d111 d112 d150 d151 d152 d160 d161 d162 d170 d171 h150 h151 h152 h160 h161 h162 c40 c41 c90 c91 c92 c110 c111 c112 c150 c151 c152 c160 c161 c162 c170 c171 f150 f151 f152 f160 f161 f162 z4 z9 z11 z15 z16 z17
            replace t4 := nt4
            clear nt4
            replace t9 := nt9
            clear nt9
            replace t11 := nt11
            clear nt11
            replace t15 := nt15
            clear nt15
            replace t16 := nt16
            clear nt16
            replace hrr := nhrr
            clear nhrr
            replace hown := nhown
            clear nhown
            replace hv21 := nhv21
            clear nhv21
            replace hv22 := nhv22
            clear nhv22
            replace BL := nBL
            clear nBL
            replace BB := nBB
            clear nBB
            generalize (((x93.setCell ⟨g16, 0, none⟩ (.bool (decide ((redP (F0 * F2 - F1 * F1) (F0 * F0).natAbs) < 0)))).setCell ⟨g16, 1, none⟩ (.slice A22 k22 c22)).setCell ⟨g16, 2, none⟩ (.slice D22 l22 b22)) = x94 at *
            refine (gvalid_any _ _ (moveL d ps) rs _ (num_own hown) (hr0.below BB)).mono ?_
            rintro e x95 ⟨rfl, hb⟩
            replace t4 := t4.keep hb
            replace t9 := t9.keep hb
            replace t11 := t11.keep hb
            replace t15 := t15.keep hb
            replace t16 := t16.keep hb
            replace hrr := hrr.keep hb
            replace hown := own_keep hown hb
            replace hv21 := hv21.below hb
            replace hv22 := hv22.below hb
            replace BB : Below w.heap.size w x95 := BB.trans (hb.mono BB.size)
            replace BL : Below wl.heap.size wl x95 := BL.trans (hb.mono BL.size)
            clear hb
            rw [HGM.out]
            have c40 : x95.cell? ⟨w.heap.size, 0, none⟩ = some (.slice PA ps.length pc) := t4.cell 0
            have c41 : x95.cell? ⟨w.heap.size, 1, none⟩ = some (.slice RV rs.length vc) := t4.cell 1
            have c90 : x95.cell? ⟨g9, 0, none⟩ = some (.bool (decide ((redP F1 F0.natAbs) < 0))) := t9.cell 0
            have c91 : x95.cell? ⟨g9, 1, none⟩ = some (.slice A9 k9 c9) := t9.cell 1
            have c92 : x95.cell? ⟨g9, 2, none⟩ = some (.slice D9 l9 b9) := t9.cell 2
            have c110 : x95.cell? ⟨g11, 0, none⟩ = some (.bool (decide ((redP (F0 * F2 - F1 * F1) (F0 * F0).natAbs) < 0))) := t11.cell 0
            have c111 : x95.cell? ⟨g11, 1, none⟩ = some (.slice A11 k11 c11) := t11.cell 1
            have c112 : x95.cell? ⟨g11, 2, none⟩ = some (.slice D11 l11 b11) := t11.cell 2
            have c150 : x95.cell? ⟨g15, 0, none⟩ = some (.bool (decide ((redP (F1 + d * F0) F0.natAbs) < 0))) := t15.cell 0
            have c151 : x95.cell? ⟨g15, 1, none⟩ = some (.slice A21 k21 c21) := t15.cell 1
            have c152 : x95.cell? ⟨g15, 2, none⟩ = some (.slice D21 l21 b21) := t15.cell 2
            have c160 : x95.cell? ⟨g16, 0, none⟩ = some (.bool (decide ((redP (F0 * F2 - F1 * F1) (F0 * F0).natAbs) < 0))) := t16.cell 0
            have c161 : x95.cell? ⟨g16, 1, none⟩ = some (.slice A22 k22 c22) := t16.cell 1
            have c162 : x95.cell? ⟨g16, 2, none⟩ = some (.slice D22 l22 b22) := t16.cell 2
            have c170 : x95.cell? ⟨g17, 0, none⟩ = some (.slice A7 ps.length c7) := hrr.cell 0
            have c171 : x95.cell? ⟨g17, 1, none⟩ = some (.slice RV rs.length vc) := hrr.cell 1
            have f150 : x95.frozen? ⟨g15, 0, none⟩ = false := t15.frozen 0
            have f151 : x95.frozen? ⟨g15, 1, none⟩ = false := t15.frozen 1
            have f152 : x95.frozen? ⟨g15, 2, none⟩ = false := t15.frozen 2
            have f160 : x95.frozen? ⟨g16, 0, none⟩ = false := t16.frozen 0
            have f161 : x95.frozen? ⟨g16, 1, none⟩ = false := t16.frozen 1
            have f162 : x95.frozen? ⟨g16, 2, none⟩ = false := t16.frozen 2
            have z4 := t4.lt
            have z9 := t9.lt
            have z11 := t11.lt
            have z15 := t15.lt
            have z16 := t16.lt
            have z17 := hrr.lt
            go_wp2_with fail
            clear c40 c41 c90 c91 c92 c110 c111 c112 c150 c151 c152 c160 c161 c162 c170 c171 f150 f151 f152 f160 f161 f162 z4 z9 z11 z15 z16 z17
            have y9 := uu9.below BL
            have y11 := uu11.below BL
            have z4 := t4.lt
            have z9 := t9.lt
            have z11 := t11.lt
            have z15 := t15.lt
            have z16 := t16.lt
            have z17 := hrr.lt
            have qs0 : x95.cell? ⟨g9, 0, none⟩ = some (.bool (decide ((redP F1 F0.natAbs) < 0))) := t9.cell 0
            have qs1 : x95.cell? ⟨g9, 1, none⟩ = some (.slice A9 k9 c9) := t9.cell 1
            have qs2 : x95.cell? ⟨g9, 2, none⟩ = some (.slice D9 l9 b9) := t9.cell 2
            have qs3 : x95.cell? ⟨g11, 0, none⟩ = some (.bool (decide ((redP (F0 * F2 - F1 * F1) (F0 * F0).natAbs) < 0))) := t11.cell 0
            have qs4 : x95.cell? ⟨g11, 1, none⟩ = some (.slice A11 k11 c11) := t11.cell 1
            have qs5 : x95.cell? ⟨g11, 2, none⟩ = some (.slice D11 l11 b11) := t11.cell 2
            have qs6 : x95.cell? ⟨g15, 0, none⟩ = some (.bool (decide ((redP (F1 + d * F0) F0.natAbs) < 0))) := t15.cell 0
            have qs7 : x95.cell? ⟨g15, 1, none⟩ = some (.slice A21 k21 c21) := t15.cell 1
            have qs8 : x95.cell? ⟨g15, 2, none⟩ = some (.slice D21 l21 b21) := t15.cell 2
            have qs9 : x95.cell? ⟨g16, 0, none⟩ = some (.bool (decide ((redP (F0 * F2 - F1 * F1) (F0 * F0).natAbs) < 0))) := t16.cell 0
            have qs10 : x95.cell? ⟨g16, 1, none⟩ = some (.slice A22 k22 c22) := t16.cell 1
            have qs11 : x95.cell? ⟨g16, 2, none⟩ = some (.slice D22 l22 b22) := t16.cell 2
            go_region_held3 (fun w' => w'.cell? ⟨g9, 0, none⟩ = some (.bool (decide ((redP F1 F0.natAbs) < 0))) ∧ w'.cell? ⟨g9, 1, none⟩ = some (.slice A9 k9 c9) ∧ w'.cell? ⟨g9, 2, none⟩ = some (.slice D9 l9 b9) ∧ w'.cell? ⟨g11, 0, none⟩ = some (.bool (decide ((redP (F0 * F2 - F1 * F1) (F0 * F0).natAbs) < 0))) ∧ w'.cell? ⟨g11, 1, none⟩ = some (.slice A11 k11 c11) ∧ w'.cell? ⟨g11, 2, none⟩ = some (.slice D11 l11 b11) ∧ w'.cell? ⟨g15, 0, none⟩ = some (.bool (decide ((redP (F1 + d * F0) F0.natAbs) < 0))) ∧ w'.cell? ⟨g15, 1, none⟩ = some (.slice A21 k21 c21) ∧ w'.cell? ⟨g15, 2, none⟩ = some (.slice D21 l21 b21) ∧ w'.cell? ⟨g16, 0, none⟩ = some (.bool (decide ((redP (F0 * F2 - F1 * F1) (F0 * F0).natAbs) < 0))) ∧ w'.cell? ⟨g16, 1, none⟩ = some (.slice A22 k22 c22) ∧ w'.cell? ⟨g16, 2, none⟩ = some (.slice D22 l22 b22))
              ((refine keep12c z9 z9 z9 z11 z11 z11 z15 z15 z15 z16 z16 z16 qs0 qs1 qs2 qs3 qs4 qs5 qs6 qs7 qs8 qs9 qs10 qs11 ?_; (repeat (first | with_reducible exact Below.refl _ _ | with_reducible refine bl_call h7 ?_ | with_reducible refine bl_call h6 ?_ | with_reducible refine bl_call h5 ?_ | with_reducible refine bl_call h4 ?_ | with_reducible refine bl_drew ?_)); done))
              (first
                | (go_at_call 9; ((with_reducible refine (lwhole_any d _ hdw1 hdw2).mono ?_);  rintro e w4 ⟨v4, rfl, hR4, h4⟩))
                | (go_at_call 18; ((with_reducible refine (qadd_any _ _ (redP F1 F0.natAbs) d (redQ F1 F0.natAbs) 1 (21 * (20 + 3)) _ ((y9.ratA hmq).below ?_) (((hR4.ratA (by decide)).mono (by decide)).below ?_) (by decide) (by decide)).mono ?_); (repeat (first | with_reducible exact Below.refl _ _ | with_reducible refine bl_call h7 ?_ | with_reducible refine bl_call h6 ?_ | with_reducible refine bl_call h5 ?_ | with_reducible refine bl_call h4 ?_ | with_reducible refine bl_drew ?_)); (repeat (first | with_reducible exact Below.refl _ _ | with_reducible refine bl_call h7 ?_ | with_reducible refine bl_call h6 ?_ | with_reducible refine bl_call h5 ?_ | with_reducible refine bl_call h4 ?_ | with_reducible refine bl_drew ?_)); rintro e w5 ⟨v5, rfl, hR5, h5⟩; rw [← HMV.out.1, ← HMV.out.2] at hR5))
                | (go_at_call 17; ((with_reducible refine (qsame_yes _ _ (redP (F1 + d * F0) F0.natAbs) (redQ (F1 + d * F0) F0.natAbs) (21 * (20 + 3)) ((21 * (20 + 3)) + (21 * (20 + 3)) + ((21 * (20 + 3)) + (21 * (20 + 3))) + 1) _ _ _ (hv21.below ?_) (hR5.below ?_)).mono ?_); (repeat (first | with_reducible exact Below.refl _ _ | with_reducible refine bl_call h7 ?_ | with_reducible refine bl_call h6 ?_ | with_reducible refine bl_call h5 ?_ | with_reducible refine bl_call h4 ?_ | with_reducible refine bl_drew ?_)); (repeat (first | with_reducible exact Below.refl _ _ | with_reducible refine bl_call h7 ?_ | with_reducible refine bl_call h6 ?_ | with_reducible refine bl_call h5 ?_ | with_reducible refine bl_call h4 ?_ | with_reducible refine bl_drew ?_)); rintro e w6 ⟨rfl, h6⟩))
                | (go_at_call 17; ((with_reducible refine (qsame_yes _ _ (redP (F0 * F2 - F1 * F1) (F0 * F0).natAbs) (redQ (F0 * F2 - F1 * F1) (F0 * F0).natAbs) _ _ _ _ _ (hv22.below ?_) (y11.below ?_)).mono ?_); (repeat (first | with_reducible exact Below.refl _ _ | with_reducible refine bl_call h7 ?_ | with_reducible refine bl_call h6 ?_ | with_reducible refine bl_call h5 ?_ | with_reducible refine bl_call h4 ?_ | with_reducible refine bl_drew ?_)); (repeat (first | with_reducible exact Below.refl _ _ | with_reducible refine bl_call h7 ?_ | with_reducible refine bl_call h6 ?_ | with_reducible refine bl_call h5 ?_ | with_reducible refine bl_call h4 ?_ | with_reducible refine bl_drew ?_)); rintro e w7 ⟨rfl, h7⟩)))
            all_goals
              have hb : Below x95.heap.size x95 w7 := bl_call h7 (bl_call h6 (bl_call h5 (bl_call h4 (bl_drew (Below.refl _ _)))))
              replace BB := BB.trans (hb.mono BB.size)
              go_wp2_with fail
              go_ret
              exact ⟨rfl, BB⟩
          · obtain ⟨E3, hE3⟩ : ∃ e, sumE (moveL d ps) rs (lss.map val) = e := ⟨_, rfl⟩
            obtain ⟨G3, hG3⟩ : ∃ e, gridE (moveL d ps) rs = e := ⟨_, rfl⟩
            have hEG : sumE (moveL d ps) rs (lss.map val) = gridE (moveL d ps) rs := by unfold sumE; rw [if_pos hGM]
            have HSE3 : Hid (sumE (moveL d ps) rs (lss.map val) ≠ 0) := by unfold Hid; rw [hEG]; exact hGM
            have hn3 : (E3 != 0) = true := by rw [bne_iff_ne, ← hE3, hEG]; exact hGM
            have hg3 : (G3 != 0) = true := by rw [bne_iff_ne, ← hG3]; exact hGM
            have HE3 := Lib.hid hE3
            have HGM := Lib.hid hG3
            clear hE3 hG3 hEG hGM
            have BB := BW
            have c40 : wr.cell? ⟨w.heap.size, 0, none⟩ = some (.slice PA ps.length pc) := t4.cell 0
            have c41 : wr.cell? ⟨w.heap.size, 1, none⟩ = some (.slice RV rs.length vc) := t4.cell 1
            have c90 : wr.cell? ⟨g9, 0, none⟩ = some (.bool (decide ((redP F1 F0.natAbs) < 0))) := t9.cell 0
            have c91 : wr.cell? ⟨g9, 1, none⟩ = some (.slice A9 k9 c9) := t9.cell 1
            have c92 : wr.cell? ⟨g9, 2, none⟩ = some (.slice D9 l9 b9) := t9.cell 2
            have c110 : wr.cell? ⟨g11, 0, none⟩ = some (.bool (decide ((redP (F0 * F2 - F1 * F1) (F0 * F0).natAbs) < 0))) := t11.cell 0
            have c111 : wr.cell? ⟨g11, 1, none⟩ = some (.slice A11 k11 c11) := t11.cell 1
            have c112 : wr.cell? ⟨g11, 2, none⟩ = some (.slice D11 l11 b11) := t11.cell 2
            have c150 : wr.cell? ⟨g15, 0, none⟩ = some (.bool (decide ((redP F1 F0.natAbs) < 0))) := t15.cell 0
            have c151 : wr.cell? ⟨g15, 1, none⟩ = some (.slice A15 k15 c15) := t15.cell 1
            have c152 : wr.cell? ⟨g15, 2, none⟩ = some (.slice D15 l15 b15) := t15.cell 2
            have c160 : wr.cell? ⟨g16, 0, none⟩ = some (.bool (decide ((redP (F0 * F2 - F1 * F1) (F0 * F0).natAbs) < 0))) := t16.cell 0
            have c161 : wr.cell? ⟨g16, 1, none⟩ = some (.slice A16 k16 c16) := t16.cell 1
            have c162 : wr.cell? ⟨g16, 2, none⟩ = some (.slice D16 l16 b16) := t16.cell 2
            have c170 : wr.cell? ⟨g17, 0, none⟩ = some (.slice A7 ps.length c7) := hrr.cell 0
            have c171 : wr.cell? ⟨g17, 1, none⟩ = some (.slice RV rs.length vc) := hrr.cell 1
            have f150 : wr.frozen? ⟨g15, 0, none⟩ = false := t15.frozen 0
            have f151 : wr.frozen? ⟨g15, 1, none⟩ = false := t15.frozen 1
            have f152 : wr.frozen? ⟨g15, 2, none⟩ = false := t15.frozen 2
            have f160 : wr.frozen? ⟨g16, 0, none⟩ = false := t16.frozen 0
            have f161 : wr.frozen? ⟨g16, 1, none⟩ = false := t16.frozen 1
            have f162 : wr.frozen? ⟨g16, 2, none⟩ = false := t16.frozen 2
            have z4 := t4.lt
            have z9 := t9.lt
            have z11 := t11.lt
            have z15 := t15.lt
            have z16 := t16.lt
            have z17 := hrr.lt
            go_wp2_with fail
            clear c40 c41 c90 c91 c92 c110 c111 c112 c150 c151 c152 c160 c161 c162 c170 c171 f150 f151 f152 f160 f161 f162 z4 z9 z11 z15 z16 z17
            refine (gmean_no _ _ _ (moveL d ps) rs (lss.map val) 20 _ (num_own hown) (hr0.below BB) (HWT.out.below BB) (by omega) HSE3.out).mono ?_
            rintro e x91 ⟨v21, rfl, hv21, hb⟩
            replace t4 := t4.keep hb
            replace t9 := t9.keep hb
            replace t11 := t11.keep hb
            replace t15 := t15.keep hb
            replace t16 := t16.keep hb
            replace hrr := hrr.keep hb
            replace hown := own_keep hown hb
            replace BB : Below w.heap.size w x91 := BB.trans (hb.mono BB.size)
            replace BL : Below wl.heap.size wl x91 := BL.trans (hb.mono BL.size)
            clear hb
            rw [HE3.out]
            have h21' := hv21
            obtain ⟨m21, d21, e21, hm21, hd21, _, _⟩ := h21'
            subst e21
            obtain ⟨A21, k21, c21, rfl⟩ := hm21.lim1.choose_spec.1.show_
            obtain ⟨D21, l21, b21, rfl⟩ := hd21.lim1.choose_spec.1.show_
            clear hm21 hd21
            clear hv21
            have c40 : x91.cell? ⟨w.heap.size, 0, none⟩ = some (.slice PA ps.length pc) := t4.cell 0
            have c41 : x91.cell? ⟨w.heap.size, 1, none⟩ = some (.slice RV rs.length vc) := t4.cell 1
            have c90 : x91.cell? ⟨g9, 0, none⟩ = some (.bool (decide ((redP F1 F0.natAbs) < 0))) := t9.cell 0
            have c91 : x91.cell? ⟨g9, 1, none⟩ = some (.slice A9 k9 c9) := t9.cell 1
            have c92 : x91.cell? ⟨g9, 2, none⟩ = some (.slice D9 l9 b9) := t9.cell 2
            have c110 : x91.cell? ⟨g11, 0, none⟩ = some (.bool (decide ((redP (F0 * F2 - F1 * F1) (F0 * F0).natAbs) < 0))) := t11.cell 0
            have c111 : x91.cell? ⟨g11, 1, none⟩ = some (.slice A11 k11 c11) := t11.cell 1
            have c112 : x91.cell? ⟨g11, 2, none⟩ = some (.slice D11 l11 b11) := t11.cell 2
            have c150 : x91.cell? ⟨g15, 0, none⟩ = some (.bool (decide ((redP F1 F0.natAbs) < 0))) := t15.cell 0
            have c151 : x91.cell? ⟨g15, 1, none⟩ = some (.slice A15 k15 c15) := t15.cell 1
            have c152 : x91.cell? ⟨g15, 2, none⟩ = some (.slice D15 l15 b15) := t15.cell 2
            have c160 : x91.cell? ⟨g16, 0, none⟩ = some (.bool (decide ((redP (F0 * F2 - F1 * F1) (F0 * F0).natAbs) < 0))) := t16.cell 0
            have c161 : x91.cell? ⟨g16, 1, none⟩ = some (.slice A16 k16 c16) := t16.cell 1
            have c162 : x91.cell? ⟨g16, 2, none⟩ = some (.slice D16 l16 b16) := t16.cell 2
            have c170 : x91.cell? ⟨g17, 0, none⟩ = some (.slice A7 ps.length c7) := hrr.cell 0
            have c171 : x91.cell? ⟨g17, 1, none⟩ = some (.slice RV rs.length vc) := hrr.cell 1
            have f150 : x91.frozen? ⟨g15, 0, none⟩ = false := t15.frozen 0
            have f151 : x91.frozen? ⟨g15, 1, none⟩ = false := t15.frozen 1
            have f152 : x91.frozen? ⟨g15, 2, none⟩ = false := t15.frozen 2
            have f160 : x91.frozen? ⟨g16, 0, none⟩ = false := t16.frozen 0
            have f161 : x91.frozen? ⟨g16, 1, none⟩ = false := t16.frozen 1
            have f162 : x91.frozen? ⟨g16, 2, none⟩ = false := t16.frozen 2
            have z4 := t4.lt
            have z9 := t9.lt
            have z11 := t11.lt
            have z15 := t15.lt
            have z16 := t16.lt
            have z17 := hrr.lt
            have nt4 : Row (((x91.setCell ⟨g15, 0, none⟩ (.bool false)).setCell ⟨g15, 1, none⟩ (.slice A21 k21 c21)).setCell ⟨g15, 2, none⟩ (.slice D21 l21 b21)) (w.heap.size) 24 [.slice PA ps.length pc, .slice RV rs.length vc] := (((t4.far (by show w.heap.size ≠ g15; omega) _).far (by show w.heap.size ≠ g15; omega) _).far (by show w.heap.size ≠ g15; omega) _)
            have nt9 : Row (((x91.setCell ⟨g15, 0, none⟩ (.bool false)).setCell ⟨g15, 1, none⟩ (.slice A21 k21 c21)).setCell ⟨g15, 2, none⟩ (.slice D21 l21 b21)) (g9) 30 [.bool (decide ((redP F1 F0.natAbs) < 0)), .slice A9 k9 c9, .slice D9 l9 b9] := (((t9.far (by show g9 ≠ g15; omega) _).far (by show g9 ≠ g15; omega) _).far (by show g9 ≠ g15; omega) _)
            have nt11 : Row (((x91.setCell ⟨g15, 0, none⟩ (.bool false)).setCell ⟨g15, 1, none⟩ (.slice A21 k21 c21)).setCell ⟨g15, 2, none⟩ (.slice D21 l21 b21)) (g11) 30 [.bool (decide ((redP (F0 * F2 - F1 * F1) (F0 * F0).natAbs) < 0)), .slice A11 k11 c11, .slice D11 l11 b11] := (((t11.far (by show g11 ≠ g15; omega) _).far (by show g11 ≠ g15; omega) _).far (by show g11 ≠ g15; omega) _)
            have nt15 : Row (((x91.setCell ⟨g15, 0, none⟩ (.bool false)).setCell ⟨g15, 1, none⟩ (.slice A21 k21 c21)).setCell ⟨g15, 2, none⟩ (.slice D21 l21 b21)) (g15) 30 [.bool false, .slice A21 k21 c21, .slice D21 l21 b21] := (((t15.set_ 0 (.bool false)).set_ 1 (.slice A21 k21 c21)).set_ 2 (.slice D21 l21 b21))
            have nt16 : Row (((x91.setCell ⟨g15, 0, none⟩ (.bool false)).setCell ⟨g15, 1, none⟩ (.slice A21 k21 c21)).setCell ⟨g15, 2, none⟩ (.slice D21 l21 b21)) (g16) 30 [.bool (decide ((redP (F0 * F2 - F1 * F1) (F0 * F0).natAbs) < 0)), .slice A16 k16 c16, .slice D16 l16 b16] := (((t16.far (by show g16 ≠ g15; omega) _).far (by show g16 ≠ g15; omega) _).far (by show g16 ≠ g15; omega) _)
            have nhrr : Row (((x91.setCell ⟨g15, 0, none⟩ (.bool false)).setCell ⟨g15, 1, none⟩ (.slice A21 k21 c21)).setCell ⟨g15, 2, none⟩ (.slice D21 l21 b21)) (g17) 24 [.slice A7 ps.length c7, .slice RV rs.length vc] := (((hrr.far (by show g17 ≠ g15; omega) _).far (by show g17 ≠ g15; omega) _).far (by show g17 ≠ g15; omega) _)
            have nBB : Below w.heap.size w (((x91.setCell ⟨g15, 0, none⟩ (.bool false)).setCell ⟨g15, 1, none⟩ (.slice A21 k21 c21)).setCell ⟨g15, 2, none⟩ (.slice D21 l21 b21)) := (((BB.setCell (by show w.heap.size ≤ g15; omega) _).setCell (by show w.heap.size ≤ g15; omega) _).setCell (by show w.heap.size ≤ g15; omega) _)
            have nBL : Below wl.heap.size wl (((x91.setCell ⟨g15, 0, none⟩ (.bool false)).setCell ⟨g15, 1, none⟩ (.slice A21 k21 c21)).setCell ⟨g15, 2, none⟩ (.slice D21 l21 b21)) := (((BL.setCell (by show wl.heap.size ≤ g15; omega) _).setCell (by show wl.heap.size ≤ g15; omega) _).setCell (by show wl.heap.size ≤ g15; omega) _)
            have nhown := (own_far (own_far (own_far hown (p := ⟨g15, 0, none⟩) (by show g15 < _; omega) (.bool false)) (p := ⟨g15, 1, none⟩) (by show g15 < _; omega) (.slice A21 k21 c21)) (p := ⟨g15, 2, none⟩) (by show g15 < _; omega) (.slice D21 l21 b21))
            have d40 : (((x91.setCell ⟨g15, 0, none⟩ (.bool false)).setCell ⟨g15, 1, none⟩ (.slice A21 k21 c21)).setCell ⟨g15, 2, none⟩ (.slice D21 l21 b21)).cell? ⟨w.heap.size, 0, none⟩ = some (.slice PA ps.length pc) := nt4.cell 0
            have d41 : (((x91.setCell ⟨g15, 0, none⟩ (.bool false)).setCell ⟨g15, 1, none⟩ (.slice A21 k21 c21)).setCell ⟨g15, 2, none⟩ (.slice D21 l21 b21)).cell? ⟨w.heap.size, 1, none⟩ = some (.slice RV rs.length vc) := nt4.cell 1
            have d90 : (((x91.setCell ⟨g15, 0, none⟩ (.bool false)).setCell ⟨g15, 1, none⟩ (.slice A21 k21 c21)).setCell ⟨g15, 2, none⟩ (.slice D21 l21 b21)).cell? ⟨g9, 0, none⟩ = some (.bool (decide ((redP F1 F0.natAbs) < 0))) := nt9.cell 0
            have d91 : (((x91.setCell ⟨g15, 0, none⟩ (.bool false)).setCell ⟨g15, 1, none⟩ (.slice A21 k21 c21)).setCell ⟨g15, 2, none⟩ (.slice D21 l21 b21)).cell? ⟨g9, 1, none⟩ = some (.slice A9 k9 c9) := nt9.cell 1
            have d92 : (((x91.setCell ⟨g15, 0, none⟩ (.bool false)).setCell ⟨g15, 1, none⟩ (.slice A21 k21 c21)).setCell ⟨g15, 2, none⟩ (.slice D21 l21 b21)).cell? ⟨g9, 2, none⟩ = some (.slice D9 l9 b9) := nt9.cell 2
            have d110 : (((x91.setCell ⟨g15, 0, none⟩ (.bool false)).setCell ⟨g15, 1, none⟩ (.slice A21 k21 c21)).setCell ⟨g15, 2, none⟩ (.slice D21 l21 b21)).cell? ⟨g11, 0, none⟩ = some (.bool (decide ((redP (F0 * F2 - F1 * F1) (F0 * F0).natAbs) < 0))) := nt11.cell 0
            have d111 : (((x91.setCell ⟨g15, 0, none⟩ (.bool false)).setCell ⟨g15, 1, none⟩ (.slice A21 k21 c21)).setCell ⟨g15, 2, none⟩ (.slice D21 l21 b21)).cell? ⟨g11, 1, none⟩ = some (.slice A11 k11 c11) := nt11.cell 1
            have d112 : (((x91.setCell ⟨g15, 0, none⟩ (.bool false)).setCell ⟨g15, 1, none⟩ (.slice A21 k21 c21)).setCell ⟨g15, 2, none⟩ (.slice D21 l21 b21)).cell? ⟨g11, 2, none⟩ = some (.slice D11 l11 b11) := nt11.cell 2
            have d150 : (((x91.setCell ⟨g15, 0, none⟩ (.bool false)).setCell ⟨g15, 1, none⟩ (.slice A21 k21 c21)).setCell ⟨g15, 2, none⟩ (.slice D21 l21 b21)).cell? ⟨g15, 0, none⟩ = some (.bool false) := nt15.cell 0
            have d151 : (((x91.setCell ⟨g15, 0, none⟩ (.bool false)).setCell ⟨g15, 1, none⟩ (.slice A21 k21 c21)).setCell ⟨g15, 2, none⟩ (.slice D21 l21 b21)).cell? ⟨g15, 1, none⟩ = some (.slice A21 k21 c21) := nt15.cell 1
            have d152 : (((x91.setCell ⟨g15, 0, none⟩ (.bool false)).setCell ⟨g15, 1, none⟩ (.slice A21 k21 c21)).setCell ⟨g15, 2, none⟩ (.slice D21 l21 b21)).cell? ⟨g15, 2, none⟩ = some (.slice D21 l21 b21) := nt15.cell 2
            have d160 : (((x91.setCell ⟨g15, 0, none⟩ (.bool false)).setCell ⟨g15, 1, none⟩ (.slice A21 k21 c21)).setCell ⟨g15, 2, none⟩ (.slice D21 l21 b21)).cell? ⟨g16, 0, none⟩ = some (.bool (decide ((redP (F0 * F2 - F1 * F1) (F0 * F0).natAbs) < 0))) := nt16.cell 0
            have d161 : (((x91.setCell ⟨g15, 0, none⟩ (.bool false)).setCell ⟨g15, 1, none⟩ (.slice A21 k21 c21)).setCell ⟨g15, 2, none⟩ (.slice D21 l21 b21)).cell? ⟨g16, 1, none⟩ = some (.slice A16 k16 c16) := nt16.cell 1
            have d162 : (((x91.setCell ⟨g15, 0, none⟩ (.bool false)).setCell ⟨g15, 1, none⟩ (.slice A21 k21 c21)).setCell ⟨g15, 2, none⟩ (.slice D21 l21 b21)).cell? ⟨g16, 2, none⟩ = some (.slice D16 l16 b16) := nt16.cell 2
            have d170 : (((x91.setCell ⟨g15, 0, none⟩ (.bool false)).setCell ⟨g15, 1, none⟩ (.slice A21 k21 c21)).setCell ⟨g15, 2, none⟩ (.slice D21 l21 b21)).cell? ⟨g17, 0, none⟩ = some (.slice A7 ps.length c7) := nhrr.cell 0
            have d171 : (((x91.setCell ⟨g15, 0, none⟩ (.bool false)).setCell ⟨g15, 1, none⟩ (.slice A21 k21 c21)).setCell ⟨g15, 2, none⟩ (.slice D21 l21 b21)).cell? ⟨g17, 1, none⟩ = some (.slice RV rs.length vc) := nhrr.cell 1
            have h150 : (((x91.setCell ⟨g15, 0, none⟩ (.bool false)).setCell ⟨g15, 1, none⟩ (.slice A21 k21 c21)).setCell ⟨g15, 2, none⟩ (.slice D21 l21 b21)).frozen? ⟨g15, 0, none⟩ = false := nt15.frozen 0
            have h151 : (((x91.setCell ⟨g15, 0, none⟩ (.bool false)).setCell ⟨g15, 1, none⟩ (.slice A21 k21 c21)).setCell ⟨g15, 2, none⟩ (.slice D21 l21 b21)).frozen? ⟨g15, 1, none⟩ = false := nt15.frozen 1
            have h152 : (((x91.setCell ⟨g15, 0, none⟩ (.bool false)).setCell ⟨g15, 1, none⟩ (.slice A21 k21 c21)).setCell ⟨g15, 2, none⟩ (.slice D21 l21 b21)).frozen? ⟨g15, 2, none⟩ = false := nt15.frozen 2
            have h160 : (((x91.setCell ⟨g15, 0, none⟩ (.bool false)).setCell ⟨g15, 1, none⟩ (.slice A21 k21 c21)).setCell ⟨g15, 2, none⟩ (.slice D21 l21 b21)).frozen? ⟨g16, 0, none⟩ = false := nt16.frozen 0
            have h161 : (((x91.setCell ⟨g15, 0, none⟩ (.bool false)).setCell ⟨g15, 1, none⟩ (.slice A21 k21 c21)).setCell ⟨g15, 2, none⟩ (.slice D21 l21 b21)).frozen? ⟨g16, 1, none⟩ = false := nt16.frozen 1
            have h162 : (((x91.setCell ⟨g15, 0, none⟩ (.bool false)).setCell ⟨g15, 1, none⟩ (.slice A21 k21 c21)).setCell ⟨g15, 2, none⟩ (.slice D21 l21 b21)).frozen? ⟨g16, 2, none⟩ = false := nt16.frozen 2
            go_wp2_with fail
            clear d40 d41 d90 d91 d92 d110 d111 d112 d150 d151 d152 d160 d161 d162 d170 d171 h150 h151 h152 h160 h161 h162 c40 c41 c90 c91 c92 c110 c111 c112 c150 c151 c152 c160 c161 c162 c170 c171 f150 f151 f152 f160 f161 f162 z4 z9 z11 z15 z16 z17
            replace t4 := nt4
            clear nt4
            replace t9 := nt9
            clear nt9
            replace t11 := nt11
            clear nt11
            replace t15 := nt15
            clear nt15
            replace t16 := nt16
            clear nt16
            replace hrr := nhrr
            clear nhrr
            replace hown := nhown
            clear nhown
            replace BL := nBL
            clear nBL
            replace BB := nBB
            clear nBB
            generalize (((x91.setCell ⟨g15, 0, none⟩ (.bool false)).setCell ⟨g15, 1, none⟩ (.slice A21 k21 c21)).setCell ⟨g15, 2, none⟩ (.slice D21 l21 b21)) = x92 at *
            refine (gvar_no _ _ _ (moveL d ps) rs (lss.map val) 20 _ (num_own hown) (hr0.below BB) (HWT.out.below BB) (by omega) HSE3.out).mono ?_
            rintro e x93 ⟨v22, rfl, hv22, hb⟩
            replace t4 := t4.keep hb
            replace t9 := t9.keep hb
            replace t11 := t11.keep hb
            replace t15 := t15.keep hb
            replace t16 := t16.keep hb
            replace hrr := hrr.keep hb
            replace hown := own_keep hown hb
            replace BB : Below w.heap.size w x93 := BB.trans (hb.mono BB.size)
            replace BL : Below wl.heap.size wl x93 := BL.trans (hb.mono BL.size)
            clear hb
            rw [HE3.out]
            have h22' := hv22
            obtain ⟨m22, d22, e22, hm22, hd22, _, _⟩ := h22'
            subst e22
            obtain ⟨A22, k22, c22, rfl⟩ := hm22.lim1.choose_spec.1.show_
            obtain ⟨D22, l22, b22, rfl⟩ := hd22.lim1.choose_spec.1.show_
            clear hm22 hd22
            clear hv22
            have c40 : x93.cell? ⟨w.heap.size, 0, none⟩ = some (.slice PA ps.length pc) := t4.cell 0
            have c41 : x93.cell? ⟨w.heap.size, 1, none⟩ = some (.slice RV rs.length vc) := t4.cell 1
            have c90 : x93.cell? ⟨g9, 0, none⟩ = some (.bool (decide ((redP F1 F0.natAbs) < 0))) := t9.cell 0
            have c91 : x93.cell? ⟨g9, 1, none⟩ = some (.slice A9 k9 c9) := t9.cell 1
            have c92 : x93.cell? ⟨g9, 2, none⟩ = some (.slice D9 l9 b9) := t9.cell 2
            have c110 : x93.cell? ⟨g11, 0, none⟩ = some (.bool (decide ((redP (F0 * F2 - F1 * F1) (F0 * F0).natAbs) < 0))) := t11.cell 0
            have c111 : x93.cell? ⟨g11, 1, none⟩ = some (.slice A11 k11 c11) := t11.cell 1
            have c112 : x93.cell? ⟨g11, 2, none⟩ = some (.slice D11 l11 b11) := t11.cell 2
            have c150 : x93.cell? ⟨g15, 0, none⟩ = some (.bool false) := t15.cell 0
            have c151 : x93.cell? ⟨g15, 1, none⟩ = some (.slice A21 k21 c21) := t15.cell 1
            have c152 : x93.cell? ⟨g15, 2, none⟩ = some (.slice D21 l21 b21) := t15.cell 2
            have c160 : x93.cell? ⟨g16, 0, none⟩ = some (.bool (decide ((redP (F0 * F2 - F1 * F1) (F0 * F0).natAbs) < 0))) := t16.cell 0
            have c161 : x93.cell? ⟨g16, 1, none⟩ = some (.slice A16 k16 c16) := t16.cell 1
            have c162 : x93.cell? ⟨g16, 2, none⟩ = some (.slice D16 l16 b16) := t16.cell 2
            have c170 : x93.cell? ⟨g17, 0, none⟩ = some (.slice A7 ps.length c7) := hrr.cell 0
            have c171 : x93.cell? ⟨g17, 1, none⟩ = some (.slice RV rs.length vc) := hrr.cell 1
            have f150 : x93.frozen? ⟨g15, 0, none⟩ = false := t15.frozen 0
            have f151 : x93.frozen? ⟨g15, 1, none⟩ = false := t15.frozen 1
            have f152 : x93.frozen? ⟨g15, 2, none⟩ = false := t15.frozen 2
            have f160 : x93.frozen? ⟨g16, 0, none⟩ = false := t16.frozen 0
            have f161 : x93.frozen? ⟨g16, 1, none⟩ = false := t16.frozen 1
            have f162 : x93.frozen? ⟨g16, 2, none⟩ = false := t16.frozen 2
            have z4 := t4.lt
            have z9 := t9.lt
            have z11 := t11.lt
            have z15 := t15.lt
            have z16 := t16.lt
            have z17 := hrr.lt
            have nt4 : Row (((x93.setCell ⟨g16, 0, none⟩ (.bool false)).setCell ⟨g16, 1, none⟩ (.slice A22 k22 c22)).setCell ⟨g16, 2, none⟩ (.slice D22 l22 b22)) (w.heap.size) 24 [.slice PA ps.length pc, .slice RV rs.length vc] := (((t4.far (by show w.heap.size ≠ g16; omega) _).far (by show w.heap.size ≠ g16; omega) _).far (by show w.heap.size ≠ g16; omega) _)
            have nt9 : Row (((x93.setCell ⟨g16, 0, none⟩ (.bool false)).setCell ⟨g16, 1, none⟩ (.slice A22 k22 c22)).setCell ⟨g16, 2, none⟩ (.slice D22 l22 b22)) (g9) 30 [.bool (decide ((redP F1 F0.natAbs) < 0)), .slice A9 k9 c9, .slice D9 l9 b9] := (((t9.far (by show g9 ≠ g16; omega) _).far (by show g9 ≠ g16; omega) _).far (by show g9 ≠ g16; omega) _)
            have nt11 : Row (((x93.setCell ⟨g16, 0, none⟩ (.bool false)).setCell ⟨g16, 1, none⟩ (.slice A22 k22 c22)).setCell ⟨g16, 2, none⟩ (.slice D22 l22 b22)) (g11) 30 [.bool (decide ((redP (F0 * F2 - F1 * F1) (F0 * F0).natAbs) < 0)), .slice A11 k11 c11, .slice D11 l11 b11] := (((t11.far (by show g11 ≠ g16; omega) _).far (by show g11 ≠ g16; omega) _).far (by show g11 ≠ g16; omega) _)
            have nt15 : Row (((x93.setCell ⟨g16, 0, none⟩ (.bool false)).setCell ⟨g16, 1, none⟩ (.slice A22 k22 c22)).setCell ⟨g16, 2, none⟩ (.slice D22 l22 b22)) (g15) 30 [.bool false, .slice A21 k21 c21, .slice D21 l21 b21] := (((t15.far (by show g15 ≠ g16; omega) _).far (by show g15 ≠ g16; omega) _).far (by show g15 ≠ g16; omega) _)
            have nt16 : Row (((x93.setCell ⟨g16, 0, none⟩ (.bool false)).setCell ⟨g16, 1, none⟩ (.slice A22 k22 c22)).setCell ⟨g16, 2, none⟩ (.slice D22 l22 b22)) (g16) 30 [.bool false, .slice A22 k22 c22, .slice D22 l22 b22] := (((t16.set_ 0 (.bool false)).set_ 1 (.slice A22 k22 c22)).set_ 2 (.slice D22 l22 b22))
            have nhrr : Row (((x93.setCell ⟨g16, 0, none⟩ (.bool false)).setCell ⟨g16, 1, none⟩ (.slice A22 k22 c22)).setCell ⟨g16, 2, none⟩ (.slice D22 l22 b22)) (g17) 24 [.slice A7 ps.length c7, .slice RV rs.length vc] := (((hrr.far (by show g17 ≠ g16; omega) _).far (by show g17 ≠ g16; omega) _).far (by show g17 ≠ g16; omega) _)
            have nBB : Below w.heap.size w (((x93.setCell ⟨g16, 0, none⟩ (.bool false)).setCell ⟨g16, 1, none⟩ (.slice A22 k22 c22)).setCell ⟨g16, 2, none⟩ (.slice D22 l22 b22)) := (((BB.setCell (by show w.heap.size ≤ g16; omega) _).setCell (by show w.heap.size ≤ g16; omega) _).setCell (by show w.heap.size ≤ g16; omega) _)
            have nBL : Below wl.heap.size wl (((x93.setCell ⟨g16, 0, none⟩ (.bool false)).setCell ⟨g16, 1, none⟩ (.slice A22 k22 c22)).setCell ⟨g16, 2, none⟩ (.slice D22 l22 b22)) := (((BL.setCell (by show wl.heap.size ≤ g16; omega) _).setCell (by show wl.heap.size ≤ g16; omega) _).setCell (by show wl.heap.size ≤ g16; omega) _)
            have nhown := (own_far (own_far (own_far hown (p := ⟨g16, 0, none⟩) (by show g16 < _; omega) (.bool false)) (p := ⟨g16, 1, none⟩) (by show g16 < _; omega) (.slice A22 k22 c22)) (p := ⟨g16, 2, none⟩) (by show g16 < _; omega) (.slice D22 l22 b22))
            have d40 : (((x93.setCell ⟨g16, 0, none⟩ (.bool false)).setCell ⟨g16, 1, none⟩ (.slice A22 k22 c22)).setCell ⟨g16, 2, none⟩ (.slice D22 l22 b22)).cell? ⟨w.heap.size, 0, none⟩ = some (.slice PA ps.length pc) := nt4.cell 0
            have d41 : (((x93.setCell ⟨g16, 0, none⟩ (.bool false)).setCell ⟨g16, 1, none⟩ (.slice A22 k22 c22)).setCell ⟨g16, 2, none⟩ (.slice D22 l22 b22)).cell? ⟨w.heap.size, 1, none⟩ = some (.slice RV rs.length vc) := nt4.cell 1
            have d90 : (((x93.setCell ⟨g16, 0, none⟩ (.bool false)).setCell ⟨g16, 1, none⟩ (.slice A22 k22 c22)).setCell ⟨g16, 2, none⟩ (.slice D22 l22 b22)).cell? ⟨g9, 0, none⟩ = some (.bool (decide ((redP F1 F0.natAbs) < 0))) := nt9.cell 0
            have d91 : (((x93.setCell ⟨g16, 0, none⟩ (.bool false)).setCell ⟨g16, 1, none⟩ (.slice A22 k22 c22)).setCell ⟨g16, 2, none⟩ (.slice D22 l22 b22)).cell? ⟨g9, 1, none⟩ = some (.slice A9 k9 c9) := nt9.cell 1
            have d92 : (((x93.setCell ⟨g16, 0, none⟩ (.bool false)).setCell ⟨g16, 1, none⟩ (.slice A22 k22 c22)).setCell ⟨g16, 2, none⟩ (.slice D22 l22 b22)).cell? ⟨g9, 2, none⟩ = some (.slice D9 l9 b9) := nt9.cell 2
            have d110 : (((x93.setCell ⟨g16, 0, none⟩ (.bool false)).setCell ⟨g16, 1, none⟩ (.slice A22 k22 c22)).setCell ⟨g16, 2, none⟩ (.slice D22 l22 b22)).cell? ⟨g11, 0, none⟩ = some (.bool (decide ((redP (F0 * F2 - F1 * F1) (F0 * F0).natAbs) < 0))) := nt11.cell 0
            have d111 : (((x93.setCell ⟨g16, 0, none⟩ (.bool false)).setCell ⟨g16, 1, none⟩ (.slice A22 k22 c22)).setCell ⟨g16, 2, none⟩ (.slice D22 l22 b22)).cell? ⟨g11, 1, none⟩ = some (.slice A11 k11 c11) := nt11.cell 1
            have d112 : (((x93.setCell ⟨g16, 0, none⟩ (.bool false)).setCell ⟨g16, 1, none⟩ (.slice A22 k22 c22)).setCell ⟨g16, 2, none⟩ (.slice D22 l22 b22)).cell? ⟨g11, 2, none⟩ = some (.slice D11 l11 b11) := nt11.cell 2
            have d150 : (((x93.setCell ⟨g16, 0, none⟩ (.bool false)).setCell ⟨g16, 1, none⟩ (.slice A22 k22 c22)).setCell ⟨g16, 2, none⟩ (.slice D22 l22 b22)).cell? ⟨g15, 0, none⟩ = some (.bool false) := nt15.cell 0
            have d151 : (((x93.setCell ⟨g16, 0, none⟩ (.bool false)).setCell ⟨g16, 1, none⟩ (.slice A22 k22 c22)).setCell ⟨g16, 2, none⟩ (.slice D22 l22 b22)).cell? ⟨g15, 1, none⟩ = some (.slice A21 k21 c21) := nt15.cell 1
            have d152 : (((x93.setCell ⟨g16, 0, none⟩ (.bool false)).setCell ⟨g16, 1, none⟩ (.slice A22 k22 c22)).setCell ⟨g16, 2, none⟩ (.slice D22 l22 b22)).cell? ⟨g15, 2, none⟩ = some (.slice D21 l21 b21) := nt15.cell 2
            have d160 : (((x93.setCell ⟨g16, 0, none⟩ (.bool false)).setCell ⟨g16, 1, none⟩ (.slice A22 k22 c22)).setCell ⟨g16, 2, none⟩ (.slice D22 l22 b22)).cell? ⟨g16, 0, none⟩ = some (.bool false) := nt16.cell 0
            have d161 : (((x93.setCell ⟨g16, 0, none⟩ (.bool false)).setCell ⟨g16, 1, none⟩ (.slice A22 k22 c22)).setCell ⟨g16, 2, none⟩ (.slice D22 l22 b22)).cell? ⟨g16, 1, none⟩ = some (.slice A22 k22 c22) := nt16.cell 1
            have d162 : (((x93.setCell ⟨g16, 0, none⟩ (.bool false)).setCell ⟨g16, 1, none⟩ (.slice A22 k22 c22)).setCell ⟨g16, 2, none⟩ (.slice D22 l22 b22)).cell? ⟨g16, 2, none⟩ = some (.slice D22 l22 b22) := nt16.cell 2
            have d170 : (((x93.setCell ⟨g16, 0, none⟩ (.bool false)).setCell ⟨g16, 1, none⟩ (.slice A22 k22 c22)).setCell ⟨g16, 2, none⟩ (.slice D22 l22 b22)).cell? ⟨g17, 0, none⟩ = some (.slice A7 ps.length c7) := nhrr.cell 0
            have d171 : (((x93.setCell ⟨g16, 0, none⟩ (.bool false)).setCell ⟨g16, 1, none⟩ (.slice A22 k22 c22)).setCell ⟨g16, 2, none⟩ (.slice D22 l22 b22)).cell? ⟨g17, 1, none⟩ = some (.slice RV rs.length vc) := nhrr.cell 1
            have h150 : (((x93.setCell ⟨g16, 0, none⟩ (.bool false)).setCell ⟨g16, 1, none⟩ (.slice A22 k22 c22)).setCell ⟨g16, 2, none⟩ (.slice D22 l22 b22)).frozen? ⟨g15, 0, none⟩ = false := nt15.frozen 0
            have h151 : (((x93.setCell ⟨g16, 0, none⟩ (.bool false)).setCell ⟨g16, 1, none⟩ (.slice A22 k22 c22)).setCell ⟨g16, 2, none⟩ (.slice D22 l22 b22)).frozen? ⟨g15, 1, none⟩ = false := nt15.frozen 1
            have h152 : (((x93.setCell ⟨g16, 0, none⟩ (.bool false)).setCell ⟨g16, 1, none⟩ (.slice A22 k22 c22)).setCell ⟨g16, 2, none⟩ (.slice D22 l22 b22)).frozen? ⟨g15, 2, none⟩ = false := nt15.frozen 2
            have h160 : (((x93.setCell ⟨g16, 0, none⟩ (.bool false)).setCell ⟨g16, 1, none⟩ (.slice A22 k22 c22)).setCell ⟨g16, 2, none⟩ (.slice D22 l22 b22)).frozen? ⟨g16, 0, none⟩ = false := nt16.frozen 0
            have h161 : (((x93.setCell ⟨g16, 0, none⟩ (.bool false)).setCell ⟨g16, 1, none⟩ (.slice A22 k22 c22)).setCell ⟨g16, 2, none⟩ (.slice D22 l22 b22)).frozen? ⟨g16, 1, none⟩ = false := nt16.frozen 1
            have h162 : (((x93.setCell ⟨g16, 0, none⟩ (.bool false)).setCell ⟨g16, 1, none⟩ (.slice A22 k22 c22)).setCell ⟨g16, 2, none⟩ (.slice D22 l22 b22)).frozen? ⟨g16, 2, none⟩ = false := nt16.frozen 2
            go_wp2_with fail
            clear d40 d41 d90 d91 d92 d110 d111 d112 d150 d151 d152 d160 d161 d162 d170 d171 h150 h151 h152 h160 h161 h162 c40 c41 c90 c91 c92 c110 c111 c112 c150 c151 c152 c160 c161 c162 c170 c171 f150 f151 f152 f160 f161 f162 z4 z9 z11 z15 z16 z17
            replace t4 := nt4
            clear nt4
            replace t9 := nt9
            clear nt9
            replace t11 := nt11
            clear nt11
            replace t15 := nt15
            clear nt15
            replace t16 := nt16
            clear nt16
            replace hrr := nhrr
            clear nhrr
            replace hown := nhown
            clear nhown
            replace BL := nBL
            clear nBL
            replace BB := nBB
            clear nBB
            generalize (((x93.setCell ⟨g16, 0, none⟩ (.bool false)).setCell ⟨g16, 1, none⟩ (.slice A22 k22 c22)).setCell ⟨g16, 2, none⟩ (.slice D22 l22 b22)) = x94 at *
            refine (gvalid_any _ _ (moveL d ps) rs _ (num_own hown) (hr0.below BB)).mono ?_
            rintro e x95 ⟨rfl, hb⟩
            replace t4 := t4.keep hb
            replace t9 := t9.keep hb
            replace t11 := t11.keep hb
            replace t15 := t15.keep hb
            replace t16 := t16.keep hb
            replace hrr := hrr.keep hb
            replace hown := own_keep hown hb
            replace BB : Below w.heap.size w x95 := BB.trans (hb.mono BB.size)
            replace BL : Below wl.heap.size wl x95 := BL.trans (hb.mono BL.size)
            clear hb
            rw [HGM.out]
            have c40 : x95.cell? ⟨w.heap.size, 0, none⟩ = some (.slice PA ps.length pc) := t4.cell 0
            have c41 : x95.cell? ⟨w.heap.size, 1, none⟩ = some (.slice RV rs.length vc) := t4.cell 1
            have c90 : x95.cell? ⟨g9, 0, none⟩ = some (.bool (decide ((redP F1 F0.natAbs) < 0))) := t9.cell 0
            have c91 : x95.cell? ⟨g9, 1, none⟩ = some (.slice A9 k9 c9) := t9.cell 1
            have c92 : x95.cell? ⟨g9, 2, none⟩ = some (.slice D9 l9 b9) := t9.cell 2
            have c110 : x95.cell? ⟨g11, 0, none⟩ = some (.bool (decide ((redP (F0 * F2 - F1 * F1) (F0 * F0).natAbs) < 0))) := t11.cell 0
            have c111 : x95.cell? ⟨g11, 1, none⟩ = some (.slice A11 k11 c11) := t11.cell 1
            have c112 : x95.cell? ⟨g11, 2, none⟩ = some (.slice D11 l11 b11) := t11.cell 2
            have c150 : x95.cell? ⟨g15, 0, none⟩ = some (.bool false) := t15.cell 0
            have c151 : x95.cell? ⟨g15, 1, none⟩ = some (.slice A21 k21 c21) := t15.cell 1
            have c152 : x95.cell? ⟨g15, 2, none⟩ = some (.slice D21 l21 b21) := t15.cell 2
            have c160 : x95.cell? ⟨g16, 0, none⟩ = some (.bool false) := t16.cell 0
            have c161 : x95.cell? ⟨g16, 1, none⟩ = some (.slice A22 k22 c22) := t16.cell 1
            have c162 : x95.cell? ⟨g16, 2, none⟩ = some (.slice D22 l22 b22) := t16.cell 2
            have c170 : x95.cell? ⟨g17, 0, none⟩ = some (.slice A7 ps.length c7) := hrr.cell 0
            have c171 : x95.cell? ⟨g17, 1, none⟩ = some (.slice RV rs.length vc) := hrr.cell 1
            have f150 : x95.frozen? ⟨g15, 0, none⟩ = false := t15.frozen 0
            have f151 : x95.frozen? ⟨g15, 1, none⟩ = false := t15.frozen 1
            have f152 : x95.frozen? ⟨g15, 2, none⟩ = false := t15.frozen 2
            have f160 : x95.frozen? ⟨g16, 0, none⟩ = false := t16.frozen 0
            have f161 : x95.frozen? ⟨g16, 1, none⟩ = false := t16.frozen 1
            have f162 : x95.frozen? ⟨g16, 2, none⟩ = false := t16.frozen 2
            have z4 := t4.lt
            have z9 := t9.lt
            have z11 := t11.lt
            have z15 := t15.lt
            have z16 := t16.lt
            have z17 := hrr.lt
            go_wp2_with fail
            clear c40 c41 c90 c91 c92 c110 c111 c112 c150 c151 c152 c160 c161 c162 c170 c171 f150 f151 f152 f160 f161 f162 z4 z9 z11 z15 z16 z17
            go_ret
            exact ⟨rfl, BB⟩

end Go.Proofs.YtdmjgildgjpmcaaDoor
