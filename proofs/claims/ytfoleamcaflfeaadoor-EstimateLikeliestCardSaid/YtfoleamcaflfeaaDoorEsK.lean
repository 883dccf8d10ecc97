/- The walks of the reference's sum, checked, Mode. estimate.Likeliest. The reference's Likeliest. -/
import Derived.Test.YtfoleamcaflfeaaDoorEsA
import Derived.Test.YtfoleamcaflfeaaDoorRefB
import Derived.Test.YtfoleamcaflfeaaDoorPoR
import Derived.Test.YtfoleamcaflfeaaDoorPoL
import Derived.Deep.CutRange
import Derived.Deep.DeepCutAuto
import Derived.Deep.Light
namespace Go.Proofs.YtfoleamcaflfeaaDoor
open Go.RowKit
set_option linter.unusedVariables false

set_option maxHeartbeats 2000000 in
theorem rsum_any (wv : Value) (ns : List Nat) (L lo hi : Nat) (w : World) (hw : Wts w wv ns L) (hL : L ≤ 35184372088800) (h21 : ns.length ≤ 21) (h1 : lo ≤ hi) (h2 : hi ≤ ns.length) :
    Calls Tryd.prog 65 #[wv, .int .i64 (lo : Int), .int .i64 ((hi : Int) - 1)] w fun e w' => ∃ v, e = .returned v ∧ NatAt w' v (sumR ns lo hi) (L + ns.length + 2) ∧ Below w.heap.size w w' := by
  obtain ⟨WA, wc, us, rfl, hwc, hwm, hws, hwu⟩ := hw
  have HWU := Lib.hid hwu
  unfold maxLen at hwm
  clear hwu
  obtain ⟨n, hn⟩ : ∃ n, ns.length = n := ⟨_, rfl⟩
  have HN := Lib.hid hn
  rw [hn] at hws hwc h21 h2 ⊢
  clear hn
  go_enter Tryd.func65, Tryd.ntmps65
  go_wp2_with fail
  refine (rof_any 0 _ (by omega)).mono ?_
  rintro e w1 ⟨v, rfl, l0, hl0, nt0, hv0, hk0, hf0, BB⟩
  obtain ⟨⟨A0, c0, rfl, _, _, _⟩, _⟩ := id hl0
  replace hws := hws.below BB
  replace HWU : Hid (∀ i u, us[i]? = some u → NatAny w1 u (ns.getD i 0) L) := fun i u h => (HWU.out i u h).below BB
  go_wp2_with fail
  go_loopw [7, 8] (fun v iv wr => ∃ (j : Nat), lo ≤ j ∧ j ≤ hi ∧ iv = .int .i64 (j : Int) ∧ NatAt wr v (sumR ns lo j) (L + j + 2) ∧ Below w1.heap.size w1 wr) (fun _ iv _ => hi - (intOf iv).toNat)
  case atStart => exact ⟨lo, Nat.le_refl _, h1, rfl, ⟨l0, hl0, nt0, by rw [hv0, sumR_start _ (Nat.le_refl _)], by omega⟩, Below.refl _ _⟩
  case round =>
    obtain ⟨j, hj0, hj, rfl, hv, BQ⟩ := hrel
    obtain ⟨lv, hlv, ntv, hvv, hkv⟩ := id hv
    obtain ⟨⟨VA, vc, rfl, _, _, _⟩, _⟩ := id hlv
    by_cases hlh : j < hi
    · have hlt : j < n := by omega
      obtain ⟨b, o, u, rfl, hbl, hcell, hu⟩ := lst_at (R := fun w u x => NatAny w u x L) (d := 0) (xs := ns) hws HWU.out hlt
      obtain ⟨lk, hlim, hval, hlen⟩ := hu.below BQ
      have HVL := Lib.hid hval
      clear hval
      have g2 := (BQ.cell (p := ⟨b, o + j, none⟩) hbl).trans hcell
      clear hcell hu
      have hjI : (j : Int) < (n : Int) := by omega
      have hjH : (j : Int) ≤ (hi : Int) - 1 := by omega
      have HSUM := Lib.hid (sumR_succ ns hj0 (by rw [HN.out]; exact hlt))
      obtain ⟨⟨UA, uc, rfl, _, _, _⟩, _⟩ := id hlim
      go_wp2_with fail
      refine (radd_wide _ _ lv lk _ hlv hlim (by omega) (by omega)).mono ?_
      rintro e w6 ⟨v6, rfl, l6, hl6, nt6, hv6, hk6, hf6, h6⟩
      obtain ⟨⟨A6, c6, rfl, _, _, _⟩, _⟩ := id hl6
      go_wp2_with fail
      go_roundw
      case rel => exact ⟨j + 1, by omega, by omega, by go_num, ⟨l6, hl6, nt6, by rw [hv6, hvv, HVL.out, HSUM.out], by omega⟩, BQ.trans (h6.mono BQ.size)⟩
      case measure => simp [intOf]; omega
    · obtain rfl : j = hi := by omega
      have hjH : ¬ (j : Int) ≤ (j : Int) - 1 := by omega
      go_wp2_with fail
      go_ret
      obtain ⟨l9, a1, a2, a3, a4⟩ := hv
      exact ⟨_, rfl, ⟨l9, a1, a2, a3, by omega⟩, BB.trans (BQ.mono BB.size)⟩
theorem rchecked_any (wv : Value) (ns : List Nat) (L : Nat) (w : World) (hw : Wts w wv ns L) (hL : L ≤ 35184372088800) :
    Calls Tryd.prog 48 #[wv] w fun e w' => e = .returned (.int .i64 (chkS ns)) ∧ Below w.heap.size w w' := by
  have HZ := Lib.hid (fun h => rsum_any wv ns L 0 ns.length w hw hL h (Nat.zero_le _) (Nat.le_refl _))
  rw [sumR_all] at HZ
  obtain ⟨WA, wc, us, rfl, hwc, hwm, hws, hwu⟩ := hw
  unfold maxLen at hwm
  clear hwu hws
  unfold chkS
  by_cases h : 21 < ns.length
  · have t1 : decide (21 < (ns.length : Int)) = true := decide_eq_true (by omega)
    rw [if_pos h]
    go_enter Tryd.func48, Tryd.ntmps48
    go_wp2_with fail
    go_ret
    exact ⟨rfl, Below.refl _ _⟩
  · have t1 : decide (21 < (ns.length : Int)) = false := decide_eq_false (by omega)
    rw [if_neg h]
    by_cases hz : ns.sum = 0
    · rw [if_pos hz]
      go_enter Tryd.func48, Tryd.ntmps48
      go_wp2_with fail
      refine (HZ.out (by omega)).mono ?_
      rintro e w1 ⟨v, rfl, ⟨lv, hlv, ntv, hvv, hkv⟩, hb⟩
      obtain ⟨⟨VA, vc, rfl, hvl, hvm, _⟩, _⟩ := id hlv
      unfold maxLen at hvm
      obtain rfl := ntv.zero (hvv.trans hz)
      go_wp2_with fail
      go_ret
      exact ⟨rfl, hb⟩
    · rw [if_neg hz]
      go_enter Tryd.func48, Tryd.ntmps48
      go_wp2_with fail
      refine (HZ.out (by omega)).mono ?_
      rintro e w1 ⟨v, rfl, ⟨lv, hlv, ntv, hvv, hkv⟩, hb⟩
      obtain ⟨⟨VA, vc, rfl, hvl, hvm, _⟩, _⟩ := id hlv
      unfold maxLen at hvm
      have hb3 : 0 < lv.length := by
        rcases lv with _ | ⟨x, lv⟩
        · exact absurd hvv.symm hz
        · simp
      have t2 : ((lv.length : Int) == 0) = false := by rw [beq_eq_false_iff_ne]; omega
      have t3 : decide ((lv.length : Int) = 0) = false := decide_eq_false (by omega)
      go_wp2_with fail
      go_ret
      exact ⟨rfl, hb⟩
set_option maxHeartbeats 4000000 in
theorem rmode_any (wv : Value) (ns : List Nat) (L : Nat) (w : World) (hw : Wts w wv ns L) (hL : L ≤ 35184372088800) :
    Calls Tryd.prog 26 #[wv] w fun e w' => e = .returned (.tuple #[.int .i64 (modeV ns : Int), .int .i64 (chkS ns)]) ∧ Below w.heap.size w w' := by
  have HC := Lib.hid (rchecked_any wv ns L w hw hL)
  obtain ⟨WA, wc, us, rfl, hwc, hwm, hws, hwu⟩ := hw
  have HWU := Lib.hid hwu
  unfold maxLen at hwm
  clear hwu
  unfold modeV
  by_cases hE : chkS ns = 0
  · have h21 := (chkS_zero hE).1
    rw [hE] at HC ⊢
    rw [if_pos rfl]
    obtain ⟨n, hn⟩ : ∃ n, ns.length = n := ⟨_, rfl⟩
    have HN := Lib.hid hn
    rw [hn] at hws hwc h21 HC ⊢
    clear hn hE
    go_enter Tryd.func26, Tryd.ntmps26
    go_wp2_with fail
    refine HC.out.mono ?_
    rintro e w1 ⟨rfl, BB⟩
    clear HC
    replace hws := hws.below BB
    replace HWU : Hid (∀ i u, us[i]? = some u → NatAny w1 u (ns.getD i 0) L) := fun i u h => (HWU.out i u h).below BB
    go_wp2_with fail
    go_loopw [5, 14] (fun b iv wr => ∃ (j : Nat), j ≤ n ∧ iv = .int .i64 (j : Int) ∧ b = .int .i64 (bestI ns j : Int) ∧ Below w1.heap.size w1 wr) (fun _ iv _ => n - (intOf iv).toNat)
    case atStart => exact ⟨0, by omega, rfl, rfl, Below.refl _ _⟩
    case round =>
      obtain ⟨j, hj, rfl, rfl, BQ⟩ := hrel
      by_cases hlt : j < n
      · have hbl := bestI_le ns j
        have HST : Hid (bestI ns (j + 1) = if ns.getD (bestI ns j) 0 < ns.getD j 0 then j else bestI ns j) := rfl
        generalize bestI ns j = i at *
        have hli : i < n := by omega
        obtain ⟨b, o, u, hA, hbk, hcell, hu⟩ := lst_at (R := fun w u x => NatAny w u x L) (d := 0) (xs := ns) hws HWU.out hlt
        obtain ⟨b', o', u', hA', hbk', hcell', hu'⟩ := lst_at (R := fun w u x => NatAny w u x L) (d := 0) (xs := ns) hws HWU.out hli
        subst hA
        obtain ⟨rfl, rfl⟩ : b = b' ∧ o = o' := by injection hA' with h; injection h with h1 h2 h3; exact ⟨h1, h2⟩
        clear hA'
        obtain ⟨lk, hlim, hval, hlen⟩ := hu.below BQ
        obtain ⟨lx, hlim', hval', hlen'⟩ := hu'.below BQ
        obtain ⟨⟨UA, uc, rfl, _, _, _⟩, _⟩ := id hlim
        obtain ⟨⟨XA, xc, rfl, _, _, _⟩, _⟩ := id hlim'
        have g1 := (BQ.cell (p := ⟨b, o + j, none⟩) hbk).trans hcell
        have g2 := (BQ.cell (p := ⟨b, o + i, none⟩) hbk).trans hcell'
        have zb : b < wr.heap.size := Nat.lt_of_lt_of_le hbk BQ.size
        clear hcell hcell' hu hu' hbk hbk'
        have hjI : (j : Int) < (n : Int) := by omega
        have hiI : (i : Int) < (n : Int) := by omega
        rw [← hval, ← hval'] at HST
        clear hval hval'
        have t1 : decide (0 < cmpN (val lk) (val lx)) = decide (val lx < val lk) := pos_gt _ _
        have HK := Lib.hid hlim
        have HX := Lib.hid hlim'
        clear hlim hlim'
        go_wp2_with fail
        go_region_law (first | (go_simp; go_at_call 49; ((with_reducible refine (rcmp_any _ _ lk lx _ (HK.out.below ?_) (HX.out.below ?_) (by omega) (by omega)).mono ?_); (repeat (first | with_reducible exact Below.refl _ _ | with_reducible fail | with_reducible refine below_drewN ?_ _ | with_reducible refine bl_alloc ?_ _ | with_reducible refine bl_drew ?_)); (repeat (first | with_reducible exact Below.refl _ _ | with_reducible fail | with_reducible refine below_drewN ?_ _ | with_reducible refine bl_alloc ?_ _ | with_reducible refine bl_drew ?_)); rintro e w5 ⟨rfl, rfl⟩)))
        all_goals
          by_cases hgt : val lx < val lk
          · have t2 : decide (val lx < val lk) = true := decide_eq_true hgt
            rw [if_pos hgt] at HST
            go_wp2_with fail
            go_roundw
            case rel => exact ⟨j + 1, by omega, by go_num, by rw [HST.out], by first | exact below_drewN BQ _ | exact below_drew BQ | exact BQ⟩
            case measure => simp [intOf]; omega
          · have t2 : decide (val lx < val lk) = false := decide_eq_false hgt
            rw [if_neg hgt] at HST
            go_wp2_with fail
            go_roundw
            case rel => exact ⟨j + 1, by omega, by go_num, by rw [HST.out], by first | exact below_drewN BQ _ | exact below_drew BQ | exact BQ⟩
            case measure => simp [intOf]; omega
      · obtain rfl : j = n := by omega
        go_wp2_with fail
        go_ret2
        exact ⟨rfl, BB.trans (BQ.mono BB.size)⟩
  · rw [if_neg hE]
    have t1 : ((chkS ns) != 0) = true := by simpa using hE
    generalize chkS ns = E at *
    go_enter Tryd.func26, Tryd.ntmps26
    go_wp2_with fail
    refine HC.out.mono ?_
    rintro e w1 ⟨rfl, BB⟩
    go_wp2_with fail
    go_ret2
    exact ⟨rfl, BB⟩
end Go.Proofs.YtfoleamcaflfeaaDoor
namespace Go.Proofs.YtfoleamcaflfeaaDoor
open Go.RowKit
set_option linter.unusedVariables false

/-- As many ones as the grid has points. -/
def onesL (ps : List Int) : List Int := List.replicate ps.length 1
/-- The likelihoods on the grid. -/
def flatW (ps : List Int) (ms : List Mdl) (ks : List Int) : List Nat := allW ps (onesL ps) ms ks
/-- The first rule that the arguments of Likeliest violate. -/
def likE (ps rs : List Int) (ms : List Mdl) (ks : List Int) : Int :=
  if gridE ps rs ≠ 0 then gridE ps rs else if postE ps (onesL ps) ms ks ≠ 0 then postE ps (onesL ps) ms ks else chkS (flatW ps ms ks)
/-- The index that Likeliest returns. -/
def likV (ps rs : List Int) (ms : List Mdl) (ks : List Int) : Nat :=
  if gridE ps rs ≠ 0 then 0 else if postE ps (onesL ps) ms ks ≠ 0 then 0 else modeV (flatW ps ms ks)
theorem nums_ones {w : World} {t g n : Nat} {ps : List Int} (hn : ps.length = n) (h : Row w g t (List.replicate n (Value.int .i64 1))) (hm : n ≤ 21) : Nums .i64 w (.slice (some ⟨g, 0, none⟩) n n) (onesL ps) := by
  subst hn
  have := Nums.of_row (zs := onesL ps) (k := .i64) (t := t) (w := w) (g := g) (by unfold onesL; rw [List.map_replicate]; exact h) (by unfold onesL maxLen; rw [List.length_replicate]; omega)
  rwa [show (onesL ps).length = ps.length by simp [onesL]] at this
theorem ones_next {n k : Nat} (h : k < n) : (List.replicate k (Value.int .i64 1) ++ List.replicate (n - k) (Value.int .i64 0)).set k (.int .i64 1) = List.replicate (k + 1) (Value.int .i64 1) ++ List.replicate (n - (k + 1)) (Value.int .i64 0) := by
  obtain ⟨d, rfl⟩ : ∃ d, n = k + 1 + d := ⟨n - (k + 1), by omega⟩
  rw [show k + 1 + d - k = d + 1 by omega, show k + 1 + d - (k + 1) = d by omega, List.replicate_succ, List.set_append_right _ _ (by simp)]
  simp [List.replicate_succ']
set_option maxHeartbeats 8000000 in
theorem elik_any (pv rv mv kv : Value) (ps rs : List Int) (ms : List Mdl) (ks : List Int) (w : World) (hp : Nums .i64 w pv ps) (hr : Nums .i64 w rv rs) (hm : ModL w mv ms) (hk : Nums .i64 w kv ks) :
    Calls Tryd.prog 27 #[.agg #[pv, rv], mv, kv] w fun e w' => e = .returned (.tuple #[.int .i64 (likV ps rs ms ks : Int), .int .i64 (likE ps rs ms ks)]) ∧ Below w.heap.size w w' := by
  have HV := Lib.hid (fun (W : World) (h : Below w.heap.size w W) => gvalid_any pv rv ps rs W (hp.below h) (hr.below h))
  have HA := Lib.hid (fun (rw' : Value) (W : World) (h : Below w.heap.size w W) (hf : Nums .i64 W rw' (onesL ps)) => all_u pv rw' mv kv ps (onesL ps) ms ks W (hp.below h) hf (hm.below h) (hk.below h))
  obtain ⟨PA, pc, rfl, hpc, hpm, hps⟩ := hp
  obtain ⟨QA, qc, rfl, hqc, hqm, hqs⟩ := hr
  obtain ⟨MA, mc, mus, rfl, _, _, _, _⟩ := hm
  obtain ⟨KA, kc, rfl, _, _, _⟩ := hk
  obtain ⟨W0, hW0⟩ : ∃ W0 : World, W0 = w.alloc (.cells #[.slice PA ps.length pc, .slice QA rs.length qc] 37) := ⟨_, rfl⟩
  have r0 : Row W0 w.heap.size 37 [.slice PA ps.length pc, .slice QA rs.length qc] := by
    rw [hW0]
    exact Row.new w 37 [.slice PA ps.length pc, .slice QA rs.length qc]
  have B0 : Below w.heap.size w W0 := by rw [hW0]; exact (Below.refl _ _).alloc (Nat.le_refl _) _
  have c00 : W0.cell? ⟨w.heap.size, 0, none⟩ = some (.slice PA ps.length pc) := r0.cell 0
  have c01 : W0.cell? ⟨w.heap.size, 1, none⟩ = some (.slice QA rs.length qc) := r0.cell 1
  have z0 := r0.lt
  by_cases hE : gridE ps rs = 0
  · have e1 := (gridE_zero hE).1
    have e2 := (gridE_zero hE).2.1
    have HLE : Hid (likE ps rs ms ks = if postE ps (onesL ps) ms ks ≠ 0 then postE ps (onesL ps) ms ks else chkS (flatW ps ms ks)) := by unfold Hid likE; rw [if_neg (by simpa using hE)]
    have HLV : Hid (likV ps rs ms ks = if postE ps (onesL ps) ms ks ≠ 0 then 0 else modeV (flatW ps ms ks)) := by unfold Hid likV; rw [if_neg (by simpa using hE)]
    rw [hE] at HV
    obtain ⟨n, hn⟩ : ∃ n, ps.length = n := ⟨_, rfl⟩
    have HN := Lib.hid hn
    rw [hn] at HV HA e1 e2 c00 r0 hW0 ⊢
    clear hn hE
    go_enter Tryd.func27, Tryd.ntmps27
    go_wp2_with fail
    rw [← hW0]
    clear hW0
    go_wp2_with fail
    clear c00 c01 z0
    refine (HV.out _ B0).mono ?_
    rintro e w1 ⟨rfl, hb⟩
    clear HV
    replace r0 := r0.keep hb
    replace B0 : Below w.heap.size w w1 := B0.trans (hb.mono B0.size)
    clear hb
    have c00 : w1.cell? ⟨w.heap.size, 0, none⟩ = some (.slice PA n pc) := r0.cell 0
    have c01 : w1.cell? ⟨w.heap.size, 1, none⟩ = some (.slice QA rs.length qc) := r0.cell 1
    have z0 := r0.lt
    have hmk := run_mk (P := Tryd.prog) Tryd.underlying35 infoInt rfl n (by omega) (by omega)
    go_wp2_with fail
    go_cut [9] (fun s0 wx => ∃ (g g' : Nat), s0 = .pointer (some ⟨g, 0, none⟩) ∧ w1.heap.size ≤ g ∧ w1.heap.size ≤ g' ∧ g ≠ g' ∧ Row wx g 37 [.slice PA n pc, .slice (some ⟨g', 0, none⟩) n n] ∧ Row wx g' 3 (List.replicate n (.int .i64 0)) ∧ Below w1.heap.size w1 wx)
    case first =>
      go_region
      all_goals go_wp2_with fail
      all_goals go_meet
      all_goals go_light
      all_goals first
        | (refine ⟨w1.heap.size + 1, w1.heap.size, rfl, by omega, Nat.le_refl _, by omega, ?_, ?_, ?_⟩
           · exact Row.drew (row_at (by simp))
           · exact Row.drew (Row.alloc (Row.newz _ _ _ _) _)
           · exact bl_drew (lit_more (lit_below _ _) _))
        | (refine ⟨w1.heap.size, w1.heap.size + 1, rfl, Nat.le_refl _, by omega, by omega, ?_, ?_, ?_⟩
           · exact Row.drew (Row.alloc (row_at rfl) _)
           · exact Row.drew (by simpa using Row.newz (w1.alloc _) 3 (.int .i64 0) n)
           · exact bl_drew (lit_more (lit_below _ _) _))
    case rest =>
      obtain ⟨g, g', rfl, hg, hg', hne, hr9, hrn, hbc⟩ := hcut
      obtain ⟨w2, hw2⟩ : ∃ x, x = wc := ⟨_, rfl⟩
      rw [← hw2] at hr9 hrn hbc ⊢
      clear hw2 c00 c01 z0
      have BB : Below w.heap.size w w2 := B0.trans (hbc.mono B0.size)
      have og : w.heap.size ≤ g' := Nat.le_trans B0.size hg'
      clear hbc B0 r0 hg hg' hmk
      have c90 : w2.cell? ⟨g, 0, none⟩ = some (.slice PA n pc) := hr9.cell 0
      have c91 : w2.cell? ⟨g, 1, none⟩ = some (.slice (some ⟨g', 0, none⟩) n n) := hr9.cell 1
      have z9 := hr9.lt
      go_wp2_with fail
      clear c90 c91 z9
      go_loopw [28] (fun iv wr => ∃ (k : Nat), k ≤ n ∧ iv = .int .i64 (k : Int) ∧ Row wr g 37 [.slice PA n pc, .slice (some ⟨g', 0, none⟩) n n] ∧ Row wr g' 3 (List.replicate k (.int .i64 1) ++ List.replicate (n - k) (.int .i64 0)) ∧ Below w.heap.size w wr) (fun iv _ => n - (intOf iv).toNat)
      case atStart => exact ⟨0, by omega, rfl, hr9, by simpa using hrn, BB⟩
      case round =>
        clear hr9 hrn BB
        obtain ⟨k, hk, rfl, hr9, hrn, BB⟩ := hrel
        have c90 : wr.cell? ⟨g, 0, none⟩ = some (.slice PA n pc) := hr9.cell 0
        have c91 : wr.cell? ⟨g, 1, none⟩ = some (.slice (some ⟨g', 0, none⟩) n n) := hr9.cell 1
        have z9 := hr9.lt
        have zn := hrn.lt
        by_cases hlt : k < n
        · have hkI : (k : Int) < (n : Int) := by omega
          have d0 : wr.cell? ⟨g', k, none⟩ = some (.int .i64 0) := by rw [hrn.cell, List.getElem?_append_right (by simp), List.length_replicate, Nat.sub_self, List.getElem?_replicate, if_pos (by omega)]
          have f0 : wr.frozen? ⟨g', k, none⟩ = false := hrn.frozen k
          have N9 := hr9.far (p := ⟨g', k, none⟩) hne (.int .i64 1)
          have NN := hrn.set_ k (.int .i64 1)
          rw [ones_next hlt] at NN
          have NB := BB.setCell (p := ⟨g', k, none⟩) og (.int .i64 1)
          go_wp2_with fail
          go_roundw
          case rel => exact ⟨k + 1, by omega, by go_num, N9, NN, NB⟩
          case measure => simp [intOf]; omega
        · obtain rfl : k = n := by omega
          have hnum : Nums .i64 wr (.slice (some ⟨g', 0, none⟩) k k) (onesL ps) := nums_ones HN.out (by simpa using hrn) e1
          go_wp2_with fail
          refine (HA.out _ _ BB hnum).mono ?_
          rintro e w4 ⟨A4, n4, c4, rfl, hcan, hb⟩
          replace BB : Below w.heap.size w w4 := BB.trans (hb.mono BB.size)
          clear hb c90 c91 z9 zn hr9 hrn hnum
          by_cases hP : postE ps (onesL ps) ms ks = 0
          · have h60 := (postE_zero hP).2.2.1
            rw [hP] at HLE HLV ⊢
            rw [if_neg (by simp)] at HLE HLV
            have hcan' : CanL w4 (.slice A4 n4 c4) (flatW ps ms ks) (2 + 2 * ms.length) := hcan
            go_wp2_with fail
            refine (emode_any _ _ _ _ hcan'.wts (by omega)).mono ?_
            rintro e w5 ⟨rfl, hb⟩
            go_wp2_with fail
            go_ret2
            exact ⟨by rw [HLE.out, HLV.out]; rfl, BB.trans (hb.mono BB.size)⟩
          · rw [if_pos hP] at HLE HLV
            have hne2 : (postE ps (onesL ps) ms ks != 0) = true := by rw [bne_iff_ne]; exact hP
            generalize postE ps (onesL ps) ms ks = E at *
            go_wp2_with fail
            go_ret2
            exact ⟨by rw [HLE.out, HLV.out]; rfl, BB⟩
  · have HLE : Hid (likE ps rs ms ks = gridE ps rs) := by unfold Hid likE; rw [if_pos hE]
    have HLV : Hid (likV ps rs ms ks = 0) := by unfold Hid likV; rw [if_pos hE]
    rw [HLE.out, HLV.out]
    have hne : (gridE ps rs != 0) = true := by rw [bne_iff_ne]; exact hE
    generalize gridE ps rs = E at *
    clear HLE HLV HA
    go_enter Tryd.func27, Tryd.ntmps27
    go_wp2_with fail
    rw [← hW0]
    clear hW0
    go_wp2_with fail
    refine (HV.out _ B0).mono ?_
    rintro e w1 ⟨rfl, hb⟩
    go_wp2_with fail
    go_ret2
    exact ⟨rfl, B0.trans (hb.mono B0.size)⟩
end Go.Proofs.YtfoleamcaflfeaaDoor
namespace Go.Proofs.YtfoleamcaflfeaaDoor
open Go.RowKit
set_option linter.unusedVariables false

set_option maxHeartbeats 8000000 in
theorem rlik_any (pv rv mv kv : Value) (ps rs : List Int) (ms : List Mdl) (ks : List Int) (w : World) (hp : Nums .i64 w pv ps) (hr : Nums .i64 w rv rs) (hm : ModL w mv ms) (hk : Nums .i64 w kv ks) :
    Calls Tryd.prog 28 #[.agg #[pv, rv], mv, kv] w fun e w' => e = .returned (.tuple #[.int .i64 (likV ps rs ms ks : Int), .int .i64 (likE ps rs ms ks)]) ∧ Below w.heap.size w w' := by
  have HV := Lib.hid (fun (W : World) (h : Below w.heap.size w W) => rgvalid_any pv rv ps rs W (hp.below h) (hr.below h))
  have HA := Lib.hid (fun (rw' : Value) (W : World) (h : Below w.heap.size w W) (hf : Nums .i64 W rw' (onesL ps)) => rall_u pv rw' mv kv ps (onesL ps) ms ks W (hp.below h) hf (hm.below h) (hk.below h))
  obtain ⟨PA, pc, rfl, hpc, hpm, hps⟩ := hp
  obtain ⟨QA, qc, rfl, hqc, hqm, hqs⟩ := hr
  obtain ⟨MA, mc, mus, rfl, _, _, _, _⟩ := hm
  obtain ⟨KA, kc, rfl, _, _, _⟩ := hk
  obtain ⟨W0, hW0⟩ : ∃ W0 : World, W0 = w.alloc (.cells #[.slice PA ps.length pc, .slice QA rs.length qc] 37) := ⟨_, rfl⟩
  have r0 : Row W0 w.heap.size 37 [.slice PA ps.length pc, .slice QA rs.length qc] := by
    rw [hW0]
    exact Row.new w 37 [.slice PA ps.length pc, .slice QA rs.length qc]
  have B0 : Below w.heap.size w W0 := by rw [hW0]; exact (Below.refl _ _).alloc (Nat.le_refl _) _
  have c00 : W0.cell? ⟨w.heap.size, 0, none⟩ = some (.slice PA ps.length pc) := r0.cell 0
  have c01 : W0.cell? ⟨w.heap.size, 1, none⟩ = some (.slice QA rs.length qc) := r0.cell 1
  have z0 := r0.lt
  by_cases hE : gridE ps rs = 0
  · have e1 := (gridE_zero hE).1
    have e2 := (gridE_zero hE).2.1
    have HLE : Hid (likE ps rs ms ks = if postE ps (onesL ps) ms ks ≠ 0 then postE ps (onesL ps) ms ks else chkS (flatW ps ms ks)) := by unfold Hid likE; rw [if_neg (by simpa using hE)]
    have HLV : Hid (likV ps rs ms ks = if postE ps (onesL ps) ms ks ≠ 0 then 0 else modeV (flatW ps ms ks)) := by unfold Hid likV; rw [if_neg (by simpa using hE)]
    rw [hE] at HV
    obtain ⟨n, hn⟩ : ∃ n, ps.length = n := ⟨_, rfl⟩
    have HN := Lib.hid hn
    rw [hn] at HV HA e1 e2 c00 r0 hW0 ⊢
    clear hn hE
    go_enter Tryd.func28, Tryd.ntmps28
    go_wp2_with fail
    rw [← hW0]
    clear hW0
    go_wp2_with fail
    clear c00 c01 z0
    refine (HV.out _ B0).mono ?_
    rintro e w1 ⟨rfl, hb⟩
    clear HV
    replace r0 := r0.keep hb
    replace B0 : Below w.heap.size w w1 := B0.trans (hb.mono B0.size)
    clear hb
    have c00 : w1.cell? ⟨w.heap.size, 0, none⟩ = some (.slice PA n pc) := r0.cell 0
    have c01 : w1.cell? ⟨w.heap.size, 1, none⟩ = some (.slice QA rs.length qc) := r0.cell 1
    have z0 := r0.lt
    go_wp2_with fail
    clear c00 c01 z0
    have BS : Below w.heap.size w (w1.alloc (.cells #[.slice PA n pc, .slice none 0 0] 37)) := B0.trans ((lit_below w1 _).mono B0.size)
    have og : w.heap.size ≤ w1.heap.size := B0.size
    go_loopw [23] (fun iv wr => ∃ (k : Nat) (B : Option Addr) (cB : Nat), k ≤ n ∧ iv = .int .i64 (k : Int) ∧ Row wr w1.heap.size 37 [.slice PA n pc, .slice B k cB] ∧ wr.ownsRow (w1.heap.size + 1) 3 1 (.slice B k cB) k (List.replicate k (.int .i64 1)) ∧ Below w.heap.size w wr) (fun iv _ => n - (intOf iv).toNat)
    case atStart => exact ⟨0, none, 0, by omega, rfl, Row.new w1 37 [.slice PA n pc, .slice none 0 0], World.ownsRow_nil _ _ _ _, BS⟩
    case round =>
      clear BS
      obtain ⟨k, B, cB, hk, rfl, hr9, hown, BB⟩ := hrel
      have c90 : wr.cell? ⟨w1.heap.size, 0, none⟩ = some (.slice PA n pc) := hr9.cell 0
      have c91 : wr.cell? ⟨w1.heap.size, 1, none⟩ = some (.slice B k cB) := hr9.cell 1
      have q91 : wr.frozen? ⟨w1.heap.size, 1, none⟩ = false := hr9.frozen 1
      have z9 := hr9.lt
      by_cases hlt : k < n
      · have hkI : (k : Int) < (n : Int) := by omega
        go_wp2_with (at_builtin; refine wpList_append_one wr rfl (.tmp 26) (.tmp 27) 35 rfl (w1.heap.size + 1) 3 (.int .i64 0) 8 Tryd.underlying35 infoInt rfl (.slice B k cB) k _ (.int .i64 1) rfl rfl hown rfl (by unfold maxLen; omega) (by omega) z9 ?_; intro A' c' w2 hown' hb'; have r1' : w2.cell? ⟨w1.heap.size, 1, none⟩ = some (.slice B k cB) := (hr9.below hb' (by omega)).cell 1; have q1' : w2.frozen? ⟨w1.heap.size, 1, none⟩ = false := (hr9.below hb' (by omega)).frozen 1)
        go_roundw
        case rel =>
          refine ⟨k + 1, A', c', by omega, by go_num, (hr9.below hb' (by omega)).set_ 1 _, ?_, (BB.trans (hb'.mono (by omega))).setCell og _⟩
          refine own_far (p := ⟨w1.heap.size, 1, none⟩) ?_ (by simp) _
          rw [List.replicate_succ']
          exact hown'
        case measure => simp [intOf]; omega
      · obtain rfl : k = n := by omega
        have hnum : Nums .i64 wr (.slice B k cB) (onesL ps) := (by have := Nums.of_own (zs := onesL ps) (k := .i64) (by unfold onesL; rw [List.map_replicate, HN.out]; exact hown); exact this)
        go_wp2_with fail
        refine (HA.out _ _ BB hnum).mono ?_
        rintro e w4 ⟨A4, n4, c4, rfl, hcan, hb⟩
        replace BB : Below w.heap.size w w4 := BB.trans (hb.mono BB.size)
        clear hb c90 c91 q91 z9 hr9 hown hnum
        by_cases hP : postE ps (onesL ps) ms ks = 0
        · have h60 := (postE_zero hP).2.2.1
          rw [hP] at HLE HLV ⊢
          rw [if_neg (by simp)] at HLE HLV
          have hcan' : CanL w4 (.slice A4 n4 c4) (flatW ps ms ks) (2 + 2 * ms.length) := hcan
          go_wp2_with fail
          refine (rmode_any _ _ _ _ hcan'.wts (by omega)).mono ?_
          rintro e w5 ⟨rfl, hb⟩
          go_wp2_with fail
          go_ret2
          exact ⟨by rw [HLE.out, HLV.out]; rfl, BB.trans (hb.mono BB.size)⟩
        · rw [if_pos hP] at HLE HLV
          have hne2 : (postE ps (onesL ps) ms ks != 0) = true := by rw [bne_iff_ne]; exact hP
          generalize postE ps (onesL ps) ms ks = E at *
          go_wp2_with fail
          go_ret2
          exact ⟨by rw [HLE.out, HLV.out]; rfl, BB⟩
  · have HLE : Hid (likE ps rs ms ks = gridE ps rs) := by unfold Hid likE; rw [if_pos hE]
    have HLV : Hid (likV ps rs ms ks = 0) := by unfold Hid likV; rw [if_pos hE]
    rw [HLE.out, HLV.out]
    have hne : (gridE ps rs != 0) = true := by rw [bne_iff_ne]; exact hE
    generalize gridE ps rs = E at *
    clear HLE HLV HA
    go_enter Tryd.func28, Tryd.ntmps28
    go_wp2_with fail
    rw [← hW0]
    clear hW0
    go_wp2_with fail
    refine (HV.out _ B0).mono ?_
    rintro e w1 ⟨rfl, hb⟩
    go_wp2_with fail
    go_ret2
    exact ⟨rfl, B0.trans (hb.mono B0.size)⟩
end Go.Proofs.YtfoleamcaflfeaaDoor
