/- Law 27: weights; Mean and Variance; awake. -/
import Derived.Test.YtfoleamcaflfeaaGreatDoorEsCr
import Derived.Test.YtfoleamcaflfeaaGreatDoorGrM
import Derived.Test.YtfoleamcaflfeaaGreatDoorPrm
import Derived.Test.YtfoleamcaflfeaaGreatDoorPoR
namespace Go.Proofs.YtfoleamcaflfeaaGreatDoor
open Go.RowKit
set_option linter.unusedVariables false
set_option maxRecDepth 100000

set_option maxHeartbeats 4000000 in
theorem weights_any (lv : Value) (zs : List Int) (w : World) (hl : Nums .u64 w lv zs) (hz : ∀ i, i < zs.length → 0 ≤ zs.getD i 0 ∧ zs.getD i 0 < 18446744073709551616) (hn : zs.length ≤ 1000) :
    Calls Tryz.prog 22 #[lv] w fun e w' => ∃ v, e = .returned v ∧ CanL w' v (natsOf zs) 2 ∧ Below w.heap.size w w' := by
  have HZ := Lib.hid hz
  obtain ⟨B, c', rfl, hc', hm', hsr⟩ := hl
  clear hz hc' hm'
  obtain ⟨n, hnn⟩ : ∃ n, zs.length = n := ⟨_, rfl⟩
  have HN := Lib.hid hnn
  have HZ : Hid (∀ i, i < n → 0 ≤ zs.getD i 0 ∧ zs.getD i 0 < 18446744073709551616) := by rw [hnn] at HZ; exact HZ
  rw [hnn] at hsr hn ⊢
  clear hnn
  go_enter Tryz.func22, Tryz.ntmps22
  go_wp2_with fail
  go_loopw [3, 8] (fun v i wr => ∃ (k : Nat) (us : List Value) (V : Option Addr) (cv : Nat), k ≤ n ∧ i = .int .i64 (k : Int) ∧ v = .slice V k cv ∧ CollO wr us (natsOf zs) k 2 (Value.slice V k cv).ownBlock ∧ wr.ownsRow w.heap.size 24 1 (.slice V k cv) k us ∧ Below w.heap.size w wr) (fun _ i _ => n - (intOf i).toNat)
  case atStart => exact ⟨0, [], _, 0, by omega, rfl, rfl, CollO.zero _ _ _ _, ⟨rfl, .inl ⟨rfl, rfl⟩⟩, Below.refl _ _⟩
  case round =>
    obtain ⟨k, us, V, cv, hk, rfl, rfl, hco, hown, hbr⟩ := hrel
    by_cases hlt : k < n
    · obtain ⟨b2, o2, rfl, hb2, hcell⟩ := hsr.num hlt
      have g1 : wr.cell? ⟨b2, o2 + k, none⟩ = some (.int .u64 (zs.getD k 0)) := (hbr.cell (p := ⟨b2, o2 + k, none⟩) hb2).trans (hcell k hlt)
      obtain ⟨y1, y2⟩ := HZ.out k hlt
      obtain ⟨m, hmx⟩ := Int.eq_ofNat_of_zero_le y1
      have HG := Lib.hid (show (natsOf zs).getD k 0 = m by rw [natsOf_get, hmx]; rfl)
      rw [hmx] at g1 y1 y2
      clear hcell hmx
      have hltI : (k : Int) < (n : Int) := by omega
      go_wp2_with fail
      refine (of_any m _ (by omega)).mono ?_
      rintro e w2 ⟨v, rfl, hv⟩
      have hbe := hv.bel
      have hown2 := own_keep hown hbe
      have hb2 : Below w.heap.size w w2 := hbr.trans (hbe.mono hbr.size)
      have hoff : Off (Value.slice V k cv).ownBlock v := by
        rcases hx : (Value.slice V k cv).ownBlock with _ | j
        · exact Off.none_ _
        · exact Off.of_fresh hv.fresh ((hown.lt j hx).2)
      have hco2 := (hco.below hbe).snoc (by rw [HG.out]; exact hv.nat) hoff
      have hv' := hv
      obtain ⟨ls, ⟨⟨X, cx, rfl, _, _, _⟩, _⟩, _⟩ := hv'
      go_wp2_with (at_builtin; refine wpList_append_oneG w2 rfl (.tmp 12) (.tmp 15) 22 rfl w.heap.size 24 (.slice none 0 0) 24 Tryz.underlying22 infoNat rfl (.slice V k cv) k us (.slice X ls.length cx) rfl rfl hown2 rfl (by unfold maxLen; omega) (by omega) hb2.size ?_; intro A' c3 w3 hown3 hb3 hg3 hr3)
      go_roundw
      case rel => exact ⟨k + 1, us ++ [.slice X ls.length cx], A', c3, by omega, by go_num, rfl, hco2.grown hg3 hr3, hown3, hb2.trans hb3⟩
      case measure => simp [intOf]; omega
    · obtain rfl : k = n := by omega
      have hltI : ¬ (k : Int) < (k : Int) := by omega
      go_wp2_with fail
      go_ret
      refine ⟨.slice V k cv, rfl, ?_, hbr⟩
      have hl : (natsOf zs).length = k := by rw [natsOf_len, HN.out]
      rw [← hl] at hco
      exact hco.can (by rw [hl]; exact hown)
set_option maxHeartbeats 8000000 in
theorem emean_ok (pv rv wv : Value) (ps rs : List Int) (ns : List Nat) (L : Nat) (w : World) (hp : Nums .i64 w pv ps) (hr : Nums .i64 w rv rs) (hw : Wts w wv ns L) (hL : L ≤ 35184372088600) (hE : sumE ps rs ns = 0) :
    Calls Tryz.prog 23 #[.agg #[pv, rv], wv] w fun e w' => ∃ x, e = .returned (.tuple #[x, .int .i64 0]) ∧ RatF w.heap.size w' x (redP (wF1 ns ps ps.length) (wF0 ns ps.length).natAbs) (redQ (wF1 ns ps ps.length) (wF0 ns ps.length).natAbs) ((L + 3)) ∧ Below w.heap.size w w' := by
  have HM := Lib.hid (fun (W : World) (h : Below w.heap.size w W) => gmean_ok pv rv wv ps rs ns L W (hp.below h) (hr.below h) (hw.below h) hL hE)
  obtain ⟨PA, pc, rfl, hpc, hpm, hps⟩ := hp
  obtain ⟨QA, qc, rfl, hqc, hqm, hqs⟩ := hr
  obtain ⟨WA, wc, us, rfl, hwc, hwm, hws, hwu⟩ := hw
  clear hwu hws hwm hwc hqs hqm hqc hps hpm hpc hE
  obtain ⟨P, hP⟩ : ∃ x, redP (wF1 ns ps ps.length) (wF0 ns ps.length).natAbs = x := ⟨_, rfl⟩
  obtain ⟨Q, hQ⟩ : ∃ x, redQ (wF1 ns ps ps.length) (wF0 ns ps.length).natAbs = x := ⟨_, rfl⟩
  rw [hP, hQ] at HM
  have HP := Lib.hid hP
  have HQ := Lib.hid hQ
  clear hP hQ
  obtain ⟨W0, hW0⟩ : ∃ W0 : World, W0 = (w.alloc (.cells #[.slice PA ps.length pc, .slice QA rs.length qc] 48)).alloc (.cells #[.bool false, .slice none 0 0, .slice none 0 0] 28) := ⟨_, rfl⟩
  have r0 : Row W0 w.heap.size 48 [.slice PA ps.length pc, .slice QA rs.length qc] := by
    rw [hW0]
    have := Row.alloc (Row.new w 48 [.slice PA ps.length pc, .slice QA rs.length qc]) (.cells #[.bool false, .slice none 0 0, .slice none 0 0] 28)
    simpa using this
  have r1 : Row W0 (w.heap.size + 1) 28 [.bool false, .slice none 0 0, .slice none 0 0] := by
    rw [hW0]
    have := Row.new (w.alloc (.cells #[.slice PA ps.length pc, .slice QA rs.length qc] 48)) 28 [.bool false, .slice none 0 0, .slice none 0 0]
    simpa using this
  have B0 : Below w.heap.size w W0 := by rw [hW0]; exact (((Below.refl _ _).alloc (Nat.le_refl _) _).alloc (by simp) _)
  go_enter Tryz.func23, Tryz.ntmps23
  go_wp2_with fail
  rw [← hW0]
  clear hW0
  have BB := B0
  have hr0 := r0
  have hr4 := r1
  clear B0 r0 r1
  have c00 : W0.cell? ⟨w.heap.size, 0, none⟩ = some (.slice PA ps.length pc) := hr0.cell 0
  have c01 : W0.cell? ⟨w.heap.size, 1, none⟩ = some (.slice QA rs.length qc) := hr0.cell 1
  have c40 : W0.cell? ⟨w.heap.size + 1, 0, none⟩ = some (.bool false) := hr4.cell 0
  have c41 : W0.cell? ⟨w.heap.size + 1, 1, none⟩ = some (.slice none 0 0) := hr4.cell 1
  have c42 : W0.cell? ⟨w.heap.size + 1, 2, none⟩ = some (.slice none 0 0) := hr4.cell 2
  have f40 : W0.frozen? ⟨w.heap.size + 1, 0, none⟩ = false := hr4.frozen 0
  have f41 : W0.frozen? ⟨w.heap.size + 1, 1, none⟩ = false := hr4.frozen 1
  have f42 : W0.frozen? ⟨w.heap.size + 1, 2, none⟩ = false := hr4.frozen 2
  have z0 := hr0.lt
  have z4 := hr4.lt
  go_wp2_with fail
  clear c00 c01 c40 c41 c42 f40 f41 f42 z0 z4
  refine (HM.out _ BB).mono ?_
  have hz6 := hr4.lt
  rintro e x1 ⟨vq, rfl, hvq, hb⟩
  replace hr0 := hr0.keep hb
  replace hr4 := hr4.keep hb
  replace BB : Below w.heap.size w x1 := BB.trans (hb.mono BB.size)
  clear hb
  have hq' := hvq
  obtain ⟨mq, dq, eq, hmq, hdq, _, _⟩ := hq'
  subst eq
  obtain ⟨Aq, kq, cq, rfl⟩ := hmq.lim1.choose_spec.1.show_
  obtain ⟨Dq, lq, bq, rfl⟩ := hdq.lim1.choose_spec.1.show_
  clear hmq hdq
  have c00 : x1.cell? ⟨w.heap.size, 0, none⟩ = some (.slice PA ps.length pc) := hr0.cell 0
  have c01 : x1.cell? ⟨w.heap.size, 1, none⟩ = some (.slice QA rs.length qc) := hr0.cell 1
  have c40 : x1.cell? ⟨w.heap.size + 1, 0, none⟩ = some (.bool false) := hr4.cell 0
  have c41 : x1.cell? ⟨w.heap.size + 1, 1, none⟩ = some (.slice none 0 0) := hr4.cell 1
  have c42 : x1.cell? ⟨w.heap.size + 1, 2, none⟩ = some (.slice none 0 0) := hr4.cell 2
  have f40 : x1.frozen? ⟨w.heap.size + 1, 0, none⟩ = false := hr4.frozen 0
  have f41 : x1.frozen? ⟨w.heap.size + 1, 1, none⟩ = false := hr4.frozen 1
  have f42 : x1.frozen? ⟨w.heap.size + 1, 2, none⟩ = false := hr4.frozen 2
  have z0 := hr0.lt
  have z4 := hr4.lt
  go_wp2_with fail
  refine bodyPost_ret (v := .tuple #[.agg #[.bool (decide (P < 0)), .slice Aq kq cq, .slice Dq lq bq], .int .i64 0]) (by simp [results, Tryz.results23, go_sem, c40, c41, c42]) rfl ⟨_, rfl, ?_, ((BB.setCell (by simp) _).setCell (by simp) _).setCell (by simp) _⟩
  rw [HP.out, HQ.out]
  exact ((((hvq.set_ (a := ⟨w.heap.size + 1, 0, none⟩) hz6 _).set_ (a := ⟨w.heap.size + 1, 1, none⟩) hz6 _).set_ (a := ⟨w.heap.size + 1, 2, none⟩) hz6 _).base (by omega))
set_option maxHeartbeats 8000000 in
theorem evar_ok (pv rv wv : Value) (ps rs : List Int) (ns : List Nat) (L : Nat) (w : World) (hp : Nums .i64 w pv ps) (hr : Nums .i64 w rv rs) (hw : Wts w wv ns L) (hL : L ≤ 35184372088600) (hE : sumE ps rs ns = 0) :
    Calls Tryz.prog 24 #[.agg #[pv, rv], wv] w fun e w' => ∃ x, e = .returned (.tuple #[x, .int .i64 0]) ∧ RatF w.heap.size w' x (redP (wF0 ns ps.length * wF2 ns ps ps.length - wF1 ns ps ps.length * wF1 ns ps ps.length) (wF0 ns ps.length * wF0 ns ps.length).natAbs) (redQ (wF0 ns ps.length * wF2 ns ps ps.length - wF1 ns ps ps.length * wF1 ns ps ps.length) (wF0 ns ps.length * wF0 ns ps.length).natAbs) ((L + 1 + (L + 5) + 1)) ∧ Below w.heap.size w w' := by
  have HM := Lib.hid (fun (W : World) (h : Below w.heap.size w W) => gvar_ok pv rv wv ps rs ns L W (hp.below h) (hr.below h) (hw.below h) hL hE)
  obtain ⟨PA, pc, rfl, hpc, hpm, hps⟩ := hp
  obtain ⟨QA, qc, rfl, hqc, hqm, hqs⟩ := hr
  obtain ⟨WA, wc, us, rfl, hwc, hwm, hws, hwu⟩ := hw
  clear hwu hws hwm hwc hqs hqm hqc hps hpm hpc hE
  obtain ⟨P, hP⟩ : ∃ x, redP (wF0 ns ps.length * wF2 ns ps ps.length - wF1 ns ps ps.length * wF1 ns ps ps.length) (wF0 ns ps.length * wF0 ns ps.length).natAbs = x := ⟨_, rfl⟩
  obtain ⟨Q, hQ⟩ : ∃ x, redQ (wF0 ns ps.length * wF2 ns ps ps.length - wF1 ns ps ps.length * wF1 ns ps ps.length) (wF0 ns ps.length * wF0 ns ps.length).natAbs = x := ⟨_, rfl⟩
  rw [hP, hQ] at HM
  have HP := Lib.hid hP
  have HQ := Lib.hid hQ
  clear hP hQ
  obtain ⟨W0, hW0⟩ : ∃ W0 : World, W0 = (w.alloc (.cells #[.slice PA ps.length pc, .slice QA rs.length qc] 48)).alloc (.cells #[.bool false, .slice none 0 0, .slice none 0 0] 28) := ⟨_, rfl⟩
  have r0 : Row W0 w.heap.size 48 [.slice PA ps.length pc, .slice QA rs.length qc] := by
    rw [hW0]
    have := Row.alloc (Row.new w 48 [.slice PA ps.length pc, .slice QA rs.length qc]) (.cells #[.bool false, .slice none 0 0, .slice none 0 0] 28)
    simpa using this
  have r1 : Row W0 (w.heap.size + 1) 28 [.bool false, .slice none 0 0, .slice none 0 0] := by
    rw [hW0]
    have := Row.new (w.alloc (.cells #[.slice PA ps.length pc, .slice QA rs.length qc] 48)) 28 [.bool false, .slice none 0 0, .slice none 0 0]
    simpa using this
  have B0 : Below w.heap.size w W0 := by rw [hW0]; exact (((Below.refl _ _).alloc (Nat.le_refl _) _).alloc (by simp) _)
  go_enter Tryz.func24, Tryz.ntmps24
  go_wp2_with fail
  rw [← hW0]
  clear hW0
  have BB := B0
  have hr0 := r0
  have hr4 := r1
  clear B0 r0 r1
  have c00 : W0.cell? ⟨w.heap.size, 0, none⟩ = some (.slice PA ps.length pc) := hr0.cell 0
  have c01 : W0.cell? ⟨w.heap.size, 1, none⟩ = some (.slice QA rs.length qc) := hr0.cell 1
  have c40 : W0.cell? ⟨w.heap.size + 1, 0, none⟩ = some (.bool false) := hr4.cell 0
  have c41 : W0.cell? ⟨w.heap.size + 1, 1, none⟩ = some (.slice none 0 0) := hr4.cell 1
  have c42 : W0.cell? ⟨w.heap.size + 1, 2, none⟩ = some (.slice none 0 0) := hr4.cell 2
  have f40 : W0.frozen? ⟨w.heap.size + 1, 0, none⟩ = false := hr4.frozen 0
  have f41 : W0.frozen? ⟨w.heap.size + 1, 1, none⟩ = false := hr4.frozen 1
  have f42 : W0.frozen? ⟨w.heap.size + 1, 2, none⟩ = false := hr4.frozen 2
  have z0 := hr0.lt
  have z4 := hr4.lt
  go_wp2_with fail
  clear c00 c01 c40 c41 c42 f40 f41 f42 z0 z4
  refine (HM.out _ BB).mono ?_
  have hz6 := hr4.lt
  rintro e x1 ⟨vq, rfl, hvq, hb⟩
  replace hr0 := hr0.keep hb
  replace hr4 := hr4.keep hb
  replace BB : Below w.heap.size w x1 := BB.trans (hb.mono BB.size)
  clear hb
  have hq' := hvq
  obtain ⟨mq, dq, eq, hmq, hdq, _, _⟩ := hq'
  subst eq
  obtain ⟨Aq, kq, cq, rfl⟩ := hmq.lim1.choose_spec.1.show_
  obtain ⟨Dq, lq, bq, rfl⟩ := hdq.lim1.choose_spec.1.show_
  clear hmq hdq
  have c00 : x1.cell? ⟨w.heap.size, 0, none⟩ = some (.slice PA ps.length pc) := hr0.cell 0
  have c01 : x1.cell? ⟨w.heap.size, 1, none⟩ = some (.slice QA rs.length qc) := hr0.cell 1
  have c40 : x1.cell? ⟨w.heap.size + 1, 0, none⟩ = some (.bool false) := hr4.cell 0
  have c41 : x1.cell? ⟨w.heap.size + 1, 1, none⟩ = some (.slice none 0 0) := hr4.cell 1
  have c42 : x1.cell? ⟨w.heap.size + 1, 2, none⟩ = some (.slice none 0 0) := hr4.cell 2
  have f40 : x1.frozen? ⟨w.heap.size + 1, 0, none⟩ = false := hr4.frozen 0
  have f41 : x1.frozen? ⟨w.heap.size + 1, 1, none⟩ = false := hr4.frozen 1
  have f42 : x1.frozen? ⟨w.heap.size + 1, 2, none⟩ = false := hr4.frozen 2
  have z0 := hr0.lt
  have z4 := hr4.lt
  go_wp2_with fail
  refine bodyPost_ret (v := .tuple #[.agg #[.bool (decide (P < 0)), .slice Aq kq cq, .slice Dq lq bq], .int .i64 0]) (by simp [results, Tryz.results24, go_sem, c40, c41, c42]) rfl ⟨_, rfl, ?_, ((BB.setCell (by simp) _).setCell (by simp) _).setCell (by simp) _⟩
  rw [HP.out, HQ.out]
  exact ((((hvq.set_ (a := ⟨w.heap.size + 1, 0, none⟩) hz6 _).set_ (a := ⟨w.heap.size + 1, 1, none⟩) hz6 _).set_ (a := ⟨w.heap.size + 1, 2, none⟩) hz6 _).base (by omega))
set_option maxHeartbeats 32000000 in
theorem awake_any (w : World) (htab : Pow10 w) :
    Calls Tryz.prog 8 #[] w fun e w' => e = .returned (.bool true) ∧ Below w.heap.size w w' := by
  go_enter Tryz.func8, Tryz.ntmps8
  have BB : Below w.heap.size w w := Below.refl _ _
  obtain ⟨ga, hga⟩ : ∃ g, w.heap.size = g := ⟨_, rfl⟩
  have hra : Row (w.alloc (.cells #[.int .u64 1, .int .u64 2, .int .u64 1] 45)) (ga) 45 [.int .u64 1, .int .u64 2, .int .u64 1] := row_at (w := w) (g := ga) (by simp [hga])
  have hl : Below w.heap.size w (w.alloc (.cells #[.int .u64 1, .int .u64 2, .int .u64 1] 45)) := lit_below w _
  have ob_a : w.heap.size ≤ ga := by have := BB.size; omega
  have e0_0 : (w.alloc (.cells #[.int .u64 1, .int .u64 2, .int .u64 1] 45)).cell? ⟨ga, 0, none⟩ = some (.int .u64 1) := hra.cell 0
  have e0_1 : (w.alloc (.cells #[.int .u64 1, .int .u64 2, .int .u64 1] 45)).cell? ⟨ga, 1, none⟩ = some (.int .u64 2) := hra.cell 1
  have e0_2 : (w.alloc (.cells #[.int .u64 1, .int .u64 2, .int .u64 1] 45)).cell? ⟨ga, 2, none⟩ = some (.int .u64 1) := hra.cell 2
  go_wp2_with fail
  clear e0_0 e0_1 e0_2
  clear hga
  generalize (w.alloc (.cells #[.int .u64 1, .int .u64 2, .int .u64 1] 45)) = x1 at *
  replace htab := htab.below hl
  replace BB : Below w.heap.size w x1 := BB.trans (hl.mono BB.size)
  clear hl
  have hq : Nums .u64 x1 (.slice (some ⟨ga, 0, none⟩) 3 3) [1, 2, 1] := Nums.of_row (zs := [1, 2, 1]) hra (by unfold maxLen; simp)
  refine (weights_any _ [1, 2, 1] _ hq (by decide) (by decide)).mono ?_
  rintro e x2 ⟨v1, rfl, hv1, hb⟩
  replace htab := htab.below hb
  replace hra := hra.keep hb
  replace BB : Below w.heap.size w x2 := BB.trans (hb.mono BB.size)
  clear hb
  clear hq
  rw [show natsOf [1, 2, 1] = [1, 2, 1] by decide +kernel] at hv1
  obtain ⟨V1, vc1, vus1, rfl, _⟩ := id hv1
  clear hra
  obtain ⟨gp, hgp⟩ : ∃ g, x2.heap.size = g := ⟨_, rfl⟩
  have hrp : Row (((x2.alloc (.cells #[.int .i64 (-100), .int .i64 0, .int .i64 100] 3)).alloc (.cells #[.int .i64 3, .int .i64 2, .int .i64 1] 3)).alloc (.cells #[.slice (some ⟨gp, 0, none⟩) 3 3, .slice (some ⟨gp + 1, 0, none⟩) 3 3] 48)) (gp) 3 [.int .i64 (-100), .int .i64 0, .int .i64 100] := Row.alloc (Row.alloc (row_at (w := x2) (g := gp) (by simp [hgp])) (.cells #[.int .i64 3, .int .i64 2, .int .i64 1] 3)) (.cells #[.slice (some ⟨gp, 0, none⟩) 3 3, .slice (some ⟨gp + 1, 0, none⟩) 3 3] 48)
  have hrr : Row (((x2.alloc (.cells #[.int .i64 (-100), .int .i64 0, .int .i64 100] 3)).alloc (.cells #[.int .i64 3, .int .i64 2, .int .i64 1] 3)).alloc (.cells #[.slice (some ⟨gp, 0, none⟩) 3 3, .slice (some ⟨gp + 1, 0, none⟩) 3 3] 48)) (gp + 1) 3 [.int .i64 3, .int .i64 2, .int .i64 1] := Row.alloc (row_at (w := (x2.alloc (.cells #[.int .i64 (-100), .int .i64 0, .int .i64 100] 3))) (g := gp + 1) (by simp [hgp])) (.cells #[.slice (some ⟨gp, 0, none⟩) 3 3, .slice (some ⟨gp + 1, 0, none⟩) 3 3] 48)
  have hrg : Row (((x2.alloc (.cells #[.int .i64 (-100), .int .i64 0, .int .i64 100] 3)).alloc (.cells #[.int .i64 3, .int .i64 2, .int .i64 1] 3)).alloc (.cells #[.slice (some ⟨gp, 0, none⟩) 3 3, .slice (some ⟨gp + 1, 0, none⟩) 3 3] 48)) (gp + 1 + 1) 48 [.slice (some ⟨gp, 0, none⟩) 3 3, .slice (some ⟨gp + 1, 0, none⟩) 3 3] := row_at (w := ((x2.alloc (.cells #[.int .i64 (-100), .int .i64 0, .int .i64 100] 3)).alloc (.cells #[.int .i64 3, .int .i64 2, .int .i64 1] 3))) (g := gp + 1 + 1) (by simp [hgp])
  have hl : Below x2.heap.size x2 (((x2.alloc (.cells #[.int .i64 (-100), .int .i64 0, .int .i64 100] 3)).alloc (.cells #[.int .i64 3, .int .i64 2, .int .i64 1] 3)).alloc (.cells #[.slice (some ⟨gp, 0, none⟩) 3 3, .slice (some ⟨gp + 1, 0, none⟩) 3 3] 48)) := lit_more (lit_more (lit_below x2 _) _) _
  have ob_p : w.heap.size ≤ gp := by have := BB.size; omega
  have e0_0 : (((x2.alloc (.cells #[.int .i64 (-100), .int .i64 0, .int .i64 100] 3)).alloc (.cells #[.int .i64 3, .int .i64 2, .int .i64 1] 3)).alloc (.cells #[.slice (some ⟨gp, 0, none⟩) 3 3, .slice (some ⟨gp + 1, 0, none⟩) 3 3] 48)).cell? ⟨gp, 0, none⟩ = some (.int .i64 (-100)) := hrp.cell 0
  have e0_1 : (((x2.alloc (.cells #[.int .i64 (-100), .int .i64 0, .int .i64 100] 3)).alloc (.cells #[.int .i64 3, .int .i64 2, .int .i64 1] 3)).alloc (.cells #[.slice (some ⟨gp, 0, none⟩) 3 3, .slice (some ⟨gp + 1, 0, none⟩) 3 3] 48)).cell? ⟨gp, 1, none⟩ = some (.int .i64 0) := hrp.cell 1
  have e0_2 : (((x2.alloc (.cells #[.int .i64 (-100), .int .i64 0, .int .i64 100] 3)).alloc (.cells #[.int .i64 3, .int .i64 2, .int .i64 1] 3)).alloc (.cells #[.slice (some ⟨gp, 0, none⟩) 3 3, .slice (some ⟨gp + 1, 0, none⟩) 3 3] 48)).cell? ⟨gp, 2, none⟩ = some (.int .i64 100) := hrp.cell 2
  have e1_0 : (((x2.alloc (.cells #[.int .i64 (-100), .int .i64 0, .int .i64 100] 3)).alloc (.cells #[.int .i64 3, .int .i64 2, .int .i64 1] 3)).alloc (.cells #[.slice (some ⟨gp, 0, none⟩) 3 3, .slice (some ⟨gp + 1, 0, none⟩) 3 3] 48)).cell? ⟨gp + 1, 0, none⟩ = some (.int .i64 3) := hrr.cell 0
  have e1_1 : (((x2.alloc (.cells #[.int .i64 (-100), .int .i64 0, .int .i64 100] 3)).alloc (.cells #[.int .i64 3, .int .i64 2, .int .i64 1] 3)).alloc (.cells #[.slice (some ⟨gp, 0, none⟩) 3 3, .slice (some ⟨gp + 1, 0, none⟩) 3 3] 48)).cell? ⟨gp + 1, 1, none⟩ = some (.int .i64 2) := hrr.cell 1
  have e1_2 : (((x2.alloc (.cells #[.int .i64 (-100), .int .i64 0, .int .i64 100] 3)).alloc (.cells #[.int .i64 3, .int .i64 2, .int .i64 1] 3)).alloc (.cells #[.slice (some ⟨gp, 0, none⟩) 3 3, .slice (some ⟨gp + 1, 0, none⟩) 3 3] 48)).cell? ⟨gp + 1, 2, none⟩ = some (.int .i64 1) := hrr.cell 2
  have e2_0 : (((x2.alloc (.cells #[.int .i64 (-100), .int .i64 0, .int .i64 100] 3)).alloc (.cells #[.int .i64 3, .int .i64 2, .int .i64 1] 3)).alloc (.cells #[.slice (some ⟨gp, 0, none⟩) 3 3, .slice (some ⟨gp + 1, 0, none⟩) 3 3] 48)).cell? ⟨gp + 1 + 1, 0, none⟩ = some (.slice (some ⟨gp, 0, none⟩) 3 3) := hrg.cell 0
  have e2_1 : (((x2.alloc (.cells #[.int .i64 (-100), .int .i64 0, .int .i64 100] 3)).alloc (.cells #[.int .i64 3, .int .i64 2, .int .i64 1] 3)).alloc (.cells #[.slice (some ⟨gp, 0, none⟩) 3 3, .slice (some ⟨gp + 1, 0, none⟩) 3 3] 48)).cell? ⟨gp + 1 + 1, 1, none⟩ = some (.slice (some ⟨gp + 1, 0, none⟩) 3 3) := hrg.cell 1
  go_wp2_with fail
  clear e0_0 e0_1 e0_2 e1_0 e1_1 e1_2 e2_0 e2_1
  clear hgp
  generalize (((x2.alloc (.cells #[.int .i64 (-100), .int .i64 0, .int .i64 100] 3)).alloc (.cells #[.int .i64 3, .int .i64 2, .int .i64 1] 3)).alloc (.cells #[.slice (some ⟨gp, 0, none⟩) 3 3, .slice (some ⟨gp + 1, 0, none⟩) 3 3] 48)) = x3 at *
  replace htab := htab.below hl
  replace hv1 := hv1.below hl
  replace BB : Below w.heap.size w x3 := BB.trans (hl.mono BB.size)
  clear hl
  have hp : Nums .i64 x3 (.slice (some ⟨gp, 0, none⟩) 3 3) [-100, 0, 100] := Nums.of_row (zs := [-100, 0, 100]) hrp (by unfold maxLen; simp)
  have hpr : Nums .i64 x3 (.slice (some ⟨gp + 1, 0, none⟩) 3 3) [3, 2, 1] := Nums.of_row (zs := [3, 2, 1]) hrr (by unfold maxLen; simp)
  clear hrp hrr
  refine (emean_ok _ _ _ [-100, 0, 100] [3, 2, 1] [1, 2, 1] 2 _ hp hpr hv1.wts (by decide) (by decide +kernel)).mono ?_
  rintro e x4 ⟨vm, rfl, hvm, hb⟩
  replace htab := htab.below hb
  replace hv1 := hv1.below hb
  replace hrg := hrg.keep hb
  replace hp := hp.below hb
  replace hpr := hpr.below hb
  replace BB : Below w.heap.size w x4 := BB.trans (hb.mono BB.size)
  clear hb
  rw [show redP (wF1 [1, 2, 1] [-100, 0, 100] ([-100, 0, 100] : List Int).length) (wF0 [1, 2, 1] ([-100, 0, 100] : List Int).length).natAbs = 0 by decide +kernel, show redQ (wF1 [1, 2, 1] [-100, 0, 100] ([-100, 0, 100] : List Int).length) (wF0 [1, 2, 1] ([-100, 0, 100] : List Int).length).natAbs = 1 by decide +kernel] at hvm
  have hm' := hvm
  obtain ⟨mm, dm, em, hmm, hdm, _, _⟩ := hm'
  subst em
  obtain ⟨Am, km, cm, rfl⟩ := hmm.lim1.choose_spec.1.show_
  obtain ⟨Dm, lm, bm, rfl⟩ := hdm.lim1.choose_spec.1.show_
  clear hmm hdm
  simp only [show decide ((0 : Int) < 0) = false from rfl] at hvm ⊢
  obtain ⟨gm, hgm⟩ : ∃ g, x4.heap.size = g := ⟨_, rfl⟩
  have hrm : Row (x4.alloc (.cells #[.bool false, .slice Am km cm, .slice Dm lm bm] 28)) gm 28 [.bool false, .slice Am km cm, .slice Dm lm bm] := row_at hgm
  have hl := lit_below x4 (.cells #[.bool false, .slice Am km cm, .slice Dm lm bm] 28)
  have og_m : gp + 1 + 1 < gm := by have := hrg.lt; omega
  have ob_m : w.heap.size ≤ gm := by have := BB.size; omega
  have cg0 : x4.cell? ⟨gp + 1 + 1, 0, none⟩ = some (.slice (some ⟨gp, 0, none⟩) 3 3) := hrg.cell 0
  have cg1 : x4.cell? ⟨gp + 1 + 1, 1, none⟩ = some (.slice (some ⟨gp + 1, 0, none⟩) 3 3) := hrg.cell 1
  have dg0 : (x4.alloc (.cells #[.bool false, .slice Am km cm, .slice Dm lm bm] 28)).cell? ⟨gp + 1 + 1, 0, none⟩ = some (.slice (some ⟨gp, 0, none⟩) 3 3) := (hrg.alloc _).cell 0
  have dg1 : (x4.alloc (.cells #[.bool false, .slice Am km cm, .slice Dm lm bm] 28)).cell? ⟨gp + 1 + 1, 1, none⟩ = some (.slice (some ⟨gp + 1, 0, none⟩) 3 3) := (hrg.alloc _).cell 1
  have e0 : (x4.alloc (.cells #[.bool false, .slice Am km cm, .slice Dm lm bm] 28)).cell? ⟨gm, 0, none⟩ = some (.bool false) := hrm.cell 0
  have e1 : (x4.alloc (.cells #[.bool false, .slice Am km cm, .slice Dm lm bm] 28)).cell? ⟨gm, 1, none⟩ = some (.slice Am km cm) := hrm.cell 1
  have e2 : (x4.alloc (.cells #[.bool false, .slice Am km cm, .slice Dm lm bm] 28)).cell? ⟨gm, 2, none⟩ = some (.slice Dm lm bm) := hrm.cell 2
  go_wp2_with fail
  clear cg0 cg1 dg0 dg1 e0 e1 e2
  clear hgm
  generalize (x4.alloc (.cells #[.bool false, .slice Am km cm, .slice Dm lm bm] 28)) = x5 at *
  replace htab := htab.below hl
  replace hv1 := hv1.below hl
  replace hrg := hrg.keep hl
  replace hp := hp.below hl
  replace hpr := hpr.below hl
  replace hvm := hvm.below hl
  replace BB : Below w.heap.size w x5 := BB.trans (hl.mono BB.size)
  clear hl
  refine (evar_ok _ _ _ [-100, 0, 100] [3, 2, 1] [1, 2, 1] 2 _ hp hpr hv1.wts (by decide) (by decide +kernel)).mono ?_
  rintro e x6 ⟨vv, rfl, hvv, hb⟩
  replace htab := htab.below hb
  replace hv1 := hv1.below hb
  replace hrg := hrg.keep hb
  replace hp := hp.below hb
  replace hpr := hpr.below hb
  replace hvm := hvm.below hb
  replace hrm := hrm.keep hb
  replace BB : Below w.heap.size w x6 := BB.trans (hb.mono BB.size)
  clear hb
  rw [show redP (wF0 [1, 2, 1] ([-100, 0, 100] : List Int).length * (wF2 [1, 2, 1] [-100, 0, 100] ([-100, 0, 100] : List Int).length) - wF1 [1, 2, 1] [-100, 0, 100] ([-100, 0, 100] : List Int).length * (wF1 [1, 2, 1] [-100, 0, 100] ([-100, 0, 100] : List Int).length)) (wF0 [1, 2, 1] ([-100, 0, 100] : List Int).length * (wF0 [1, 2, 1] ([-100, 0, 100] : List Int).length)).natAbs = 5000 by decide +kernel, show redQ (wF0 [1, 2, 1] ([-100, 0, 100] : List Int).length * (wF2 [1, 2, 1] [-100, 0, 100] ([-100, 0, 100] : List Int).length) - wF1 [1, 2, 1] [-100, 0, 100] ([-100, 0, 100] : List Int).length * (wF1 [1, 2, 1] [-100, 0, 100] ([-100, 0, 100] : List Int).length)) (wF0 [1, 2, 1] ([-100, 0, 100] : List Int).length * (wF0 [1, 2, 1] ([-100, 0, 100] : List Int).length)).natAbs = 1 by decide +kernel] at hvv
  have hv' := hvv
  obtain ⟨mv, dv, ev, hmv, hdv, _, _⟩ := hv'
  subst ev
  obtain ⟨Av, kv, cv, rfl⟩ := hmv.lim1.choose_spec.1.show_
  obtain ⟨Dv, lv, bv, rfl⟩ := hdv.lim1.choose_spec.1.show_
  clear hmv hdv
  simp only [show decide ((5000 : Int) < 0) = false from rfl] at hvv ⊢
  obtain ⟨gv, hgv⟩ : ∃ g, x6.heap.size = g := ⟨_, rfl⟩
  have hrv : Row ((x6.alloc (.cells #[.bool false, .slice Av kv cv, .slice Dv lv bv] 28)).alloc (.cells #[.int .u64 1, .int .u64 2, .int .u64 2] 45)) (gv) 28 [.bool false, .slice Av kv cv, .slice Dv lv bv] := Row.alloc (row_at (w := x6) (g := gv) (by simp [hgv])) (.cells #[.int .u64 1, .int .u64 2, .int .u64 2] 45)
  have hrb : Row ((x6.alloc (.cells #[.bool false, .slice Av kv cv, .slice Dv lv bv] 28)).alloc (.cells #[.int .u64 1, .int .u64 2, .int .u64 2] 45)) (gv + 1) 45 [.int .u64 1, .int .u64 2, .int .u64 2] := row_at (w := (x6.alloc (.cells #[.bool false, .slice Av kv cv, .slice Dv lv bv] 28))) (g := gv + 1) (by simp [hgv])
  have hl : Below x6.heap.size x6 ((x6.alloc (.cells #[.bool false, .slice Av kv cv, .slice Dv lv bv] 28)).alloc (.cells #[.int .u64 1, .int .u64 2, .int .u64 2] 45)) := lit_more (lit_below x6 _) _
  have og_v : gp + 1 + 1 < gv := by have := hrg.lt; omega
  have om_v : gm < gv := by have := hrm.lt; omega
  have ob_v : w.heap.size ≤ gv := by have := BB.size; omega
  have cg0 : x6.cell? ⟨gp + 1 + 1, 0, none⟩ = some (.slice (some ⟨gp, 0, none⟩) 3 3) := hrg.cell 0
  have cg1 : x6.cell? ⟨gp + 1 + 1, 1, none⟩ = some (.slice (some ⟨gp + 1, 0, none⟩) 3 3) := hrg.cell 1
  have cm0 : x6.cell? ⟨gm, 0, none⟩ = some (.bool false) := hrm.cell 0
  have cm1 : x6.cell? ⟨gm, 1, none⟩ = some (.slice Am km cm) := hrm.cell 1
  have cm2 : x6.cell? ⟨gm, 2, none⟩ = some (.slice Dm lm bm) := hrm.cell 2
  have d1_g0 : (x6.alloc (.cells #[.bool false, .slice Av kv cv, .slice Dv lv bv] 28)).cell? ⟨gp + 1 + 1, 0, none⟩ = some (.slice (some ⟨gp, 0, none⟩) 3 3) := (hrg.alloc _).cell 0
  have d1_g1 : (x6.alloc (.cells #[.bool false, .slice Av kv cv, .slice Dv lv bv] 28)).cell? ⟨gp + 1 + 1, 1, none⟩ = some (.slice (some ⟨gp + 1, 0, none⟩) 3 3) := (hrg.alloc _).cell 1
  have d1_m0 : (x6.alloc (.cells #[.bool false, .slice Av kv cv, .slice Dv lv bv] 28)).cell? ⟨gm, 0, none⟩ = some (.bool false) := (hrm.alloc _).cell 0
  have d1_m1 : (x6.alloc (.cells #[.bool false, .slice Av kv cv, .slice Dv lv bv] 28)).cell? ⟨gm, 1, none⟩ = some (.slice Am km cm) := (hrm.alloc _).cell 1
  have d1_m2 : (x6.alloc (.cells #[.bool false, .slice Av kv cv, .slice Dv lv bv] 28)).cell? ⟨gm, 2, none⟩ = some (.slice Dm lm bm) := (hrm.alloc _).cell 2
  have d2_g0 : ((x6.alloc (.cells #[.bool false, .slice Av kv cv, .slice Dv lv bv] 28)).alloc (.cells #[.int .u64 1, .int .u64 2, .int .u64 2] 45)).cell? ⟨gp + 1 + 1, 0, none⟩ = some (.slice (some ⟨gp, 0, none⟩) 3 3) := ((hrg.alloc _).alloc _).cell 0
  have d2_g1 : ((x6.alloc (.cells #[.bool false, .slice Av kv cv, .slice Dv lv bv] 28)).alloc (.cells #[.int .u64 1, .int .u64 2, .int .u64 2] 45)).cell? ⟨gp + 1 + 1, 1, none⟩ = some (.slice (some ⟨gp + 1, 0, none⟩) 3 3) := ((hrg.alloc _).alloc _).cell 1
  have d2_m0 : ((x6.alloc (.cells #[.bool false, .slice Av kv cv, .slice Dv lv bv] 28)).alloc (.cells #[.int .u64 1, .int .u64 2, .int .u64 2] 45)).cell? ⟨gm, 0, none⟩ = some (.bool false) := ((hrm.alloc _).alloc _).cell 0
  have d2_m1 : ((x6.alloc (.cells #[.bool false, .slice Av kv cv, .slice Dv lv bv] 28)).alloc (.cells #[.int .u64 1, .int .u64 2, .int .u64 2] 45)).cell? ⟨gm, 1, none⟩ = some (.slice Am km cm) := ((hrm.alloc _).alloc _).cell 1
  have d2_m2 : ((x6.alloc (.cells #[.bool false, .slice Av kv cv, .slice Dv lv bv] 28)).alloc (.cells #[.int .u64 1, .int .u64 2, .int .u64 2] 45)).cell? ⟨gm, 2, none⟩ = some (.slice Dm lm bm) := ((hrm.alloc _).alloc _).cell 2
  have e0_0 : ((x6.alloc (.cells #[.bool false, .slice Av kv cv, .slice Dv lv bv] 28)).alloc (.cells #[.int .u64 1, .int .u64 2, .int .u64 2] 45)).cell? ⟨gv, 0, none⟩ = some (.bool false) := hrv.cell 0
  have e0_1 : ((x6.alloc (.cells #[.bool false, .slice Av kv cv, .slice Dv lv bv] 28)).alloc (.cells #[.int .u64 1, .int .u64 2, .int .u64 2] 45)).cell? ⟨gv, 1, none⟩ = some (.slice Av kv cv) := hrv.cell 1
  have e0_2 : ((x6.alloc (.cells #[.bool false, .slice Av kv cv, .slice Dv lv bv] 28)).alloc (.cells #[.int .u64 1, .int .u64 2, .int .u64 2] 45)).cell? ⟨gv, 2, none⟩ = some (.slice Dv lv bv) := hrv.cell 2
  have e1_0 : ((x6.alloc (.cells #[.bool false, .slice Av kv cv, .slice Dv lv bv] 28)).alloc (.cells #[.int .u64 1, .int .u64 2, .int .u64 2] 45)).cell? ⟨gv + 1, 0, none⟩ = some (.int .u64 1) := hrb.cell 0
  have e1_1 : ((x6.alloc (.cells #[.bool false, .slice Av kv cv, .slice Dv lv bv] 28)).alloc (.cells #[.int .u64 1, .int .u64 2, .int .u64 2] 45)).cell? ⟨gv + 1, 1, none⟩ = some (.int .u64 2) := hrb.cell 1
  have e1_2 : ((x6.alloc (.cells #[.bool false, .slice Av kv cv, .slice Dv lv bv] 28)).alloc (.cells #[.int .u64 1, .int .u64 2, .int .u64 2] 45)).cell? ⟨gv + 1, 2, none⟩ = some (.int .u64 2) := hrb.cell 2
  go_wp2_with fail
  clear cg0 cg1 cm0 cm1 cm2 e0_0 e0_1 e0_2 e1_0 e1_1 e1_2 d1_g0 d1_g1 d1_m0 d1_m1 d1_m2 d2_g0 d2_g1 d2_m0 d2_m1 d2_m2
  clear hgv
  generalize ((x6.alloc (.cells #[.bool false, .slice Av kv cv, .slice Dv lv bv] 28)).alloc (.cells #[.int .u64 1, .int .u64 2, .int .u64 2] 45)) = x7 at *
  replace htab := htab.below hl
  replace hv1 := hv1.below hl
  replace hrg := hrg.keep hl
  replace hp := hp.below hl
  replace hpr := hpr.below hl
  replace hvm := hvm.below hl
  replace hrm := hrm.keep hl
  replace hvv := hvv.below hl
  replace BB : Below w.heap.size w x7 := BB.trans (hl.mono BB.size)
  clear hl
  have hq : Nums .u64 x7 (.slice (some ⟨gv + 1, 0, none⟩) 3 3) [1, 2, 2] := Nums.of_row (zs := [1, 2, 2]) hrb (by unfold maxLen; simp)
  refine (weights_any _ [1, 2, 2] _ hq (by decide) (by decide)).mono ?_
  rintro e x8 ⟨v2, rfl, hv2, hb⟩
  replace htab := htab.below hb
  replace hv1 := hv1.below hb
  replace hrg := hrg.keep hb
  replace hp := hp.below hb
  replace hpr := hpr.below hb
  replace hvm := hvm.below hb
  replace hrm := hrm.keep hb
  replace hvv := hvv.below hb
  replace hrv := hrv.keep hb
  replace hrb := hrb.keep hb
  replace BB : Below w.heap.size w x8 := BB.trans (hb.mono BB.size)
  clear hb
  clear hq
  rw [show natsOf [1, 2, 2] = [1, 2, 2] by decide +kernel] at hv2
  obtain ⟨V2, vc2, vus2, rfl, _⟩ := id hv2
  clear hrb
  clear hrg hp hpr
  have cm0 : x8.cell? ⟨gm, 0, none⟩ = some (.bool false) := hrm.cell 0
  have cm1 : x8.cell? ⟨gm, 1, none⟩ = some (.slice Am km cm) := hrm.cell 1
  have cm2 : x8.cell? ⟨gm, 2, none⟩ = some (.slice Dm lm bm) := hrm.cell 2
  have cv0 : x8.cell? ⟨gv, 0, none⟩ = some (.bool false) := hrv.cell 0
  have cv1 : x8.cell? ⟨gv, 1, none⟩ = some (.slice Av kv cv) := hrv.cell 1
  have cv2 : x8.cell? ⟨gv, 2, none⟩ = some (.slice Dv lv bv) := hrv.cell 2
  have zm := hrm.lt
  have zv := hrv.lt
  go_wp2_with fail
  clear cm0 cm1 cm2 cv0 cv1 cv2 zm zv
  refine (emode_any _ [1, 2, 2] 2 _ hv2.wts (by decide)).mono ?_
  rintro e x9 ⟨rfl, hb⟩
  replace htab := htab.below hb
  replace hv1 := hv1.below hb
  replace hvm := hvm.below hb
  replace hrm := hrm.keep hb
  replace hvv := hvv.below hb
  replace hrv := hrv.keep hb
  replace hv2 := hv2.below hb
  replace BB : Below w.heap.size w x9 := BB.trans (hb.mono BB.size)
  clear hb
  rw [show modeV [1, 2, 2] = 1 by decide +kernel, show chkS [1, 2, 2] = 0 by decide +kernel]
  clear hv2
  have cm0 : x9.cell? ⟨gm, 0, none⟩ = some (.bool false) := hrm.cell 0
  have cm1 : x9.cell? ⟨gm, 1, none⟩ = some (.slice Am km cm) := hrm.cell 1
  have cm2 : x9.cell? ⟨gm, 2, none⟩ = some (.slice Dm lm bm) := hrm.cell 2
  have cv0 : x9.cell? ⟨gv, 0, none⟩ = some (.bool false) := hrv.cell 0
  have cv1 : x9.cell? ⟨gv, 1, none⟩ = some (.slice Av kv cv) := hrv.cell 1
  have cv2 : x9.cell? ⟨gv, 2, none⟩ = some (.slice Dv lv bv) := hrv.cell 2
  have zm := hrm.lt
  have zv := hrv.lt
  go_wp2_with fail
  clear cm0 cm1 cm2 cv0 cv1 cv2 zm zv
  refine (part_any 1 2 _ (by decide) (by decide) (by decide) (by decide)).mono ?_
  rintro e x10 ⟨vt1, rfl, hvt1, hb⟩
  replace htab := htab.below hb
  replace hv1 := hv1.below hb
  replace hvm := hvm.below hb
  replace hrm := hrm.keep hb
  replace hvv := hvv.below hb
  replace hrv := hrv.keep hb
  replace BB : Below w.heap.size w x10 := BB.trans (hb.mono BB.size)
  clear hb
  rw [show redP 1 (2 : Int).toNat = 1 by decide +kernel, show redQ 1 (2 : Int).toNat = 2 by decide +kernel] at hvt1
  have cm0 : x10.cell? ⟨gm, 0, none⟩ = some (.bool false) := hrm.cell 0
  have cm1 : x10.cell? ⟨gm, 1, none⟩ = some (.slice Am km cm) := hrm.cell 1
  have cm2 : x10.cell? ⟨gm, 2, none⟩ = some (.slice Dm lm bm) := hrm.cell 2
  have cv0 : x10.cell? ⟨gv, 0, none⟩ = some (.bool false) := hrv.cell 0
  have cv1 : x10.cell? ⟨gv, 1, none⟩ = some (.slice Av kv cv) := hrv.cell 1
  have cv2 : x10.cell? ⟨gv, 2, none⟩ = some (.slice Dv lv bv) := hrv.cell 2
  have zm := hrm.lt
  have zv := hrv.lt
  go_wp2_with fail
  clear cm0 cm1 cm2 cv0 cv1 cv2 zm zv
  refine (ecred_any _ _ [1, 2, 1] 2 2 1 2 _ hv1.wts (hvt1.ratA (by decide)) (by decide) (by decide)).mono ?_
  rintro e x11 ⟨rfl, hb⟩
  replace htab := htab.below hb
  replace hv1 := hv1.below hb
  replace hvm := hvm.below hb
  replace hrm := hrm.keep hb
  replace hvv := hvv.below hb
  replace hrv := hrv.keep hb
  replace hvt1 := hvt1.below hb
  replace BB : Below w.heap.size w x11 := BB.trans (hb.mono BB.size)
  clear hb
  rw [show credV [1, 2, 1] 1 2 = (1, 1) by decide +kernel, show credE [1, 2, 1] 1 2 = 0 by decide +kernel]
  clear hvt1
  have cm0 : x11.cell? ⟨gm, 0, none⟩ = some (.bool false) := hrm.cell 0
  have cm1 : x11.cell? ⟨gm, 1, none⟩ = some (.slice Am km cm) := hrm.cell 1
  have cm2 : x11.cell? ⟨gm, 2, none⟩ = some (.slice Dm lm bm) := hrm.cell 2
  have cv0 : x11.cell? ⟨gv, 0, none⟩ = some (.bool false) := hrv.cell 0
  have cv1 : x11.cell? ⟨gv, 1, none⟩ = some (.slice Av kv cv) := hrv.cell 1
  have cv2 : x11.cell? ⟨gv, 2, none⟩ = some (.slice Dv lv bv) := hrv.cell 2
  have zm := hrm.lt
  have zv := hrv.lt
  go_wp2_with fail
  clear cm0 cm1 cm2 cv0 cv1 cv2 zm zv
  refine (part_any 9 10 _ (by decide) (by decide) (by decide) (by decide)).mono ?_
  rintro e x12 ⟨vt2, rfl, hvt2, hb⟩
  replace htab := htab.below hb
  replace hv1 := hv1.below hb
  replace hvm := hvm.below hb
  replace hrm := hrm.keep hb
  replace hvv := hvv.below hb
  replace hrv := hrv.keep hb
  replace BB : Below w.heap.size w x12 := BB.trans (hb.mono BB.size)
  clear hb
  rw [show redP 9 (10 : Int).toNat = 9 by decide +kernel, show redQ 9 (10 : Int).toNat = 10 by decide +kernel] at hvt2
  have cm0 : x12.cell? ⟨gm, 0, none⟩ = some (.bool false) := hrm.cell 0
  have cm1 : x12.cell? ⟨gm, 1, none⟩ = some (.slice Am km cm) := hrm.cell 1
  have cm2 : x12.cell? ⟨gm, 2, none⟩ = some (.slice Dm lm bm) := hrm.cell 2
  have cv0 : x12.cell? ⟨gv, 0, none⟩ = some (.bool false) := hrv.cell 0
  have cv1 : x12.cell? ⟨gv, 1, none⟩ = some (.slice Av kv cv) := hrv.cell 1
  have cv2 : x12.cell? ⟨gv, 2, none⟩ = some (.slice Dv lv bv) := hrv.cell 2
  have zm := hrm.lt
  have zv := hrv.lt
  go_wp2_with fail
  clear cm0 cm1 cm2 cv0 cv1 cv2 zm zv
  refine (ecred_any _ _ [1, 2, 1] 2 2 9 10 _ hv1.wts (hvt2.ratA (by decide)) (by decide) (by decide)).mono ?_
  rintro e x13 ⟨rfl, hb⟩
  replace htab := htab.below hb
  replace hv1 := hv1.below hb
  replace hvm := hvm.below hb
  replace hrm := hrm.keep hb
  replace hvv := hvv.below hb
  replace hrv := hrv.keep hb
  replace hvt2 := hvt2.below hb
  replace BB : Below w.heap.size w x13 := BB.trans (hb.mono BB.size)
  clear hb
  rw [show credV [1, 2, 1] 9 10 = (0, 2) by decide +kernel, show credE [1, 2, 1] 9 10 = 0 by decide +kernel]
  clear hvt2
  have cm0 : x13.cell? ⟨gm, 0, none⟩ = some (.bool false) := hrm.cell 0
  have cm1 : x13.cell? ⟨gm, 1, none⟩ = some (.slice Am km cm) := hrm.cell 1
  have cm2 : x13.cell? ⟨gm, 2, none⟩ = some (.slice Dm lm bm) := hrm.cell 2
  have cv0 : x13.cell? ⟨gv, 0, none⟩ = some (.bool false) := hrv.cell 0
  have cv1 : x13.cell? ⟨gv, 1, none⟩ = some (.slice Av kv cv) := hrv.cell 1
  have cv2 : x13.cell? ⟨gv, 2, none⟩ = some (.slice Dv lv bv) := hrv.cell 2
  have zm := hrm.lt
  have zv := hrv.lt
  go_wp2_with fail
  clear cm0 cm1 cm2 cv0 cv1 cv2 zm zv
  refine (part_any 3 5 _ (by decide) (by decide) (by decide) (by decide)).mono ?_
  rintro e x14 ⟨vt3, rfl, hvt3, hb⟩
  replace htab := htab.below hb
  replace hv1 := hv1.below hb
  replace hvm := hvm.below hb
  replace hrm := hrm.keep hb
  replace hvv := hvv.below hb
  replace hrv := hrv.keep hb
  replace BB : Below w.heap.size w x14 := BB.trans (hb.mono BB.size)
  clear hb
  rw [show redP 3 (5 : Int).toNat = 3 by decide +kernel, show redQ 3 (5 : Int).toNat = 5 by decide +kernel] at hvt3
  have cm0 : x14.cell? ⟨gm, 0, none⟩ = some (.bool false) := hrm.cell 0
  have cm1 : x14.cell? ⟨gm, 1, none⟩ = some (.slice Am km cm) := hrm.cell 1
  have cm2 : x14.cell? ⟨gm, 2, none⟩ = some (.slice Dm lm bm) := hrm.cell 2
  have cv0 : x14.cell? ⟨gv, 0, none⟩ = some (.bool false) := hrv.cell 0
  have cv1 : x14.cell? ⟨gv, 1, none⟩ = some (.slice Av kv cv) := hrv.cell 1
  have cv2 : x14.cell? ⟨gv, 2, none⟩ = some (.slice Dv lv bv) := hrv.cell 2
  have zm := hrm.lt
  have zv := hrv.lt
  go_wp2_with fail
  clear cm0 cm1 cm2 cv0 cv1 cv2 zm zv
  refine (eclass_any _ _ [1, 2, 1] 2 2 3 5 1 _ hv1.wts (hvt3.ratA (by decide)) (by decide) (by decide)).mono ?_
  rintro e x15 ⟨rfl, hb⟩
  replace htab := htab.below hb
  replace hv1 := hv1.below hb
  replace hvm := hvm.below hb
  replace hrm := hrm.keep hb
  replace hvv := hvv.below hb
  replace hrv := hrv.keep hb
  replace hvt3 := hvt3.below hb
  replace BB : Below w.heap.size w x15 := BB.trans (hb.mono BB.size)
  clear hb
  rw [show classV [1, 2, 1] 1 3 5 = 1 by decide +kernel, show classE [1, 2, 1] 1 3 5 = 0 by decide +kernel]
  clear hvt3
  have cm0 : x15.cell? ⟨gm, 0, none⟩ = some (.bool false) := hrm.cell 0
  have cm1 : x15.cell? ⟨gm, 1, none⟩ = some (.slice Am km cm) := hrm.cell 1
  have cm2 : x15.cell? ⟨gm, 2, none⟩ = some (.slice Dm lm bm) := hrm.cell 2
  have cv0 : x15.cell? ⟨gv, 0, none⟩ = some (.bool false) := hrv.cell 0
  have cv1 : x15.cell? ⟨gv, 1, none⟩ = some (.slice Av kv cv) := hrv.cell 1
  have cv2 : x15.cell? ⟨gv, 2, none⟩ = some (.slice Dv lv bv) := hrv.cell 2
  have zm := hrm.lt
  have zv := hrv.lt
  go_wp2_with fail
  clear cm0 cm1 cm2 cv0 cv1 cv2 zm zv
  refine (part_any 4 5 _ (by decide) (by decide) (by decide) (by decide)).mono ?_
  rintro e x16 ⟨vt4, rfl, hvt4, hb⟩
  replace htab := htab.below hb
  replace hv1 := hv1.below hb
  replace hvm := hvm.below hb
  replace hrm := hrm.keep hb
  replace hvv := hvv.below hb
  replace hrv := hrv.keep hb
  replace BB : Below w.heap.size w x16 := BB.trans (hb.mono BB.size)
  clear hb
  rw [show redP 4 (5 : Int).toNat = 4 by decide +kernel, show redQ 4 (5 : Int).toNat = 5 by decide +kernel] at hvt4
  have cm0 : x16.cell? ⟨gm, 0, none⟩ = some (.bool false) := hrm.cell 0
  have cm1 : x16.cell? ⟨gm, 1, none⟩ = some (.slice Am km cm) := hrm.cell 1
  have cm2 : x16.cell? ⟨gm, 2, none⟩ = some (.slice Dm lm bm) := hrm.cell 2
  have cv0 : x16.cell? ⟨gv, 0, none⟩ = some (.bool false) := hrv.cell 0
  have cv1 : x16.cell? ⟨gv, 1, none⟩ = some (.slice Av kv cv) := hrv.cell 1
  have cv2 : x16.cell? ⟨gv, 2, none⟩ = some (.slice Dv lv bv) := hrv.cell 2
  have zm := hrm.lt
  have zv := hrv.lt
  go_wp2_with fail
  clear cm0 cm1 cm2 cv0 cv1 cv2 zm zv
  refine (eclass_any _ _ [1, 2, 1] 2 2 4 5 1 _ hv1.wts (hvt4.ratA (by decide)) (by decide) (by decide)).mono ?_
  rintro e x17 ⟨rfl, hb⟩
  replace htab := htab.below hb
  replace hv1 := hv1.below hb
  replace hvm := hvm.below hb
  replace hrm := hrm.keep hb
  replace hvv := hvv.below hb
  replace hrv := hrv.keep hb
  replace hvt4 := hvt4.below hb
  replace BB : Below w.heap.size w x17 := BB.trans (hb.mono BB.size)
  clear hb
  rw [show classV [1, 2, 1] 1 4 5 = -1 by decide +kernel, show classE [1, 2, 1] 1 4 5 = 0 by decide +kernel]
  clear hvt4
  have cm0 : x17.cell? ⟨gm, 0, none⟩ = some (.bool false) := hrm.cell 0
  have cm1 : x17.cell? ⟨gm, 1, none⟩ = some (.slice Am km cm) := hrm.cell 1
  have cm2 : x17.cell? ⟨gm, 2, none⟩ = some (.slice Dm lm bm) := hrm.cell 2
  have cv0 : x17.cell? ⟨gv, 0, none⟩ = some (.bool false) := hrv.cell 0
  have cv1 : x17.cell? ⟨gv, 1, none⟩ = some (.slice Av kv cv) := hrv.cell 1
  have cv2 : x17.cell? ⟨gv, 2, none⟩ = some (.slice Dv lv bv) := hrv.cell 2
  have zm := hrm.lt
  have zv := hrv.lt
  go_wp2_with fail
  clear cm0 cm1 cm2 cv0 cv1 cv2 zm zv
  refine (part_any 3 4 _ (by decide) (by decide) (by decide) (by decide)).mono ?_
  rintro e x18 ⟨vt5, rfl, hvt5, hb⟩
  replace htab := htab.below hb
  replace hv1 := hv1.below hb
  replace hvm := hvm.below hb
  replace hrm := hrm.keep hb
  replace hvv := hvv.below hb
  replace hrv := hrv.keep hb
  replace BB : Below w.heap.size w x18 := BB.trans (hb.mono BB.size)
  clear hb
  rw [show redP 3 (4 : Int).toNat = 3 by decide +kernel, show redQ 3 (4 : Int).toNat = 4 by decide +kernel] at hvt5
  have cm0 : x18.cell? ⟨gm, 0, none⟩ = some (.bool false) := hrm.cell 0
  have cm1 : x18.cell? ⟨gm, 1, none⟩ = some (.slice Am km cm) := hrm.cell 1
  have cm2 : x18.cell? ⟨gm, 2, none⟩ = some (.slice Dm lm bm) := hrm.cell 2
  have cv0 : x18.cell? ⟨gv, 0, none⟩ = some (.bool false) := hrv.cell 0
  have cv1 : x18.cell? ⟨gv, 1, none⟩ = some (.slice Av kv cv) := hrv.cell 1
  have cv2 : x18.cell? ⟨gv, 2, none⟩ = some (.slice Dv lv bv) := hrv.cell 2
  have zm := hrm.lt
  have zv := hrv.lt
  go_wp2_with fail
  clear cm0 cm1 cm2 cv0 cv1 cv2 zm zv
  refine (eclass_any _ _ [1, 2, 1] 2 2 3 4 2 _ hv1.wts (hvt5.ratA (by decide)) (by decide) (by decide)).mono ?_
  rintro e x19 ⟨rfl, hb⟩
  replace htab := htab.below hb
  replace hv1 := hv1.below hb
  replace hvm := hvm.below hb
  replace hrm := hrm.keep hb
  replace hvv := hvv.below hb
  replace hrv := hrv.keep hb
  replace hvt5 := hvt5.below hb
  replace BB : Below w.heap.size w x19 := BB.trans (hb.mono BB.size)
  clear hb
  rw [show classV [1, 2, 1] 2 3 4 = 0 by decide +kernel, show classE [1, 2, 1] 2 3 4 = 0 by decide +kernel]
  clear hvt5
  have cm0 : x19.cell? ⟨gm, 0, none⟩ = some (.bool false) := hrm.cell 0
  have cm1 : x19.cell? ⟨gm, 1, none⟩ = some (.slice Am km cm) := hrm.cell 1
  have cm2 : x19.cell? ⟨gm, 2, none⟩ = some (.slice Dm lm bm) := hrm.cell 2
  have cv0 : x19.cell? ⟨gv, 0, none⟩ = some (.bool false) := hrv.cell 0
  have cv1 : x19.cell? ⟨gv, 1, none⟩ = some (.slice Av kv cv) := hrv.cell 1
  have cv2 : x19.cell? ⟨gv, 2, none⟩ = some (.slice Dv lv bv) := hrv.cell 2
  have zm := hrm.lt
  have zv := hrv.lt
  go_wp2_with fail
  clear cm0 cm1 cm2 cv0 cv1 cv2 zm zv
  refine (qprint_zero _ 1 5 _ (hvm.ratA (by decide)) (by decide) (by decide)).mono ?_
  rintro e x20 ⟨rfl, hb⟩
  replace htab := htab.below hb
  replace hv1 := hv1.below hb
  replace hvm := hvm.below hb
  replace hrm := hrm.keep hb
  replace hvv := hvv.below hb
  replace hrv := hrv.keep hb
  replace BB : Below w.heap.size w x20 := BB.trans (hb.mono BB.size)
  clear hb
  have cm0 : x20.cell? ⟨gm, 0, none⟩ = some (.bool false) := hrm.cell 0
  have cm1 : x20.cell? ⟨gm, 1, none⟩ = some (.slice Am km cm) := hrm.cell 1
  have cm2 : x20.cell? ⟨gm, 2, none⟩ = some (.slice Dm lm bm) := hrm.cell 2
  have cv0 : x20.cell? ⟨gv, 0, none⟩ = some (.bool false) := hrv.cell 0
  have cv1 : x20.cell? ⟨gv, 1, none⟩ = some (.slice Av kv cv) := hrv.cell 1
  have cv2 : x20.cell? ⟨gv, 2, none⟩ = some (.slice Dv lv bv) := hrv.cell 2
  have zm := hrm.lt
  have zv := hrv.lt
  go_wp2_with fail
  clear cm0 cm1 cm2 cv0 cv1 cv2 zm zv
  refine (qprint_mid _ 5000 1 5000 1 500 _ ((hvv.ratA (by decide)).mono (by decide)) (by decide) (by decide) (by decide +kernel) (by decide +kernel) (by decide) (by decide) (by decide) htab).mono ?_
  rintro e x21 ⟨rfl, hb⟩
  replace htab := htab.below hb
  replace hv1 := hv1.below hb
  replace hvm := hvm.below hb
  replace hrm := hrm.keep hb
  replace hvv := hvv.below hb
  replace hrv := hrv.keep hb
  replace BB : Below w.heap.size w x21 := BB.trans (hb.mono BB.size)
  clear hb
  rw [show fracText9 5000 1 = [53, 48, 48, 48] by decide +kernel]
  have cm0 : x21.cell? ⟨gm, 0, none⟩ = some (.bool false) := hrm.cell 0
  have cm1 : x21.cell? ⟨gm, 1, none⟩ = some (.slice Am km cm) := hrm.cell 1
  have cm2 : x21.cell? ⟨gm, 2, none⟩ = some (.slice Dm lm bm) := hrm.cell 2
  have cv0 : x21.cell? ⟨gv, 0, none⟩ = some (.bool false) := hrv.cell 0
  have cv1 : x21.cell? ⟨gv, 1, none⟩ = some (.slice Av kv cv) := hrv.cell 1
  have cv2 : x21.cell? ⟨gv, 2, none⟩ = some (.slice Dv lv bv) := hrv.cell 2
  have zm := hrm.lt
  have zv := hrv.lt
  go_wp2_with fail
  clear cm0 cm1 cm2 cv0 cv1 cv2 zm zv
  go_ret
  exact ⟨rfl, BB⟩
end Go.Proofs.YtfoleamcaflfeaaGreatDoor
