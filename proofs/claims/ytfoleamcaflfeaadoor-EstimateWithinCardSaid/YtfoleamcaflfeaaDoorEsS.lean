/- EstimateScale. -/
import Derived.Test.YtfoleamcaflfeaaDoorEsW
import Derived.Test.YtfoleamcaflfeaaDoorGrZ
import Derived.Deep.CutRange
import Derived.Deep.DeepCutAuto
import Derived.Deep.Light
namespace Go.Proofs.YtfoleamcaflfeaaDoor
open Go.RowKit
set_option linter.unusedVariables false
set_option maxRecDepth 100000

theorem lim_show {w : World} {v : Value} {ls : List Nat} (h : Lim w v ls) : ∃ A n c, v = .slice A n c := by
  obtain ⟨⟨A, cA, rfl, _⟩, _⟩ := h
  exact ⟨_, _, _, rfl⟩
set_option maxHeartbeats 1000000 in
theorem limbs_eq (v u : Value) (ls : List Nat) (w : World) (h1 : Lim w v ls) (h2 : Lim w u ls) :
    Calls Tryd.prog 41 #[v, u] w fun e w' => e = .returned (.bool true) ∧ ∃ d, w' = w.drewN d := by
  obtain ⟨⟨A, c, rfl, hc, hm, hs⟩, _⟩ := h1
  obtain ⟨⟨B, c', rfl, hc', hm', hs'⟩, _⟩ := h2
  obtain ⟨n, hn⟩ : ∃ n, n = ls.length := ⟨_, rfl⟩
  rw [← hn] at hs hs' hc hc' ⊢
  unfold maxLen at hm hm'
  have HN := Lib.hid hn
  clear hn
  have hnn : ((n : Int) != (n : Int)) = false := by simp
  go_enter Tryd.func41, Tryd.ntmps41
  go_wp2
  go_loopw [13] (fun i wr => ∃ k : Nat, k ≤ n ∧ i = .int .i64 (k : Int) ∧ ∃ d, wr = w.drewN d) (fun i _ => n - (intOf i).toNat)
  case atStart => exact ⟨0, by omega, rfl, 0, rfl⟩
  case round =>
    obtain ⟨k, hk, rfl, d, rfl⟩ := hrel
    by_cases hlt : k < n
    · obtain ⟨b, o, rfl, hb, hcell⟩ := hs.lim hlt
      obtain ⟨b', o', rfl, hb', hcell'⟩ := hs'.lim hlt
      have g1 := hcell k hlt
      have g2 := hcell' k hlt
      clear hcell hcell'
      generalize ls.getD k 0 = z at *
      have hne : ((z : Int) != (z : Int)) = false := by simp
      go_wp2
      go_quiet (fail)
      go_wp2
      go_roundw
      case rel => exact ⟨k + 1, by omega, by go_num, _, rfl⟩
      case measure => simp [intOf]; omega
    · go_wp2
      go_ret
      exact ⟨rfl, _, rfl⟩

set_option maxHeartbeats 4000000 in
theorem equal_yes (v u : Value) (p : Int) (q L M b b' : Nat) (w : World) (h1 : RatF b w v p q L) (h2 : RatF b' w u p q M) :
    Calls Tryd.prog 16 #[v, u] w fun e w' => e = .returned (.bool true) ∧ Below w.heap.size w w' := by
  obtain ⟨mv, dv, rfl, hm, hd, fm, fd⟩ := h1
  obtain ⟨mu, du, rfl, hm', hd', fm', fd'⟩ := h2
  obtain ⟨ls, a1, a2, _⟩ := hm.same hm'
  obtain ⟨ld, b1, b2, _⟩ := hd.same hd'
  obtain ⟨A, kA, cA, rfl⟩ := lim_show a1
  obtain ⟨A', kA', cA', rfl⟩ := lim_show a2
  obtain ⟨B, kB, cB, rfl⟩ := lim_show b1
  obtain ⟨B', kB', cB', rfl⟩ := lim_show b2
  obtain ⟨W0, hW0⟩ : ∃ W0 : World, W0 = (w.alloc (.cells #[.bool (decide (p < 0)), .slice A kA cA, .slice B kB cB] 28)).alloc (.cells #[.bool (decide (p < 0)), .slice A' kA' cA', .slice B' kB' cB'] 28) := ⟨_, rfl⟩
  have r0 : Row W0 w.heap.size 28 [.bool (decide (p < 0)), .slice A kA cA, .slice B kB cB] := by
    rw [hW0]
    have := Row.alloc (Row.new w 28 [.bool (decide (p < 0)), .slice A kA cA, .slice B kB cB]) (.cells #[.bool (decide (p < 0)), .slice A' kA' cA', .slice B' kB' cB'] 28)
    simpa using this
  have r1 : Row W0 (w.heap.size + 1) 28 [.bool (decide (p < 0)), .slice A' kA' cA', .slice B' kB' cB'] := by
    rw [hW0]
    have := Row.new (w.alloc (.cells #[.bool (decide (p < 0)), .slice A kA cA, .slice B kB cB] 28)) 28 [.bool (decide (p < 0)), .slice A' kA' cA', .slice B' kB' cB']
    simpa using this
  have B0 : Below w.heap.size w W0 := by rw [hW0]; exact (((Below.refl _ _).alloc (Nat.le_refl _) _).alloc (by simp) _)
  have x0 : W0.cell? ⟨w.heap.size, 0, none⟩ = some (.bool (decide (p < 0))) := r0.cell 0
  have x1 : W0.cell? ⟨w.heap.size, 1, none⟩ = some (.slice A kA cA) := r0.cell 1
  have x2 : W0.cell? ⟨w.heap.size, 2, none⟩ = some (.slice B kB cB) := r0.cell 2
  have y0 : W0.cell? ⟨w.heap.size + 1, 0, none⟩ = some (.bool (decide (p < 0))) := r1.cell 0
  have y1 : W0.cell? ⟨w.heap.size + 1, 1, none⟩ = some (.slice A' kA' cA') := r1.cell 1
  have y2 : W0.cell? ⟨w.heap.size + 1, 2, none⟩ = some (.slice B' kB' cB') := r1.cell 2
  have hE : (decide (p < 0) == decide (p < 0)) = true := by simp
  have H1 := Lib.hid (limbs_eq _ _ ls _ (a1.below B0) (a2.below B0))
  have H2 := Lib.hid (fun d => limbs_eq _ _ ld (W0.drewN d) (b1.below (below_drewN B0 d)) (b2.below (below_drewN B0 d)))
  generalize decide (p < 0) = s at *
  go_enter Tryd.func16, Tryd.ntmps16
  go_wp2_with fail
  rw [← hW0]
  clear hW0
  go_wp2_with fail
  refine H1.out.mono ?_
  rintro e w' ⟨rfl, d1, rfl⟩
  go_wp2_with fail
  refine (H2.out d1).mono ?_
  rintro e w' ⟨rfl, d2, rfl⟩
  go_wp2_with fail
  go_ret
  exact ⟨rfl, below_drewN B0 _⟩

/-- The mean and the variance, 0 beside an error. -/
def meanP (ps rs : List Int) (ns : List Nat) : Int := if sumE ps rs ns = 0 then redP (wF1 ns ps ps.length) (wF0 ns ps.length).natAbs else 0
def meanQ (ps rs : List Int) (ns : List Nat) : Nat := if sumE ps rs ns = 0 then redQ (wF1 ns ps ps.length) (wF0 ns ps.length).natAbs else 1
def varP (ps rs : List Int) (ns : List Nat) : Int := if sumE ps rs ns = 0 then redP (wF0 ns ps.length * wF2 ns ps ps.length - wF1 ns ps ps.length * wF1 ns ps ps.length) (wF0 ns ps.length * wF0 ns ps.length).natAbs else 0
def varQ (ps rs : List Int) (ns : List Nat) : Nat := if sumE ps rs ns = 0 then redQ (wF0 ns ps.length * wF2 ns ps ps.length - wF1 ns ps ps.length * wF1 ns ps ps.length) (wF0 ns ps.length * wF0 ns ps.length).natAbs else 1
theorem mom_nonneg {f : Nat → Int} (h : ∀ i, 0 ≤ f i) : ∀ k, 0 ≤ mom f k
  | 0 => Int.le_refl _
  | k + 1 => Int.add_nonneg (mom_nonneg h k) (h k)
theorem sumE_scale (ps rs : List Int) (ns : List Nat) {c : Nat} (hc : 0 < c) : sumE ps rs (scaleL c ns) = sumE ps rs ns := by
  unfold sumE
  rw [scaleL_len, (scale_sums c ns ps ps.length).1]
  have : ((c : Int) * wF0 ns ps.length = 0) = (wF0 ns ps.length = 0) := by
    refine propext ⟨fun h => ?_, fun h => by rw [h, Int.mul_zero]⟩
    rcases Int.mul_eq_zero.1 h with h | h
    · omega
    · exact h
  simp only [this]
theorem moments_scale (ps rs : List Int) (ns : List Nat) {c : Nat} (hc : 0 < c) : meanP ps rs (scaleL c ns) = meanP ps rs ns ∧ meanQ ps rs (scaleL c ns) = meanQ ps rs ns ∧ varP ps rs (scaleL c ns) = varP ps rs ns ∧ varQ ps rs (scaleL c ns) = varQ ps rs ns := by
  unfold meanP meanQ varP varQ
  rw [sumE_scale ps rs ns hc]
  by_cases hE : sumE ps rs ns = 0
  · simp only [if_pos hE]
    obtain ⟨_, _, h0⟩ := sumE_zero hE
    have h1 : 0 ≤ wF0 ns ps.length := mom_nonneg (fun i => by omega) _
    obtain ⟨s0, s1, s2⟩ := scale_sums c ns ps ps.length
    rw [s0, s1, s2]
    obtain ⟨⟨a, b⟩, d, e⟩ := scale_red (wF0 ns ps.length) (wF1 ns ps ps.length) (wF2 ns ps ps.length) c hc (by omega)
    exact ⟨a, b, d, e⟩
  · simp only [if_neg hE, and_self]
theorem scaleL_getN (c : Nat) (ns : List Nat) (i : Nat) : (scaleL c ns).getD i 0 = ns.getD i 0 * c := by
  unfold scaleL
  rw [List.getD_eq_getElem?_getD, List.getElem?_map, List.getD_eq_getElem?_getD]
  cases ns[i]? with
  | none => simp
  | some x => simp
theorem scaleL_sum (c : Nat) : ∀ ns : List Nat, (scaleL c ns).sum = ns.sum * c
  | [] => by simp [scaleL]
  | n :: ns => by
    have := scaleL_sum c ns
    unfold scaleL at *
    rw [List.map_cons, List.sum_cons, List.sum_cons, this, Nat.add_mul]
theorem chkS_scale (ns : List Nat) {c : Nat} (hc : 0 < c) : chkS (scaleL c ns) = chkS ns := by
  unfold chkS
  rw [scaleL_len, scaleL_sum]
  have : (ns.sum * c = 0) = (ns.sum = 0) := by
    refine propext ⟨fun h => ?_, fun h => by rw [h, Nat.zero_mul]⟩
    rcases Nat.mul_eq_zero.1 h with h | h
    · exact h
    · omega
  simp only [this]
theorem lt_scale (ns : List Nat) {c : Nat} (hc : 0 < c) (i j : Nat) : ((scaleL c ns).getD i 0 < (scaleL c ns).getD j 0) = (ns.getD i 0 < ns.getD j 0) := by
  rw [scaleL_getN, scaleL_getN]
  exact propext (Nat.mul_lt_mul_right hc)
theorem bestI_scale (ns : List Nat) {c : Nat} (hc : 0 < c) : ∀ k, bestI (scaleL c ns) k = bestI ns k
  | 0 => rfl
  | k + 1 => by
    unfold bestI
    simp only [bestI_scale ns hc k, lt_scale ns hc]
theorem modeV_scale (ns : List Nat) {c : Nat} (hc : 0 < c) : modeV (scaleL c ns) = modeV ns := by
  unfold modeV
  rw [chkS_scale ns hc, scaleL_len, bestI_scale ns hc]
theorem sumR_scale (ns : List Nat) (c lo hi : Nat) : sumR (scaleL c ns) lo hi = sumR ns lo hi * c := by
  unfold sumR
  rw [← scaleL_sum]
  unfold scaleL
  rw [List.map_drop, List.map_take]
theorem reachB_scale (x s c : Nat) (hc : 0 < c) (p : Int) (q : Nat) : reachB (x * c) (s * c) p q = reachB x s p q := by
  unfold reachB
  have hcI : 0 < (c : Int) := by omega
  have e1 : p * ((s * c : Nat) : Int) = p * (s : Int) * (c : Int) := by rw [Int.natCast_mul, Int.mul_assoc]
  have e2 : ((x * c : Nat) : Int) * (q : Int) = (x : Int) * (q : Int) * (c : Int) := by rw [Int.natCast_mul, Int.mul_assoc, Int.mul_comm (c : Int), ← Int.mul_assoc]
  rw [e1, e2]
  simp only [Int.mul_le_mul_right hcI]
theorem credG_scale (ns : List Nat) {c : Nat} (hc : 0 < c) (p : Int) (q : Nat) : ∀ f lo hi, credG (scaleL c ns) p q f lo hi = credG ns p q f lo hi
  | 0, lo, hi => rfl
  | f + 1, lo, hi => by
    have e1 : nextL (scaleL c ns) lo hi = nextL ns lo hi := by unfold nextL; simp only [lt_scale ns hc]
    have e2 : nextH (scaleL c ns) lo hi = nextH ns lo hi := by unfold nextH; simp only [lt_scale ns hc]
    unfold credG
    rw [e1, e2, sumR_scale, scaleL_sum, reachB_scale _ _ _ hc, credG_scale ns hc p q f]
theorem cred_scale (ns : List Nat) {c : Nat} (hc : 0 < c) (p : Int) (q : Nat) : credE (scaleL c ns) p q = credE ns p q ∧ credV (scaleL c ns) p q = credV ns p q := by
  have e : credE (scaleL c ns) p q = credE ns p q := by unfold credE; rw [chkS_scale ns hc]
  refine ⟨e, ?_⟩
  unfold credV
  rw [e, scaleL_len, credG_scale ns hc]
theorem class_scale (ns : List Nat) {c : Nat} (hc : 0 < c) (k p : Int) (q : Nat) : classE (scaleL c ns) k p q = classE ns k p q ∧ classV (scaleL c ns) k p q = classV ns k p q := by
  have e : classE (scaleL c ns) k p q = classE ns k p q := by unfold classE; rw [chkS_scale ns hc, scaleL_len]
  refine ⟨e, ?_⟩
  have d1 : ∀ n, ((scaleL c ns).drop n).sum = (ns.drop n).sum * c := fun n => by rw [← scaleL_sum]; unfold scaleL; rw [List.map_drop]
  have d2 : ∀ n, ((scaleL c ns).take n).sum = (ns.take n).sum * c := fun n => by rw [← scaleL_sum]; unfold scaleL; rw [List.map_take]
  unfold classV
  rw [e, d1, d2, scaleL_sum, reachB_scale _ _ _ hc, reachB_scale _ _ _ hc]

theorem gmean_any (pv rv wv : Value) (ps rs : List Int) (ns : List Nat) (L : Nat) (w : World) (hp : Nums .i64 w pv ps) (hr : Nums .i64 w rv rs) (hw : Wts w wv ns L) (hL : L ≤ 35184372088600) :
    Calls Tryd.prog 39 #[.agg #[pv, rv], wv] w fun e w' => ∃ x, e = .returned (.tuple #[x, .int .i64 (sumE ps rs ns)]) ∧ RatF w.heap.size w' x (meanP ps rs ns) (meanQ ps rs ns) (L + 3) ∧ Below w.heap.size w w' := by
  by_cases hE : sumE ps rs ns = 0
  · rw [hE]
    unfold meanP meanQ
    rw [if_pos hE, if_pos hE]
    exact gmean_ok pv rv wv ps rs ns L w hp hr hw hL hE
  · unfold meanP meanQ
    rw [if_neg hE, if_neg hE]
    refine (gmean_no pv rv wv ps rs ns L w hp hr hw hL hE).mono ?_
    rintro e w' ⟨x, he, hx, hb⟩
    exact ⟨x, he, hx.mono (by omega), hb⟩

theorem gvar_any (pv rv wv : Value) (ps rs : List Int) (ns : List Nat) (L : Nat) (w : World) (hp : Nums .i64 w pv ps) (hr : Nums .i64 w rv rs) (hw : Wts w wv ns L) (hL : L ≤ 35184372088600) :
    Calls Tryd.prog 40 #[.agg #[pv, rv], wv] w fun e w' => ∃ x, e = .returned (.tuple #[x, .int .i64 (sumE ps rs ns)]) ∧ RatF w.heap.size w' x (varP ps rs ns) (varQ ps rs ns) (L + 1 + (L + 5) + 1) ∧ Below w.heap.size w w' := by
  by_cases hE : sumE ps rs ns = 0
  · rw [hE]
    unfold varP varQ
    rw [if_pos hE, if_pos hE]
    exact gvar_ok pv rv wv ps rs ns L w hp hr hw hL hE
  · unfold varP varQ
    rw [if_neg hE, if_neg hE]
    refine (gvar_no pv rv wv ps rs ns L w hp hr hw hL hE).mono ?_
    rintro e w' ⟨x, he, hx, hb⟩
    exact ⟨x, he, hx.mono (by omega), hb⟩

set_option maxHeartbeats 8000000 in
theorem emean_any (pv rv wv : Value) (ps rs : List Int) (ns : List Nat) (L : Nat) (w : World) (hp : Nums .i64 w pv ps) (hr : Nums .i64 w rv rs) (hw : Wts w wv ns L) (hL : L ≤ 35184372088600) :
    Calls Tryd.prog 14 #[.agg #[pv, rv], wv] w fun e w' => ∃ x, e = .returned (.tuple #[x, .int .i64 (sumE ps rs ns)]) ∧ RatF w.heap.size w' x (meanP ps rs ns) (meanQ ps rs ns) ((L + 3)) ∧ Below w.heap.size w w' := by
  have HM := Lib.hid (fun (W : World) (h : Below w.heap.size w W) => gmean_any pv rv wv ps rs ns L W (hp.below h) (hr.below h) (hw.below h) hL)
  obtain ⟨PA, pc, rfl, hpc, hpm, hps⟩ := hp
  obtain ⟨QA, qc, rfl, hqc, hqm, hqs⟩ := hr
  obtain ⟨WA, wc, us, rfl, hwc, hwm, hws, hwu⟩ := hw
  clear hwu hws hwm hwc hqs hqm hqc hps hpm hpc
  obtain ⟨P, hP⟩ : ∃ x, meanP ps rs ns = x := ⟨_, rfl⟩
  obtain ⟨Q, hQ⟩ : ∃ x, meanQ ps rs ns = x := ⟨_, rfl⟩
  obtain ⟨E, hE⟩ : ∃ x, sumE ps rs ns = x := ⟨_, rfl⟩
  rw [hP, hQ, hE] at HM
  have HE := Lib.hid hE
  clear hE
  have HP := Lib.hid hP
  have HQ := Lib.hid hQ
  clear hP hQ
  obtain ⟨W0, hW0⟩ : ∃ W0 : World, W0 = (w.alloc (.cells #[.slice PA ps.length pc, .slice QA rs.length qc] 37)).alloc (.cells #[.bool false, .slice none 0 0, .slice none 0 0] 28) := ⟨_, rfl⟩
  have r0 : Row W0 w.heap.size 37 [.slice PA ps.length pc, .slice QA rs.length qc] := by
    rw [hW0]
    have := Row.alloc (Row.new w 37 [.slice PA ps.length pc, .slice QA rs.length qc]) (.cells #[.bool false, .slice none 0 0, .slice none 0 0] 28)
    simpa using this
  have r1 : Row W0 (w.heap.size + 1) 28 [.bool false, .slice none 0 0, .slice none 0 0] := by
    rw [hW0]
    have := Row.new (w.alloc (.cells #[.slice PA ps.length pc, .slice QA rs.length qc] 37)) 28 [.bool false, .slice none 0 0, .slice none 0 0]
    simpa using this
  have B0 : Below w.heap.size w W0 := by rw [hW0]; exact (((Below.refl _ _).alloc (Nat.le_refl _) _).alloc (by simp) _)
  go_enter Tryd.func14, Tryd.ntmps14
  go_wp2_with fail
  rw [← hW0]
  clear hW0
  have BB := B0
  have hr0 := r0
  have hr4 := r1
  clear B0 r0 r1
  have c00 : W0.cell? ⟨w.heap.size, 0, none⟩ = some (.slice PA ps.length pc) := hr0.cell 0
  have c01 : W0.cell? ⟨w.heap.size, 1, none⟩ = some (.slice QA rs.length qc) := hr0.cell 1
  have c40 : W0.cell? ⟨w.heap.size + 1, 0, none⟩ = some (.bool false) := hr4.cell 0
  have c41 : W0.cell? ⟨w.heap.size + 1, 1, none⟩ = some (.slice none 0 0) := hr4.cell 1
  have c42 : W0.cell? ⟨w.heap.size + 1, 2, none⟩ = some (.slice none 0 0) := hr4.cell 2
  have f40 : W0.frozen? ⟨w.heap.size + 1, 0, none⟩ = false := hr4.frozen 0
  have f41 : W0.frozen? ⟨w.heap.size + 1, 1, none⟩ = false := hr4.frozen 1
  have f42 : W0.frozen? ⟨w.heap.size + 1, 2, none⟩ = false := hr4.frozen 2
  have z0 := hr0.lt
  have z4 := hr4.lt
  go_wp2_with fail
  clear c00 c01 c40 c41 c42 f40 f41 f42 z0 z4
  refine (HM.out _ BB).mono ?_
  have hz6 := hr4.lt
  rintro e x1 ⟨vq, rfl, hvq, hb⟩
  replace hr0 := hr0.keep hb
  replace hr4 := hr4.keep hb
  replace BB : Below w.heap.size w x1 := BB.trans (hb.mono BB.size)
  clear hb
  have hq' := hvq
  obtain ⟨mq, dq, eq, hmq, hdq, _, _⟩ := hq'
  subst eq
  obtain ⟨Aq, kq, cq, rfl⟩ := hmq.lim1.choose_spec.1.show_
  obtain ⟨Dq, lq, bq, rfl⟩ := hdq.lim1.choose_spec.1.show_
  clear hmq hdq
  have c00 : x1.cell? ⟨w.heap.size, 0, none⟩ = some (.slice PA ps.length pc) := hr0.cell 0
  have c01 : x1.cell? ⟨w.heap.size, 1, none⟩ = some (.slice QA rs.length qc) := hr0.cell 1
  have c40 : x1.cell? ⟨w.heap.size + 1, 0, none⟩ = some (.bool false) := hr4.cell 0
  have c41 : x1.cell? ⟨w.heap.size + 1, 1, none⟩ = some (.slice none 0 0) := hr4.cell 1
  have c42 : x1.cell? ⟨w.heap.size + 1, 2, none⟩ = some (.slice none 0 0) := hr4.cell 2
  have f40 : x1.frozen? ⟨w.heap.size + 1, 0, none⟩ = false := hr4.frozen 0
  have f41 : x1.frozen? ⟨w.heap.size + 1, 1, none⟩ = false := hr4.frozen 1
  have f42 : x1.frozen? ⟨w.heap.size + 1, 2, none⟩ = false := hr4.frozen 2
  have z0 := hr0.lt
  have z4 := hr4.lt
  go_wp2_with fail
  refine bodyPost_ret (v := .tuple #[.agg #[.bool (decide (P < 0)), .slice Aq kq cq, .slice Dq lq bq], .int .i64 E]) (by simp [results, Tryd.results14, go_sem, c40, c41, c42]) rfl ⟨.agg #[.bool (decide (P < 0)), .slice Aq kq cq, .slice Dq lq bq], by rw [HE.out], ?_, ((BB.setCell (by simp) _).setCell (by simp) _).setCell (by simp) _⟩
  rw [HP.out, HQ.out]
  exact ((((hvq.set_ (a := ⟨w.heap.size + 1, 0, none⟩) hz6 _).set_ (a := ⟨w.heap.size + 1, 1, none⟩) hz6 _).set_ (a := ⟨w.heap.size + 1, 2, none⟩) hz6 _).base (by omega))

set_option maxHeartbeats 8000000 in
theorem evar_any (pv rv wv : Value) (ps rs : List Int) (ns : List Nat) (L : Nat) (w : World) (hp : Nums .i64 w pv ps) (hr : Nums .i64 w rv rs) (hw : Wts w wv ns L) (hL : L ≤ 35184372088600) :
    Calls Tryd.prog 15 #[.agg #[pv, rv], wv] w fun e w' => ∃ x, e = .returned (.tuple #[x, .int .i64 (sumE ps rs ns)]) ∧ RatF w.heap.size w' x (varP ps rs ns) (varQ ps rs ns) ((L + 1 + (L + 5) + 1)) ∧ Below w.heap.size w w' := by
  have HM := Lib.hid (fun (W : World) (h : Below w.heap.size w W) => gvar_any pv rv wv ps rs ns L W (hp.below h) (hr.below h) (hw.below h) hL)
  obtain ⟨PA, pc, rfl, hpc, hpm, hps⟩ := hp
  obtain ⟨QA, qc, rfl, hqc, hqm, hqs⟩ := hr
  obtain ⟨WA, wc, us, rfl, hwc, hwm, hws, hwu⟩ := hw
  clear hwu hws hwm hwc hqs hqm hqc hps hpm hpc
  obtain ⟨P, hP⟩ : ∃ x, varP ps rs ns = x := ⟨_, rfl⟩
  obtain ⟨Q, hQ⟩ : ∃ x, varQ ps rs ns = x := ⟨_, rfl⟩
  obtain ⟨E, hE⟩ : ∃ x, sumE ps rs ns = x := ⟨_, rfl⟩
  rw [hP, hQ, hE] at HM
  have HE := Lib.hid hE
  clear hE
  have HP := Lib.hid hP
  have HQ := Lib.hid hQ
  clear hP hQ
  obtain ⟨W0, hW0⟩ : ∃ W0 : World, W0 = (w.alloc (.cells #[.slice PA ps.length pc, .slice QA rs.length qc] 37)).alloc (.cells #[.bool false, .slice none 0 0, .slice none 0 0] 28) := ⟨_, rfl⟩
  have r0 : Row W0 w.heap.size 37 [.slice PA ps.length pc, .slice QA rs.length qc] := by
    rw [hW0]
    have := Row.alloc (Row.new w 37 [.slice PA ps.length pc, .slice QA rs.length qc]) (.cells #[.bool false, .slice none 0 0, .slice none 0 0] 28)
    simpa using this
  have r1 : Row W0 (w.heap.size + 1) 28 [.bool false, .slice none 0 0, .slice none 0 0] := by
    rw [hW0]
    have := Row.new (w.alloc (.cells #[.slice PA ps.length pc, .slice QA rs.length qc] 37)) 28 [.bool false, .slice none 0 0, .slice none 0 0]
    simpa using this
  have B0 : Below w.heap.size w W0 := by rw [hW0]; exact (((Below.refl _ _).alloc (Nat.le_refl _) _).alloc (by simp) _)
  go_enter Tryd.func15, Tryd.ntmps15
  go_wp2_with fail
  rw [← hW0]
  clear hW0
  have BB := B0
  have hr0 := r0
  have hr4 := r1
  clear B0 r0 r1
  have c00 : W0.cell? ⟨w.heap.size, 0, none⟩ = some (.slice PA ps.length pc) := hr0.cell 0
  have c01 : W0.cell? ⟨w.heap.size, 1, none⟩ = some (.slice QA rs.length qc) := hr0.cell 1
  have c40 : W0.cell? ⟨w.heap.size + 1, 0, none⟩ = some (.bool false) := hr4.cell 0
  have c41 : W0.cell? ⟨w.heap.size + 1, 1, none⟩ = some (.slice none 0 0) := hr4.cell 1
  have c42 : W0.cell? ⟨w.heap.size + 1, 2, none⟩ = some (.slice none 0 0) := hr4.cell 2
  have f40 : W0.frozen? ⟨w.heap.size + 1, 0, none⟩ = false := hr4.frozen 0
  have f41 : W0.frozen? ⟨w.heap.size + 1, 1, none⟩ = false := hr4.frozen 1
  have f42 : W0.frozen? ⟨w.heap.size + 1, 2, none⟩ = false := hr4.frozen 2
  have z0 := hr0.lt
  have z4 := hr4.lt
  go_wp2_with fail
  clear c00 c01 c40 c41 c42 f40 f41 f42 z0 z4
  refine (HM.out _ BB).mono ?_
  have hz6 := hr4.lt
  rintro e x1 ⟨vq, rfl, hvq, hb⟩
  replace hr0 := hr0.keep hb
  replace hr4 := hr4.keep hb
  replace BB : Below w.heap.size w x1 := BB.trans (hb.mono BB.size)
  clear hb
  have hq' := hvq
  obtain ⟨mq, dq, eq, hmq, hdq, _, _⟩ := hq'
  subst eq
  obtain ⟨Aq, kq, cq, rfl⟩ := hmq.lim1.choose_spec.1.show_
  obtain ⟨Dq, lq, bq, rfl⟩ := hdq.lim1.choose_spec.1.show_
  clear hmq hdq
  have c00 : x1.cell? ⟨w.heap.size, 0, none⟩ = some (.slice PA ps.length pc) := hr0.cell 0
  have c01 : x1.cell? ⟨w.heap.size, 1, none⟩ = some (.slice QA rs.length qc) := hr0.cell 1
  have c40 : x1.cell? ⟨w.heap.size + 1, 0, none⟩ = some (.bool false) := hr4.cell 0
  have c41 : x1.cell? ⟨w.heap.size + 1, 1, none⟩ = some (.slice none 0 0) := hr4.cell 1
  have c42 : x1.cell? ⟨w.heap.size + 1, 2, none⟩ = some (.slice none 0 0) := hr4.cell 2
  have f40 : x1.frozen? ⟨w.heap.size + 1, 0, none⟩ = false := hr4.frozen 0
  have f41 : x1.frozen? ⟨w.heap.size + 1, 1, none⟩ = false := hr4.frozen 1
  have f42 : x1.frozen? ⟨w.heap.size + 1, 2, none⟩ = false := hr4.frozen 2
  have z0 := hr0.lt
  have z4 := hr4.lt
  go_wp2_with fail
  refine bodyPost_ret (v := .tuple #[.agg #[.bool (decide (P < 0)), .slice Aq kq cq, .slice Dq lq bq], .int .i64 E]) (by simp [results, Tryd.results15, go_sem, c40, c41, c42]) rfl ⟨.agg #[.bool (decide (P < 0)), .slice Aq kq cq, .slice Dq lq bq], by rw [HE.out], ?_, ((BB.setCell (by simp) _).setCell (by simp) _).setCell (by simp) _⟩
  rw [HP.out, HQ.out]
  exact ((((hvq.set_ (a := ⟨w.heap.size + 1, 0, none⟩) hz6 _).set_ (a := ⟨w.heap.size + 1, 1, none⟩) hz6 _).set_ (a := ⟨w.heap.size + 1, 2, none⟩) hz6 _).base (by omega))

set_option maxHeartbeats 32000000 in
theorem lscale_any (pv rv wv lv : Value) (ps rs : List Int) (ns : List Nat) (L M b : Nat) (k0 p : Int) (q : Nat) (w : World) (hp : Nums .i64 w pv ps) (hr : Nums .i64 w rv rs) (hw : Wts w wv ns L) (hn : ns.length * 24 ≤ 140737488351232) (hq : RatA w lv p q M) (hL : L ≤ 35184372087900) (hM2 : 2 ≤ M) (hM : M ≤ 35184372088000) (hb : b ≤ 4294967295) (htab : Pow10 w) :
    Calls Tryd.prog 4 #[.agg #[pv, rv], wv, lv, .int .i64 k0, .int .u32 (b : Int)] w fun e w' => e = .returned (.bool true) ∧ Below w.heap.size w w' := by
  obtain ⟨c, hc⟩ : ∃ c, b + 1 = c := ⟨_, rfl⟩
  have hc0 : 0 < c := by omega
  have HME := Lib.hid (fun (W : World) (h : Below w.heap.size w W) => emean_any pv rv wv ps rs ns L W (hp.below h) (hr.below h) (hw.below h) (by omega))
  have HVA := Lib.hid (fun (W : World) (h : Below w.heap.size w W) => evar_any pv rv wv ps rs ns L W (hp.below h) (hr.below h) (hw.below h) (by omega))
  have HME2 := Lib.hid (fun (W : World) (v : Value) (h : Below w.heap.size w W) (hv : Wts W v (scaleL c ns) (L + 2)) => emean_any pv rv v ps rs (scaleL c ns) (L + 2) W (hp.below h) (hr.below h) hv (by omega))
  have HVA2 := Lib.hid (fun (W : World) (v : Value) (h : Below w.heap.size w W) (hv : Wts W v (scaleL c ns) (L + 2)) => evar_any pv rv v ps rs (scaleL c ns) (L + 2) W (hp.below h) (hr.below h) hv (by omega))
  have HMO := Lib.hid (fun (W : World) (h : Below w.heap.size w W) => emode_any wv ns L W (hw.below h) (by omega))
  have HMO2 := Lib.hid (fun (W : World) (v : Value) (hv : Wts W v (scaleL c ns) (L + 2)) => emode_any v (scaleL c ns) (L + 2) W hv (by omega))
  have HCR := Lib.hid (fun (W : World) (h : Below w.heap.size w W) => ecred_any wv lv ns L M p q W (hw.below h) (hq.below h) hM2 ⟨by omega, hM⟩)
  have HCR2 := Lib.hid (fun (W : World) (v : Value) (h : Below w.heap.size w W) (hv : Wts W v (scaleL c ns) (L + 2)) => ecred_any v lv (scaleL c ns) (L + 2) M p q W hv (hq.below h) hM2 ⟨by omega, hM⟩)
  have HCL := Lib.hid (fun (W : World) (h : Below w.heap.size w W) => eclass_any wv lv ns L M p q k0 W (hw.below h) (hq.below h) hM2 ⟨by omega, hM⟩)
  have HCL2 := Lib.hid (fun (W : World) (v : Value) (h : Below w.heap.size w W) (hv : Wts W v (scaleL c ns) (L + 2)) => eclass_any v lv (scaleL c ns) (L + 2) M p q k0 W hv (hq.below h) hM2 ⟨by omega, hM⟩)
  obtain ⟨m1, m2, m3, m4⟩ := moments_scale ps rs ns hc0
  rw [sumE_scale ps rs ns hc0, m1, m2] at HME2
  rw [sumE_scale ps rs ns hc0, m3, m4] at HVA2
  rw [modeV_scale ns hc0, chkS_scale ns hc0] at HMO2
  rw [(cred_scale ns hc0 p q).1, (cred_scale ns hc0 p q).2] at HCR2
  rw [(class_scale ns hc0 k0 p q).1, (class_scale ns hc0 k0 p q).2] at HCL2
  clear m1 m2 m3 m4
  have HAW := Lib.hid (fun (W : World) (h : Below w.heap.size w W) => awake_any W (htab.below h))
  generalize meanP ps rs ns = P1 at HME HME2
  generalize meanQ ps rs ns = Q1 at HME HME2
  generalize varP ps rs ns = P2 at HVA HVA2
  generalize varQ ps rs ns = Q2 at HVA HVA2
  generalize sumE ps rs ns = E1 at HME HME2 HVA HVA2
  generalize modeV ns = V3 at HMO HMO2
  generalize chkS ns = E3 at HMO HMO2
  generalize (credV ns p q).1 = V4 at HCR HCR2
  generalize (credV ns p q).2 = V5 at HCR HCR2
  generalize credE ns p q = E4 at HCR HCR2
  generalize classV ns k0 p q = V6 at HCL HCL2
  generalize classE ns k0 p q = E6 at HCL HCL2
  have HN := Lib.hid hn
  have HB := Lib.hid hb
  have HC := Lib.hid hc
  have HLL := Lib.hid hL
  obtain ⟨na, QA, qn, qc, QB, qm, qd, rfl⟩ := hq.show_
  obtain ⟨PA, pc, rfl, _, _, _⟩ := hp
  obtain ⟨RV, vc, rfl, _, _, _⟩ := hr
  obtain ⟨WA, wc, us, rfl, _, _, hws, hwu⟩ := hw
  have HWS := Lib.hid hws
  have HWU := Lib.hid hwu
  clear hq hws hwu htab hn hL hM hM2
  obtain ⟨W0, hW0⟩ : ∃ W0 : World, W0 = (w.alloc (.cells #[.slice PA ps.length pc, .slice RV rs.length vc] 37)).alloc (.cells #[.bool na, .slice QA qn qc, .slice QB qm qd] 28) := ⟨_, rfl⟩
  have r0 : Row W0 w.heap.size 37 [.slice PA ps.length pc, .slice RV rs.length vc] := by
    rw [hW0]
    have := Row.alloc (Row.new w 37 [.slice PA ps.length pc, .slice RV rs.length vc]) (.cells #[.bool na, .slice QA qn qc, .slice QB qm qd] 28)
    simpa using this
  have r1 : Row W0 (w.heap.size + 1) 28 [.bool na, .slice QA qn qc, .slice QB qm qd] := by
    rw [hW0]
    have := Row.new (w.alloc (.cells #[.slice PA ps.length pc, .slice RV rs.length vc] 37)) 28 [.bool na, .slice QA qn qc, .slice QB qm qd]
    simpa using this
  have B0 : Below w.heap.size w W0 := by rw [hW0]; exact (((Below.refl _ _).alloc (Nat.le_refl _) _).alloc (by simp) _)
  have u1 : IntKind.u64.wrap (b : Int) = (b : Int) := by rw [IntKind.wrap_u64]; omega
  have u2 : IntKind.u64.wrap ((b : Int) + 1) = (c : Int) := by rw [IntKind.wrap_u64]; omega
  clear hb hc hc0
  have HOF := Lib.hid (fun (W : World) (h : c < 18446744073709551616) => of_any c W h)
  have hc64 : c < 18446744073709551616 := by have h1 := HC.out; have h2 := HB.out; omega
  go_enter Tryd.func4, Tryd.ntmps4
  go_wp2_with fail
  rw [← hW0]
  clear hW0
  have BB := B0
  have hr5 := r0
  have hr7 := r1
  clear B0 r0 r1
  have c50 : W0.cell? ⟨w.heap.size, 0, none⟩ = some (.slice PA ps.length pc) := hr5.cell 0
  have c51 : W0.cell? ⟨w.heap.size, 1, none⟩ = some (.slice RV rs.length vc) := hr5.cell 1
  have c70 : W0.cell? ⟨w.heap.size + 1, 0, none⟩ = some (.bool na) := hr7.cell 0
  have c71 : W0.cell? ⟨w.heap.size + 1, 1, none⟩ = some (.slice QA qn qc) := hr7.cell 1
  have c72 : W0.cell? ⟨w.heap.size + 1, 2, none⟩ = some (.slice QB qm qd) := hr7.cell 2
  have z5 := hr5.lt
  have z7 := hr7.lt
  go_wp2_with fail
  clear c50 c51 c70 c71 c72 z5 z7
  clear u1 u2
  refine (HOF.out _ hc64).mono ?_
  rintro e x1 ⟨vf, rfl, hvf⟩
  have hbf := hvf.bel
  have hnf := hvf.nat
  clear hvf
  obtain ⟨lf, hlf, _, hvlf, hllf⟩ := hnf
  obtain ⟨⟨FA, fcap, rfl, _, _, _⟩, _⟩ := id hlf
  replace hr5 := hr5.keep hbf
  replace hr7 := hr7.keep hbf
  replace BB : Below w.heap.size w x1 := BB.trans (hbf.mono BB.size)
  clear hbf
  have c50 : x1.cell? ⟨w.heap.size, 0, none⟩ = some (.slice PA ps.length pc) := hr5.cell 0
  have c51 : x1.cell? ⟨w.heap.size, 1, none⟩ = some (.slice RV rs.length vc) := hr5.cell 1
  have c70 : x1.cell? ⟨w.heap.size + 1, 0, none⟩ = some (.bool na) := hr7.cell 0
  have c71 : x1.cell? ⟨w.heap.size + 1, 1, none⟩ = some (.slice QA qn qc) := hr7.cell 1
  have c72 : x1.cell? ⟨w.heap.size + 1, 2, none⟩ = some (.slice QB qm qd) := hr7.cell 2
  have z5 := hr5.lt
  have z7 := hr7.lt
  go_wp2_with fail
  clear c50 c51 c70 c71 c72 z5 z7
  obtain ⟨n, hnn⟩ : ∃ n, ns.length = n := ⟨_, rfl⟩
  have HNN := Lib.hid hnn
  rw [hnn] at HWS HN HME HVA HMO HCR HCL ⊢
  clear hnn
  go_loopw [11, 43] (fun lv iv wr => ∃ (k : Nat) (us2 : List Value) (V : Option Addr) (cv : Nat), k ≤ n ∧ iv = .int .i64 (k : Int) ∧ lv = .slice V k cv ∧ CollO wr us2 (scaleL c ns) k (L + 2) (Value.slice V k cv).ownBlock ∧ wr.ownsRow x1.heap.size 24 1 (.slice V k cv) k us2 ∧ Below x1.heap.size x1 wr) (fun _ iv _ => n - (intOf iv).toNat)
  case atStart => exact ⟨0, [], _, 0, by omega, rfl, rfl, CollO.zero _ _ _ _, ⟨rfl, .inl ⟨rfl, rfl⟩⟩, Below.refl _ _⟩
  case round =>
    obtain ⟨k, us2, V, cv, hk, rfl, rfl, hco, hown, hbr⟩ := hrel
    by_cases hlt : k < n
    · obtain ⟨b2, o2, u, rfl, hb2, hcell, la, hla, hva, hll⟩ := lst_at (R := fun w u n => NatAny w u n L) (d := 0) (xs := ns) HWS.out HWU.out hlt
      have hbw := BB.trans (hbr.mono BB.size)
      have g1 := (hbw.cell (p := ⟨b2, o2 + k, none⟩) hb2).trans hcell
      have hla2 := hla.below hbw
      have hlf2 := hlf.below hbr
      have HSG : Hid (val la * val lf = (scaleL c ns).getD k 0) := by
        unfold Hid
        rw [hva, hvlf, scaleL_getN]
      have hLL := HLL.out
      have hNN := HN.out
      clear hcell hla hva
      obtain ⟨⟨UA, uc, rfl, _, _, _⟩, _⟩ := id hla2
      have hltI : (k : Int) < (n : Int) := by omega
      go_wp2_with fail
      refine (mul_any _ _ la lf _ hla2 hlf2 (by omega) (by omega)).mono ?_
      rintro e w2 ⟨v, rfl, hv⟩
      have hbe := hv.bel
      have hown2 := own_keep hown hbe
      have hb3 : Below x1.heap.size x1 w2 := hbr.trans (hbe.mono hbr.size)
      have hoff : Off (Value.slice V k cv).ownBlock v := by
        rcases hx : (Value.slice V k cv).ownBlock with _ | j
        · exact Off.none_ _
        · exact Off.of_fresh hv.fresh ((hown.lt j hx).2)
      have hco2 := (hco.below hbe).snoc (by have h1 := hv.nat.mono (L' := L + 2) (by omega); rw [HSG.out] at h1; exact h1) hoff
      obtain ⟨ls, ⟨⟨X, cx, rfl, _, _, _⟩, _⟩, _⟩ := id hv
      go_wp2_with (at_builtin; refine wpList_append_oneG w2 rfl (.tmp 47) (.tmp 51) 22 rfl x1.heap.size 24 (.slice none 0 0) 24 Tryd.underlying22 infoNat rfl (.slice V k cv) k us2 (.slice X ls.length cx) rfl rfl hown2 rfl (by unfold maxLen; omega) (by omega) hb3.size ?_; intro A' c3 w3 hown3 hb4 hg3 hr3)
      go_roundw
      case rel => exact ⟨k + 1, us2 ++ [.slice X ls.length cx], A', c3, by omega, by go_num, rfl, hco2.grown hg3 hr3, hown3, hb3.trans hb4⟩
      case measure => simp [intOf]; omega
    · obtain rfl : k = n := by omega
      have hltI : ¬ (k : Int) < (k : Int) := by omega
      have hl : (scaleL c ns).length = k := by rw [scaleL_len, HNN.out]
      rw [← hl] at hco
      have hcan := (hco.can (by rw [hl]; exact hown)).wts
      clear hco hown hl hlf
      replace hr5 := hr5.keep hbr
      replace hr7 := hr7.keep hbr
      replace BB : Below w.heap.size w wr := BB.trans (hbr.mono BB.size)
      clear hbr
      have c50 : wr.cell? ⟨w.heap.size, 0, none⟩ = some (.slice PA ps.length pc) := hr5.cell 0
      have c51 : wr.cell? ⟨w.heap.size, 1, none⟩ = some (.slice RV rs.length vc) := hr5.cell 1
      have c70 : wr.cell? ⟨w.heap.size + 1, 0, none⟩ = some (.bool na) := hr7.cell 0
      have c71 : wr.cell? ⟨w.heap.size + 1, 1, none⟩ = some (.slice QA qn qc) := hr7.cell 1
      have c72 : wr.cell? ⟨w.heap.size + 1, 2, none⟩ = some (.slice QB qm qd) := hr7.cell 2
      have z5 := hr5.lt
      have z7 := hr7.lt
      go_wp2_with fail
      clear c50 c51 c70 c71 c72 z5 z7
      refine (HME.out _ BB).mono ?_
      rintro e x21 ⟨v15, rfl, hv15, hb⟩
      replace hr5 := hr5.keep hb
      replace hr7 := hr7.keep hb
      replace hcan := hcan.below hb
      replace BB : Below w.heap.size w x21 := BB.trans (hb.mono BB.size)
      clear hb
      have h15' := hv15
      obtain ⟨m15, d15, e15, hm15, hd15, _, _⟩ := h15'
      subst e15
      obtain ⟨A15, k15, c15, rfl⟩ := hm15.lim1.choose_spec.1.show_
      obtain ⟨D15, l15, b15, rfl⟩ := hd15.lim1.choose_spec.1.show_
      clear hm15 hd15
      obtain ⟨g15, hg15⟩ : ∃ g, x21.heap.size = g := ⟨_, rfl⟩
      have hr15 : Row (x21.alloc (.cells #[.bool (decide (P1 < 0)), .slice A15 k15 c15, .slice D15 l15 b15] 28)) g15 28 [.bool (decide (P1 < 0)), .slice A15 k15 c15, .slice D15 l15 b15] := row_at hg15
      have hl := lit_below x21 (.cells #[.bool (decide (P1 < 0)), .slice A15 k15 c15, .slice D15 l15 b15] 28)
      have o5_15 : w.heap.size < g15 := by have := hr5.lt; omega
      have o7_15 : w.heap.size + 1 < g15 := by have := hr7.lt; omega
      have ob_15 : w.heap.size ≤ g15 := by have := BB.size; omega
      have c50 : x21.cell? ⟨w.heap.size, 0, none⟩ = some (.slice PA ps.length pc) := hr5.cell 0
      have c51 : x21.cell? ⟨w.heap.size, 1, none⟩ = some (.slice RV rs.length vc) := hr5.cell 1
      have c70 : x21.cell? ⟨w.heap.size + 1, 0, none⟩ = some (.bool na) := hr7.cell 0
      have c71 : x21.cell? ⟨w.heap.size + 1, 1, none⟩ = some (.slice QA qn qc) := hr7.cell 1
      have c72 : x21.cell? ⟨w.heap.size + 1, 2, none⟩ = some (.slice QB qm qd) := hr7.cell 2
      have d50 : (x21.alloc (.cells #[.bool (decide (P1 < 0)), .slice A15 k15 c15, .slice D15 l15 b15] 28)).cell? ⟨w.heap.size, 0, none⟩ = some (.slice PA ps.length pc) := (hr5.alloc _).cell 0
      have d51 : (x21.alloc (.cells #[.bool (decide (P1 < 0)), .slice A15 k15 c15, .slice D15 l15 b15] 28)).cell? ⟨w.heap.size, 1, none⟩ = some (.slice RV rs.length vc) := (hr5.alloc _).cell 1
      have d70 : (x21.alloc (.cells #[.bool (decide (P1 < 0)), .slice A15 k15 c15, .slice D15 l15 b15] 28)).cell? ⟨w.heap.size + 1, 0, none⟩ = some (.bool na) := (hr7.alloc _).cell 0
      have d71 : (x21.alloc (.cells #[.bool (decide (P1 < 0)), .slice A15 k15 c15, .slice D15 l15 b15] 28)).cell? ⟨w.heap.size + 1, 1, none⟩ = some (.slice QA qn qc) := (hr7.alloc _).cell 1
      have d72 : (x21.alloc (.cells #[.bool (decide (P1 < 0)), .slice A15 k15 c15, .slice D15 l15 b15] 28)).cell? ⟨w.heap.size + 1, 2, none⟩ = some (.slice QB qm qd) := (hr7.alloc _).cell 2
      have e0 : (x21.alloc (.cells #[.bool (decide (P1 < 0)), .slice A15 k15 c15, .slice D15 l15 b15] 28)).cell? ⟨g15, 0, none⟩ = some (.bool (decide (P1 < 0))) := hr15.cell 0
      have e1 : (x21.alloc (.cells #[.bool (decide (P1 < 0)), .slice A15 k15 c15, .slice D15 l15 b15] 28)).cell? ⟨g15, 1, none⟩ = some (.slice A15 k15 c15) := hr15.cell 1
      have e2 : (x21.alloc (.cells #[.bool (decide (P1 < 0)), .slice A15 k15 c15, .slice D15 l15 b15] 28)).cell? ⟨g15, 2, none⟩ = some (.slice D15 l15 b15) := hr15.cell 2
      go_wp2_with fail
      clear c50 c51 c70 c71 c72 d50 d51 d70 d71 d72 e0 e1 e2
      clear hg15
      generalize (x21.alloc (.cells #[.bool (decide (P1 < 0)), .slice A15 k15 c15, .slice D15 l15 b15] 28)) = x22 at *
      replace hr5 := hr5.keep hl
      replace hr7 := hr7.keep hl
      replace hcan := hcan.below hl
      replace hv15 := hv15.below hl
      replace BB : Below w.heap.size w x22 := BB.trans (hl.mono BB.size)
      clear hl
      refine (HME2.out _ _ BB hcan).mono ?_
      rintro e x23 ⟨v17, rfl, hv17, hb⟩
      replace hr5 := hr5.keep hb
      replace hr7 := hr7.keep hb
      replace hcan := hcan.below hb
      replace hv15 := hv15.below hb
      replace hr15 := hr15.keep hb
      replace BB : Below w.heap.size w x23 := BB.trans (hb.mono BB.size)
      clear hb
      have h17' := hv17
      obtain ⟨m17, d17, e17, hm17, hd17, _, _⟩ := h17'
      subst e17
      obtain ⟨A17, k17, c17, rfl⟩ := hm17.lim1.choose_spec.1.show_
      obtain ⟨D17, l17, b17, rfl⟩ := hd17.lim1.choose_spec.1.show_
      clear hm17 hd17
      obtain ⟨g17, hg17⟩ : ∃ g, x23.heap.size = g := ⟨_, rfl⟩
      have hr17 : Row (x23.alloc (.cells #[.bool (decide (P1 < 0)), .slice A17 k17 c17, .slice D17 l17 b17] 28)) g17 28 [.bool (decide (P1 < 0)), .slice A17 k17 c17, .slice D17 l17 b17] := row_at hg17
      have hl := lit_below x23 (.cells #[.bool (decide (P1 < 0)), .slice A17 k17 c17, .slice D17 l17 b17] 28)
      have o5_17 : w.heap.size < g17 := by have := hr5.lt; omega
      have o7_17 : w.heap.size + 1 < g17 := by have := hr7.lt; omega
      have o15_17 : g15 < g17 := by have := hr15.lt; omega
      have ob_17 : w.heap.size ≤ g17 := by have := BB.size; omega
      have c50 : x23.cell? ⟨w.heap.size, 0, none⟩ = some (.slice PA ps.length pc) := hr5.cell 0
      have c51 : x23.cell? ⟨w.heap.size, 1, none⟩ = some (.slice RV rs.length vc) := hr5.cell 1
      have c70 : x23.cell? ⟨w.heap.size + 1, 0, none⟩ = some (.bool na) := hr7.cell 0
      have c71 : x23.cell? ⟨w.heap.size + 1, 1, none⟩ = some (.slice QA qn qc) := hr7.cell 1
      have c72 : x23.cell? ⟨w.heap.size + 1, 2, none⟩ = some (.slice QB qm qd) := hr7.cell 2
      have c150 : x23.cell? ⟨g15, 0, none⟩ = some (.bool (decide (P1 < 0))) := hr15.cell 0
      have c151 : x23.cell? ⟨g15, 1, none⟩ = some (.slice A15 k15 c15) := hr15.cell 1
      have c152 : x23.cell? ⟨g15, 2, none⟩ = some (.slice D15 l15 b15) := hr15.cell 2
      have d50 : (x23.alloc (.cells #[.bool (decide (P1 < 0)), .slice A17 k17 c17, .slice D17 l17 b17] 28)).cell? ⟨w.heap.size, 0, none⟩ = some (.slice PA ps.length pc) := (hr5.alloc _).cell 0
      have d51 : (x23.alloc (.cells #[.bool (decide (P1 < 0)), .slice A17 k17 c17, .slice D17 l17 b17] 28)).cell? ⟨w.heap.size, 1, none⟩ = some (.slice RV rs.length vc) := (hr5.alloc _).cell 1
      have d70 : (x23.alloc (.cells #[.bool (decide (P1 < 0)), .slice A17 k17 c17, .slice D17 l17 b17] 28)).cell? ⟨w.heap.size + 1, 0, none⟩ = some (.bool na) := (hr7.alloc _).cell 0
      have d71 : (x23.alloc (.cells #[.bool (decide (P1 < 0)), .slice A17 k17 c17, .slice D17 l17 b17] 28)).cell? ⟨w.heap.size + 1, 1, none⟩ = some (.slice QA qn qc) := (hr7.alloc _).cell 1
      have d72 : (x23.alloc (.cells #[.bool (decide (P1 < 0)), .slice A17 k17 c17, .slice D17 l17 b17] 28)).cell? ⟨w.heap.size + 1, 2, none⟩ = some (.slice QB qm qd) := (hr7.alloc _).cell 2
      have d150 : (x23.alloc (.cells #[.bool (decide (P1 < 0)), .slice A17 k17 c17, .slice D17 l17 b17] 28)).cell? ⟨g15, 0, none⟩ = some (.bool (decide (P1 < 0))) := (hr15.alloc _).cell 0
      have d151 : (x23.alloc (.cells #[.bool (decide (P1 < 0)), .slice A17 k17 c17, .slice D17 l17 b17] 28)).cell? ⟨g15, 1, none⟩ = some (.slice A15 k15 c15) := (hr15.alloc _).cell 1
      have d152 : (x23.alloc (.cells #[.bool (decide (P1 < 0)), .slice A17 k17 c17, .slice D17 l17 b17] 28)).cell? ⟨g15, 2, none⟩ = some (.slice D15 l15 b15) := (hr15.alloc _).cell 2
      have e0 : (x23.alloc (.cells #[.bool (decide (P1 < 0)), .slice A17 k17 c17, .slice D17 l17 b17] 28)).cell? ⟨g17, 0, none⟩ = some (.bool (decide (P1 < 0))) := hr17.cell 0
      have e1 : (x23.alloc (.cells #[.bool (decide (P1 < 0)), .slice A17 k17 c17, .slice D17 l17 b17] 28)).cell? ⟨g17, 1, none⟩ = some (.slice A17 k17 c17) := hr17.cell 1
      have e2 : (x23.alloc (.cells #[.bool (decide (P1 < 0)), .slice A17 k17 c17, .slice D17 l17 b17] 28)).cell? ⟨g17, 2, none⟩ = some (.slice D17 l17 b17) := hr17.cell 2
      go_wp2_with fail
      clear c50 c51 c70 c71 c72 c150 c151 c152 d50 d51 d70 d71 d72 d150 d151 d152 e0 e1 e2
      clear hg17
      generalize (x23.alloc (.cells #[.bool (decide (P1 < 0)), .slice A17 k17 c17, .slice D17 l17 b17] 28)) = x24 at *
      replace hr5 := hr5.keep hl
      replace hr7 := hr7.keep hl
      replace hcan := hcan.below hl
      replace hv15 := hv15.below hl
      replace hr15 := hr15.keep hl
      replace hv17 := hv17.below hl
      replace BB : Below w.heap.size w x24 := BB.trans (hl.mono BB.size)
      clear hl
      refine (HVA.out _ BB).mono ?_
      rintro e x25 ⟨v19, rfl, hv19, hb⟩
      replace hr5 := hr5.keep hb
      replace hr7 := hr7.keep hb
      replace hcan := hcan.below hb
      replace hv15 := hv15.below hb
      replace hr15 := hr15.keep hb
      replace hv17 := hv17.below hb
      replace hr17 := hr17.keep hb
      replace BB : Below w.heap.size w x25 := BB.trans (hb.mono BB.size)
      clear hb
      have h19' := hv19
      obtain ⟨m19, d19, e19, hm19, hd19, _, _⟩ := h19'
      subst e19
      obtain ⟨A19, k19, c19, rfl⟩ := hm19.lim1.choose_spec.1.show_
      obtain ⟨D19, l19, b19, rfl⟩ := hd19.lim1.choose_spec.1.show_
      clear hm19 hd19
      obtain ⟨g19, hg19⟩ : ∃ g, x25.heap.size = g := ⟨_, rfl⟩
      have hr19 : Row (x25.alloc (.cells #[.bool (decide (P2 < 0)), .slice A19 k19 c19, .slice D19 l19 b19] 28)) g19 28 [.bool (decide (P2 < 0)), .slice A19 k19 c19, .slice D19 l19 b19] := row_at hg19
      have hl := lit_below x25 (.cells #[.bool (decide (P2 < 0)), .slice A19 k19 c19, .slice D19 l19 b19] 28)
      have o5_19 : w.heap.size < g19 := by have := hr5.lt; omega
      have o7_19 : w.heap.size + 1 < g19 := by have := hr7.lt; omega
      have o15_19 : g15 < g19 := by have := hr15.lt; omega
      have o17_19 : g17 < g19 := by have := hr17.lt; omega
      have ob_19 : w.heap.size ≤ g19 := by have := BB.size; omega
      have c50 : x25.cell? ⟨w.heap.size, 0, none⟩ = some (.slice PA ps.length pc) := hr5.cell 0
      have c51 : x25.cell? ⟨w.heap.size, 1, none⟩ = some (.slice RV rs.length vc) := hr5.cell 1
      have c70 : x25.cell? ⟨w.heap.size + 1, 0, none⟩ = some (.bool na) := hr7.cell 0
      have c71 : x25.cell? ⟨w.heap.size + 1, 1, none⟩ = some (.slice QA qn qc) := hr7.cell 1
      have c72 : x25.cell? ⟨w.heap.size + 1, 2, none⟩ = some (.slice QB qm qd) := hr7.cell 2
      have c150 : x25.cell? ⟨g15, 0, none⟩ = some (.bool (decide (P1 < 0))) := hr15.cell 0
      have c151 : x25.cell? ⟨g15, 1, none⟩ = some (.slice A15 k15 c15) := hr15.cell 1
      have c152 : x25.cell? ⟨g15, 2, none⟩ = some (.slice D15 l15 b15) := hr15.cell 2
      have c170 : x25.cell? ⟨g17, 0, none⟩ = some (.bool (decide (P1 < 0))) := hr17.cell 0
      have c171 : x25.cell? ⟨g17, 1, none⟩ = some (.slice A17 k17 c17) := hr17.cell 1
      have c172 : x25.cell? ⟨g17, 2, none⟩ = some (.slice D17 l17 b17) := hr17.cell 2
      have d50 : (x25.alloc (.cells #[.bool (decide (P2 < 0)), .slice A19 k19 c19, .slice D19 l19 b19] 28)).cell? ⟨w.heap.size, 0, none⟩ = some (.slice PA ps.length pc) := (hr5.alloc _).cell 0
      have d51 : (x25.alloc (.cells #[.bool (decide (P2 < 0)), .slice A19 k19 c19, .slice D19 l19 b19] 28)).cell? ⟨w.heap.size, 1, none⟩ = some (.slice RV rs.length vc) := (hr5.alloc _).cell 1
      have d70 : (x25.alloc (.cells #[.bool (decide (P2 < 0)), .slice A19 k19 c19, .slice D19 l19 b19] 28)).cell? ⟨w.heap.size + 1, 0, none⟩ = some (.bool na) := (hr7.alloc _).cell 0
      have d71 : (x25.alloc (.cells #[.bool (decide (P2 < 0)), .slice A19 k19 c19, .slice D19 l19 b19] 28)).cell? ⟨w.heap.size + 1, 1, none⟩ = some (.slice QA qn qc) := (hr7.alloc _).cell 1
      have d72 : (x25.alloc (.cells #[.bool (decide (P2 < 0)), .slice A19 k19 c19, .slice D19 l19 b19] 28)).cell? ⟨w.heap.size + 1, 2, none⟩ = some (.slice QB qm qd) := (hr7.alloc _).cell 2
      have d150 : (x25.alloc (.cells #[.bool (decide (P2 < 0)), .slice A19 k19 c19, .slice D19 l19 b19] 28)).cell? ⟨g15, 0, none⟩ = some (.bool (decide (P1 < 0))) := (hr15.alloc _).cell 0
      have d151 : (x25.alloc (.cells #[.bool (decide (P2 < 0)), .slice A19 k19 c19, .slice D19 l19 b19] 28)).cell? ⟨g15, 1, none⟩ = some (.slice A15 k15 c15) := (hr15.alloc _).cell 1
      have d152 : (x25.alloc (.cells #[.bool (decide (P2 < 0)), .slice A19 k19 c19, .slice D19 l19 b19] 28)).cell? ⟨g15, 2, none⟩ = some (.slice D15 l15 b15) := (hr15.alloc _).cell 2
      have d170 : (x25.alloc (.cells #[.bool (decide (P2 < 0)), .slice A19 k19 c19, .slice D19 l19 b19] 28)).cell? ⟨g17, 0, none⟩ = some (.bool (decide (P1 < 0))) := (hr17.alloc _).cell 0
      have d171 : (x25.alloc (.cells #[.bool (decide (P2 < 0)), .slice A19 k19 c19, .slice D19 l19 b19] 28)).cell? ⟨g17, 1, none⟩ = some (.slice A17 k17 c17) := (hr17.alloc _).cell 1
      have d172 : (x25.alloc (.cells #[.bool (decide (P2 < 0)), .slice A19 k19 c19, .slice D19 l19 b19] 28)).cell? ⟨g17, 2, none⟩ = some (.slice D17 l17 b17) := (hr17.alloc _).cell 2
      have e0 : (x25.alloc (.cells #[.bool (decide (P2 < 0)), .slice A19 k19 c19, .slice D19 l19 b19] 28)).cell? ⟨g19, 0, none⟩ = some (.bool (decide (P2 < 0))) := hr19.cell 0
      have e1 : (x25.alloc (.cells #[.bool (decide (P2 < 0)), .slice A19 k19 c19, .slice D19 l19 b19] 28)).cell? ⟨g19, 1, none⟩ = some (.slice A19 k19 c19) := hr19.cell 1
      have e2 : (x25.alloc (.cells #[.bool (decide (P2 < 0)), .slice A19 k19 c19, .slice D19 l19 b19] 28)).cell? ⟨g19, 2, none⟩ = some (.slice D19 l19 b19) := hr19.cell 2
      go_wp2_with fail
      clear c50 c51 c70 c71 c72 c150 c151 c152 c170 c171 c172 d50 d51 d70 d71 d72 d150 d151 d152 d170 d171 d172 e0 e1 e2
      clear hg19
      generalize (x25.alloc (.cells #[.bool (decide (P2 < 0)), .slice A19 k19 c19, .slice D19 l19 b19] 28)) = x26 at *
      replace hr5 := hr5.keep hl
      replace hr7 := hr7.keep hl
      replace hcan := hcan.below hl
      replace hv15 := hv15.below hl
      replace hr15 := hr15.keep hl
      replace hv17 := hv17.below hl
      replace hr17 := hr17.keep hl
      replace hv19 := hv19.below hl
      replace BB : Below w.heap.size w x26 := BB.trans (hl.mono BB.size)
      clear hl
      refine (HVA2.out _ _ BB hcan).mono ?_
      rintro e x27 ⟨v21, rfl, hv21, hb⟩
      replace hr5 := hr5.keep hb
      replace hr7 := hr7.keep hb
      replace hcan := hcan.below hb
      replace hv15 := hv15.below hb
      replace hr15 := hr15.keep hb
      replace hv17 := hv17.below hb
      replace hr17 := hr17.keep hb
      replace hv19 := hv19.below hb
      replace hr19 := hr19.keep hb
      replace BB : Below w.heap.size w x27 := BB.trans (hb.mono BB.size)
      clear hb
      have h21' := hv21
      obtain ⟨m21, d21, e21, hm21, hd21, _, _⟩ := h21'
      subst e21
      obtain ⟨A21, k21, c21, rfl⟩ := hm21.lim1.choose_spec.1.show_
      obtain ⟨D21, l21, b21, rfl⟩ := hd21.lim1.choose_spec.1.show_
      clear hm21 hd21
      obtain ⟨g21, hg21⟩ : ∃ g, x27.heap.size = g := ⟨_, rfl⟩
      have hr21 : Row (x27.alloc (.cells #[.bool (decide (P2 < 0)), .slice A21 k21 c21, .slice D21 l21 b21] 28)) g21 28 [.bool (decide (P2 < 0)), .slice A21 k21 c21, .slice D21 l21 b21] := row_at hg21
      have hl := lit_below x27 (.cells #[.bool (decide (P2 < 0)), .slice A21 k21 c21, .slice D21 l21 b21] 28)
      have o5_21 : w.heap.size < g21 := by have := hr5.lt; omega
      have o7_21 : w.heap.size + 1 < g21 := by have := hr7.lt; omega
      have o15_21 : g15 < g21 := by have := hr15.lt; omega
      have o17_21 : g17 < g21 := by have := hr17.lt; omega
      have o19_21 : g19 < g21 := by have := hr19.lt; omega
      have ob_21 : w.heap.size ≤ g21 := by have := BB.size; omega
      have c50 : x27.cell? ⟨w.heap.size, 0, none⟩ = some (.slice PA ps.length pc) := hr5.cell 0
      have c51 : x27.cell? ⟨w.heap.size, 1, none⟩ = some (.slice RV rs.length vc) := hr5.cell 1
      have c70 : x27.cell? ⟨w.heap.size + 1, 0, none⟩ = some (.bool na) := hr7.cell 0
      have c71 : x27.cell? ⟨w.heap.size + 1, 1, none⟩ = some (.slice QA qn qc) := hr7.cell 1
      have c72 : x27.cell? ⟨w.heap.size + 1, 2, none⟩ = some (.slice QB qm qd) := hr7.cell 2
      have c150 : x27.cell? ⟨g15, 0, none⟩ = some (.bool (decide (P1 < 0))) := hr15.cell 0
      have c151 : x27.cell? ⟨g15, 1, none⟩ = some (.slice A15 k15 c15) := hr15.cell 1
      have c152 : x27.cell? ⟨g15, 2, none⟩ = some (.slice D15 l15 b15) := hr15.cell 2
      have c170 : x27.cell? ⟨g17, 0, none⟩ = some (.bool (decide (P1 < 0))) := hr17.cell 0
      have c171 : x27.cell? ⟨g17, 1, none⟩ = some (.slice A17 k17 c17) := hr17.cell 1
      have c172 : x27.cell? ⟨g17, 2, none⟩ = some (.slice D17 l17 b17) := hr17.cell 2
      have c190 : x27.cell? ⟨g19, 0, none⟩ = some (.bool (decide (P2 < 0))) := hr19.cell 0
      have c191 : x27.cell? ⟨g19, 1, none⟩ = some (.slice A19 k19 c19) := hr19.cell 1
      have c192 : x27.cell? ⟨g19, 2, none⟩ = some (.slice D19 l19 b19) := hr19.cell 2
      have d50 : (x27.alloc (.cells #[.bool (decide (P2 < 0)), .slice A21 k21 c21, .slice D21 l21 b21] 28)).cell? ⟨w.heap.size, 0, none⟩ = some (.slice PA ps.length pc) := (hr5.alloc _).cell 0
      have d51 : (x27.alloc (.cells #[.bool (decide (P2 < 0)), .slice A21 k21 c21, .slice D21 l21 b21] 28)).cell? ⟨w.heap.size, 1, none⟩ = some (.slice RV rs.length vc) := (hr5.alloc _).cell 1
      have d70 : (x27.alloc (.cells #[.bool (decide (P2 < 0)), .slice A21 k21 c21, .slice D21 l21 b21] 28)).cell? ⟨w.heap.size + 1, 0, none⟩ = some (.bool na) := (hr7.alloc _).cell 0
      have d71 : (x27.alloc (.cells #[.bool (decide (P2 < 0)), .slice A21 k21 c21, .slice D21 l21 b21] 28)).cell? ⟨w.heap.size + 1, 1, none⟩ = some (.slice QA qn qc) := (hr7.alloc _).cell 1
      have d72 : (x27.alloc (.cells #[.bool (decide (P2 < 0)), .slice A21 k21 c21, .slice D21 l21 b21] 28)).cell? ⟨w.heap.size + 1, 2, none⟩ = some (.slice QB qm qd) := (hr7.alloc _).cell 2
      have d150 : (x27.alloc (.cells #[.bool (decide (P2 < 0)), .slice A21 k21 c21, .slice D21 l21 b21] 28)).cell? ⟨g15, 0, none⟩ = some (.bool (decide (P1 < 0))) := (hr15.alloc _).cell 0
      have d151 : (x27.alloc (.cells #[.bool (decide (P2 < 0)), .slice A21 k21 c21, .slice D21 l21 b21] 28)).cell? ⟨g15, 1, none⟩ = some (.slice A15 k15 c15) := (hr15.alloc _).cell 1
      have d152 : (x27.alloc (.cells #[.bool (decide (P2 < 0)), .slice A21 k21 c21, .slice D21 l21 b21] 28)).cell? ⟨g15, 2, none⟩ = some (.slice D15 l15 b15) := (hr15.alloc _).cell 2
      have d170 : (x27.alloc (.cells #[.bool (decide (P2 < 0)), .slice A21 k21 c21, .slice D21 l21 b21] 28)).cell? ⟨g17, 0, none⟩ = some (.bool (decide (P1 < 0))) := (hr17.alloc _).cell 0
      have d171 : (x27.alloc (.cells #[.bool (decide (P2 < 0)), .slice A21 k21 c21, .slice D21 l21 b21] 28)).cell? ⟨g17, 1, none⟩ = some (.slice A17 k17 c17) := (hr17.alloc _).cell 1
      have d172 : (x27.alloc (.cells #[.bool (decide (P2 < 0)), .slice A21 k21 c21, .slice D21 l21 b21] 28)).cell? ⟨g17, 2, none⟩ = some (.slice D17 l17 b17) := (hr17.alloc _).cell 2
      have d190 : (x27.alloc (.cells #[.bool (decide (P2 < 0)), .slice A21 k21 c21, .slice D21 l21 b21] 28)).cell? ⟨g19, 0, none⟩ = some (.bool (decide (P2 < 0))) := (hr19.alloc _).cell 0
      have d191 : (x27.alloc (.cells #[.bool (decide (P2 < 0)), .slice A21 k21 c21, .slice D21 l21 b21] 28)).cell? ⟨g19, 1, none⟩ = some (.slice A19 k19 c19) := (hr19.alloc _).cell 1
      have d192 : (x27.alloc (.cells #[.bool (decide (P2 < 0)), .slice A21 k21 c21, .slice D21 l21 b21] 28)).cell? ⟨g19, 2, none⟩ = some (.slice D19 l19 b19) := (hr19.alloc _).cell 2
      have e0 : (x27.alloc (.cells #[.bool (decide (P2 < 0)), .slice A21 k21 c21, .slice D21 l21 b21] 28)).cell? ⟨g21, 0, none⟩ = some (.bool (decide (P2 < 0))) := hr21.cell 0
      have e1 : (x27.alloc (.cells #[.bool (decide (P2 < 0)), .slice A21 k21 c21, .slice D21 l21 b21] 28)).cell? ⟨g21, 1, none⟩ = some (.slice A21 k21 c21) := hr21.cell 1
      have e2 : (x27.alloc (.cells #[.bool (decide (P2 < 0)), .slice A21 k21 c21, .slice D21 l21 b21] 28)).cell? ⟨g21, 2, none⟩ = some (.slice D21 l21 b21) := hr21.cell 2
      go_wp2_with fail
      clear c50 c51 c70 c71 c72 c150 c151 c152 c170 c171 c172 c190 c191 c192 d50 d51 d70 d71 d72 d150 d151 d152 d170 d171 d172 d190 d191 d192 e0 e1 e2
      clear hg21
      generalize (x27.alloc (.cells #[.bool (decide (P2 < 0)), .slice A21 k21 c21, .slice D21 l21 b21] 28)) = x28 at *
      replace hr5 := hr5.keep hl
      replace hr7 := hr7.keep hl
      replace hcan := hcan.below hl
      replace hv15 := hv15.below hl
      replace hr15 := hr15.keep hl
      replace hv17 := hv17.below hl
      replace hr17 := hr17.keep hl
      replace hv19 := hv19.below hl
      replace hr19 := hr19.keep hl
      replace hv21 := hv21.below hl
      replace BB : Below w.heap.size w x28 := BB.trans (hl.mono BB.size)
      clear hl
      have z1 : (E1 != E1) = false := by simp
      refine (equal_yes _ _ _ _ _ _ _ _ _ hv15 hv17).mono ?_
      rintro e x29 ⟨rfl, hb⟩
      replace hr5 := hr5.keep hb
      replace hr7 := hr7.keep hb
      replace hcan := hcan.below hb
      replace hv15 := hv15.below hb
      replace hr15 := hr15.keep hb
      replace hv17 := hv17.below hb
      replace hr17 := hr17.keep hb
      replace hv19 := hv19.below hb
      replace hr19 := hr19.keep hb
      replace hv21 := hv21.below hb
      replace hr21 := hr21.keep hb
      replace BB : Below w.heap.size w x29 := BB.trans (hb.mono BB.size)
      clear hb
      have c50 : x29.cell? ⟨w.heap.size, 0, none⟩ = some (.slice PA ps.length pc) := hr5.cell 0
      have c51 : x29.cell? ⟨w.heap.size, 1, none⟩ = some (.slice RV rs.length vc) := hr5.cell 1
      have c70 : x29.cell? ⟨w.heap.size + 1, 0, none⟩ = some (.bool na) := hr7.cell 0
      have c71 : x29.cell? ⟨w.heap.size + 1, 1, none⟩ = some (.slice QA qn qc) := hr7.cell 1
      have c72 : x29.cell? ⟨w.heap.size + 1, 2, none⟩ = some (.slice QB qm qd) := hr7.cell 2
      have c150 : x29.cell? ⟨g15, 0, none⟩ = some (.bool (decide (P1 < 0))) := hr15.cell 0
      have c151 : x29.cell? ⟨g15, 1, none⟩ = some (.slice A15 k15 c15) := hr15.cell 1
      have c152 : x29.cell? ⟨g15, 2, none⟩ = some (.slice D15 l15 b15) := hr15.cell 2
      have c170 : x29.cell? ⟨g17, 0, none⟩ = some (.bool (decide (P1 < 0))) := hr17.cell 0
      have c171 : x29.cell? ⟨g17, 1, none⟩ = some (.slice A17 k17 c17) := hr17.cell 1
      have c172 : x29.cell? ⟨g17, 2, none⟩ = some (.slice D17 l17 b17) := hr17.cell 2
      have c190 : x29.cell? ⟨g19, 0, none⟩ = some (.bool (decide (P2 < 0))) := hr19.cell 0
      have c191 : x29.cell? ⟨g19, 1, none⟩ = some (.slice A19 k19 c19) := hr19.cell 1
      have c192 : x29.cell? ⟨g19, 2, none⟩ = some (.slice D19 l19 b19) := hr19.cell 2
      have c210 : x29.cell? ⟨g21, 0, none⟩ = some (.bool (decide (P2 < 0))) := hr21.cell 0
      have c211 : x29.cell? ⟨g21, 1, none⟩ = some (.slice A21 k21 c21) := hr21.cell 1
      have c212 : x29.cell? ⟨g21, 2, none⟩ = some (.slice D21 l21 b21) := hr21.cell 2
      have z5 := hr5.lt
      have z7 := hr7.lt
      have z15 := hr15.lt
      have z17 := hr17.lt
      have z19 := hr19.lt
      have z21 := hr21.lt
      go_wp2_with fail
      clear c50 c51 c70 c71 c72 c150 c151 c152 c170 c171 c172 c190 c191 c192 c210 c211 c212 z5 z7 z15 z17 z19 z21
      refine (equal_yes _ _ _ _ _ _ _ _ _ hv19 hv21).mono ?_
      rintro e x30 ⟨rfl, hb⟩
      replace hr5 := hr5.keep hb
      replace hr7 := hr7.keep hb
      replace hcan := hcan.below hb
      replace hv15 := hv15.below hb
      replace hr15 := hr15.keep hb
      replace hv17 := hv17.below hb
      replace hr17 := hr17.keep hb
      replace hv19 := hv19.below hb
      replace hr19 := hr19.keep hb
      replace hv21 := hv21.below hb
      replace hr21 := hr21.keep hb
      replace BB : Below w.heap.size w x30 := BB.trans (hb.mono BB.size)
      clear hb
      have c50 : x30.cell? ⟨w.heap.size, 0, none⟩ = some (.slice PA ps.length pc) := hr5.cell 0
      have c51 : x30.cell? ⟨w.heap.size, 1, none⟩ = some (.slice RV rs.length vc) := hr5.cell 1
      have c70 : x30.cell? ⟨w.heap.size + 1, 0, none⟩ = some (.bool na) := hr7.cell 0
      have c71 : x30.cell? ⟨w.heap.size + 1, 1, none⟩ = some (.slice QA qn qc) := hr7.cell 1
      have c72 : x30.cell? ⟨w.heap.size + 1, 2, none⟩ = some (.slice QB qm qd) := hr7.cell 2
      have c150 : x30.cell? ⟨g15, 0, none⟩ = some (.bool (decide (P1 < 0))) := hr15.cell 0
      have c151 : x30.cell? ⟨g15, 1, none⟩ = some (.slice A15 k15 c15) := hr15.cell 1
      have c152 : x30.cell? ⟨g15, 2, none⟩ = some (.slice D15 l15 b15) := hr15.cell 2
      have c170 : x30.cell? ⟨g17, 0, none⟩ = some (.bool (decide (P1 < 0))) := hr17.cell 0
      have c171 : x30.cell? ⟨g17, 1, none⟩ = some (.slice A17 k17 c17) := hr17.cell 1
      have c172 : x30.cell? ⟨g17, 2, none⟩ = some (.slice D17 l17 b17) := hr17.cell 2
      have c190 : x30.cell? ⟨g19, 0, none⟩ = some (.bool (decide (P2 < 0))) := hr19.cell 0
      have c191 : x30.cell? ⟨g19, 1, none⟩ = some (.slice A19 k19 c19) := hr19.cell 1
      have c192 : x30.cell? ⟨g19, 2, none⟩ = some (.slice D19 l19 b19) := hr19.cell 2
      have c210 : x30.cell? ⟨g21, 0, none⟩ = some (.bool (decide (P2 < 0))) := hr21.cell 0
      have c211 : x30.cell? ⟨g21, 1, none⟩ = some (.slice A21 k21 c21) := hr21.cell 1
      have c212 : x30.cell? ⟨g21, 2, none⟩ = some (.slice D21 l21 b21) := hr21.cell 2
      have z5 := hr5.lt
      have z7 := hr7.lt
      have z15 := hr15.lt
      have z17 := hr17.lt
      have z19 := hr19.lt
      have z21 := hr21.lt
      go_wp2_with fail
      clear c50 c51 c70 c71 c72 c150 c151 c152 c170 c171 c172 c190 c191 c192 c210 c211 c212 z5 z7 z15 z17 z19 z21
      clear z1
      refine (HMO.out _ BB).mono ?_
      rintro e x31 ⟨rfl, hb⟩
      replace hr5 := hr5.keep hb
      replace hr7 := hr7.keep hb
      replace hcan := hcan.below hb
      replace hv15 := hv15.below hb
      replace hr15 := hr15.keep hb
      replace hv17 := hv17.below hb
      replace hr17 := hr17.keep hb
      replace hv19 := hv19.below hb
      replace hr19 := hr19.keep hb
      replace hv21 := hv21.below hb
      replace hr21 := hr21.keep hb
      replace BB : Below w.heap.size w x31 := BB.trans (hb.mono BB.size)
      clear hb
      have c50 : x31.cell? ⟨w.heap.size, 0, none⟩ = some (.slice PA ps.length pc) := hr5.cell 0
      have c51 : x31.cell? ⟨w.heap.size, 1, none⟩ = some (.slice RV rs.length vc) := hr5.cell 1
      have c70 : x31.cell? ⟨w.heap.size + 1, 0, none⟩ = some (.bool na) := hr7.cell 0
      have c71 : x31.cell? ⟨w.heap.size + 1, 1, none⟩ = some (.slice QA qn qc) := hr7.cell 1
      have c72 : x31.cell? ⟨w.heap.size + 1, 2, none⟩ = some (.slice QB qm qd) := hr7.cell 2
      have c150 : x31.cell? ⟨g15, 0, none⟩ = some (.bool (decide (P1 < 0))) := hr15.cell 0
      have c151 : x31.cell? ⟨g15, 1, none⟩ = some (.slice A15 k15 c15) := hr15.cell 1
      have c152 : x31.cell? ⟨g15, 2, none⟩ = some (.slice D15 l15 b15) := hr15.cell 2
      have c170 : x31.cell? ⟨g17, 0, none⟩ = some (.bool (decide (P1 < 0))) := hr17.cell 0
      have c171 : x31.cell? ⟨g17, 1, none⟩ = some (.slice A17 k17 c17) := hr17.cell 1
      have c172 : x31.cell? ⟨g17, 2, none⟩ = some (.slice D17 l17 b17) := hr17.cell 2
      have c190 : x31.cell? ⟨g19, 0, none⟩ = some (.bool (decide (P2 < 0))) := hr19.cell 0
      have c191 : x31.cell? ⟨g19, 1, none⟩ = some (.slice A19 k19 c19) := hr19.cell 1
      have c192 : x31.cell? ⟨g19, 2, none⟩ = some (.slice D19 l19 b19) := hr19.cell 2
      have c210 : x31.cell? ⟨g21, 0, none⟩ = some (.bool (decide (P2 < 0))) := hr21.cell 0
      have c211 : x31.cell? ⟨g21, 1, none⟩ = some (.slice A21 k21 c21) := hr21.cell 1
      have c212 : x31.cell? ⟨g21, 2, none⟩ = some (.slice D21 l21 b21) := hr21.cell 2
      have z5 := hr5.lt
      have z7 := hr7.lt
      have z15 := hr15.lt
      have z17 := hr17.lt
      have z19 := hr19.lt
      have z21 := hr21.lt
      go_wp2_with fail
      clear c50 c51 c70 c71 c72 c150 c151 c152 c170 c171 c172 c190 c191 c192 c210 c211 c212 z5 z7 z15 z17 z19 z21
      refine (HMO2.out _ _ hcan).mono ?_
      rintro e x32 ⟨rfl, hb⟩
      replace hr5 := hr5.keep hb
      replace hr7 := hr7.keep hb
      replace hcan := hcan.below hb
      replace hv15 := hv15.below hb
      replace hr15 := hr15.keep hb
      replace hv17 := hv17.below hb
      replace hr17 := hr17.keep hb
      replace hv19 := hv19.below hb
      replace hr19 := hr19.keep hb
      replace hv21 := hv21.below hb
      replace hr21 := hr21.keep hb
      replace BB : Below w.heap.size w x32 := BB.trans (hb.mono BB.size)
      clear hb
      have z1 : ((V3 : Int) != (V3 : Int)) = false := by simp
      have z2 : (E3 != E3) = false := by simp
      have c50 : x32.cell? ⟨w.heap.size, 0, none⟩ = some (.slice PA ps.length pc) := hr5.cell 0
      have c51 : x32.cell? ⟨w.heap.size, 1, none⟩ = some (.slice RV rs.length vc) := hr5.cell 1
      have c70 : x32.cell? ⟨w.heap.size + 1, 0, none⟩ = some (.bool na) := hr7.cell 0
      have c71 : x32.cell? ⟨w.heap.size + 1, 1, none⟩ = some (.slice QA qn qc) := hr7.cell 1
      have c72 : x32.cell? ⟨w.heap.size + 1, 2, none⟩ = some (.slice QB qm qd) := hr7.cell 2
      have c150 : x32.cell? ⟨g15, 0, none⟩ = some (.bool (decide (P1 < 0))) := hr15.cell 0
      have c151 : x32.cell? ⟨g15, 1, none⟩ = some (.slice A15 k15 c15) := hr15.cell 1
      have c152 : x32.cell? ⟨g15, 2, none⟩ = some (.slice D15 l15 b15) := hr15.cell 2
      have c170 : x32.cell? ⟨g17, 0, none⟩ = some (.bool (decide (P1 < 0))) := hr17.cell 0
      have c171 : x32.cell? ⟨g17, 1, none⟩ = some (.slice A17 k17 c17) := hr17.cell 1
      have c172 : x32.cell? ⟨g17, 2, none⟩ = some (.slice D17 l17 b17) := hr17.cell 2
      have c190 : x32.cell? ⟨g19, 0, none⟩ = some (.bool (decide (P2 < 0))) := hr19.cell 0
      have c191 : x32.cell? ⟨g19, 1, none⟩ = some (.slice A19 k19 c19) := hr19.cell 1
      have c192 : x32.cell? ⟨g19, 2, none⟩ = some (.slice D19 l19 b19) := hr19.cell 2
      have c210 : x32.cell? ⟨g21, 0, none⟩ = some (.bool (decide (P2 < 0))) := hr21.cell 0
      have c211 : x32.cell? ⟨g21, 1, none⟩ = some (.slice A21 k21 c21) := hr21.cell 1
      have c212 : x32.cell? ⟨g21, 2, none⟩ = some (.slice D21 l21 b21) := hr21.cell 2
      have z5 := hr5.lt
      have z7 := hr7.lt
      have z15 := hr15.lt
      have z17 := hr17.lt
      have z19 := hr19.lt
      have z21 := hr21.lt
      go_wp2_with fail
      clear c50 c51 c70 c71 c72 c150 c151 c152 c170 c171 c172 c190 c191 c192 c210 c211 c212 z5 z7 z15 z17 z19 z21
      clear z1 z2
      refine (HCR.out _ BB).mono ?_
      rintro e x33 ⟨rfl, hb⟩
      replace hr5 := hr5.keep hb
      replace hr7 := hr7.keep hb
      replace hcan := hcan.below hb
      replace hv15 := hv15.below hb
      replace hr15 := hr15.keep hb
      replace hv17 := hv17.below hb
      replace hr17 := hr17.keep hb
      replace hv19 := hv19.below hb
      replace hr19 := hr19.keep hb
      replace hv21 := hv21.below hb
      replace hr21 := hr21.keep hb
      replace BB : Below w.heap.size w x33 := BB.trans (hb.mono BB.size)
      clear hb
      have c50 : x33.cell? ⟨w.heap.size, 0, none⟩ = some (.slice PA ps.length pc) := hr5.cell 0
      have c51 : x33.cell? ⟨w.heap.size, 1, none⟩ = some (.slice RV rs.length vc) := hr5.cell 1
      have c70 : x33.cell? ⟨w.heap.size + 1, 0, none⟩ = some (.bool na) := hr7.cell 0
      have c71 : x33.cell? ⟨w.heap.size + 1, 1, none⟩ = some (.slice QA qn qc) := hr7.cell 1
      have c72 : x33.cell? ⟨w.heap.size + 1, 2, none⟩ = some (.slice QB qm qd) := hr7.cell 2
      have c150 : x33.cell? ⟨g15, 0, none⟩ = some (.bool (decide (P1 < 0))) := hr15.cell 0
      have c151 : x33.cell? ⟨g15, 1, none⟩ = some (.slice A15 k15 c15) := hr15.cell 1
      have c152 : x33.cell? ⟨g15, 2, none⟩ = some (.slice D15 l15 b15) := hr15.cell 2
      have c170 : x33.cell? ⟨g17, 0, none⟩ = some (.bool (decide (P1 < 0))) := hr17.cell 0
      have c171 : x33.cell? ⟨g17, 1, none⟩ = some (.slice A17 k17 c17) := hr17.cell 1
      have c172 : x33.cell? ⟨g17, 2, none⟩ = some (.slice D17 l17 b17) := hr17.cell 2
      have c190 : x33.cell? ⟨g19, 0, none⟩ = some (.bool (decide (P2 < 0))) := hr19.cell 0
      have c191 : x33.cell? ⟨g19, 1, none⟩ = some (.slice A19 k19 c19) := hr19.cell 1
      have c192 : x33.cell? ⟨g19, 2, none⟩ = some (.slice D19 l19 b19) := hr19.cell 2
      have c210 : x33.cell? ⟨g21, 0, none⟩ = some (.bool (decide (P2 < 0))) := hr21.cell 0
      have c211 : x33.cell? ⟨g21, 1, none⟩ = some (.slice A21 k21 c21) := hr21.cell 1
      have c212 : x33.cell? ⟨g21, 2, none⟩ = some (.slice D21 l21 b21) := hr21.cell 2
      have z5 := hr5.lt
      have z7 := hr7.lt
      have z15 := hr15.lt
      have z17 := hr17.lt
      have z19 := hr19.lt
      have z21 := hr21.lt
      go_wp2_with fail
      clear c50 c51 c70 c71 c72 c150 c151 c152 c170 c171 c172 c190 c191 c192 c210 c211 c212 z5 z7 z15 z17 z19 z21
      refine (HCR2.out _ _ BB hcan).mono ?_
      rintro e x34 ⟨rfl, hb⟩
      replace hr5 := hr5.keep hb
      replace hr7 := hr7.keep hb
      replace hcan := hcan.below hb
      replace hv15 := hv15.below hb
      replace hr15 := hr15.keep hb
      replace hv17 := hv17.below hb
      replace hr17 := hr17.keep hb
      replace hv19 := hv19.below hb
      replace hr19 := hr19.keep hb
      replace hv21 := hv21.below hb
      replace hr21 := hr21.keep hb
      replace BB : Below w.heap.size w x34 := BB.trans (hb.mono BB.size)
      clear hb
      have z1 : ((V4 : Int) != (V4 : Int)) = false := by simp
      have z2 : ((V5 : Int) != (V5 : Int)) = false := by simp
      have z3 : (E4 != E4) = false := by simp
      have c50 : x34.cell? ⟨w.heap.size, 0, none⟩ = some (.slice PA ps.length pc) := hr5.cell 0
      have c51 : x34.cell? ⟨w.heap.size, 1, none⟩ = some (.slice RV rs.length vc) := hr5.cell 1
      have c70 : x34.cell? ⟨w.heap.size + 1, 0, none⟩ = some (.bool na) := hr7.cell 0
      have c71 : x34.cell? ⟨w.heap.size + 1, 1, none⟩ = some (.slice QA qn qc) := hr7.cell 1
      have c72 : x34.cell? ⟨w.heap.size + 1, 2, none⟩ = some (.slice QB qm qd) := hr7.cell 2
      have c150 : x34.cell? ⟨g15, 0, none⟩ = some (.bool (decide (P1 < 0))) := hr15.cell 0
      have c151 : x34.cell? ⟨g15, 1, none⟩ = some (.slice A15 k15 c15) := hr15.cell 1
      have c152 : x34.cell? ⟨g15, 2, none⟩ = some (.slice D15 l15 b15) := hr15.cell 2
      have c170 : x34.cell? ⟨g17, 0, none⟩ = some (.bool (decide (P1 < 0))) := hr17.cell 0
      have c171 : x34.cell? ⟨g17, 1, none⟩ = some (.slice A17 k17 c17) := hr17.cell 1
      have c172 : x34.cell? ⟨g17, 2, none⟩ = some (.slice D17 l17 b17) := hr17.cell 2
      have c190 : x34.cell? ⟨g19, 0, none⟩ = some (.bool (decide (P2 < 0))) := hr19.cell 0
      have c191 : x34.cell? ⟨g19, 1, none⟩ = some (.slice A19 k19 c19) := hr19.cell 1
      have c192 : x34.cell? ⟨g19, 2, none⟩ = some (.slice D19 l19 b19) := hr19.cell 2
      have c210 : x34.cell? ⟨g21, 0, none⟩ = some (.bool (decide (P2 < 0))) := hr21.cell 0
      have c211 : x34.cell? ⟨g21, 1, none⟩ = some (.slice A21 k21 c21) := hr21.cell 1
      have c212 : x34.cell? ⟨g21, 2, none⟩ = some (.slice D21 l21 b21) := hr21.cell 2
      have z5 := hr5.lt
      have z7 := hr7.lt
      have z15 := hr15.lt
      have z17 := hr17.lt
      have z19 := hr19.lt
      have z21 := hr21.lt
      go_wp2_with fail
      clear c50 c51 c70 c71 c72 c150 c151 c152 c170 c171 c172 c190 c191 c192 c210 c211 c212 z5 z7 z15 z17 z19 z21
      clear z1 z2 z3
      refine (HCL.out _ BB).mono ?_
      rintro e x35 ⟨rfl, hb⟩
      replace hr5 := hr5.keep hb
      replace hr7 := hr7.keep hb
      replace hcan := hcan.below hb
      replace hv15 := hv15.below hb
      replace hr15 := hr15.keep hb
      replace hv17 := hv17.below hb
      replace hr17 := hr17.keep hb
      replace hv19 := hv19.below hb
      replace hr19 := hr19.keep hb
      replace hv21 := hv21.below hb
      replace hr21 := hr21.keep hb
      replace BB : Below w.heap.size w x35 := BB.trans (hb.mono BB.size)
      clear hb
      have c50 : x35.cell? ⟨w.heap.size, 0, none⟩ = some (.slice PA ps.length pc) := hr5.cell 0
      have c51 : x35.cell? ⟨w.heap.size, 1, none⟩ = some (.slice RV rs.length vc) := hr5.cell 1
      have c70 : x35.cell? ⟨w.heap.size + 1, 0, none⟩ = some (.bool na) := hr7.cell 0
      have c71 : x35.cell? ⟨w.heap.size + 1, 1, none⟩ = some (.slice QA qn qc) := hr7.cell 1
      have c72 : x35.cell? ⟨w.heap.size + 1, 2, none⟩ = some (.slice QB qm qd) := hr7.cell 2
      have c150 : x35.cell? ⟨g15, 0, none⟩ = some (.bool (decide (P1 < 0))) := hr15.cell 0
      have c151 : x35.cell? ⟨g15, 1, none⟩ = some (.slice A15 k15 c15) := hr15.cell 1
      have c152 : x35.cell? ⟨g15, 2, none⟩ = some (.slice D15 l15 b15) := hr15.cell 2
      have c170 : x35.cell? ⟨g17, 0, none⟩ = some (.bool (decide (P1 < 0))) := hr17.cell 0
      have c171 : x35.cell? ⟨g17, 1, none⟩ = some (.slice A17 k17 c17) := hr17.cell 1
      have c172 : x35.cell? ⟨g17, 2, none⟩ = some (.slice D17 l17 b17) := hr17.cell 2
      have c190 : x35.cell? ⟨g19, 0, none⟩ = some (.bool (decide (P2 < 0))) := hr19.cell 0
      have c191 : x35.cell? ⟨g19, 1, none⟩ = some (.slice A19 k19 c19) := hr19.cell 1
      have c192 : x35.cell? ⟨g19, 2, none⟩ = some (.slice D19 l19 b19) := hr19.cell 2
      have c210 : x35.cell? ⟨g21, 0, none⟩ = some (.bool (decide (P2 < 0))) := hr21.cell 0
      have c211 : x35.cell? ⟨g21, 1, none⟩ = some (.slice A21 k21 c21) := hr21.cell 1
      have c212 : x35.cell? ⟨g21, 2, none⟩ = some (.slice D21 l21 b21) := hr21.cell 2
      have z5 := hr5.lt
      have z7 := hr7.lt
      have z15 := hr15.lt
      have z17 := hr17.lt
      have z19 := hr19.lt
      have z21 := hr21.lt
      go_wp2_with fail
      clear c50 c51 c70 c71 c72 c150 c151 c152 c170 c171 c172 c190 c191 c192 c210 c211 c212 z5 z7 z15 z17 z19 z21
      refine (HCL2.out _ _ BB hcan).mono ?_
      rintro e x36 ⟨rfl, hb⟩
      replace hr5 := hr5.keep hb
      replace hr7 := hr7.keep hb
      replace hcan := hcan.below hb
      replace hv15 := hv15.below hb
      replace hr15 := hr15.keep hb
      replace hv17 := hv17.below hb
      replace hr17 := hr17.keep hb
      replace hv19 := hv19.below hb
      replace hr19 := hr19.keep hb
      replace hv21 := hv21.below hb
      replace hr21 := hr21.keep hb
      replace BB : Below w.heap.size w x36 := BB.trans (hb.mono BB.size)
      clear hb
      have z1 : (V6 == V6) = true := by simp
      have z2 : (E6 == E6) = true := by simp
      have c50 : x36.cell? ⟨w.heap.size, 0, none⟩ = some (.slice PA ps.length pc) := hr5.cell 0
      have c51 : x36.cell? ⟨w.heap.size, 1, none⟩ = some (.slice RV rs.length vc) := hr5.cell 1
      have c70 : x36.cell? ⟨w.heap.size + 1, 0, none⟩ = some (.bool na) := hr7.cell 0
      have c71 : x36.cell? ⟨w.heap.size + 1, 1, none⟩ = some (.slice QA qn qc) := hr7.cell 1
      have c72 : x36.cell? ⟨w.heap.size + 1, 2, none⟩ = some (.slice QB qm qd) := hr7.cell 2
      have c150 : x36.cell? ⟨g15, 0, none⟩ = some (.bool (decide (P1 < 0))) := hr15.cell 0
      have c151 : x36.cell? ⟨g15, 1, none⟩ = some (.slice A15 k15 c15) := hr15.cell 1
      have c152 : x36.cell? ⟨g15, 2, none⟩ = some (.slice D15 l15 b15) := hr15.cell 2
      have c170 : x36.cell? ⟨g17, 0, none⟩ = some (.bool (decide (P1 < 0))) := hr17.cell 0
      have c171 : x36.cell? ⟨g17, 1, none⟩ = some (.slice A17 k17 c17) := hr17.cell 1
      have c172 : x36.cell? ⟨g17, 2, none⟩ = some (.slice D17 l17 b17) := hr17.cell 2
      have c190 : x36.cell? ⟨g19, 0, none⟩ = some (.bool (decide (P2 < 0))) := hr19.cell 0
      have c191 : x36.cell? ⟨g19, 1, none⟩ = some (.slice A19 k19 c19) := hr19.cell 1
      have c192 : x36.cell? ⟨g19, 2, none⟩ = some (.slice D19 l19 b19) := hr19.cell 2
      have c210 : x36.cell? ⟨g21, 0, none⟩ = some (.bool (decide (P2 < 0))) := hr21.cell 0
      have c211 : x36.cell? ⟨g21, 1, none⟩ = some (.slice A21 k21 c21) := hr21.cell 1
      have c212 : x36.cell? ⟨g21, 2, none⟩ = some (.slice D21 l21 b21) := hr21.cell 2
      have z5 := hr5.lt
      have z7 := hr7.lt
      have z15 := hr15.lt
      have z17 := hr17.lt
      have z19 := hr19.lt
      have z21 := hr21.lt
      go_wp2_with fail
      clear c50 c51 c70 c71 c72 c150 c151 c152 c170 c171 c172 c190 c191 c192 c210 c211 c212 z5 z7 z15 z17 z19 z21
      refine (HAW.out _ BB).mono ?_
      rintro e x37 ⟨rfl, hb⟩
      replace hr5 := hr5.keep hb
      replace hr7 := hr7.keep hb
      replace hcan := hcan.below hb
      replace hv15 := hv15.below hb
      replace hr15 := hr15.keep hb
      replace hv17 := hv17.below hb
      replace hr17 := hr17.keep hb
      replace hv19 := hv19.below hb
      replace hr19 := hr19.keep hb
      replace hv21 := hv21.below hb
      replace hr21 := hr21.keep hb
      replace BB : Below w.heap.size w x37 := BB.trans (hb.mono BB.size)
      clear hb
      have c50 : x37.cell? ⟨w.heap.size, 0, none⟩ = some (.slice PA ps.length pc) := hr5.cell 0
      have c51 : x37.cell? ⟨w.heap.size, 1, none⟩ = some (.slice RV rs.length vc) := hr5.cell 1
      have c70 : x37.cell? ⟨w.heap.size + 1, 0, none⟩ = some (.bool na) := hr7.cell 0
      have c71 : x37.cell? ⟨w.heap.size + 1, 1, none⟩ = some (.slice QA qn qc) := hr7.cell 1
      have c72 : x37.cell? ⟨w.heap.size + 1, 2, none⟩ = some (.slice QB qm qd) := hr7.cell 2
      have c150 : x37.cell? ⟨g15, 0, none⟩ = some (.bool (decide (P1 < 0))) := hr15.cell 0
      have c151 : x37.cell? ⟨g15, 1, none⟩ = some (.slice A15 k15 c15) := hr15.cell 1
      have c152 : x37.cell? ⟨g15, 2, none⟩ = some (.slice D15 l15 b15) := hr15.cell 2
      have c170 : x37.cell? ⟨g17, 0, none⟩ = some (.bool (decide (P1 < 0))) := hr17.cell 0
      have c171 : x37.cell? ⟨g17, 1, none⟩ = some (.slice A17 k17 c17) := hr17.cell 1
      have c172 : x37.cell? ⟨g17, 2, none⟩ = some (.slice D17 l17 b17) := hr17.cell 2
      have c190 : x37.cell? ⟨g19, 0, none⟩ = some (.bool (decide (P2 < 0))) := hr19.cell 0
      have c191 : x37.cell? ⟨g19, 1, none⟩ = some (.slice A19 k19 c19) := hr19.cell 1
      have c192 : x37.cell? ⟨g19, 2, none⟩ = some (.slice D19 l19 b19) := hr19.cell 2
      have c210 : x37.cell? ⟨g21, 0, none⟩ = some (.bool (decide (P2 < 0))) := hr21.cell 0
      have c211 : x37.cell? ⟨g21, 1, none⟩ = some (.slice A21 k21 c21) := hr21.cell 1
      have c212 : x37.cell? ⟨g21, 2, none⟩ = some (.slice D21 l21 b21) := hr21.cell 2
      have z5 := hr5.lt
      have z7 := hr7.lt
      have z15 := hr15.lt
      have z17 := hr17.lt
      have z19 := hr19.lt
      have z21 := hr21.lt
      go_wp2_with fail
      clear c50 c51 c70 c71 c72 c150 c151 c152 c170 c171 c172 c190 c191 c192 c210 c211 c212 z5 z7 z15 z17 z19 z21
      go_ret
      exact ⟨rfl, BB⟩
end Go.Proofs.YtfoleamcaflfeaaDoor
