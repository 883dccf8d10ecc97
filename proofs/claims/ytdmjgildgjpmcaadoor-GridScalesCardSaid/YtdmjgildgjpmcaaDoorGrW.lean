/- GridScales returns true for every grid, weights, factor and shift. -/
import Derived.Test.YtdmjgildgjpmcaaDoorGrY
namespace Go.Proofs.YtdmjgildgjpmcaaDoor
open Go.RowKit
set_option linter.unusedVariables false

set_option maxRecDepth 100000 in
set_option maxHeartbeats 16000000 in
theorem scl_err (pv rv wv : Value) (ps rs : List Int) (lss : List (List Nat)) (c : Nat) (d : Int) (w : World) (hp : Nums .i64 w pv ps) (hr : Nums .i64 w rv rs) (hw : LimL w wv lss) (hc : c < 4294967296) (htab : Pow10 w) (HLG : Hid (∀ W : World, Below w.heap.size w W → Calls Tryd.prog 12 #[wv] W fun e w' => e = .returned (.bool false) ∧ Below W.heap.size W w')) (h20 : ∀ l ∈ lss, l.length ≤ 20) (hc0 : 0 < c) (hd1 : -2000 ≤ d) (hd2 : d ≤ 2000) (hE : sumE ps rs (lss.map val) ≠ 0) :
    Calls Tryd.prog 4 #[.agg #[pv, rv], wv, .int .u32 (c : Int), .int .i64 d] w fun e w' => e = .returned (.bool true) ∧ Below w.heap.size w w' := by
  have hwt := hw.wts h20
  have HME := Lib.hid (fun (W : World) (h : Below w.heap.size w W) => gmean_no pv rv wv ps rs (lss.map val) 20 W (hp.below h) (hr.below h) (hwt.below h) (by omega) hE)
  have HVA := Lib.hid (fun (W : World) (h : Below w.heap.size w W) => gvar_no pv rv wv ps rs (lss.map val) 20 W (hp.below h) (hr.below h) (hwt.below h) (by omega) hE)
  obtain ⟨E3, hE3⟩ : ∃ e, sumE ps rs (lss.map val) = e := ⟨_, rfl⟩
  have hn3 : (E3 != 0) = true := by rw [bne_iff_ne, ← hE3]; exact hE
  have HE3 := Lib.hid hE3
  have hcI : ((c : Int) == 0) = false := by rw [beq_eq_false_iff_ne]; omega
  have hdd1 : decide (d < -2000) = false := decide_eq_false (by omega)
  have hdd2 : decide (2000 < d) = false := decide_eq_false (by omega)
  clear hE hE3 htab hwt h20 hc hc0 hd1 hd2
  obtain ⟨PA, pc, rfl, hpc, hpm, hps⟩ := hp
  obtain ⟨RV, vc, rfl, hvc, hvm, hvs⟩ := hr
  obtain ⟨WA, wc, us, rfl, hwc, hwm, hws, hwu⟩ := hw
  clear hpc hpm hps hvc hvm hvs hwc hwm hws hwu
  obtain ⟨W0, hW0⟩ : ∃ W0 : World, W0 = w.alloc (.cells #[.slice PA ps.length pc, .slice RV rs.length vc] 24) := ⟨_, rfl⟩
  have r0 : Row W0 w.heap.size 24 [.slice PA ps.length pc, .slice RV rs.length vc] := by
    rw [hW0]
    have := Row.new w 24 [.slice PA ps.length pc, .slice RV rs.length vc]
    simpa using this
  have B0 : Below w.heap.size w W0 := by rw [hW0]; exact ((Below.refl _ _).alloc (Nat.le_refl _) _)
  go_enter Tryd.func4, Tryd.ntmps4
  go_wp2_with fail
  rw [← hW0]
  clear hW0
  have BB := B0
  have hr4 := r0
  clear B0 r0
  have c40 : W0.cell? ⟨w.heap.size, 0, none⟩ = some (.slice PA ps.length pc) := hr4.cell 0
  have c41 : W0.cell? ⟨w.heap.size, 1, none⟩ = some (.slice RV rs.length vc) := hr4.cell 1
  have z4 := hr4.lt
  go_wp2_with fail
  clear c40 c41 z4
  refine (HLG.out _ BB).mono ?_
  rintro e x1 ⟨rfl, hb⟩
  replace hr4 := hr4.keep hb
  replace BB : Below w.heap.size w x1 := BB.trans (hb.mono BB.size)
  clear hb
  have c40 : x1.cell? ⟨w.heap.size, 0, none⟩ = some (.slice PA ps.length pc) := hr4.cell 0
  have c41 : x1.cell? ⟨w.heap.size, 1, none⟩ = some (.slice RV rs.length vc) := hr4.cell 1
  have z4 := hr4.lt
  go_wp2_with fail
  clear c40 c41 z4
  refine (HME.out _ BB).mono ?_
  rintro e x2 ⟨v9, rfl, hv9, hb⟩
  replace hr4 := hr4.keep hb
  replace BB : Below w.heap.size w x2 := BB.trans (hb.mono BB.size)
  clear hb
  rw [HE3.out]
  have h9' := hv9
  obtain ⟨m9, d9, e9, hm9, hd9, _, _⟩ := h9'
  subst e9
  obtain ⟨A9, k9, c9, rfl⟩ := hm9.lim1.choose_spec.1.show_
  obtain ⟨D9, l9, b9, rfl⟩ := hd9.lim1.choose_spec.1.show_
  clear hm9 hd9
  obtain ⟨g9, hg9⟩ : ∃ g, x2.heap.size = g := ⟨_, rfl⟩
  have hr9 : Row (x2.alloc (.cells #[.bool false, .slice A9 k9 c9, .slice D9 l9 b9] 30)) g9 30 [.bool false, .slice A9 k9 c9, .slice D9 l9 b9] := row_at hg9
  have hl := lit_below x2 (.cells #[.bool false, .slice A9 k9 c9, .slice D9 l9 b9] 30)
  have o4_9 : w.heap.size < g9 := by have := hr4.lt; omega
  have ob_9 : w.heap.size ≤ g9 := by have := BB.size; omega
  have c40 : x2.cell? ⟨w.heap.size, 0, none⟩ = some (.slice PA ps.length pc) := hr4.cell 0
  have c41 : x2.cell? ⟨w.heap.size, 1, none⟩ = some (.slice RV rs.length vc) := hr4.cell 1
  have d40 : (x2.alloc (.cells #[.bool false, .slice A9 k9 c9, .slice D9 l9 b9] 30)).cell? ⟨w.heap.size, 0, none⟩ = some (.slice PA ps.length pc) := (hr4.alloc _).cell 0
  have d41 : (x2.alloc (.cells #[.bool false, .slice A9 k9 c9, .slice D9 l9 b9] 30)).cell? ⟨w.heap.size, 1, none⟩ = some (.slice RV rs.length vc) := (hr4.alloc _).cell 1
  have e0 : (x2.alloc (.cells #[.bool false, .slice A9 k9 c9, .slice D9 l9 b9] 30)).cell? ⟨g9, 0, none⟩ = some (.bool false) := hr9.cell 0
  have e1 : (x2.alloc (.cells #[.bool false, .slice A9 k9 c9, .slice D9 l9 b9] 30)).cell? ⟨g9, 1, none⟩ = some (.slice A9 k9 c9) := hr9.cell 1
  have e2 : (x2.alloc (.cells #[.bool false, .slice A9 k9 c9, .slice D9 l9 b9] 30)).cell? ⟨g9, 2, none⟩ = some (.slice D9 l9 b9) := hr9.cell 2
  go_wp2_with fail
  clear c40 c41 d40 d41 e0 e1 e2
  clear hg9
  generalize (x2.alloc (.cells #[.bool false, .slice A9 k9 c9, .slice D9 l9 b9] 30)) = x3 at *
  replace hr4 := hr4.keep hl
  replace hv9 := hv9.below hl
  replace BB : Below w.heap.size w x3 := BB.trans (hl.mono BB.size)
  clear hl
  refine (HVA.out _ BB).mono ?_
  rintro e x4 ⟨v11, rfl, hv11, hb⟩
  replace hr4 := hr4.keep hb
  replace hv9 := hv9.below hb
  replace hr9 := hr9.keep hb
  replace BB : Below w.heap.size w x4 := BB.trans (hb.mono BB.size)
  clear hb
  rw [HE3.out]
  have h11' := hv11
  obtain ⟨m11, d11, e11, hm11, hd11, _, _⟩ := h11'
  subst e11
  obtain ⟨A11, k11, c11, rfl⟩ := hm11.lim1.choose_spec.1.show_
  obtain ⟨D11, l11, b11, rfl⟩ := hd11.lim1.choose_spec.1.show_
  clear hm11 hd11
  obtain ⟨g11, hg11⟩ : ∃ g, x4.heap.size = g := ⟨_, rfl⟩
  have hr11 : Row (x4.alloc (.cells #[.bool false, .slice A11 k11 c11, .slice D11 l11 b11] 30)) g11 30 [.bool false, .slice A11 k11 c11, .slice D11 l11 b11] := row_at hg11
  have hl := lit_below x4 (.cells #[.bool false, .slice A11 k11 c11, .slice D11 l11 b11] 30)
  have o4_11 : w.heap.size < g11 := by have := hr4.lt; omega
  have o9_11 : g9 < g11 := by have := hr9.lt; omega
  have ob_11 : w.heap.size ≤ g11 := by have := BB.size; omega
  have c40 : x4.cell? ⟨w.heap.size, 0, none⟩ = some (.slice PA ps.length pc) := hr4.cell 0
  have c41 : x4.cell? ⟨w.heap.size, 1, none⟩ = some (.slice RV rs.length vc) := hr4.cell 1
  have c90 : x4.cell? ⟨g9, 0, none⟩ = some (.bool false) := hr9.cell 0
  have c91 : x4.cell? ⟨g9, 1, none⟩ = some (.slice A9 k9 c9) := hr9.cell 1
  have c92 : x4.cell? ⟨g9, 2, none⟩ = some (.slice D9 l9 b9) := hr9.cell 2
  have d40 : (x4.alloc (.cells #[.bool false, .slice A11 k11 c11, .slice D11 l11 b11] 30)).cell? ⟨w.heap.size, 0, none⟩ = some (.slice PA ps.length pc) := (hr4.alloc _).cell 0
  have d41 : (x4.alloc (.cells #[.bool false, .slice A11 k11 c11, .slice D11 l11 b11] 30)).cell? ⟨w.heap.size, 1, none⟩ = some (.slice RV rs.length vc) := (hr4.alloc _).cell 1
  have d90 : (x4.alloc (.cells #[.bool false, .slice A11 k11 c11, .slice D11 l11 b11] 30)).cell? ⟨g9, 0, none⟩ = some (.bool false) := (hr9.alloc _).cell 0
  have d91 : (x4.alloc (.cells #[.bool false, .slice A11 k11 c11, .slice D11 l11 b11] 30)).cell? ⟨g9, 1, none⟩ = some (.slice A9 k9 c9) := (hr9.alloc _).cell 1
  have d92 : (x4.alloc (.cells #[.bool false, .slice A11 k11 c11, .slice D11 l11 b11] 30)).cell? ⟨g9, 2, none⟩ = some (.slice D9 l9 b9) := (hr9.alloc _).cell 2
  have e0 : (x4.alloc (.cells #[.bool false, .slice A11 k11 c11, .slice D11 l11 b11] 30)).cell? ⟨g11, 0, none⟩ = some (.bool false) := hr11.cell 0
  have e1 : (x4.alloc (.cells #[.bool false, .slice A11 k11 c11, .slice D11 l11 b11] 30)).cell? ⟨g11, 1, none⟩ = some (.slice A11 k11 c11) := hr11.cell 1
  have e2 : (x4.alloc (.cells #[.bool false, .slice A11 k11 c11, .slice D11 l11 b11] 30)).cell? ⟨g11, 2, none⟩ = some (.slice D11 l11 b11) := hr11.cell 2
  go_wp2_with fail
  clear c40 c41 c90 c91 c92 d40 d41 d90 d91 d92 e0 e1 e2
  clear hg11
  generalize (x4.alloc (.cells #[.bool false, .slice A11 k11 c11, .slice D11 l11 b11] 30)) = x5 at *
  replace hr4 := hr4.keep hl
  replace hv9 := hv9.below hl
  replace hr9 := hr9.keep hl
  replace hv11 := hv11.below hl
  replace BB : Below w.heap.size w x5 := BB.trans (hl.mono BB.size)
  clear hl
  refine (qprint_zero _ 1 2 _ (hv9.ratA (by decide)) (by decide) (by decide)).mono ?_
  rintro e x6 ⟨rfl, hb⟩
  replace hr4 := hr4.keep hb
  replace hv9 := hv9.below hb
  replace hr9 := hr9.keep hb
  replace hv11 := hv11.below hb
  replace hr11 := hr11.keep hb
  replace BB : Below w.heap.size w x6 := BB.trans (hb.mono BB.size)
  clear hb
  have c40 : x6.cell? ⟨w.heap.size, 0, none⟩ = some (.slice PA ps.length pc) := hr4.cell 0
  have c41 : x6.cell? ⟨w.heap.size, 1, none⟩ = some (.slice RV rs.length vc) := hr4.cell 1
  have c90 : x6.cell? ⟨g9, 0, none⟩ = some (.bool false) := hr9.cell 0
  have c91 : x6.cell? ⟨g9, 1, none⟩ = some (.slice A9 k9 c9) := hr9.cell 1
  have c92 : x6.cell? ⟨g9, 2, none⟩ = some (.slice D9 l9 b9) := hr9.cell 2
  have c110 : x6.cell? ⟨g11, 0, none⟩ = some (.bool false) := hr11.cell 0
  have c111 : x6.cell? ⟨g11, 1, none⟩ = some (.slice A11 k11 c11) := hr11.cell 1
  have c112 : x6.cell? ⟨g11, 2, none⟩ = some (.slice D11 l11 b11) := hr11.cell 2
  have z4 := hr4.lt
  have z9 := hr9.lt
  have z11 := hr11.lt
  go_wp2_with fail
  clear c40 c41 c90 c91 c92 c110 c111 c112 z4 z9 z11
  go_ret
  exact ⟨rfl, BB⟩

set_option maxRecDepth 100000 in
set_option maxHeartbeats 4000000 in
theorem scl_long (pv rv wv : Value) (ps rs : List Int) (lss : List (List Nat)) (c : Nat) (d : Int) (w : World) (hp : Nums .i64 w pv ps) (hr : Nums .i64 w rv rs) (hw : LimL w wv lss) (hc : c < 4294967296) (htab : Pow10 w) (HLG : Hid (∀ W : World, Below w.heap.size w W → Calls Tryd.prog 12 #[wv] W fun e w' => e = .returned (.bool true) ∧ Below W.heap.size W w')) :
    Calls Tryd.prog 4 #[.agg #[pv, rv], wv, .int .u32 (c : Int), .int .i64 d] w fun e w' => e = .returned (.bool true) ∧ Below w.heap.size w w' := by
  obtain ⟨PA, pc, rfl, hpc, hpm, hps⟩ := hp
  obtain ⟨RV, vc, rfl, hvc, hvm, hvs⟩ := hr
  obtain ⟨WA, wc, us, rfl, hwc, hwm, hws, hwu⟩ := hw
  clear hpc hpm hps hvc hvm hvs hwc hwm hws hwu
  clear htab hc
  obtain ⟨W0, hW0⟩ : ∃ W0 : World, W0 = w.alloc (.cells #[.slice PA ps.length pc, .slice RV rs.length vc] 24) := ⟨_, rfl⟩
  have r0 : Row W0 w.heap.size 24 [.slice PA ps.length pc, .slice RV rs.length vc] := by
    rw [hW0]
    have := Row.new w 24 [.slice PA ps.length pc, .slice RV rs.length vc]
    simpa using this
  have B0 : Below w.heap.size w W0 := by rw [hW0]; exact ((Below.refl _ _).alloc (Nat.le_refl _) _)
  go_enter Tryd.func4, Tryd.ntmps4
  go_wp2_with fail
  rw [← hW0]
  clear hW0
  have BB := B0
  have hr4 := r0
  clear B0 r0
  have c40 : W0.cell? ⟨w.heap.size, 0, none⟩ = some (.slice PA ps.length pc) := hr4.cell 0
  have c41 : W0.cell? ⟨w.heap.size, 1, none⟩ = some (.slice RV rs.length vc) := hr4.cell 1
  have z4 := hr4.lt
  go_wp2_with fail
  clear c40 c41 z4
  refine (HLG.out _ BB).mono ?_
  rintro e x1 ⟨rfl, hb⟩
  replace hr4 := hr4.keep hb
  replace BB : Below w.heap.size w x1 := BB.trans (hb.mono BB.size)
  clear hb
  have c40 : x1.cell? ⟨w.heap.size, 0, none⟩ = some (.slice PA ps.length pc) := hr4.cell 0
  have c41 : x1.cell? ⟨w.heap.size, 1, none⟩ = some (.slice RV rs.length vc) := hr4.cell 1
  have z4 := hr4.lt
  go_wp2_with fail
  clear c40 c41 z4
  go_ret
  exact ⟨rfl, BB⟩

set_option maxRecDepth 100000 in
set_option maxHeartbeats 4000000 in
theorem scl_nul (pv rv wv : Value) (ps rs : List Int) (lss : List (List Nat)) (c : Nat) (d : Int) (w : World) (hp : Nums .i64 w pv ps) (hr : Nums .i64 w rv rs) (hw : LimL w wv lss) (hc : c < 4294967296) (htab : Pow10 w) (HLG : Hid (∀ W : World, Below w.heap.size w W → Calls Tryd.prog 12 #[wv] W fun e w' => e = .returned (.bool false) ∧ Below W.heap.size W w')) (h : c = 0) :
    Calls Tryd.prog 4 #[.agg #[pv, rv], wv, .int .u32 (c : Int), .int .i64 d] w fun e w' => e = .returned (.bool true) ∧ Below w.heap.size w w' := by
  subst h
  have hcI : (((0 : Nat) : Int) == 0) = true := rfl
  obtain ⟨PA, pc, rfl, hpc, hpm, hps⟩ := hp
  obtain ⟨RV, vc, rfl, hvc, hvm, hvs⟩ := hr
  obtain ⟨WA, wc, us, rfl, hwc, hwm, hws, hwu⟩ := hw
  clear hpc hpm hps hvc hvm hvs hwc hwm hws hwu
  clear htab hc
  obtain ⟨W0, hW0⟩ : ∃ W0 : World, W0 = w.alloc (.cells #[.slice PA ps.length pc, .slice RV rs.length vc] 24) := ⟨_, rfl⟩
  have r0 : Row W0 w.heap.size 24 [.slice PA ps.length pc, .slice RV rs.length vc] := by
    rw [hW0]
    have := Row.new w 24 [.slice PA ps.length pc, .slice RV rs.length vc]
    simpa using this
  have B0 : Below w.heap.size w W0 := by rw [hW0]; exact ((Below.refl _ _).alloc (Nat.le_refl _) _)
  go_enter Tryd.func4, Tryd.ntmps4
  go_wp2_with fail
  rw [← hW0]
  clear hW0
  have BB := B0
  have hr4 := r0
  clear B0 r0
  have c40 : W0.cell? ⟨w.heap.size, 0, none⟩ = some (.slice PA ps.length pc) := hr4.cell 0
  have c41 : W0.cell? ⟨w.heap.size, 1, none⟩ = some (.slice RV rs.length vc) := hr4.cell 1
  have z4 := hr4.lt
  go_wp2_with fail
  clear c40 c41 z4
  refine (HLG.out _ BB).mono ?_
  rintro e x1 ⟨rfl, hb⟩
  replace hr4 := hr4.keep hb
  replace BB : Below w.heap.size w x1 := BB.trans (hb.mono BB.size)
  clear hb
  have c40 : x1.cell? ⟨w.heap.size, 0, none⟩ = some (.slice PA ps.length pc) := hr4.cell 0
  have c41 : x1.cell? ⟨w.heap.size, 1, none⟩ = some (.slice RV rs.length vc) := hr4.cell 1
  have z4 := hr4.lt
  go_wp2_with fail
  clear c40 c41 z4
  go_ret
  exact ⟨rfl, BB⟩

set_option maxRecDepth 100000 in
set_option maxHeartbeats 4000000 in
theorem scl_low (pv rv wv : Value) (ps rs : List Int) (lss : List (List Nat)) (c : Nat) (d : Int) (w : World) (hp : Nums .i64 w pv ps) (hr : Nums .i64 w rv rs) (hw : LimL w wv lss) (hc : c < 4294967296) (htab : Pow10 w) (HLG : Hid (∀ W : World, Below w.heap.size w W → Calls Tryd.prog 12 #[wv] W fun e w' => e = .returned (.bool false) ∧ Below W.heap.size W w')) (h : 0 < c) (hd : d < -2000) :
    Calls Tryd.prog 4 #[.agg #[pv, rv], wv, .int .u32 (c : Int), .int .i64 d] w fun e w' => e = .returned (.bool true) ∧ Below w.heap.size w w' := by
  have hcI : ((c : Int) == 0) = false := by rw [beq_eq_false_iff_ne]; omega
  have hdd1 : decide (d < -2000) = true := decide_eq_true hd
  obtain ⟨PA, pc, rfl, hpc, hpm, hps⟩ := hp
  obtain ⟨RV, vc, rfl, hvc, hvm, hvs⟩ := hr
  obtain ⟨WA, wc, us, rfl, hwc, hwm, hws, hwu⟩ := hw
  clear hpc hpm hps hvc hvm hvs hwc hwm hws hwu
  clear htab hc h hd
  obtain ⟨W0, hW0⟩ : ∃ W0 : World, W0 = w.alloc (.cells #[.slice PA ps.length pc, .slice RV rs.length vc] 24) := ⟨_, rfl⟩
  have r0 : Row W0 w.heap.size 24 [.slice PA ps.length pc, .slice RV rs.length vc] := by
    rw [hW0]
    have := Row.new w 24 [.slice PA ps.length pc, .slice RV rs.length vc]
    simpa using this
  have B0 : Below w.heap.size w W0 := by rw [hW0]; exact ((Below.refl _ _).alloc (Nat.le_refl _) _)
  go_enter Tryd.func4, Tryd.ntmps4
  go_wp2_with fail
  rw [← hW0]
  clear hW0
  have BB := B0
  have hr4 := r0
  clear B0 r0
  have c40 : W0.cell? ⟨w.heap.size, 0, none⟩ = some (.slice PA ps.length pc) := hr4.cell 0
  have c41 : W0.cell? ⟨w.heap.size, 1, none⟩ = some (.slice RV rs.length vc) := hr4.cell 1
  have z4 := hr4.lt
  go_wp2_with fail
  clear c40 c41 z4
  refine (HLG.out _ BB).mono ?_
  rintro e x1 ⟨rfl, hb⟩
  replace hr4 := hr4.keep hb
  replace BB : Below w.heap.size w x1 := BB.trans (hb.mono BB.size)
  clear hb
  have c40 : x1.cell? ⟨w.heap.size, 0, none⟩ = some (.slice PA ps.length pc) := hr4.cell 0
  have c41 : x1.cell? ⟨w.heap.size, 1, none⟩ = some (.slice RV rs.length vc) := hr4.cell 1
  have z4 := hr4.lt
  go_wp2_with fail
  clear c40 c41 z4
  go_ret
  exact ⟨rfl, BB⟩

set_option maxRecDepth 100000 in
set_option maxHeartbeats 4000000 in
theorem scl_high (pv rv wv : Value) (ps rs : List Int) (lss : List (List Nat)) (c : Nat) (d : Int) (w : World) (hp : Nums .i64 w pv ps) (hr : Nums .i64 w rv rs) (hw : LimL w wv lss) (hc : c < 4294967296) (htab : Pow10 w) (HLG : Hid (∀ W : World, Below w.heap.size w W → Calls Tryd.prog 12 #[wv] W fun e w' => e = .returned (.bool false) ∧ Below W.heap.size W w')) (h : 0 < c) (hd : 2000 < d) :
    Calls Tryd.prog 4 #[.agg #[pv, rv], wv, .int .u32 (c : Int), .int .i64 d] w fun e w' => e = .returned (.bool true) ∧ Below w.heap.size w w' := by
  have hcI : ((c : Int) == 0) = false := by rw [beq_eq_false_iff_ne]; omega
  have hdd1 : decide (d < -2000) = false := decide_eq_false (by omega)
  have hdd2 : decide (2000 < d) = true := decide_eq_true hd
  obtain ⟨PA, pc, rfl, hpc, hpm, hps⟩ := hp
  obtain ⟨RV, vc, rfl, hvc, hvm, hvs⟩ := hr
  obtain ⟨WA, wc, us, rfl, hwc, hwm, hws, hwu⟩ := hw
  clear hpc hpm hps hvc hvm hvs hwc hwm hws hwu
  clear htab hc h hd
  obtain ⟨W0, hW0⟩ : ∃ W0 : World, W0 = w.alloc (.cells #[.slice PA ps.length pc, .slice RV rs.length vc] 24) := ⟨_, rfl⟩
  have r0 : Row W0 w.heap.size 24 [.slice PA ps.length pc, .slice RV rs.length vc] := by
    rw [hW0]
    have := Row.new w 24 [.slice PA ps.length pc, .slice RV rs.length vc]
    simpa using this
  have B0 : Below w.heap.size w W0 := by rw [hW0]; exact ((Below.refl _ _).alloc (Nat.le_refl _) _)
  go_enter Tryd.func4, Tryd.ntmps4
  go_wp2_with fail
  rw [← hW0]
  clear hW0
  have BB := B0
  have hr4 := r0
  clear B0 r0
  have c40 : W0.cell? ⟨w.heap.size, 0, none⟩ = some (.slice PA ps.length pc) := hr4.cell 0
  have c41 : W0.cell? ⟨w.heap.size, 1, none⟩ = some (.slice RV rs.length vc) := hr4.cell 1
  have z4 := hr4.lt
  go_wp2_with fail
  clear c40 c41 z4
  refine (HLG.out _ BB).mono ?_
  rintro e x1 ⟨rfl, hb⟩
  replace hr4 := hr4.keep hb
  replace BB : Below w.heap.size w x1 := BB.trans (hb.mono BB.size)
  clear hb
  have c40 : x1.cell? ⟨w.heap.size, 0, none⟩ = some (.slice PA ps.length pc) := hr4.cell 0
  have c41 : x1.cell? ⟨w.heap.size, 1, none⟩ = some (.slice RV rs.length vc) := hr4.cell 1
  have z4 := hr4.lt
  go_wp2_with fail
  clear c40 c41 z4
  go_ret
  exact ⟨rfl, BB⟩

theorem scl_all (pv rv wv : Value) (ps rs : List Int) (lss : List (List Nat)) (c : Nat) (d : Int) (w : World) (hp : Nums .i64 w pv ps) (hr : Nums .i64 w rv rs) (hw : LimL w wv lss) (hc : c < 4294967296) (htab : Pow10 w) :
    Calls Tryd.prog 4 #[.agg #[pv, rv], wv, .int .u32 (c : Int), .int .i64 d] w fun e w' => e = .returned (.bool true) ∧ Below w.heap.size w w' := by
  by_cases h20 : ∀ l ∈ lss, l.length ≤ 20
  · have HLG : Hid (∀ W : World, Below w.heap.size w W → Calls Tryd.prog 12 #[wv] W fun e w' => e = .returned (.bool false) ∧ Below W.heap.size W w') := fun W hb => (large_any wv lss W (hw.below hb)).mono fun e w' ⟨hl, hww⟩ => by
      subst hww
      rcases hl with ⟨_, l, hm, hlt⟩ | ⟨he, _⟩
      · exact absurd (h20 l hm) (by omega)
      · exact ⟨he, Below.refl _ _⟩
    by_cases h0 : c = 0
    · exact scl_nul pv rv wv ps rs lss c d w hp hr hw hc htab HLG h0
    by_cases h1 : d < -2000
    · exact scl_low pv rv wv ps rs lss c d w hp hr hw hc htab HLG (by omega) h1
    by_cases h2 : 2000 < d
    · exact scl_high pv rv wv ps rs lss c d w hp hr hw hc htab HLG (by omega) h2
    by_cases hE : sumE ps rs (lss.map val) = 0
    · exact scl_ok pv rv wv ps rs lss c d w hp hr hw hc htab HLG h20 (by omega) (by omega) (by omega) hE
    · exact scl_err pv rv wv ps rs lss c d w hp hr hw hc htab HLG h20 (by omega) (by omega) (by omega) hE
  · refine scl_long pv rv wv ps rs lss c d w hp hr hw hc htab fun W hb => (large_any wv lss W (hw.below hb)).mono fun e w' ⟨hl, hww⟩ => ?_
    subst hww
    rcases hl with ⟨he, _⟩ | ⟨_, ha⟩
    · exact ⟨he, Below.refl _ _⟩
    · exact absurd ha h20
end Go.Proofs.YtdmjgildgjpmcaaDoor
