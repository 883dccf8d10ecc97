/- The walks of grid.zero, Mean and Variance. -/
import Derived.Test.YtfoleamcaflfeaaGreatDoorGrS
import Derived.Deep.CutRange
import Derived.Deep.DeepCutAuto
import Derived.Deep.Light
namespace Go.Proofs.YtfoleamcaflfeaaGreatDoor
open Go.RowKit
set_option linter.unusedVariables false

theorem bl_sz {a w : World} (h : Below a.heap.size a w) : a.heap.size ≤ w.heap.size := h.size
theorem IntF.lt {b : Nat} {w : World} {v : Value} {p : Int} {L : Nat} (h : IntF b w v p L) : p.natAbs < bp L := by
  obtain ⟨mv, _, ⟨ls, h1, _, h3, h4⟩, _⟩ := h
  have := val_lt h1.2
  have := bp_mono h4
  omega
theorem var_lt {a b c : Int} {L : Nat} (ha : a.natAbs < bp (L + 1)) (hb : b.natAbs < bp (L + 3)) (hc : c.natAbs < bp (L + 5)) : (a * c - b * b).natAbs < bp (L + 1 + (L + 5) + 1) := by
  have e : bp (L + 3 + (L + 3)) = bp (L + 1 + (L + 5)) := by congr 1; omega
  have h1 : (a * c).natAbs < bp (L + 1 + (L + 5)) := by rw [Int.natAbs_mul, bp_add]; exact Nat.mul_lt_mul'' ha hc
  have h2 : (b * b).natAbs < bp (L + 1 + (L + 5)) := by rw [← e, Int.natAbs_mul, bp_add]; exact Nat.mul_lt_mul'' hb hb
  have h3 : (a * c - b * b).natAbs ≤ (a * c).natAbs + (b * b).natAbs := Int.natAbs_sub_le _ _
  rw [bp_succ]
  omega
theorem flipZ_pos {p s : Int} (h : 0 < s) : flipZ p s = p := if_neg (by omega)
theorem wF0_nonneg (ns : List Nat) : ∀ k, 0 ≤ wF0 ns k
  | 0 => Int.le_refl _
  | k + 1 => by
    have := wF0_nonneg ns k
    show 0 ≤ wF0 ns k + (ns.getD k 0 : Int)
    omega
theorem wF0_pos {ns : List Nat} {k : Nat} (h : wF0 ns k ≠ 0) : 0 < wF0 ns k := by have := wF0_nonneg ns k; omega
/-- The error of sums. -/
def sumE (ps rs : List Int) (ns : List Nat) : Int := if gridE ps rs ≠ 0 then gridE ps rs else if ns.length ≠ ps.length then 1 else if wF0 ns ps.length = 0 then 20 else 0
theorem sumE_zero {ps rs : List Int} {ns : List Nat} (h : sumE ps rs ns = 0) : gridE ps rs = 0 ∧ ns.length = ps.length ∧ wF0 ns ps.length ≠ 0 := by
  unfold sumE at h
  split at h
  · exact absurd h (by assumption)
  · split at h
    · omega
    · split at h
      · omega
      · rename_i h1 h2 h3
        exact ⟨by simpa using h1, by omega, h3⟩
theorem gsums_err (pv rv wv : Value) (ps rs : List Int) (ns : List Nat) (L : Nat) (w : World) (hp : Nums .i64 w pv ps) (hr : Nums .i64 w rv rs) (hw : Wts w wv ns L) (hL : L ≤ 35184372088700) (hE : sumE ps rs ns ≠ 0) :
    Calls Tryz.prog 72 #[.agg #[pv, rv], wv] w fun e w' => e = .returned (.tuple #[.agg #[.bool false, .slice none 0 0], .agg #[.bool false, .slice none 0 0], .agg #[.bool false, .slice none 0 0], .int .i64 (sumE ps rs ns)]) ∧ Below w.heap.size w w' := by
  by_cases h0 : gridE ps rs = 0
  · by_cases h1 : ns.length = ps.length
    · by_cases h2 : wF0 ns ps.length = 0
      · have e : sumE ps rs ns = 20 := by unfold sumE; rw [if_neg (by simpa using h0), if_neg (by omega), if_pos h2]
        rw [e]
        exact gsums_zero pv rv wv ps rs ns L w hp hr hw h0 h1 hL h2
      · exact absurd (by unfold sumE; rw [if_neg (by simpa using h0), if_neg (by omega), if_neg h2]) hE
    · have e : sumE ps rs ns = 1 := by unfold sumE; rw [if_neg (by simpa using h0), if_pos h1]
      rw [e]
      obtain ⟨WA, wc, us, rfl, hwc, hwm, hws, hwu⟩ := hw
      unfold maxLen at hwm
      exact gsums_len pv rv pv ps rs WA ns.length wc w hp hr (by omega) h0 h1
  · have e : sumE ps rs ns = gridE ps rs := by unfold sumE; rw [if_pos h0]
    rw [e]
    obtain ⟨WA, wc, us, rfl, hwc, hwm, hws, hwu⟩ := hw
    unfold maxLen at hwm
    exact gsums_bad pv rv pv ps rs WA ns.length wc w hp hr (by omega) h0

set_option maxHeartbeats 4000000 in
theorem gzero_any (w : World) :
    Calls Tryz.prog 73 #[] w fun e w' => ∃ x, e = .returned x ∧ RatF w.heap.size w' x 0 1 2 ∧ Below w.heap.size w w' := by
  obtain ⟨W0, hW0⟩ : ∃ W0 : World, W0 = w.alloc (.cells #[.bool false, .slice none 0 0, .slice none 0 0] 28) := ⟨_, rfl⟩
  have r0 : Row W0 w.heap.size 28 [.bool false, .slice none 0 0, .slice none 0 0] := by
    rw [hW0]
    have := Row.new w 28 [.bool false, .slice none 0 0, .slice none 0 0]
    simpa using this
  have B0 : Below w.heap.size w W0 := by rw [hW0]; exact ((Below.refl _ _).alloc (Nat.le_refl _) _)
  go_enter Tryz.func73, Tryz.ntmps73
  go_wp2_with fail
  rw [← hW0]
  clear hW0
  go_wp2_with fail
  refine (qof_any 0 1 _ (by omega) (by omega) (by omega) (by omega)).mono ?_
  rintro e w1 ⟨x, rfl, hx, hb⟩
  have B1 := B0.trans (hb.mono B0.size)
  have hz : w.heap.size + 1 ≤ W0.heap.size := r0.lt
  have q0 := r0.keep hb
  replace hx := hx.base hz
  have hx' : RatF (w.heap.size + 1) w1 x 0 1 2 := hx
  obtain ⟨mv, dv, rfl, hm, hd, fm, fd⟩ := hx'
  obtain ⟨A6, n6, c6, rfl⟩ := hm.lim1.choose_spec.1.show_
  obtain ⟨A7, n7, c7, rfl⟩ := hd.lim1.choose_spec.1.show_
  have vals := World.heap
  clear vals
  have hl := lit_below w1 (.cells #[.bool (decide ((0 : Int) < 0)), .slice A6 n6 c6, .slice A7 n7 c7] 28)
  have q1 := q0.keep hl
  have c0 : (w1.alloc (.cells #[.bool (decide ((0 : Int) < 0)), .slice A6 n6 c6, .slice A7 n7 c7] 28)).cell? ⟨w.heap.size, 0, none⟩ = some (.bool false) := q1.cell 0
  have c1 : (w1.alloc (.cells #[.bool (decide ((0 : Int) < 0)), .slice A6 n6 c6, .slice A7 n7 c7] 28)).cell? ⟨w.heap.size, 1, none⟩ = some (.slice none 0 0) := q1.cell 1
  have c2 : (w1.alloc (.cells #[.bool (decide ((0 : Int) < 0)), .slice A6 n6 c6, .slice A7 n7 c7] 28)).cell? ⟨w.heap.size, 2, none⟩ = some (.slice none 0 0) := q1.cell 2
  have f0 := q1.frozen 0
  have f1 := q1.frozen 1
  have f2 := q1.frozen 2
  have z1 := q1.lt
  have hm1 := hm.below hl
  have hd1 := hd.below hl
  have BB := B1.trans (hl.mono B1.size)
  have hd0 : decide ((0 : Int) < 0) = false := rfl
  rw [hd0] at c0 c1 c2 f0 f1 f2 z1 hm1 hd1 BB
  clear q0 q1 hl
  go_wp2_with fail
  refine bodyPost_ret (v := .agg #[.bool false, .slice A6 n6 c6, .slice A7 n7 c7]) (by simp [results, Tryz.results73, go_sem, c0, c1, c2]) rfl ⟨_, rfl, ⟨_, _, rfl, ?_, ?_, fm.mono (by omega), fd.mono (by omega)⟩, ((BB.setCell (by simp) _).setCell (by simp) _).setCell (by simp) _⟩
  · exact ((hm1.set_ fm (by simp) _).set_ fm (by simp) _).set_ fm (by simp) _
  · exact ((hd1.set_ fd (by simp) _).set_ fd (by simp) _).set_ fd (by simp) _

set_option maxHeartbeats 16000000 in
theorem gmean_no (pv rv wv : Value) (ps rs : List Int) (ns : List Nat) (L : Nat) (w : World) (hp : Nums .i64 w pv ps) (hr : Nums .i64 w rv rs) (hw : Wts w wv ns L) (hL : L ≤ 35184372088600) (hE : sumE ps rs ns ≠ 0) :
    Calls Tryz.prog 52 #[.agg #[pv, rv], wv] w fun e w' => ∃ x, e = .returned (.tuple #[x, .int .i64 (sumE ps rs ns)]) ∧ RatF w.heap.size w' x 0 1 2 ∧ Below w.heap.size w w' := by
  have HS := Lib.hid (fun (W : World) (h : Below w.heap.size w W) => gsums_err pv rv wv ps rs ns L W (hp.below h) (hr.below h) (hw.below h) (by omega) hE)
  obtain ⟨PA, pc, rfl, hpc, hpm, hps⟩ := hp
  obtain ⟨QA, qc, rfl, hqc, hqm, hqs⟩ := hr
  obtain ⟨WA, wc, us, rfl, hwc, hwm, hws, hwu⟩ := hw
  have hne : (sumE ps rs ns != 0) = true := by rw [bne_iff_ne]; exact hE
  generalize sumE ps rs ns = E at *
  clear hE hwu
  obtain ⟨W0, hW0⟩ : ∃ W0 : World, W0 = (w.alloc (.cells #[.slice PA ps.length pc, .slice QA rs.length qc] 48)).alloc (.cells #[.bool false, .slice none 0 0, .slice none 0 0] 28) := ⟨_, rfl⟩
  have r0 : Row W0 w.heap.size 48 [.slice PA ps.length pc, .slice QA rs.length qc] := by
    rw [hW0]
    have := Row.alloc (Row.new w 48 [.slice PA ps.length pc, .slice QA rs.length qc]) (.cells #[.bool false, .slice none 0 0, .slice none 0 0] 28)
    simpa using this
  have r1 : Row W0 (w.heap.size + 1) 28 [.bool false, .slice none 0 0, .slice none 0 0] := by
    rw [hW0]
    have := Row.new (w.alloc (.cells #[.slice PA ps.length pc, .slice QA rs.length qc] 48)) 28 [.bool false, .slice none 0 0, .slice none 0 0]
    simpa using this
  have B0 : Below w.heap.size w W0 := by rw [hW0]; exact (((Below.refl _ _).alloc (Nat.le_refl _) _).alloc (by simp) _)
  go_enter Tryz.func52, Tryz.ntmps52
  go_wp2_with fail
  rw [← hW0]
  clear hW0
  have BB := B0
  have hr0 := r0
  have hr4 := r1
  clear B0 r0 r1
  have c00 : W0.cell? ⟨w.heap.size, 0, none⟩ = some (.slice PA ps.length pc) := hr0.cell 0
  have c01 : W0.cell? ⟨w.heap.size, 1, none⟩ = some (.slice QA rs.length qc) := hr0.cell 1
  have c40 : W0.cell? ⟨w.heap.size + 1, 0, none⟩ = some (.bool false) := hr4.cell 0
  have c41 : W0.cell? ⟨w.heap.size + 1, 1, none⟩ = some (.slice none 0 0) := hr4.cell 1
  have c42 : W0.cell? ⟨w.heap.size + 1, 2, none⟩ = some (.slice none 0 0) := hr4.cell 2
  have f40 : W0.frozen? ⟨w.heap.size + 1, 0, none⟩ = false := hr4.frozen 0
  have f41 : W0.frozen? ⟨w.heap.size + 1, 1, none⟩ = false := hr4.frozen 1
  have f42 : W0.frozen? ⟨w.heap.size + 1, 2, none⟩ = false := hr4.frozen 2
  have z0 := hr0.lt
  have z4 := hr4.lt
  go_wp2_with fail
  clear c00 c01 c40 c41 c42 f40 f41 f42 z0 z4
  refine (HS.out _ BB).mono ?_
  rintro e x1 ⟨rfl, hb⟩
  replace hr0 := hr0.keep hb
  replace hr4 := hr4.keep hb
  replace BB : Below w.heap.size w x1 := BB.trans (hb.mono BB.size)
  clear hb
  obtain ⟨g6, hg6⟩ : ∃ g, x1.heap.size = g := ⟨_, rfl⟩
  have hr6 : Row (((x1.alloc (.cells #[.bool false, .slice none 0 0] 26)).alloc (.cells #[.bool false, .slice none 0 0] 26)).alloc (.cells #[.bool false, .slice none 0 0] 26)) (g6) 26 [.bool false, .slice none 0 0] := Row.alloc (Row.alloc (row_at (w := x1) (g := g6) (by simp [hg6])) (.cells #[.bool false, .slice none 0 0] 26)) (.cells #[.bool false, .slice none 0 0] 26)
  have hr7 : Row (((x1.alloc (.cells #[.bool false, .slice none 0 0] 26)).alloc (.cells #[.bool false, .slice none 0 0] 26)).alloc (.cells #[.bool false, .slice none 0 0] 26)) (g6 + 1) 26 [.bool false, .slice none 0 0] := Row.alloc (row_at (w := (x1.alloc (.cells #[.bool false, .slice none 0 0] 26))) (g := g6 + 1) (by simp [hg6])) (.cells #[.bool false, .slice none 0 0] 26)
  have hr8 : Row (((x1.alloc (.cells #[.bool false, .slice none 0 0] 26)).alloc (.cells #[.bool false, .slice none 0 0] 26)).alloc (.cells #[.bool false, .slice none 0 0] 26)) (g6 + 1 + 1) 26 [.bool false, .slice none 0 0] := row_at (w := ((x1.alloc (.cells #[.bool false, .slice none 0 0] 26)).alloc (.cells #[.bool false, .slice none 0 0] 26))) (g := g6 + 1 + 1) (by simp [hg6])
  have hl : Below x1.heap.size x1 (((x1.alloc (.cells #[.bool false, .slice none 0 0] 26)).alloc (.cells #[.bool false, .slice none 0 0] 26)).alloc (.cells #[.bool false, .slice none 0 0] 26)) := lit_more (lit_more (lit_below x1 _) _) _
  have o0_6 : w.heap.size < g6 := by have := hr0.lt; omega
  have o4_6 : w.heap.size + 1 < g6 := by have := hr4.lt; omega
  have ob_6 : w.heap.size ≤ g6 := by have := BB.size; omega
  have c00 : x1.cell? ⟨w.heap.size, 0, none⟩ = some (.slice PA ps.length pc) := hr0.cell 0
  have c01 : x1.cell? ⟨w.heap.size, 1, none⟩ = some (.slice QA rs.length qc) := hr0.cell 1
  have c40 : x1.cell? ⟨w.heap.size + 1, 0, none⟩ = some (.bool false) := hr4.cell 0
  have c41 : x1.cell? ⟨w.heap.size + 1, 1, none⟩ = some (.slice none 0 0) := hr4.cell 1
  have c42 : x1.cell? ⟨w.heap.size + 1, 2, none⟩ = some (.slice none 0 0) := hr4.cell 2
  have f40 : x1.frozen? ⟨w.heap.size + 1, 0, none⟩ = false := hr4.frozen 0
  have f41 : x1.frozen? ⟨w.heap.size + 1, 1, none⟩ = false := hr4.frozen 1
  have f42 : x1.frozen? ⟨w.heap.size + 1, 2, none⟩ = false := hr4.frozen 2
  have d1_00 : (x1.alloc (.cells #[.bool false, .slice none 0 0] 26)).cell? ⟨w.heap.size, 0, none⟩ = some (.slice PA ps.length pc) := (hr0.alloc _).cell 0
  have d1_01 : (x1.alloc (.cells #[.bool false, .slice none 0 0] 26)).cell? ⟨w.heap.size, 1, none⟩ = some (.slice QA rs.length qc) := (hr0.alloc _).cell 1
  have d1_40 : (x1.alloc (.cells #[.bool false, .slice none 0 0] 26)).cell? ⟨w.heap.size + 1, 0, none⟩ = some (.bool false) := (hr4.alloc _).cell 0
  have d1_41 : (x1.alloc (.cells #[.bool false, .slice none 0 0] 26)).cell? ⟨w.heap.size + 1, 1, none⟩ = some (.slice none 0 0) := (hr4.alloc _).cell 1
  have d1_42 : (x1.alloc (.cells #[.bool false, .slice none 0 0] 26)).cell? ⟨w.heap.size + 1, 2, none⟩ = some (.slice none 0 0) := (hr4.alloc _).cell 2
  have h1_40 : (x1.alloc (.cells #[.bool false, .slice none 0 0] 26)).frozen? ⟨w.heap.size + 1, 0, none⟩ = false := (hr4.alloc _).frozen 0
  have h1_41 : (x1.alloc (.cells #[.bool false, .slice none 0 0] 26)).frozen? ⟨w.heap.size + 1, 1, none⟩ = false := (hr4.alloc _).frozen 1
  have h1_42 : (x1.alloc (.cells #[.bool false, .slice none 0 0] 26)).frozen? ⟨w.heap.size + 1, 2, none⟩ = false := (hr4.alloc _).frozen 2
  have d2_00 : ((x1.alloc (.cells #[.bool false, .slice none 0 0] 26)).alloc (.cells #[.bool false, .slice none 0 0] 26)).cell? ⟨w.heap.size, 0, none⟩ = some (.slice PA ps.length pc) := ((hr0.alloc _).alloc _).cell 0
  have d2_01 : ((x1.alloc (.cells #[.bool false, .slice none 0 0] 26)).alloc (.cells #[.bool false, .slice none 0 0] 26)).cell? ⟨w.heap.size, 1, none⟩ = some (.slice QA rs.length qc) := ((hr0.alloc _).alloc _).cell 1
  have d2_40 : ((x1.alloc (.cells #[.bool false, .slice none 0 0] 26)).alloc (.cells #[.bool false, .slice none 0 0] 26)).cell? ⟨w.heap.size + 1, 0, none⟩ = some (.bool false) := ((hr4.alloc _).alloc _).cell 0
  have d2_41 : ((x1.alloc (.cells #[.bool false, .slice none 0 0] 26)).alloc (.cells #[.bool false, .slice none 0 0] 26)).cell? ⟨w.heap.size + 1, 1, none⟩ = some (.slice none 0 0) := ((hr4.alloc _).alloc _).cell 1
  have d2_42 : ((x1.alloc (.cells #[.bool false, .slice none 0 0] 26)).alloc (.cells #[.bool false, .slice none 0 0] 26)).cell? ⟨w.heap.size + 1, 2, none⟩ = some (.slice none 0 0) := ((hr4.alloc _).alloc _).cell 2
  have h2_40 : ((x1.alloc (.cells #[.bool false, .slice none 0 0] 26)).alloc (.cells #[.bool false, .slice none 0 0] 26)).frozen? ⟨w.heap.size + 1, 0, none⟩ = false := ((hr4.alloc _).alloc _).frozen 0
  have h2_41 : ((x1.alloc (.cells #[.bool false, .slice none 0 0] 26)).alloc (.cells #[.bool false, .slice none 0 0] 26)).frozen? ⟨w.heap.size + 1, 1, none⟩ = false := ((hr4.alloc _).alloc _).frozen 1
  have h2_42 : ((x1.alloc (.cells #[.bool false, .slice none 0 0] 26)).alloc (.cells #[.bool false, .slice none 0 0] 26)).frozen? ⟨w.heap.size + 1, 2, none⟩ = false := ((hr4.alloc _).alloc _).frozen 2
  have d3_00 : (((x1.alloc (.cells #[.bool false, .slice none 0 0] 26)).alloc (.cells #[.bool false, .slice none 0 0] 26)).alloc (.cells #[.bool false, .slice none 0 0] 26)).cell? ⟨w.heap.size, 0, none⟩ = some (.slice PA ps.length pc) := (((hr0.alloc _).alloc _).alloc _).cell 0
  have d3_01 : (((x1.alloc (.cells #[.bool false, .slice none 0 0] 26)).alloc (.cells #[.bool false, .slice none 0 0] 26)).alloc (.cells #[.bool false, .slice none 0 0] 26)).cell? ⟨w.heap.size, 1, none⟩ = some (.slice QA rs.length qc) := (((hr0.alloc _).alloc _).alloc _).cell 1
  have d3_40 : (((x1.alloc (.cells #[.bool false, .slice none 0 0] 26)).alloc (.cells #[.bool false, .slice none 0 0] 26)).alloc (.cells #[.bool false, .slice none 0 0] 26)).cell? ⟨w.heap.size + 1, 0, none⟩ = some (.bool false) := (((hr4.alloc _).alloc _).alloc _).cell 0
  have d3_41 : (((x1.alloc (.cells #[.bool false, .slice none 0 0] 26)).alloc (.cells #[.bool false, .slice none 0 0] 26)).alloc (.cells #[.bool false, .slice none 0 0] 26)).cell? ⟨w.heap.size + 1, 1, none⟩ = some (.slice none 0 0) := (((hr4.alloc _).alloc _).alloc _).cell 1
  have d3_42 : (((x1.alloc (.cells #[.bool false, .slice none 0 0] 26)).alloc (.cells #[.bool false, .slice none 0 0] 26)).alloc (.cells #[.bool false, .slice none 0 0] 26)).cell? ⟨w.heap.size + 1, 2, none⟩ = some (.slice none 0 0) := (((hr4.alloc _).alloc _).alloc _).cell 2
  have h3_40 : (((x1.alloc (.cells #[.bool false, .slice none 0 0] 26)).alloc (.cells #[.bool false, .slice none 0 0] 26)).alloc (.cells #[.bool false, .slice none 0 0] 26)).frozen? ⟨w.heap.size + 1, 0, none⟩ = false := (((hr4.alloc _).alloc _).alloc _).frozen 0
  have h3_41 : (((x1.alloc (.cells #[.bool false, .slice none 0 0] 26)).alloc (.cells #[.bool false, .slice none 0 0] 26)).alloc (.cells #[.bool false, .slice none 0 0] 26)).frozen? ⟨w.heap.size + 1, 1, none⟩ = false := (((hr4.alloc _).alloc _).alloc _).frozen 1
  have h3_42 : (((x1.alloc (.cells #[.bool false, .slice none 0 0] 26)).alloc (.cells #[.bool false, .slice none 0 0] 26)).alloc (.cells #[.bool false, .slice none 0 0] 26)).frozen? ⟨w.heap.size + 1, 2, none⟩ = false := (((hr4.alloc _).alloc _).alloc _).frozen 2
  have e0_0 : (((x1.alloc (.cells #[.bool false, .slice none 0 0] 26)).alloc (.cells #[.bool false, .slice none 0 0] 26)).alloc (.cells #[.bool false, .slice none 0 0] 26)).cell? ⟨g6, 0, none⟩ = some (.bool false) := hr6.cell 0
  have e0_1 : (((x1.alloc (.cells #[.bool false, .slice none 0 0] 26)).alloc (.cells #[.bool false, .slice none 0 0] 26)).alloc (.cells #[.bool false, .slice none 0 0] 26)).cell? ⟨g6, 1, none⟩ = some (.slice none 0 0) := hr6.cell 1
  have e1_0 : (((x1.alloc (.cells #[.bool false, .slice none 0 0] 26)).alloc (.cells #[.bool false, .slice none 0 0] 26)).alloc (.cells #[.bool false, .slice none 0 0] 26)).cell? ⟨g6 + 1, 0, none⟩ = some (.bool false) := hr7.cell 0
  have e1_1 : (((x1.alloc (.cells #[.bool false, .slice none 0 0] 26)).alloc (.cells #[.bool false, .slice none 0 0] 26)).alloc (.cells #[.bool false, .slice none 0 0] 26)).cell? ⟨g6 + 1, 1, none⟩ = some (.slice none 0 0) := hr7.cell 1
  have e2_0 : (((x1.alloc (.cells #[.bool false, .slice none 0 0] 26)).alloc (.cells #[.bool false, .slice none 0 0] 26)).alloc (.cells #[.bool false, .slice none 0 0] 26)).cell? ⟨g6 + 1 + 1, 0, none⟩ = some (.bool false) := hr8.cell 0
  have e2_1 : (((x1.alloc (.cells #[.bool false, .slice none 0 0] 26)).alloc (.cells #[.bool false, .slice none 0 0] 26)).alloc (.cells #[.bool false, .slice none 0 0] 26)).cell? ⟨g6 + 1 + 1, 1, none⟩ = some (.slice none 0 0) := hr8.cell 1
  go_wp2_with fail
  clear c00 c01 c40 c41 c42 f40 f41 f42 e0_0 e0_1 e1_0 e1_1 e2_0 e2_1 d1_00 d1_01 d1_40 d1_41 d1_42 h1_40 h1_41 h1_42 d2_00 d2_01 d2_40 d2_41 d2_42 h2_40 h2_41 h2_42 d3_00 d3_01 d3_40 d3_41 d3_42 h3_40 h3_41 h3_42
  clear hg6
  generalize (((x1.alloc (.cells #[.bool false, .slice none 0 0] 26)).alloc (.cells #[.bool false, .slice none 0 0] 26)).alloc (.cells #[.bool false, .slice none 0 0] 26)) = x2 at *
  replace hr0 := hr0.keep hl
  replace hr4 := hr4.keep hl
  replace BB : Below w.heap.size w x2 := BB.trans (hl.mono BB.size)
  clear hl
  refine (gzero_any _).mono ?_
  have hz6 := hr4.lt
  rintro e x3 ⟨vz, rfl, hvz, hb⟩
  replace hr0 := hr0.keep hb
  replace hr4 := hr4.keep hb
  replace hr6 := hr6.keep hb
  replace hr7 := hr7.keep hb
  replace hr8 := hr8.keep hb
  replace BB : Below w.heap.size w x3 := BB.trans (hb.mono BB.size)
  clear hb
  have hz' := hvz
  obtain ⟨mz, dz, ez, hmz, hdz, _, _⟩ := hz'
  subst ez
  obtain ⟨Az, kz, cz, rfl⟩ := hmz.lim1.choose_spec.1.show_
  obtain ⟨Dz, lz, bz, rfl⟩ := hdz.lim1.choose_spec.1.show_
  clear hmz hdz
  have c00 : x3.cell? ⟨w.heap.size, 0, none⟩ = some (.slice PA ps.length pc) := hr0.cell 0
  have c01 : x3.cell? ⟨w.heap.size, 1, none⟩ = some (.slice QA rs.length qc) := hr0.cell 1
  have c40 : x3.cell? ⟨w.heap.size + 1, 0, none⟩ = some (.bool false) := hr4.cell 0
  have c41 : x3.cell? ⟨w.heap.size + 1, 1, none⟩ = some (.slice none 0 0) := hr4.cell 1
  have c42 : x3.cell? ⟨w.heap.size + 1, 2, none⟩ = some (.slice none 0 0) := hr4.cell 2
  have c60 : x3.cell? ⟨g6, 0, none⟩ = some (.bool false) := hr6.cell 0
  have c61 : x3.cell? ⟨g6, 1, none⟩ = some (.slice none 0 0) := hr6.cell 1
  have c70 : x3.cell? ⟨g6 + 1, 0, none⟩ = some (.bool false) := hr7.cell 0
  have c71 : x3.cell? ⟨g6 + 1, 1, none⟩ = some (.slice none 0 0) := hr7.cell 1
  have c80 : x3.cell? ⟨g6 + 1 + 1, 0, none⟩ = some (.bool false) := hr8.cell 0
  have c81 : x3.cell? ⟨g6 + 1 + 1, 1, none⟩ = some (.slice none 0 0) := hr8.cell 1
  have f40 : x3.frozen? ⟨w.heap.size + 1, 0, none⟩ = false := hr4.frozen 0
  have f41 : x3.frozen? ⟨w.heap.size + 1, 1, none⟩ = false := hr4.frozen 1
  have f42 : x3.frozen? ⟨w.heap.size + 1, 2, none⟩ = false := hr4.frozen 2
  have z0 := hr0.lt
  have z4 := hr4.lt
  have z6 := hr6.lt
  have z7 := hr7.lt
  have z8 := hr8.lt
  go_wp2_with fail
  refine bodyPost_ret (v := .tuple #[.agg #[.bool false, .slice Az kz cz, .slice Dz lz bz], .int .i64 E]) (by simp [results, Tryz.results52, go_sem, c40, c41, c42]) rfl ⟨_, rfl, ?_, ((BB.setCell (by simp) _).setCell (by simp) _).setCell (by simp) _⟩
  exact (((hvz.set_ (a := ⟨w.heap.size + 1, 0, none⟩) hz6 _).set_ (a := ⟨w.heap.size + 1, 1, none⟩) hz6 _).set_ (a := ⟨w.heap.size + 1, 2, none⟩) hz6 _).base (by omega)

set_option maxHeartbeats 16000000 in
theorem gvar_no (pv rv wv : Value) (ps rs : List Int) (ns : List Nat) (L : Nat) (w : World) (hp : Nums .i64 w pv ps) (hr : Nums .i64 w rv rs) (hw : Wts w wv ns L) (hL : L ≤ 35184372088600) (hE : sumE ps rs ns ≠ 0) :
    Calls Tryz.prog 53 #[.agg #[pv, rv], wv] w fun e w' => ∃ x, e = .returned (.tuple #[x, .int .i64 (sumE ps rs ns)]) ∧ RatF w.heap.size w' x 0 1 2 ∧ Below w.heap.size w w' := by
  have HS := Lib.hid (fun (W : World) (h : Below w.heap.size w W) => gsums_err pv rv wv ps rs ns L W (hp.below h) (hr.below h) (hw.below h) (by omega) hE)
  obtain ⟨PA, pc, rfl, hpc, hpm, hps⟩ := hp
  obtain ⟨QA, qc, rfl, hqc, hqm, hqs⟩ := hr
  obtain ⟨WA, wc, us, rfl, hwc, hwm, hws, hwu⟩ := hw
  have hne : (sumE ps rs ns != 0) = true := by rw [bne_iff_ne]; exact hE
  generalize sumE ps rs ns = E at *
  clear hE hwu
  obtain ⟨W0, hW0⟩ : ∃ W0 : World, W0 = (w.alloc (.cells #[.slice PA ps.length pc, .slice QA rs.length qc] 48)).alloc (.cells #[.bool false, .slice none 0 0, .slice none 0 0] 28) := ⟨_, rfl⟩
  have r0 : Row W0 w.heap.size 48 [.slice PA ps.length pc, .slice QA rs.length qc] := by
    rw [hW0]
    have := Row.alloc (Row.new w 48 [.slice PA ps.length pc, .slice QA rs.length qc]) (.cells #[.bool false, .slice none 0 0, .slice none 0 0] 28)
    simpa using this
  have r1 : Row W0 (w.heap.size + 1) 28 [.bool false, .slice none 0 0, .slice none 0 0] := by
    rw [hW0]
    have := Row.new (w.alloc (.cells #[.slice PA ps.length pc, .slice QA rs.length qc] 48)) 28 [.bool false, .slice none 0 0, .slice none 0 0]
    simpa using this
  have B0 : Below w.heap.size w W0 := by rw [hW0]; exact (((Below.refl _ _).alloc (Nat.le_refl _) _).alloc (by simp) _)
  go_enter Tryz.func53, Tryz.ntmps53
  go_wp2_with fail
  rw [← hW0]
  clear hW0
  have BB := B0
  have hr0 := r0
  have hr4 := r1
  clear B0 r0 r1
  have c00 : W0.cell? ⟨w.heap.size, 0, none⟩ = some (.slice PA ps.length pc) := hr0.cell 0
  have c01 : W0.cell? ⟨w.heap.size, 1, none⟩ = some (.slice QA rs.length qc) := hr0.cell 1
  have c40 : W0.cell? ⟨w.heap.size + 1, 0, none⟩ = some (.bool false) := hr4.cell 0
  have c41 : W0.cell? ⟨w.heap.size + 1, 1, none⟩ = some (.slice none 0 0) := hr4.cell 1
  have c42 : W0.cell? ⟨w.heap.size + 1, 2, none⟩ = some (.slice none 0 0) := hr4.cell 2
  have f40 : W0.frozen? ⟨w.heap.size + 1, 0, none⟩ = false := hr4.frozen 0
  have f41 : W0.frozen? ⟨w.heap.size + 1, 1, none⟩ = false := hr4.frozen 1
  have f42 : W0.frozen? ⟨w.heap.size + 1, 2, none⟩ = false := hr4.frozen 2
  have z0 := hr0.lt
  have z4 := hr4.lt
  go_wp2_with fail
  clear c00 c01 c40 c41 c42 f40 f41 f42 z0 z4
  refine (HS.out _ BB).mono ?_
  rintro e x1 ⟨rfl, hb⟩
  replace hr0 := hr0.keep hb
  replace hr4 := hr4.keep hb
  replace BB : Below w.heap.size w x1 := BB.trans (hb.mono BB.size)
  clear hb
  obtain ⟨g6, hg6⟩ : ∃ g, x1.heap.size = g := ⟨_, rfl⟩
  have hr6 : Row (((x1.alloc (.cells #[.bool false, .slice none 0 0] 26)).alloc (.cells #[.bool false, .slice none 0 0] 26)).alloc (.cells #[.bool false, .slice none 0 0] 26)) (g6) 26 [.bool false, .slice none 0 0] := Row.alloc (Row.alloc (row_at (w := x1) (g := g6) (by simp [hg6])) (.cells #[.bool false, .slice none 0 0] 26)) (.cells #[.bool false, .slice none 0 0] 26)
  have hr7 : Row (((x1.alloc (.cells #[.bool false, .slice none 0 0] 26)).alloc (.cells #[.bool false, .slice none 0 0] 26)).alloc (.cells #[.bool false, .slice none 0 0] 26)) (g6 + 1) 26 [.bool false, .slice none 0 0] := Row.alloc (row_at (w := (x1.alloc (.cells #[.bool false, .slice none 0 0] 26))) (g := g6 + 1) (by simp [hg6])) (.cells #[.bool false, .slice none 0 0] 26)
  have hr8 : Row (((x1.alloc (.cells #[.bool false, .slice none 0 0] 26)).alloc (.cells #[.bool false, .slice none 0 0] 26)).alloc (.cells #[.bool false, .slice none 0 0] 26)) (g6 + 1 + 1) 26 [.bool false, .slice none 0 0] := row_at (w := ((x1.alloc (.cells #[.bool false, .slice none 0 0] 26)).alloc (.cells #[.bool false, .slice none 0 0] 26))) (g := g6 + 1 + 1) (by simp [hg6])
  have hl : Below x1.heap.size x1 (((x1.alloc (.cells #[.bool false, .slice none 0 0] 26)).alloc (.cells #[.bool false, .slice none 0 0] 26)).alloc (.cells #[.bool false, .slice none 0 0] 26)) := lit_more (lit_more (lit_below x1 _) _) _
  have o0_6 : w.heap.size < g6 := by have := hr0.lt; omega
  have o4_6 : w.heap.size + 1 < g6 := by have := hr4.lt; omega
  have ob_6 : w.heap.size ≤ g6 := by have := BB.size; omega
  have c00 : x1.cell? ⟨w.heap.size, 0, none⟩ = some (.slice PA ps.length pc) := hr0.cell 0
  have c01 : x1.cell? ⟨w.heap.size, 1, none⟩ = some (.slice QA rs.length qc) := hr0.cell 1
  have c40 : x1.cell? ⟨w.heap.size + 1, 0, none⟩ = some (.bool false) := hr4.cell 0
  have c41 : x1.cell? ⟨w.heap.size + 1, 1, none⟩ = some (.slice none 0 0) := hr4.cell 1
  have c42 : x1.cell? ⟨w.heap.size + 1, 2, none⟩ = some (.slice none 0 0) := hr4.cell 2
  have f40 : x1.frozen? ⟨w.heap.size + 1, 0, none⟩ = false := hr4.frozen 0
  have f41 : x1.frozen? ⟨w.heap.size + 1, 1, none⟩ = false := hr4.frozen 1
  have f42 : x1.frozen? ⟨w.heap.size + 1, 2, none⟩ = false := hr4.frozen 2
  have d1_00 : (x1.alloc (.cells #[.bool false, .slice none 0 0] 26)).cell? ⟨w.heap.size, 0, none⟩ = some (.slice PA ps.length pc) := (hr0.alloc _).cell 0
  have d1_01 : (x1.alloc (.cells #[.bool false, .slice none 0 0] 26)).cell? ⟨w.heap.size, 1, none⟩ = some (.slice QA rs.length qc) := (hr0.alloc _).cell 1
  have d1_40 : (x1.alloc (.cells #[.bool false, .slice none 0 0] 26)).cell? ⟨w.heap.size + 1, 0, none⟩ = some (.bool false) := (hr4.alloc _).cell 0
  have d1_41 : (x1.alloc (.cells #[.bool false, .slice none 0 0] 26)).cell? ⟨w.heap.size + 1, 1, none⟩ = some (.slice none 0 0) := (hr4.alloc _).cell 1
  have d1_42 : (x1.alloc (.cells #[.bool false, .slice none 0 0] 26)).cell? ⟨w.heap.size + 1, 2, none⟩ = some (.slice none 0 0) := (hr4.alloc _).cell 2
  have h1_40 : (x1.alloc (.cells #[.bool false, .slice none 0 0] 26)).frozen? ⟨w.heap.size + 1, 0, none⟩ = false := (hr4.alloc _).frozen 0
  have h1_41 : (x1.alloc (.cells #[.bool false, .slice none 0 0] 26)).frozen? ⟨w.heap.size + 1, 1, none⟩ = false := (hr4.alloc _).frozen 1
  have h1_42 : (x1.alloc (.cells #[.bool false, .slice none 0 0] 26)).frozen? ⟨w.heap.size + 1, 2, none⟩ = false := (hr4.alloc _).frozen 2
  have d2_00 : ((x1.alloc (.cells #[.bool false, .slice none 0 0] 26)).alloc (.cells #[.bool false, .slice none 0 0] 26)).cell? ⟨w.heap.size, 0, none⟩ = some (.slice PA ps.length pc) := ((hr0.alloc _).alloc _).cell 0
  have d2_01 : ((x1.alloc (.cells #[.bool false, .slice none 0 0] 26)).alloc (.cells #[.bool false, .slice none 0 0] 26)).cell? ⟨w.heap.size, 1, none⟩ = some (.slice QA rs.length qc) := ((hr0.alloc _).alloc _).cell 1
  have d2_40 : ((x1.alloc (.cells #[.bool false, .slice none 0 0] 26)).alloc (.cells #[.bool false, .slice none 0 0] 26)).cell? ⟨w.heap.size + 1, 0, none⟩ = some (.bool false) := ((hr4.alloc _).alloc _).cell 0
  have d2_41 : ((x1.alloc (.cells #[.bool false, .slice none 0 0] 26)).alloc (.cells #[.bool false, .slice none 0 0] 26)).cell? ⟨w.heap.size + 1, 1, none⟩ = some (.slice none 0 0) := ((hr4.alloc _).alloc _).cell 1
  have d2_42 : ((x1.alloc (.cells #[.bool false, .slice none 0 0] 26)).alloc (.cells #[.bool false, .slice none 0 0] 26)).cell? ⟨w.heap.size + 1, 2, none⟩ = some (.slice none 0 0) := ((hr4.alloc _).alloc _).cell 2
  have h2_40 : ((x1.alloc (.cells #[.bool false, .slice none 0 0] 26)).alloc (.cells #[.bool false, .slice none 0 0] 26)).frozen? ⟨w.heap.size + 1, 0, none⟩ = false := ((hr4.alloc _).alloc _).frozen 0
  have h2_41 : ((x1.alloc (.cells #[.bool false, .slice none 0 0] 26)).alloc (.cells #[.bool false, .slice none 0 0] 26)).frozen? ⟨w.heap.size + 1, 1, none⟩ = false := ((hr4.alloc _).alloc _).frozen 1
  have h2_42 : ((x1.alloc (.cells #[.bool false, .slice none 0 0] 26)).alloc (.cells #[.bool false, .slice none 0 0] 26)).frozen? ⟨w.heap.size + 1, 2, none⟩ = false := ((hr4.alloc _).alloc _).frozen 2
  have d3_00 : (((x1.alloc (.cells #[.bool false, .slice none 0 0] 26)).alloc (.cells #[.bool false, .slice none 0 0] 26)).alloc (.cells #[.bool false, .slice none 0 0] 26)).cell? ⟨w.heap.size, 0, none⟩ = some (.slice PA ps.length pc) := (((hr0.alloc _).alloc _).alloc _).cell 0
  have d3_01 : (((x1.alloc (.cells #[.bool false, .slice none 0 0] 26)).alloc (.cells #[.bool false, .slice none 0 0] 26)).alloc (.cells #[.bool false, .slice none 0 0] 26)).cell? ⟨w.heap.size, 1, none⟩ = some (.slice QA rs.length qc) := (((hr0.alloc _).alloc _).alloc _).cell 1
  have d3_40 : (((x1.alloc (.cells #[.bool false, .slice none 0 0] 26)).alloc (.cells #[.bool false, .slice none 0 0] 26)).alloc (.cells #[.bool false, .slice none 0 0] 26)).cell? ⟨w.heap.size + 1, 0, none⟩ = some (.bool false) := (((hr4.alloc _).alloc _).alloc _).cell 0
  have d3_41 : (((x1.alloc (.cells #[.bool false, .slice none 0 0] 26)).alloc (.cells #[.bool false, .slice none 0 0] 26)).alloc (.cells #[.bool false, .slice none 0 0] 26)).cell? ⟨w.heap.size + 1, 1, none⟩ = some (.slice none 0 0) := (((hr4.alloc _).alloc _).alloc _).cell 1
  have d3_42 : (((x1.alloc (.cells #[.bool false, .slice none 0 0] 26)).alloc (.cells #[.bool false, .slice none 0 0] 26)).alloc (.cells #[.bool false, .slice none 0 0] 26)).cell? ⟨w.heap.size + 1, 2, none⟩ = some (.slice none 0 0) := (((hr4.alloc _).alloc _).alloc _).cell 2
  have h3_40 : (((x1.alloc (.cells #[.bool false, .slice none 0 0] 26)).alloc (.cells #[.bool false, .slice none 0 0] 26)).alloc (.cells #[.bool false, .slice none 0 0] 26)).frozen? ⟨w.heap.size + 1, 0, none⟩ = false := (((hr4.alloc _).alloc _).alloc _).frozen 0
  have h3_41 : (((x1.alloc (.cells #[.bool false, .slice none 0 0] 26)).alloc (.cells #[.bool false, .slice none 0 0] 26)).alloc (.cells #[.bool false, .slice none 0 0] 26)).frozen? ⟨w.heap.size + 1, 1, none⟩ = false := (((hr4.alloc _).alloc _).alloc _).frozen 1
  have h3_42 : (((x1.alloc (.cells #[.bool false, .slice none 0 0] 26)).alloc (.cells #[.bool false, .slice none 0 0] 26)).alloc (.cells #[.bool false, .slice none 0 0] 26)).frozen? ⟨w.heap.size + 1, 2, none⟩ = false := (((hr4.alloc _).alloc _).alloc _).frozen 2
  have e0_0 : (((x1.alloc (.cells #[.bool false, .slice none 0 0] 26)).alloc (.cells #[.bool false, .slice none 0 0] 26)).alloc (.cells #[.bool false, .slice none 0 0] 26)).cell? ⟨g6, 0, none⟩ = some (.bool false) := hr6.cell 0
  have e0_1 : (((x1.alloc (.cells #[.bool false, .slice none 0 0] 26)).alloc (.cells #[.bool false, .slice none 0 0] 26)).alloc (.cells #[.bool false, .slice none 0 0] 26)).cell? ⟨g6, 1, none⟩ = some (.slice none 0 0) := hr6.cell 1
  have e1_0 : (((x1.alloc (.cells #[.bool false, .slice none 0 0] 26)).alloc (.cells #[.bool false, .slice none 0 0] 26)).alloc (.cells #[.bool false, .slice none 0 0] 26)).cell? ⟨g6 + 1, 0, none⟩ = some (.bool false) := hr7.cell 0
  have e1_1 : (((x1.alloc (.cells #[.bool false, .slice none 0 0] 26)).alloc (.cells #[.bool false, .slice none 0 0] 26)).alloc (.cells #[.bool false, .slice none 0 0] 26)).cell? ⟨g6 + 1, 1, none⟩ = some (.slice none 0 0) := hr7.cell 1
  have e2_0 : (((x1.alloc (.cells #[.bool false, .slice none 0 0] 26)).alloc (.cells #[.bool false, .slice none 0 0] 26)).alloc (.cells #[.bool false, .slice none 0 0] 26)).cell? ⟨g6 + 1 + 1, 0, none⟩ = some (.bool false) := hr8.cell 0
  have e2_1 : (((x1.alloc (.cells #[.bool false, .slice none 0 0] 26)).alloc (.cells #[.bool false, .slice none 0 0] 26)).alloc (.cells #[.bool false, .slice none 0 0] 26)).cell? ⟨g6 + 1 + 1, 1, none⟩ = some (.slice none 0 0) := hr8.cell 1
  go_wp2_with fail
  clear c00 c01 c40 c41 c42 f40 f41 f42 e0_0 e0_1 e1_0 e1_1 e2_0 e2_1 d1_00 d1_01 d1_40 d1_41 d1_42 h1_40 h1_41 h1_42 d2_00 d2_01 d2_40 d2_41 d2_42 h2_40 h2_41 h2_42 d3_00 d3_01 d3_40 d3_41 d3_42 h3_40 h3_41 h3_42
  clear hg6
  generalize (((x1.alloc (.cells #[.bool false, .slice none 0 0] 26)).alloc (.cells #[.bool false, .slice none 0 0] 26)).alloc (.cells #[.bool false, .slice none 0 0] 26)) = x2 at *
  replace hr0 := hr0.keep hl
  replace hr4 := hr4.keep hl
  replace BB : Below w.heap.size w x2 := BB.trans (hl.mono BB.size)
  clear hl
  refine (gzero_any _).mono ?_
  have hz6 := hr4.lt
  rintro e x3 ⟨vz, rfl, hvz, hb⟩
  replace hr0 := hr0.keep hb
  replace hr4 := hr4.keep hb
  replace hr6 := hr6.keep hb
  replace hr7 := hr7.keep hb
  replace hr8 := hr8.keep hb
  replace BB : Below w.heap.size w x3 := BB.trans (hb.mono BB.size)
  clear hb
  have hz' := hvz
  obtain ⟨mz, dz, ez, hmz, hdz, _, _⟩ := hz'
  subst ez
  obtain ⟨Az, kz, cz, rfl⟩ := hmz.lim1.choose_spec.1.show_
  obtain ⟨Dz, lz, bz, rfl⟩ := hdz.lim1.choose_spec.1.show_
  clear hmz hdz
  have c00 : x3.cell? ⟨w.heap.size, 0, none⟩ = some (.slice PA ps.length pc) := hr0.cell 0
  have c01 : x3.cell? ⟨w.heap.size, 1, none⟩ = some (.slice QA rs.length qc) := hr0.cell 1
  have c40 : x3.cell? ⟨w.heap.size + 1, 0, none⟩ = some (.bool false) := hr4.cell 0
  have c41 : x3.cell? ⟨w.heap.size + 1, 1, none⟩ = some (.slice none 0 0) := hr4.cell 1
  have c42 : x3.cell? ⟨w.heap.size + 1, 2, none⟩ = some (.slice none 0 0) := hr4.cell 2
  have c60 : x3.cell? ⟨g6, 0, none⟩ = some (.bool false) := hr6.cell 0
  have c61 : x3.cell? ⟨g6, 1, none⟩ = some (.slice none 0 0) := hr6.cell 1
  have c70 : x3.cell? ⟨g6 + 1, 0, none⟩ = some (.bool false) := hr7.cell 0
  have c71 : x3.cell? ⟨g6 + 1, 1, none⟩ = some (.slice none 0 0) := hr7.cell 1
  have c80 : x3.cell? ⟨g6 + 1 + 1, 0, none⟩ = some (.bool false) := hr8.cell 0
  have c81 : x3.cell? ⟨g6 + 1 + 1, 1, none⟩ = some (.slice none 0 0) := hr8.cell 1
  have f40 : x3.frozen? ⟨w.heap.size + 1, 0, none⟩ = false := hr4.frozen 0
  have f41 : x3.frozen? ⟨w.heap.size + 1, 1, none⟩ = false := hr4.frozen 1
  have f42 : x3.frozen? ⟨w.heap.size + 1, 2, none⟩ = false := hr4.frozen 2
  have z0 := hr0.lt
  have z4 := hr4.lt
  have z6 := hr6.lt
  have z7 := hr7.lt
  have z8 := hr8.lt
  go_wp2_with fail
  refine bodyPost_ret (v := .tuple #[.agg #[.bool false, .slice Az kz cz, .slice Dz lz bz], .int .i64 E]) (by simp [results, Tryz.results53, go_sem, c40, c41, c42]) rfl ⟨_, rfl, ?_, ((BB.setCell (by simp) _).setCell (by simp) _).setCell (by simp) _⟩
  exact (((hvz.set_ (a := ⟨w.heap.size + 1, 0, none⟩) hz6 _).set_ (a := ⟨w.heap.size + 1, 1, none⟩) hz6 _).set_ (a := ⟨w.heap.size + 1, 2, none⟩) hz6 _).base (by omega)

set_option maxHeartbeats 16000000 in
theorem gmean_ok (pv rv wv : Value) (ps rs : List Int) (ns : List Nat) (L : Nat) (w : World) (hp : Nums .i64 w pv ps) (hr : Nums .i64 w rv rs) (hw : Wts w wv ns L) (hL : L ≤ 35184372088600) (hE : sumE ps rs ns = 0) :
    Calls Tryz.prog 52 #[.agg #[pv, rv], wv] w fun e w' => ∃ x, e = .returned (.tuple #[x, .int .i64 0]) ∧ RatF w.heap.size w' x (redP (wF1 ns ps ps.length) (wF0 ns ps.length).natAbs) (redQ (wF1 ns ps ps.length) (wF0 ns ps.length).natAbs) ((L + 3)) ∧ Below w.heap.size w w' := by
  obtain ⟨s1, s2, s3⟩ := sumE_zero hE
  have HS := Lib.hid (fun (W : World) (h : Below w.heap.size w W) => gsums_ok pv rv wv ps rs ns L W (hp.below h) (hr.below h) (hw.below h) s1 s2 (by omega) s3)
  obtain ⟨PA, pc, rfl, hpc, hpm, hps⟩ := hp
  obtain ⟨QA, qc, rfl, hqc, hqm, hqs⟩ := hr
  obtain ⟨WA, wc, us, rfl, hwc, hwm, hws, hwu⟩ := hw
  have HF0 := Lib.hid s3
  clear s1 s2 s3 hE hwu
  obtain ⟨F0, hF0⟩ : ∃ x, wF0 ns ps.length = x := ⟨_, rfl⟩
  obtain ⟨F1, hF1⟩ : ∃ x, wF1 ns ps ps.length = x := ⟨_, rfl⟩
  obtain ⟨F2, hF2⟩ : ∃ x, wF2 ns ps ps.length = x := ⟨_, rfl⟩
  rw [hF0, hF1, hF2] at HS
  rw [hF0] at HF0
  have HH0 := Lib.hid hF0
  have HH1 := Lib.hid hF1
  have HH2 := Lib.hid hF2
  have hpos : 0 < F0 := by rw [← hF0]; exact wF0_pos (by rw [hF0]; exact HF0.out)
  clear hF0 hF1 hF2
  obtain ⟨W0, hW0⟩ : ∃ W0 : World, W0 = (w.alloc (.cells #[.slice PA ps.length pc, .slice QA rs.length qc] 48)).alloc (.cells #[.bool false, .slice none 0 0, .slice none 0 0] 28) := ⟨_, rfl⟩
  have r0 : Row W0 w.heap.size 48 [.slice PA ps.length pc, .slice QA rs.length qc] := by
    rw [hW0]
    have := Row.alloc (Row.new w 48 [.slice PA ps.length pc, .slice QA rs.length qc]) (.cells #[.bool false, .slice none 0 0, .slice none 0 0] 28)
    simpa using this
  have r1 : Row W0 (w.heap.size + 1) 28 [.bool false, .slice none 0 0, .slice none 0 0] := by
    rw [hW0]
    have := Row.new (w.alloc (.cells #[.slice PA ps.length pc, .slice QA rs.length qc] 48)) 28 [.bool false, .slice none 0 0, .slice none 0 0]
    simpa using this
  have B0 : Below w.heap.size w W0 := by rw [hW0]; exact (((Below.refl _ _).alloc (Nat.le_refl _) _).alloc (by simp) _)
  go_enter Tryz.func52, Tryz.ntmps52
  go_wp2_with fail
  rw [← hW0]
  clear hW0
  have BB := B0
  have hr0 := r0
  have hr4 := r1
  clear B0 r0 r1
  have c00 : W0.cell? ⟨w.heap.size, 0, none⟩ = some (.slice PA ps.length pc) := hr0.cell 0
  have c01 : W0.cell? ⟨w.heap.size, 1, none⟩ = some (.slice QA rs.length qc) := hr0.cell 1
  have c40 : W0.cell? ⟨w.heap.size + 1, 0, none⟩ = some (.bool false) := hr4.cell 0
  have c41 : W0.cell? ⟨w.heap.size + 1, 1, none⟩ = some (.slice none 0 0) := hr4.cell 1
  have c42 : W0.cell? ⟨w.heap.size + 1, 2, none⟩ = some (.slice none 0 0) := hr4.cell 2
  have f40 : W0.frozen? ⟨w.heap.size + 1, 0, none⟩ = false := hr4.frozen 0
  have f41 : W0.frozen? ⟨w.heap.size + 1, 1, none⟩ = false := hr4.frozen 1
  have f42 : W0.frozen? ⟨w.heap.size + 1, 2, none⟩ = false := hr4.frozen 2
  have z0 := hr0.lt
  have z4 := hr4.lt
  go_wp2_with fail
  clear c00 c01 c40 c41 c42 f40 f41 f42 z0 z4
  refine (HS.out _ BB).mono ?_
  rintro e x1 ⟨v6, v7, v8, rfl, hv6, hv7, hv8, hb⟩
  replace hr0 := hr0.keep hb
  replace hr4 := hr4.keep hb
  replace BB : Below w.heap.size w x1 := BB.trans (hb.mono BB.size)
  clear hb
  have h6' := hv6
  obtain ⟨m6, e6, hm6, _⟩ := h6'
  subst e6
  obtain ⟨A6, k6, c6, rfl⟩ := hm6.lim1.choose_spec.1.show_
  clear hm6
  have h7' := hv7
  obtain ⟨m7, e7, hm7, _⟩ := h7'
  subst e7
  obtain ⟨A7, k7, c7, rfl⟩ := hm7.lim1.choose_spec.1.show_
  clear hm7
  have h8' := hv8
  obtain ⟨m8, e8, hm8, _⟩ := h8'
  subst e8
  obtain ⟨A8, k8, c8, rfl⟩ := hm8.lim1.choose_spec.1.show_
  clear hm8
  obtain ⟨g6, hg6⟩ : ∃ g, x1.heap.size = g := ⟨_, rfl⟩
  have hr6 : Row (((x1.alloc (.cells #[.bool (decide (F0 < 0)), .slice A6 k6 c6] 26)).alloc (.cells #[.bool (decide (F1 < 0)), .slice A7 k7 c7] 26)).alloc (.cells #[.bool (decide (F2 < 0)), .slice A8 k8 c8] 26)) (g6) 26 [.bool (decide (F0 < 0)), .slice A6 k6 c6] := Row.alloc (Row.alloc (row_at (w := x1) (g := g6) (by simp [hg6])) (.cells #[.bool (decide (F1 < 0)), .slice A7 k7 c7] 26)) (.cells #[.bool (decide (F2 < 0)), .slice A8 k8 c8] 26)
  have hr7 : Row (((x1.alloc (.cells #[.bool (decide (F0 < 0)), .slice A6 k6 c6] 26)).alloc (.cells #[.bool (decide (F1 < 0)), .slice A7 k7 c7] 26)).alloc (.cells #[.bool (decide (F2 < 0)), .slice A8 k8 c8] 26)) (g6 + 1) 26 [.bool (decide (F1 < 0)), .slice A7 k7 c7] := Row.alloc (row_at (w := (x1.alloc (.cells #[.bool (decide (F0 < 0)), .slice A6 k6 c6] 26))) (g := g6 + 1) (by simp [hg6])) (.cells #[.bool (decide (F2 < 0)), .slice A8 k8 c8] 26)
  have hr8 : Row (((x1.alloc (.cells #[.bool (decide (F0 < 0)), .slice A6 k6 c6] 26)).alloc (.cells #[.bool (decide (F1 < 0)), .slice A7 k7 c7] 26)).alloc (.cells #[.bool (decide (F2 < 0)), .slice A8 k8 c8] 26)) (g6 + 1 + 1) 26 [.bool (decide (F2 < 0)), .slice A8 k8 c8] := row_at (w := ((x1.alloc (.cells #[.bool (decide (F0 < 0)), .slice A6 k6 c6] 26)).alloc (.cells #[.bool (decide (F1 < 0)), .slice A7 k7 c7] 26))) (g := g6 + 1 + 1) (by simp [hg6])
  have hl : Below x1.heap.size x1 (((x1.alloc (.cells #[.bool (decide (F0 < 0)), .slice A6 k6 c6] 26)).alloc (.cells #[.bool (decide (F1 < 0)), .slice A7 k7 c7] 26)).alloc (.cells #[.bool (decide (F2 < 0)), .slice A8 k8 c8] 26)) := lit_more (lit_more (lit_below x1 _) _) _
  have o0_6 : w.heap.size < g6 := by have := hr0.lt; omega
  have o4_6 : w.heap.size + 1 < g6 := by have := hr4.lt; omega
  have ob_6 : w.heap.size ≤ g6 := by have := BB.size; omega
  have c00 : x1.cell? ⟨w.heap.size, 0, none⟩ = some (.slice PA ps.length pc) := hr0.cell 0
  have c01 : x1.cell? ⟨w.heap.size, 1, none⟩ = some (.slice QA rs.length qc) := hr0.cell 1
  have c40 : x1.cell? ⟨w.heap.size + 1, 0, none⟩ = some (.bool false) := hr4.cell 0
  have c41 : x1.cell? ⟨w.heap.size + 1, 1, none⟩ = some (.slice none 0 0) := hr4.cell 1
  have c42 : x1.cell? ⟨w.heap.size + 1, 2, none⟩ = some (.slice none 0 0) := hr4.cell 2
  have f40 : x1.frozen? ⟨w.heap.size + 1, 0, none⟩ = false := hr4.frozen 0
  have f41 : x1.frozen? ⟨w.heap.size + 1, 1, none⟩ = false := hr4.frozen 1
  have f42 : x1.frozen? ⟨w.heap.size + 1, 2, none⟩ = false := hr4.frozen 2
  have d1_00 : (x1.alloc (.cells #[.bool (decide (F0 < 0)), .slice A6 k6 c6] 26)).cell? ⟨w.heap.size, 0, none⟩ = some (.slice PA ps.length pc) := (hr0.alloc _).cell 0
  have d1_01 : (x1.alloc (.cells #[.bool (decide (F0 < 0)), .slice A6 k6 c6] 26)).cell? ⟨w.heap.size, 1, none⟩ = some (.slice QA rs.length qc) := (hr0.alloc _).cell 1
  have d1_40 : (x1.alloc (.cells #[.bool (decide (F0 < 0)), .slice A6 k6 c6] 26)).cell? ⟨w.heap.size + 1, 0, none⟩ = some (.bool false) := (hr4.alloc _).cell 0
  have d1_41 : (x1.alloc (.cells #[.bool (decide (F0 < 0)), .slice A6 k6 c6] 26)).cell? ⟨w.heap.size + 1, 1, none⟩ = some (.slice none 0 0) := (hr4.alloc _).cell 1
  have d1_42 : (x1.alloc (.cells #[.bool (decide (F0 < 0)), .slice A6 k6 c6] 26)).cell? ⟨w.heap.size + 1, 2, none⟩ = some (.slice none 0 0) := (hr4.alloc _).cell 2
  have h1_40 : (x1.alloc (.cells #[.bool (decide (F0 < 0)), .slice A6 k6 c6] 26)).frozen? ⟨w.heap.size + 1, 0, none⟩ = false := (hr4.alloc _).frozen 0
  have h1_41 : (x1.alloc (.cells #[.bool (decide (F0 < 0)), .slice A6 k6 c6] 26)).frozen? ⟨w.heap.size + 1, 1, none⟩ = false := (hr4.alloc _).frozen 1
  have h1_42 : (x1.alloc (.cells #[.bool (decide (F0 < 0)), .slice A6 k6 c6] 26)).frozen? ⟨w.heap.size + 1, 2, none⟩ = false := (hr4.alloc _).frozen 2
  have d2_00 : ((x1.alloc (.cells #[.bool (decide (F0 < 0)), .slice A6 k6 c6] 26)).alloc (.cells #[.bool (decide (F1 < 0)), .slice A7 k7 c7] 26)).cell? ⟨w.heap.size, 0, none⟩ = some (.slice PA ps.length pc) := ((hr0.alloc _).alloc _).cell 0
  have d2_01 : ((x1.alloc (.cells #[.bool (decide (F0 < 0)), .slice A6 k6 c6] 26)).alloc (.cells #[.bool (decide (F1 < 0)), .slice A7 k7 c7] 26)).cell? ⟨w.heap.size, 1, none⟩ = some (.slice QA rs.length qc) := ((hr0.alloc _).alloc _).cell 1
  have d2_40 : ((x1.alloc (.cells #[.bool (decide (F0 < 0)), .slice A6 k6 c6] 26)).alloc (.cells #[.bool (decide (F1 < 0)), .slice A7 k7 c7] 26)).cell? ⟨w.heap.size + 1, 0, none⟩ = some (.bool false) := ((hr4.alloc _).alloc _).cell 0
  have d2_41 : ((x1.alloc (.cells #[.bool (decide (F0 < 0)), .slice A6 k6 c6] 26)).alloc (.cells #[.bool (decide (F1 < 0)), .slice A7 k7 c7] 26)).cell? ⟨w.heap.size + 1, 1, none⟩ = some (.slice none 0 0) := ((hr4.alloc _).alloc _).cell 1
  have d2_42 : ((x1.alloc (.cells #[.bool (decide (F0 < 0)), .slice A6 k6 c6] 26)).alloc (.cells #[.bool (decide (F1 < 0)), .slice A7 k7 c7] 26)).cell? ⟨w.heap.size + 1, 2, none⟩ = some (.slice none 0 0) := ((hr4.alloc _).alloc _).cell 2
  have h2_40 : ((x1.alloc (.cells #[.bool (decide (F0 < 0)), .slice A6 k6 c6] 26)).alloc (.cells #[.bool (decide (F1 < 0)), .slice A7 k7 c7] 26)).frozen? ⟨w.heap.size + 1, 0, none⟩ = false := ((hr4.alloc _).alloc _).frozen 0
  have h2_41 : ((x1.alloc (.cells #[.bool (decide (F0 < 0)), .slice A6 k6 c6] 26)).alloc (.cells #[.bool (decide (F1 < 0)), .slice A7 k7 c7] 26)).frozen? ⟨w.heap.size + 1, 1, none⟩ = false := ((hr4.alloc _).alloc _).frozen 1
  have h2_42 : ((x1.alloc (.cells #[.bool (decide (F0 < 0)), .slice A6 k6 c6] 26)).alloc (.cells #[.bool (decide (F1 < 0)), .slice A7 k7 c7] 26)).frozen? ⟨w.heap.size + 1, 2, none⟩ = false := ((hr4.alloc _).alloc _).frozen 2
  have d3_00 : (((x1.alloc (.cells #[.bool (decide (F0 < 0)), .slice A6 k6 c6] 26)).alloc (.cells #[.bool (decide (F1 < 0)), .slice A7 k7 c7] 26)).alloc (.cells #[.bool (decide (F2 < 0)), .slice A8 k8 c8] 26)).cell? ⟨w.heap.size, 0, none⟩ = some (.slice PA ps.length pc) := (((hr0.alloc _).alloc _).alloc _).cell 0
  have d3_01 : (((x1.alloc (.cells #[.bool (decide (F0 < 0)), .slice A6 k6 c6] 26)).alloc (.cells #[.bool (decide (F1 < 0)), .slice A7 k7 c7] 26)).alloc (.cells #[.bool (decide (F2 < 0)), .slice A8 k8 c8] 26)).cell? ⟨w.heap.size, 1, none⟩ = some (.slice QA rs.length qc) := (((hr0.alloc _).alloc _).alloc _).cell 1
  have d3_40 : (((x1.alloc (.cells #[.bool (decide (F0 < 0)), .slice A6 k6 c6] 26)).alloc (.cells #[.bool (decide (F1 < 0)), .slice A7 k7 c7] 26)).alloc (.cells #[.bool (decide (F2 < 0)), .slice A8 k8 c8] 26)).cell? ⟨w.heap.size + 1, 0, none⟩ = some (.bool false) := (((hr4.alloc _).alloc _).alloc _).cell 0
  have d3_41 : (((x1.alloc (.cells #[.bool (decide (F0 < 0)), .slice A6 k6 c6] 26)).alloc (.cells #[.bool (decide (F1 < 0)), .slice A7 k7 c7] 26)).alloc (.cells #[.bool (decide (F2 < 0)), .slice A8 k8 c8] 26)).cell? ⟨w.heap.size + 1, 1, none⟩ = some (.slice none 0 0) := (((hr4.alloc _).alloc _).alloc _).cell 1
  have d3_42 : (((x1.alloc (.cells #[.bool (decide (F0 < 0)), .slice A6 k6 c6] 26)).alloc (.cells #[.bool (decide (F1 < 0)), .slice A7 k7 c7] 26)).alloc (.cells #[.bool (decide (F2 < 0)), .slice A8 k8 c8] 26)).cell? ⟨w.heap.size + 1, 2, none⟩ = some (.slice none 0 0) := (((hr4.alloc _).alloc _).alloc _).cell 2
  have h3_40 : (((x1.alloc (.cells #[.bool (decide (F0 < 0)), .slice A6 k6 c6] 26)).alloc (.cells #[.bool (decide (F1 < 0)), .slice A7 k7 c7] 26)).alloc (.cells #[.bool (decide (F2 < 0)), .slice A8 k8 c8] 26)).frozen? ⟨w.heap.size + 1, 0, none⟩ = false := (((hr4.alloc _).alloc _).alloc _).frozen 0
  have h3_41 : (((x1.alloc (.cells #[.bool (decide (F0 < 0)), .slice A6 k6 c6] 26)).alloc (.cells #[.bool (decide (F1 < 0)), .slice A7 k7 c7] 26)).alloc (.cells #[.bool (decide (F2 < 0)), .slice A8 k8 c8] 26)).frozen? ⟨w.heap.size + 1, 1, none⟩ = false := (((hr4.alloc _).alloc _).alloc _).frozen 1
  have h3_42 : (((x1.alloc (.cells #[.bool (decide (F0 < 0)), .slice A6 k6 c6] 26)).alloc (.cells #[.bool (decide (F1 < 0)), .slice A7 k7 c7] 26)).alloc (.cells #[.bool (decide (F2 < 0)), .slice A8 k8 c8] 26)).frozen? ⟨w.heap.size + 1, 2, none⟩ = false := (((hr4.alloc _).alloc _).alloc _).frozen 2
  have e0_0 : (((x1.alloc (.cells #[.bool (decide (F0 < 0)), .slice A6 k6 c6] 26)).alloc (.cells #[.bool (decide (F1 < 0)), .slice A7 k7 c7] 26)).alloc (.cells #[.bool (decide (F2 < 0)), .slice A8 k8 c8] 26)).cell? ⟨g6, 0, none⟩ = some (.bool (decide (F0 < 0))) := hr6.cell 0
  have e0_1 : (((x1.alloc (.cells #[.bool (decide (F0 < 0)), .slice A6 k6 c6] 26)).alloc (.cells #[.bool (decide (F1 < 0)), .slice A7 k7 c7] 26)).alloc (.cells #[.bool (decide (F2 < 0)), .slice A8 k8 c8] 26)).cell? ⟨g6, 1, none⟩ = some (.slice A6 k6 c6) := hr6.cell 1
  have e1_0 : (((x1.alloc (.cells #[.bool (decide (F0 < 0)), .slice A6 k6 c6] 26)).alloc (.cells #[.bool (decide (F1 < 0)), .slice A7 k7 c7] 26)).alloc (.cells #[.bool (decide (F2 < 0)), .slice A8 k8 c8] 26)).cell? ⟨g6 + 1, 0, none⟩ = some (.bool (decide (F1 < 0))) := hr7.cell 0
  have e1_1 : (((x1.alloc (.cells #[.bool (decide (F0 < 0)), .slice A6 k6 c6] 26)).alloc (.cells #[.bool (decide (F1 < 0)), .slice A7 k7 c7] 26)).alloc (.cells #[.bool (decide (F2 < 0)), .slice A8 k8 c8] 26)).cell? ⟨g6 + 1, 1, none⟩ = some (.slice A7 k7 c7) := hr7.cell 1
  have e2_0 : (((x1.alloc (.cells #[.bool (decide (F0 < 0)), .slice A6 k6 c6] 26)).alloc (.cells #[.bool (decide (F1 < 0)), .slice A7 k7 c7] 26)).alloc (.cells #[.bool (decide (F2 < 0)), .slice A8 k8 c8] 26)).cell? ⟨g6 + 1 + 1, 0, none⟩ = some (.bool (decide (F2 < 0))) := hr8.cell 0
  have e2_1 : (((x1.alloc (.cells #[.bool (decide (F0 < 0)), .slice A6 k6 c6] 26)).alloc (.cells #[.bool (decide (F1 < 0)), .slice A7 k7 c7] 26)).alloc (.cells #[.bool (decide (F2 < 0)), .slice A8 k8 c8] 26)).cell? ⟨g6 + 1 + 1, 1, none⟩ = some (.slice A8 k8 c8) := hr8.cell 1
  go_wp2_with fail
  clear c00 c01 c40 c41 c42 f40 f41 f42 e0_0 e0_1 e1_0 e1_1 e2_0 e2_1 d1_00 d1_01 d1_40 d1_41 d1_42 h1_40 h1_41 h1_42 d2_00 d2_01 d2_40 d2_41 d2_42 h2_40 h2_41 h2_42 d3_00 d3_01 d3_40 d3_41 d3_42 h3_40 h3_41 h3_42
  clear hg6
  generalize (((x1.alloc (.cells #[.bool (decide (F0 < 0)), .slice A6 k6 c6] 26)).alloc (.cells #[.bool (decide (F1 < 0)), .slice A7 k7 c7] 26)).alloc (.cells #[.bool (decide (F2 < 0)), .slice A8 k8 c8] 26)) = x2 at *
  replace hr0 := hr0.keep hl
  replace hr4 := hr4.keep hl
  replace hv6 := hv6.below hl
  replace hv7 := hv7.below hl
  replace hv8 := hv8.below hl
  replace BB : Below w.heap.size w x2 := BB.trans (hl.mono BB.size)
  clear hl
  refine (qmake_any _ _ F1 F0 ((L + 3)) ((L + 1)) _ hv7.intA hv6.intA (by omega) (by omega) HF0.out).mono ?_
  have hz6 := hr4.lt
  rintro e x3 ⟨vq, rfl, hvq, hb⟩
  replace hr0 := hr0.keep hb
  replace hr4 := hr4.keep hb
  replace hv6 := hv6.below hb
  replace hv7 := hv7.below hb
  replace hv8 := hv8.below hb
  replace hr6 := hr6.keep hb
  replace hr7 := hr7.keep hb
  replace hr8 := hr8.keep hb
  replace BB : Below w.heap.size w x3 := BB.trans (hb.mono BB.size)
  clear hb
  rw [flipZ_pos hpos] at hvq
  have hq' := hvq
  obtain ⟨mq, dq, eq, hmq, hdq, _, _⟩ := hq'
  subst eq
  obtain ⟨Aq, kq, cq, rfl⟩ := hmq.lim1.choose_spec.1.show_
  obtain ⟨Dq, lq, bq, rfl⟩ := hdq.lim1.choose_spec.1.show_
  clear hmq hdq
  clear hr6 hr7 hr8 hv6 hv7 hv8
  have hl := lit_below x3 (.cells #[.bool (decide (redP F1 F0.natAbs < 0)), .slice Aq kq cq, .slice Dq lq bq] 28)
  have q4 := hr4.keep hl
  have c40 : (x3.alloc (.cells #[.bool (decide (redP F1 F0.natAbs < 0)), .slice Aq kq cq, .slice Dq lq bq] 28)).cell? ⟨w.heap.size + 1, 0, none⟩ = some (.bool false) := q4.cell 0
  have f40 : (x3.alloc (.cells #[.bool (decide (redP F1 F0.natAbs < 0)), .slice Aq kq cq, .slice Dq lq bq] 28)).frozen? ⟨w.heap.size + 1, 0, none⟩ = false := q4.frozen 0
  have c41 : (x3.alloc (.cells #[.bool (decide (redP F1 F0.natAbs < 0)), .slice Aq kq cq, .slice Dq lq bq] 28)).cell? ⟨w.heap.size + 1, 1, none⟩ = some (.slice none 0 0) := q4.cell 1
  have f41 : (x3.alloc (.cells #[.bool (decide (redP F1 F0.natAbs < 0)), .slice Aq kq cq, .slice Dq lq bq] 28)).frozen? ⟨w.heap.size + 1, 1, none⟩ = false := q4.frozen 1
  have c42 : (x3.alloc (.cells #[.bool (decide (redP F1 F0.natAbs < 0)), .slice Aq kq cq, .slice Dq lq bq] 28)).cell? ⟨w.heap.size + 1, 2, none⟩ = some (.slice none 0 0) := q4.cell 2
  have f42 : (x3.alloc (.cells #[.bool (decide (redP F1 F0.natAbs < 0)), .slice Aq kq cq, .slice Dq lq bq] 28)).frozen? ⟨w.heap.size + 1, 2, none⟩ = false := q4.frozen 2
  have z4 := q4.lt
  clear q4
  replace BB := BB.trans (hl.mono BB.size)
  replace hvq := hvq.below hl
  clear hl
  go_wp2_with fail
  refine bodyPost_ret (v := .tuple #[.agg #[.bool (decide (redP F1 F0.natAbs < 0)), .slice Aq kq cq, .slice Dq lq bq], .int .i64 0]) (by simp [results, Tryz.results52, go_sem, c40, c41, c42]) rfl ⟨_, rfl, ?_, ((BB.setCell (by simp) _).setCell (by simp) _).setCell (by simp) _⟩
  rw [HH0.out, HH1.out]
  exact ((((hvq.set_ (a := ⟨w.heap.size + 1, 0, none⟩) hz6 _).set_ (a := ⟨w.heap.size + 1, 1, none⟩) hz6 _).set_ (a := ⟨w.heap.size + 1, 2, none⟩) hz6 _).base (by omega)).mono (by omega)

set_option maxHeartbeats 16000000 in
theorem gvar_ok (pv rv wv : Value) (ps rs : List Int) (ns : List Nat) (L : Nat) (w : World) (hp : Nums .i64 w pv ps) (hr : Nums .i64 w rv rs) (hw : Wts w wv ns L) (hL : L ≤ 35184372088600) (hE : sumE ps rs ns = 0) :
    Calls Tryz.prog 53 #[.agg #[pv, rv], wv] w fun e w' => ∃ x, e = .returned (.tuple #[x, .int .i64 0]) ∧ RatF w.heap.size w' x (redP (wF0 ns ps.length * wF2 ns ps ps.length - wF1 ns ps ps.length * wF1 ns ps ps.length) (wF0 ns ps.length * wF0 ns ps.length).natAbs) (redQ (wF0 ns ps.length * wF2 ns ps ps.length - wF1 ns ps ps.length * wF1 ns ps ps.length) (wF0 ns ps.length * wF0 ns ps.length).natAbs) (L + 1 + (L + 5) + 1) ∧ Below w.heap.size w w' := by
  obtain ⟨s1, s2, s3⟩ := sumE_zero hE
  have HS := Lib.hid (fun (W : World) (h : Below w.heap.size w W) => gsums_ok pv rv wv ps rs ns L W (hp.below h) (hr.below h) (hw.below h) s1 s2 (by omega) s3)
  obtain ⟨PA, pc, rfl, hpc, hpm, hps⟩ := hp
  obtain ⟨QA, qc, rfl, hqc, hqm, hqs⟩ := hr
  obtain ⟨WA, wc, us, rfl, hwc, hwm, hws, hwu⟩ := hw
  have HF0 := Lib.hid s3
  clear s1 s2 s3 hE hwu
  obtain ⟨F0, hF0⟩ : ∃ x, wF0 ns ps.length = x := ⟨_, rfl⟩
  obtain ⟨F1, hF1⟩ : ∃ x, wF1 ns ps ps.length = x := ⟨_, rfl⟩
  obtain ⟨F2, hF2⟩ : ∃ x, wF2 ns ps ps.length = x := ⟨_, rfl⟩
  rw [hF0, hF1, hF2] at HS
  rw [hF0] at HF0
  have HH0 := Lib.hid hF0
  have HH1 := Lib.hid hF1
  have HH2 := Lib.hid hF2
  have hpos : 0 < F0 := by rw [← hF0]; exact wF0_pos (by rw [hF0]; exact HF0.out)
  clear hF0 hF1 hF2
  obtain ⟨W0, hW0⟩ : ∃ W0 : World, W0 = (w.alloc (.cells #[.slice PA ps.length pc, .slice QA rs.length qc] 48)).alloc (.cells #[.bool false, .slice none 0 0, .slice none 0 0] 28) := ⟨_, rfl⟩
  have r0 : Row W0 w.heap.size 48 [.slice PA ps.length pc, .slice QA rs.length qc] := by
    rw [hW0]
    have := Row.alloc (Row.new w 48 [.slice PA ps.length pc, .slice QA rs.length qc]) (.cells #[.bool false, .slice none 0 0, .slice none 0 0] 28)
    simpa using this
  have r1 : Row W0 (w.heap.size + 1) 28 [.bool false, .slice none 0 0, .slice none 0 0] := by
    rw [hW0]
    have := Row.new (w.alloc (.cells #[.slice PA ps.length pc, .slice QA rs.length qc] 48)) 28 [.bool false, .slice none 0 0, .slice none 0 0]
    simpa using this
  have B0 : Below w.heap.size w W0 := by rw [hW0]; exact (((Below.refl _ _).alloc (Nat.le_refl _) _).alloc (by simp) _)
  go_enter Tryz.func53, Tryz.ntmps53
  go_wp2_with fail
  rw [← hW0]
  clear hW0
  have BB := B0
  have hr0 := r0
  have hr4 := r1
  clear B0 r0 r1
  have c00 : W0.cell? ⟨w.heap.size, 0, none⟩ = some (.slice PA ps.length pc) := hr0.cell 0
  have c01 : W0.cell? ⟨w.heap.size, 1, none⟩ = some (.slice QA rs.length qc) := hr0.cell 1
  have c40 : W0.cell? ⟨w.heap.size + 1, 0, none⟩ = some (.bool false) := hr4.cell 0
  have c41 : W0.cell? ⟨w.heap.size + 1, 1, none⟩ = some (.slice none 0 0) := hr4.cell 1
  have c42 : W0.cell? ⟨w.heap.size + 1, 2, none⟩ = some (.slice none 0 0) := hr4.cell 2
  have f40 : W0.frozen? ⟨w.heap.size + 1, 0, none⟩ = false := hr4.frozen 0
  have f41 : W0.frozen? ⟨w.heap.size + 1, 1, none⟩ = false := hr4.frozen 1
  have f42 : W0.frozen? ⟨w.heap.size + 1, 2, none⟩ = false := hr4.frozen 2
  have z0 := hr0.lt
  have z4 := hr4.lt
  go_wp2_with fail
  clear c00 c01 c40 c41 c42 f40 f41 f42 z0 z4
  refine (HS.out _ BB).mono ?_
  rintro e x1 ⟨v6, v7, v8, rfl, hv6, hv7, hv8, hb⟩
  replace hr0 := hr0.keep hb
  replace hr4 := hr4.keep hb
  replace BB : Below w.heap.size w x1 := BB.trans (hb.mono BB.size)
  clear hb
  have h6' := hv6
  obtain ⟨m6, e6, hm6, _⟩ := h6'
  subst e6
  obtain ⟨A6, k6, c6, rfl⟩ := hm6.lim1.choose_spec.1.show_
  clear hm6
  have h7' := hv7
  obtain ⟨m7, e7, hm7, _⟩ := h7'
  subst e7
  obtain ⟨A7, k7, c7, rfl⟩ := hm7.lim1.choose_spec.1.show_
  clear hm7
  have h8' := hv8
  obtain ⟨m8, e8, hm8, _⟩ := h8'
  subst e8
  obtain ⟨A8, k8, c8, rfl⟩ := hm8.lim1.choose_spec.1.show_
  clear hm8
  obtain ⟨g6, hg6⟩ : ∃ g, x1.heap.size = g := ⟨_, rfl⟩
  have hr6 : Row (((x1.alloc (.cells #[.bool (decide (F0 < 0)), .slice A6 k6 c6] 26)).alloc (.cells #[.bool (decide (F1 < 0)), .slice A7 k7 c7] 26)).alloc (.cells #[.bool (decide (F2 < 0)), .slice A8 k8 c8] 26)) (g6) 26 [.bool (decide (F0 < 0)), .slice A6 k6 c6] := Row.alloc (Row.alloc (row_at (w := x1) (g := g6) (by simp [hg6])) (.cells #[.bool (decide (F1 < 0)), .slice A7 k7 c7] 26)) (.cells #[.bool (decide (F2 < 0)), .slice A8 k8 c8] 26)
  have hr7 : Row (((x1.alloc (.cells #[.bool (decide (F0 < 0)), .slice A6 k6 c6] 26)).alloc (.cells #[.bool (decide (F1 < 0)), .slice A7 k7 c7] 26)).alloc (.cells #[.bool (decide (F2 < 0)), .slice A8 k8 c8] 26)) (g6 + 1) 26 [.bool (decide (F1 < 0)), .slice A7 k7 c7] := Row.alloc (row_at (w := (x1.alloc (.cells #[.bool (decide (F0 < 0)), .slice A6 k6 c6] 26))) (g := g6 + 1) (by simp [hg6])) (.cells #[.bool (decide (F2 < 0)), .slice A8 k8 c8] 26)
  have hr8 : Row (((x1.alloc (.cells #[.bool (decide (F0 < 0)), .slice A6 k6 c6] 26)).alloc (.cells #[.bool (decide (F1 < 0)), .slice A7 k7 c7] 26)).alloc (.cells #[.bool (decide (F2 < 0)), .slice A8 k8 c8] 26)) (g6 + 1 + 1) 26 [.bool (decide (F2 < 0)), .slice A8 k8 c8] := row_at (w := ((x1.alloc (.cells #[.bool (decide (F0 < 0)), .slice A6 k6 c6] 26)).alloc (.cells #[.bool (decide (F1 < 0)), .slice A7 k7 c7] 26))) (g := g6 + 1 + 1) (by simp [hg6])
  have hl : Below x1.heap.size x1 (((x1.alloc (.cells #[.bool (decide (F0 < 0)), .slice A6 k6 c6] 26)).alloc (.cells #[.bool (decide (F1 < 0)), .slice A7 k7 c7] 26)).alloc (.cells #[.bool (decide (F2 < 0)), .slice A8 k8 c8] 26)) := lit_more (lit_more (lit_below x1 _) _) _
  have o0_6 : w.heap.size < g6 := by have := hr0.lt; omega
  have o4_6 : w.heap.size + 1 < g6 := by have := hr4.lt; omega
  have ob_6 : w.heap.size ≤ g6 := by have := BB.size; omega
  have c00 : x1.cell? ⟨w.heap.size, 0, none⟩ = some (.slice PA ps.length pc) := hr0.cell 0
  have c01 : x1.cell? ⟨w.heap.size, 1, none⟩ = some (.slice QA rs.length qc) := hr0.cell 1
  have c40 : x1.cell? ⟨w.heap.size + 1, 0, none⟩ = some (.bool false) := hr4.cell 0
  have c41 : x1.cell? ⟨w.heap.size + 1, 1, none⟩ = some (.slice none 0 0) := hr4.cell 1
  have c42 : x1.cell? ⟨w.heap.size + 1, 2, none⟩ = some (.slice none 0 0) := hr4.cell 2
  have f40 : x1.frozen? ⟨w.heap.size + 1, 0, none⟩ = false := hr4.frozen 0
  have f41 : x1.frozen? ⟨w.heap.size + 1, 1, none⟩ = false := hr4.frozen 1
  have f42 : x1.frozen? ⟨w.heap.size + 1, 2, none⟩ = false := hr4.frozen 2
  have d1_00 : (x1.alloc (.cells #[.bool (decide (F0 < 0)), .slice A6 k6 c6] 26)).cell? ⟨w.heap.size, 0, none⟩ = some (.slice PA ps.length pc) := (hr0.alloc _).cell 0
  have d1_01 : (x1.alloc (.cells #[.bool (decide (F0 < 0)), .slice A6 k6 c6] 26)).cell? ⟨w.heap.size, 1, none⟩ = some (.slice QA rs.length qc) := (hr0.alloc _).cell 1
  have d1_40 : (x1.alloc (.cells #[.bool (decide (F0 < 0)), .slice A6 k6 c6] 26)).cell? ⟨w.heap.size + 1, 0, none⟩ = some (.bool false) := (hr4.alloc _).cell 0
  have d1_41 : (x1.alloc (.cells #[.bool (decide (F0 < 0)), .slice A6 k6 c6] 26)).cell? ⟨w.heap.size + 1, 1, none⟩ = some (.slice none 0 0) := (hr4.alloc _).cell 1
  have d1_42 : (x1.alloc (.cells #[.bool (decide (F0 < 0)), .slice A6 k6 c6] 26)).cell? ⟨w.heap.size + 1, 2, none⟩ = some (.slice none 0 0) := (hr4.alloc _).cell 2
  have h1_40 : (x1.alloc (.cells #[.bool (decide (F0 < 0)), .slice A6 k6 c6] 26)).frozen? ⟨w.heap.size + 1, 0, none⟩ = false := (hr4.alloc _).frozen 0
  have h1_41 : (x1.alloc (.cells #[.bool (decide (F0 < 0)), .slice A6 k6 c6] 26)).frozen? ⟨w.heap.size + 1, 1, none⟩ = false := (hr4.alloc _).frozen 1
  have h1_42 : (x1.alloc (.cells #[.bool (decide (F0 < 0)), .slice A6 k6 c6] 26)).frozen? ⟨w.heap.size + 1, 2, none⟩ = false := (hr4.alloc _).frozen 2
  have d2_00 : ((x1.alloc (.cells #[.bool (decide (F0 < 0)), .slice A6 k6 c6] 26)).alloc (.cells #[.bool (decide (F1 < 0)), .slice A7 k7 c7] 26)).cell? ⟨w.heap.size, 0, none⟩ = some (.slice PA ps.length pc) := ((hr0.alloc _).alloc _).cell 0
  have d2_01 : ((x1.alloc (.cells #[.bool (decide (F0 < 0)), .slice A6 k6 c6] 26)).alloc (.cells #[.bool (decide (F1 < 0)), .slice A7 k7 c7] 26)).cell? ⟨w.heap.size, 1, none⟩ = some (.slice QA rs.length qc) := ((hr0.alloc _).alloc _).cell 1
  have d2_40 : ((x1.alloc (.cells #[.bool (decide (F0 < 0)), .slice A6 k6 c6] 26)).alloc (.cells #[.bool (decide (F1 < 0)), .slice A7 k7 c7] 26)).cell? ⟨w.heap.size + 1, 0, none⟩ = some (.bool false) := ((hr4.alloc _).alloc _).cell 0
  have d2_41 : ((x1.alloc (.cells #[.bool (decide (F0 < 0)), .slice A6 k6 c6] 26)).alloc (.cells #[.bool (decide (F1 < 0)), .slice A7 k7 c7] 26)).cell? ⟨w.heap.size + 1, 1, none⟩ = some (.slice none 0 0) := ((hr4.alloc _).alloc _).cell 1
  have d2_42 : ((x1.alloc (.cells #[.bool (decide (F0 < 0)), .slice A6 k6 c6] 26)).alloc (.cells #[.bool (decide (F1 < 0)), .slice A7 k7 c7] 26)).cell? ⟨w.heap.size + 1, 2, none⟩ = some (.slice none 0 0) := ((hr4.alloc _).alloc _).cell 2
  have h2_40 : ((x1.alloc (.cells #[.bool (decide (F0 < 0)), .slice A6 k6 c6] 26)).alloc (.cells #[.bool (decide (F1 < 0)), .slice A7 k7 c7] 26)).frozen? ⟨w.heap.size + 1, 0, none⟩ = false := ((hr4.alloc _).alloc _).frozen 0
  have h2_41 : ((x1.alloc (.cells #[.bool (decide (F0 < 0)), .slice A6 k6 c6] 26)).alloc (.cells #[.bool (decide (F1 < 0)), .slice A7 k7 c7] 26)).frozen? ⟨w.heap.size + 1, 1, none⟩ = false := ((hr4.alloc _).alloc _).frozen 1
  have h2_42 : ((x1.alloc (.cells #[.bool (decide (F0 < 0)), .slice A6 k6 c6] 26)).alloc (.cells #[.bool (decide (F1 < 0)), .slice A7 k7 c7] 26)).frozen? ⟨w.heap.size + 1, 2, none⟩ = false := ((hr4.alloc _).alloc _).frozen 2
  have d3_00 : (((x1.alloc (.cells #[.bool (decide (F0 < 0)), .slice A6 k6 c6] 26)).alloc (.cells #[.bool (decide (F1 < 0)), .slice A7 k7 c7] 26)).alloc (.cells #[.bool (decide (F2 < 0)), .slice A8 k8 c8] 26)).cell? ⟨w.heap.size, 0, none⟩ = some (.slice PA ps.length pc) := (((hr0.alloc _).alloc _).alloc _).cell 0
  have d3_01 : (((x1.alloc (.cells #[.bool (decide (F0 < 0)), .slice A6 k6 c6] 26)).alloc (.cells #[.bool (decide (F1 < 0)), .slice A7 k7 c7] 26)).alloc (.cells #[.bool (decide (F2 < 0)), .slice A8 k8 c8] 26)).cell? ⟨w.heap.size, 1, none⟩ = some (.slice QA rs.length qc) := (((hr0.alloc _).alloc _).alloc _).cell 1
  have d3_40 : (((x1.alloc (.cells #[.bool (decide (F0 < 0)), .slice A6 k6 c6] 26)).alloc (.cells #[.bool (decide (F1 < 0)), .slice A7 k7 c7] 26)).alloc (.cells #[.bool (decide (F2 < 0)), .slice A8 k8 c8] 26)).cell? ⟨w.heap.size + 1, 0, none⟩ = some (.bool false) := (((hr4.alloc _).alloc _).alloc _).cell 0
  have d3_41 : (((x1.alloc (.cells #[.bool (decide (F0 < 0)), .slice A6 k6 c6] 26)).alloc (.cells #[.bool (decide (F1 < 0)), .slice A7 k7 c7] 26)).alloc (.cells #[.bool (decide (F2 < 0)), .slice A8 k8 c8] 26)).cell? ⟨w.heap.size + 1, 1, none⟩ = some (.slice none 0 0) := (((hr4.alloc _).alloc _).alloc _).cell 1
  have d3_42 : (((x1.alloc (.cells #[.bool (decide (F0 < 0)), .slice A6 k6 c6] 26)).alloc (.cells #[.bool (decide (F1 < 0)), .slice A7 k7 c7] 26)).alloc (.cells #[.bool (decide (F2 < 0)), .slice A8 k8 c8] 26)).cell? ⟨w.heap.size + 1, 2, none⟩ = some (.slice none 0 0) := (((hr4.alloc _).alloc _).alloc _).cell 2
  have h3_40 : (((x1.alloc (.cells #[.bool (decide (F0 < 0)), .slice A6 k6 c6] 26)).alloc (.cells #[.bool (decide (F1 < 0)), .slice A7 k7 c7] 26)).alloc (.cells #[.bool (decide (F2 < 0)), .slice A8 k8 c8] 26)).frozen? ⟨w.heap.size + 1, 0, none⟩ = false := (((hr4.alloc _).alloc _).alloc _).frozen 0
  have h3_41 : (((x1.alloc (.cells #[.bool (decide (F0 < 0)), .slice A6 k6 c6] 26)).alloc (.cells #[.bool (decide (F1 < 0)), .slice A7 k7 c7] 26)).alloc (.cells #[.bool (decide (F2 < 0)), .slice A8 k8 c8] 26)).frozen? ⟨w.heap.size + 1, 1, none⟩ = false := (((hr4.alloc _).alloc _).alloc _).frozen 1
  have h3_42 : (((x1.alloc (.cells #[.bool (decide (F0 < 0)), .slice A6 k6 c6] 26)).alloc (.cells #[.bool (decide (F1 < 0)), .slice A7 k7 c7] 26)).alloc (.cells #[.bool (decide (F2 < 0)), .slice A8 k8 c8] 26)).frozen? ⟨w.heap.size + 1, 2, none⟩ = false := (((hr4.alloc _).alloc _).alloc _).frozen 2
  have e0_0 : (((x1.alloc (.cells #[.bool (decide (F0 < 0)), .slice A6 k6 c6] 26)).alloc (.cells #[.bool (decide (F1 < 0)), .slice A7 k7 c7] 26)).alloc (.cells #[.bool (decide (F2 < 0)), .slice A8 k8 c8] 26)).cell? ⟨g6, 0, none⟩ = some (.bool (decide (F0 < 0))) := hr6.cell 0
  have e0_1 : (((x1.alloc (.cells #[.bool (decide (F0 < 0)), .slice A6 k6 c6] 26)).alloc (.cells #[.bool (decide (F1 < 0)), .slice A7 k7 c7] 26)).alloc (.cells #[.bool (decide (F2 < 0)), .slice A8 k8 c8] 26)).cell? ⟨g6, 1, none⟩ = some (.slice A6 k6 c6) := hr6.cell 1
  have e1_0 : (((x1.alloc (.cells #[.bool (decide (F0 < 0)), .slice A6 k6 c6] 26)).alloc (.cells #[.bool (decide (F1 < 0)), .slice A7 k7 c7] 26)).alloc (.cells #[.bool (decide (F2 < 0)), .slice A8 k8 c8] 26)).cell? ⟨g6 + 1, 0, none⟩ = some (.bool (decide (F1 < 0))) := hr7.cell 0
  have e1_1 : (((x1.alloc (.cells #[.bool (decide (F0 < 0)), .slice A6 k6 c6] 26)).alloc (.cells #[.bool (decide (F1 < 0)), .slice A7 k7 c7] 26)).alloc (.cells #[.bool (decide (F2 < 0)), .slice A8 k8 c8] 26)).cell? ⟨g6 + 1, 1, none⟩ = some (.slice A7 k7 c7) := hr7.cell 1
  have e2_0 : (((x1.alloc (.cells #[.bool (decide (F0 < 0)), .slice A6 k6 c6] 26)).alloc (.cells #[.bool (decide (F1 < 0)), .slice A7 k7 c7] 26)).alloc (.cells #[.bool (decide (F2 < 0)), .slice A8 k8 c8] 26)).cell? ⟨g6 + 1 + 1, 0, none⟩ = some (.bool (decide (F2 < 0))) := hr8.cell 0
  have e2_1 : (((x1.alloc (.cells #[.bool (decide (F0 < 0)), .slice A6 k6 c6] 26)).alloc (.cells #[.bool (decide (F1 < 0)), .slice A7 k7 c7] 26)).alloc (.cells #[.bool (decide (F2 < 0)), .slice A8 k8 c8] 26)).cell? ⟨g6 + 1 + 1, 1, none⟩ = some (.slice A8 k8 c8) := hr8.cell 1
  go_wp2_with fail
  clear c00 c01 c40 c41 c42 f40 f41 f42 e0_0 e0_1 e1_0 e1_1 e2_0 e2_1 d1_00 d1_01 d1_40 d1_41 d1_42 h1_40 h1_41 h1_42 d2_00 d2_01 d2_40 d2_41 d2_42 h2_40 h2_41 h2_42 d3_00 d3_01 d3_40 d3_41 d3_42 h3_40 h3_41 h3_42
  clear hg6
  generalize (((x1.alloc (.cells #[.bool (decide (F0 < 0)), .slice A6 k6 c6] 26)).alloc (.cells #[.bool (decide (F1 < 0)), .slice A7 k7 c7] 26)).alloc (.cells #[.bool (decide (F2 < 0)), .slice A8 k8 c8] 26)) = x2 at *
  replace hr0 := hr0.keep hl
  replace hr4 := hr4.keep hl
  replace hv6 := hv6.below hl
  replace hv7 := hv7.below hl
  replace hv8 := hv8.below hl
  replace BB : Below w.heap.size w x2 := BB.trans (hl.mono BB.size)
  clear hl
  have j1 : (L + 1) ≤ 35184372088820 := by omega
  have j2 : (L + 5) ≤ 35184372088820 := by omega
  have j3 : (L + 3) ≤ 35184372088820 := by omega
  have j4 : (L + 1) + (L + 5) ≤ 70368744177600 := by omega
  have j5 : (L + 3) + (L + 3) ≤ 70368744177600 := by omega
  have j6 : (L + 1 + (L + 5) + 1) ≤ 70368744177600 := by omega
  have j7 : (L + 1) + (L + 1) ≤ 70368744177600 := by omega
  have HVB : Hid ((F0 * F2 - F1 * F1).natAbs < bp (L + 1 + (L + 5) + 1)) := var_lt hv6.lt hv7.lt hv8.lt
  have c00 : x2.cell? ⟨w.heap.size, 0, none⟩ = some (.slice PA ps.length pc) := hr0.cell 0
  have c01 : x2.cell? ⟨w.heap.size, 1, none⟩ = some (.slice QA rs.length qc) := hr0.cell 1
  have c40 : x2.cell? ⟨w.heap.size + 1, 0, none⟩ = some (.bool false) := hr4.cell 0
  have c41 : x2.cell? ⟨w.heap.size + 1, 1, none⟩ = some (.slice none 0 0) := hr4.cell 1
  have c42 : x2.cell? ⟨w.heap.size + 1, 2, none⟩ = some (.slice none 0 0) := hr4.cell 2
  have c60 : x2.cell? ⟨g6, 0, none⟩ = some (.bool (decide (F0 < 0))) := hr6.cell 0
  have c61 : x2.cell? ⟨g6, 1, none⟩ = some (.slice A6 k6 c6) := hr6.cell 1
  have c70 : x2.cell? ⟨g6 + 1, 0, none⟩ = some (.bool (decide (F1 < 0))) := hr7.cell 0
  have c71 : x2.cell? ⟨g6 + 1, 1, none⟩ = some (.slice A7 k7 c7) := hr7.cell 1
  have c80 : x2.cell? ⟨g6 + 1 + 1, 0, none⟩ = some (.bool (decide (F2 < 0))) := hr8.cell 0
  have c81 : x2.cell? ⟨g6 + 1 + 1, 1, none⟩ = some (.slice A8 k8 c8) := hr8.cell 1
  have f40 : x2.frozen? ⟨w.heap.size + 1, 0, none⟩ = false := hr4.frozen 0
  have f41 : x2.frozen? ⟨w.heap.size + 1, 1, none⟩ = false := hr4.frozen 1
  have f42 : x2.frozen? ⟨w.heap.size + 1, 2, none⟩ = false := hr4.frozen 2
  have z0 := hr0.lt
  have z4 := hr4.lt
  have z6 := hr6.lt
  have z7 := hr7.lt
  have z8 := hr8.lt
  go_wp2_with fail
  have qs0 : x2.cell? ⟨g6, 0, none⟩ = some (.bool (decide (F0 < 0))) := hr6.cell 0
  have qs1 : x2.cell? ⟨g6, 1, none⟩ = some (.slice A6 k6 c6) := hr6.cell 1
  have qs2 : x2.cell? ⟨g6 + 1, 0, none⟩ = some (.bool (decide (F1 < 0))) := hr7.cell 0
  have qs3 : x2.cell? ⟨g6 + 1, 1, none⟩ = some (.slice A7 k7 c7) := hr7.cell 1
  have qs4 : x2.cell? ⟨g6 + 1 + 1, 0, none⟩ = some (.bool (decide (F2 < 0))) := hr8.cell 0
  have qs5 : x2.cell? ⟨g6 + 1 + 1, 1, none⟩ = some (.slice A8 k8 c8) := hr8.cell 1
  have zs0 := hr6.lt
  have zs1 := hr7.lt
  have zs2 := hr8.lt
  go_cut [10] (fun s0 wx => ∃ (g : Nat) (A10 : Option Addr) (k10 c10 : Nat), s0 = .pointer (some ⟨g, 0, none⟩) ∧ x2.heap.size ≤ g ∧ Row wx g 26 [.bool (decide ((F0 * F2 - F1 * F1) < 0)), .slice A10 k10 c10] ∧ IntF x2.heap.size wx (.agg #[.bool (decide ((F0 * F2 - F1 * F1) < 0)), .slice A10 k10 c10]) (F0 * F2 - F1 * F1) (L + 1 + (L + 5) + 1) ∧ Below x2.heap.size x2 wx)
  case first =>
    go_region_held3 (fun w' => w'.cell? ⟨g6, 0, none⟩ = some (.bool (decide (F0 < 0))) ∧ w'.cell? ⟨g6, 1, none⟩ = some (.slice A6 k6 c6) ∧ w'.cell? ⟨g6 + 1, 0, none⟩ = some (.bool (decide (F1 < 0))) ∧ w'.cell? ⟨g6 + 1, 1, none⟩ = some (.slice A7 k7 c7) ∧ w'.cell? ⟨g6 + 1 + 1, 0, none⟩ = some (.bool (decide (F2 < 0))) ∧ w'.cell? ⟨g6 + 1 + 1, 1, none⟩ = some (.slice A8 k8 c8))
      ((refine keep6c zs0 zs0 zs1 zs1 zs2 zs2 qs0 qs1 qs2 qs3 qs4 qs5 ?_; (repeat (first | with_reducible exact Below.refl _ _ | ((with_reducible refine bl_set ?_ ?_ _); rotate_left; (first | exact Nat.le_refl _ | exact gz5 | exact gz6 | exact gz7)) | with_reducible refine bl_call h7 ?_ | with_reducible refine bl_call h6 ?_ | with_reducible refine bl_call h5 ?_ | with_reducible refine bl_alloc ?_ _ | with_reducible refine bl_drew ?_)); done))
      (first
        | (go_at_call 33; ((with_reducible refine (imul_any (.agg #[.bool (decide (F0 < 0)), .slice A6 k6 c6]) (.agg #[.bool (decide (F2 < 0)), .slice A8 k8 c8]) F0 F2 ((L + 1)) ((L + 5)) _ (hv6.intA.below ?_) (hv8.intA.below ?_) j1 j2).mono ?_); (repeat (first | with_reducible exact Below.refl _ _ | ((with_reducible refine bl_set ?_ ?_ _); rotate_left; (first | exact Nat.le_refl _ | exact gz5 | exact gz6 | exact gz7)) | with_reducible refine bl_call h7 ?_ | with_reducible refine bl_call h6 ?_ | with_reducible refine bl_call h5 ?_ | with_reducible refine bl_alloc ?_ _ | with_reducible refine bl_drew ?_)); (repeat (first | with_reducible exact Below.refl _ _ | ((with_reducible refine bl_set ?_ ?_ _); rotate_left; (first | exact Nat.le_refl _ | exact gz5 | exact gz6 | exact gz7)) | with_reducible refine bl_call h7 ?_ | with_reducible refine bl_call h6 ?_ | with_reducible refine bl_call h5 ?_ | with_reducible refine bl_alloc ?_ _ | with_reducible refine bl_drew ?_)); rintro e w5 ⟨v5, rfl, hI5, h5⟩; have gz5 : x2.heap.size ≤ w5.heap.size := (bl_call h5 (by (repeat (first | with_reducible exact Below.refl _ _ | ((with_reducible refine bl_set ?_ ?_ _); rotate_left; (first | exact Nat.le_refl _ | exact gz5 | exact gz6 | exact gz7)) | with_reducible refine bl_call h7 ?_ | with_reducible refine bl_call h6 ?_ | with_reducible refine bl_call h5 ?_ | with_reducible refine bl_alloc ?_ _ | with_reducible refine bl_drew ?_))) : Below x2.heap.size x2 w5).size; (first | (replace RR := RR.keep h5) | (have R0 := Row.drew (Row.new x2 26 [.bool false, .slice none 0 0]); have RR := R0.keep h5; clear R0) | (have R0 := Row.new x2.drew 26 [.bool false, .slice none 0 0]; have RR := R0.keep h5; clear R0) | (have R0 := Row.new x2 26 [.bool false, .slice none 0 0]; have RR := R0.keep h5; clear R0) | (have R0 := Row.new w6 26 [.bool false, .slice none 0 0]; have RR := R0.keep h5; clear R0) | (have R0 := Row.new w7 26 [.bool false, .slice none 0 0]; have RR := R0.keep h5; clear R0) | skip)))
        | (go_at_call 33; ((with_reducible refine (imul_any (.agg #[.bool (decide (F1 < 0)), .slice A7 k7 c7]) (.agg #[.bool (decide (F1 < 0)), .slice A7 k7 c7]) F1 F1 ((L + 3)) ((L + 3)) _ (hv7.intA.below ?_) (hv7.intA.below ?_) j3 j3).mono ?_); (repeat (first | with_reducible exact Below.refl _ _ | ((with_reducible refine bl_set ?_ ?_ _); rotate_left; (first | exact Nat.le_refl _ | exact gz5 | exact gz6 | exact gz7)) | with_reducible refine bl_call h7 ?_ | with_reducible refine bl_call h6 ?_ | with_reducible refine bl_call h5 ?_ | with_reducible refine bl_alloc ?_ _ | with_reducible refine bl_drew ?_)); (repeat (first | with_reducible exact Below.refl _ _ | ((with_reducible refine bl_set ?_ ?_ _); rotate_left; (first | exact Nat.le_refl _ | exact gz5 | exact gz6 | exact gz7)) | with_reducible refine bl_call h7 ?_ | with_reducible refine bl_call h6 ?_ | with_reducible refine bl_call h5 ?_ | with_reducible refine bl_alloc ?_ _ | with_reducible refine bl_drew ?_)); rintro e w6 ⟨v6, rfl, hI6, h6⟩; have gz6 : x2.heap.size ≤ w6.heap.size := (bl_call h6 (by (repeat (first | with_reducible exact Below.refl _ _ | ((with_reducible refine bl_set ?_ ?_ _); rotate_left; (first | exact Nat.le_refl _ | exact gz5 | exact gz6 | exact gz7)) | with_reducible refine bl_call h7 ?_ | with_reducible refine bl_call h6 ?_ | with_reducible refine bl_call h5 ?_ | with_reducible refine bl_alloc ?_ _ | with_reducible refine bl_drew ?_))) : Below x2.heap.size x2 w6).size; (first | (replace RR := RR.keep h6) | (have R0 := Row.drew (Row.new x2 26 [.bool false, .slice none 0 0]); have RR := R0.keep h6; clear R0) | (have R0 := Row.new x2.drew 26 [.bool false, .slice none 0 0]; have RR := R0.keep h6; clear R0) | (have R0 := Row.new x2 26 [.bool false, .slice none 0 0]; have RR := R0.keep h6; clear R0) | (have R0 := Row.new w5 26 [.bool false, .slice none 0 0]; have RR := R0.keep h6; clear R0) | (have R0 := Row.new w7 26 [.bool false, .slice none 0 0]; have RR := R0.keep h6; clear R0) | skip)))
        | (go_at_call 74; ((with_reducible refine (isub_any _ _ (F0 * F2) (F1 * F1) ((L + 1) + (L + 5)) ((L + 3) + (L + 3)) _ (hI5.intA.below ?_) (hI6.intA.below ?_) j4 j5).mono ?_); (repeat (first | with_reducible exact Below.refl _ _ | ((with_reducible refine bl_set ?_ ?_ _); rotate_left; (first | exact Nat.le_refl _ | exact gz5 | exact gz6 | exact gz7)) | with_reducible refine bl_call h7 ?_ | with_reducible refine bl_call h6 ?_ | with_reducible refine bl_call h5 ?_ | with_reducible refine bl_alloc ?_ _ | with_reducible refine bl_drew ?_)); (repeat (first | with_reducible exact Below.refl _ _ | ((with_reducible refine bl_set ?_ ?_ _); rotate_left; (first | exact Nat.le_refl _ | exact gz5 | exact gz6 | exact gz7)) | with_reducible refine bl_call h7 ?_ | with_reducible refine bl_call h6 ?_ | with_reducible refine bl_call h5 ?_ | with_reducible refine bl_alloc ?_ _ | with_reducible refine bl_drew ?_)); rintro e w7 ⟨v7, rfl, hI7, h7⟩; have gz7 : x2.heap.size ≤ w7.heap.size := (bl_call h7 (by (repeat (first | with_reducible exact Below.refl _ _ | ((with_reducible refine bl_set ?_ ?_ _); rotate_left; (first | exact Nat.le_refl _ | exact gz5 | exact gz6 | exact gz7)) | with_reducible refine bl_call h7 ?_ | with_reducible refine bl_call h6 ?_ | with_reducible refine bl_call h5 ?_ | with_reducible refine bl_alloc ?_ _ | with_reducible refine bl_drew ?_))) : Below x2.heap.size x2 w7).size; (first | (have zg := RR.lt; replace RR := RR.keep h7) | (have R0 := Row.drew (Row.new x2 26 [.bool false, .slice none 0 0]); have zg := R0.lt; have RR := R0.keep h7) | (have R0 := Row.new x2.drew 26 [.bool false, .slice none 0 0]; have zg := R0.lt; have RR := R0.keep h7) | (have R0 := Row.new x2 26 [.bool false, .slice none 0 0]; have zg := R0.lt; have RR := R0.keep h7) | (have R0 := Row.new w5 26 [.bool false, .slice none 0 0]; have zg := R0.lt; have RR := R0.keep h7) | (have R0 := Row.new w6 26 [.bool false, .slice none 0 0]; have zg := R0.lt; have RR := R0.keep h7) | skip); have hI7' := hI7; obtain ⟨m7, e7, hm7, _⟩ := hI7'; subst e7; obtain ⟨A10, k10, c10, rfl⟩ := hm7.lim1.choose_spec.1.show_; clear hm7; (try (have e0 := RR.cell 0; have e1 := RR.cell 1; simp only [List.getElem?_cons_zero, List.getElem?_cons_succ] at e0 e1; have f0 := RR.frozen 0; have f1 := RR.frozen 1)))))
    all_goals go_wp2_with fail
    all_goals go_meet
    all_goals go_light
    all_goals
      refine ⟨_, A10, k10, c10, rfl, ?_, ?_, ?_, ?_⟩
      · (first | exact Nat.le_refl _ | exact gz5 | exact gz6 | exact gz7)
      · (first | exact Row.new _ _ _ | exact ((RR.set_ 0 _).set_ 1 _))
      · (first | exact ((hI7.tight HVB.out).below (lit_below _ _)).base (bl_sz (by (repeat (first | with_reducible exact Below.refl _ _ | ((with_reducible refine bl_set ?_ ?_ _); rotate_left; (first | exact Nat.le_refl _ | exact gz5 | exact gz6 | exact gz7)) | with_reducible refine bl_call h7 ?_ | with_reducible refine bl_call h6 ?_ | with_reducible refine bl_call h5 ?_ | with_reducible refine bl_alloc ?_ _ | with_reducible refine bl_drew ?_)))) | exact ((((hI7.tight HVB.out).set_ zg _).set_ zg _)).base (bl_sz (by (repeat (first | with_reducible exact Below.refl _ _ | ((with_reducible refine bl_set ?_ ?_ _); rotate_left; (first | exact Nat.le_refl _ | exact gz5 | exact gz6 | exact gz7)) | with_reducible refine bl_call h7 ?_ | with_reducible refine bl_call h6 ?_ | with_reducible refine bl_call h5 ?_ | with_reducible refine bl_alloc ?_ _ | with_reducible refine bl_drew ?_)))))
      · (repeat (first | with_reducible exact Below.refl _ _ | ((with_reducible refine bl_set ?_ ?_ _); rotate_left; (first | exact Nat.le_refl _ | exact gz5 | exact gz6 | exact gz7)) | with_reducible refine bl_call h7 ?_ | with_reducible refine bl_call h6 ?_ | with_reducible refine bl_call h5 ?_ | with_reducible refine bl_alloc ?_ _ | with_reducible refine bl_drew ?_))
  case rest =>
  obtain ⟨g10, A10, k10, c10, rfl, hg10, hr10, hv10, hbc⟩ := hcut
  clear qs0 qs1 qs2 qs3 qs4 qs5 zs0 zs1 zs2 c00 c01 c40 c41 c42 c60 c61 c70 c71 c80 c81 f40 f41 f42 z0 z4 z6 z7 z8
  obtain ⟨x3, hx3⟩ : ∃ x, x = wc := ⟨_, rfl⟩
  rw [← hx3] at hr10 hv10 hbc ⊢
  clear hx3
  have o0_10 : w.heap.size < g10 := by have := hr0.lt; omega
  have o4_10 : w.heap.size + 1 < g10 := by have := hr4.lt; omega
  have o6_10 : g6 < g10 := by have := hr6.lt; omega
  have o7_10 : g6 + 1 < g10 := by have := hr7.lt; omega
  have o8_10 : g6 + 1 + 1 < g10 := by have := hr8.lt; omega
  have ob_10 : w.heap.size ≤ g10 := by have := BB.size; omega
  replace hr0 := hr0.keep hbc
  replace hr4 := hr4.keep hbc
  replace hv6 := hv6.below hbc
  replace hv7 := hv7.below hbc
  replace hv8 := hv8.below hbc
  replace hr6 := hr6.keep hbc
  replace hr7 := hr7.keep hbc
  replace hr8 := hr8.keep hbc
  replace BB : Below w.heap.size w x3 := BB.trans (hbc.mono BB.size)
  clear hbc
  have hsq : 0 < F0 * F0 := Int.mul_pos hpos hpos
  have HSQ := Lib.hid hsq
  have HNE : Hid (F0 * F0 ≠ 0) := by unfold Hid; omega
  have hflip := flipZ_pos (p := (F0 * F2 - F1 * F1)) hsq
  have HFL := Lib.hid hflip
  clear hflip hsq
  clear hr7 hr8 hv7 hv8
  have hz6 := hr4.lt
  have c00 : x3.cell? ⟨w.heap.size, 0, none⟩ = some (.slice PA ps.length pc) := hr0.cell 0
  have c01 : x3.cell? ⟨w.heap.size, 1, none⟩ = some (.slice QA rs.length qc) := hr0.cell 1
  have c40 : x3.cell? ⟨w.heap.size + 1, 0, none⟩ = some (.bool false) := hr4.cell 0
  have c41 : x3.cell? ⟨w.heap.size + 1, 1, none⟩ = some (.slice none 0 0) := hr4.cell 1
  have c42 : x3.cell? ⟨w.heap.size + 1, 2, none⟩ = some (.slice none 0 0) := hr4.cell 2
  have c60 : x3.cell? ⟨g6, 0, none⟩ = some (.bool (decide (F0 < 0))) := hr6.cell 0
  have c61 : x3.cell? ⟨g6, 1, none⟩ = some (.slice A6 k6 c6) := hr6.cell 1
  have c100 : x3.cell? ⟨g10, 0, none⟩ = some (.bool (decide ((F0 * F2 - F1 * F1) < 0))) := hr10.cell 0
  have c101 : x3.cell? ⟨g10, 1, none⟩ = some (.slice A10 k10 c10) := hr10.cell 1
  have f40 : x3.frozen? ⟨w.heap.size + 1, 0, none⟩ = false := hr4.frozen 0
  have f41 : x3.frozen? ⟨w.heap.size + 1, 1, none⟩ = false := hr4.frozen 1
  have f42 : x3.frozen? ⟨w.heap.size + 1, 2, none⟩ = false := hr4.frozen 2
  have z0 := hr0.lt
  have z4 := hr4.lt
  have z6 := hr6.lt
  have z10 := hr10.lt
  go_wp2_with fail
  have qs0 : x3.cell? ⟨g6, 0, none⟩ = some (.bool (decide (F0 < 0))) := hr6.cell 0
  have qs1 : x3.cell? ⟨g6, 1, none⟩ = some (.slice A6 k6 c6) := hr6.cell 1
  have qs2 : x3.cell? ⟨g10, 0, none⟩ = some (.bool (decide ((F0 * F2 - F1 * F1) < 0))) := hr10.cell 0
  have qs3 : x3.cell? ⟨g10, 1, none⟩ = some (.slice A10 k10 c10) := hr10.cell 1
  have zs0 := hr6.lt
  have zs1 := hr10.lt
  go_cut [11] (fun s0 wx => ∃ (g : Nat) (A11 : Option Addr) (k11 c11 : Nat) (D11 : Option Addr) (l11 b11 : Nat), s0 = .pointer (some ⟨g, 0, none⟩) ∧ x3.heap.size ≤ g ∧ Row wx g 28 [.bool (decide (redP (F0 * F2 - F1 * F1) (F0 * F0).natAbs < 0)), .slice A11 k11 c11, .slice D11 l11 b11] ∧ RatF x3.heap.size wx (.agg #[.bool (decide (redP (F0 * F2 - F1 * F1) (F0 * F0).natAbs < 0)), .slice A11 k11 c11, .slice D11 l11 b11]) (redP (F0 * F2 - F1 * F1) (F0 * F0).natAbs) (redQ (F0 * F2 - F1 * F1) (F0 * F0).natAbs) (L + 1 + (L + 5) + 1) ∧ Below x3.heap.size x3 wx)
  case first =>
    go_region_held3 (fun w' => w'.cell? ⟨g6, 0, none⟩ = some (.bool (decide (F0 < 0))) ∧ w'.cell? ⟨g6, 1, none⟩ = some (.slice A6 k6 c6) ∧ w'.cell? ⟨g10, 0, none⟩ = some (.bool (decide ((F0 * F2 - F1 * F1) < 0))) ∧ w'.cell? ⟨g10, 1, none⟩ = some (.slice A10 k10 c10))
      ((refine keep4c zs0 zs0 zs1 zs1 qs0 qs1 qs2 qs3 ?_; (repeat (first | with_reducible exact Below.refl _ _ | ((with_reducible refine bl_set ?_ ?_ _); rotate_left; (first | exact Nat.le_refl _ | exact gz5 | exact gz6)) | with_reducible refine bl_call h6 ?_ | with_reducible refine bl_call h5 ?_ | with_reducible refine bl_alloc ?_ _ | with_reducible refine bl_drew ?_)); done))
      (first
        | (go_at_call 33; ((with_reducible refine (imul_any (.agg #[.bool (decide (F0 < 0)), .slice A6 k6 c6]) (.agg #[.bool (decide (F0 < 0)), .slice A6 k6 c6]) F0 F0 ((L + 1)) ((L + 1)) _ (hv6.intA.below ?_) (hv6.intA.below ?_) j1 j1).mono ?_); (repeat (first | with_reducible exact Below.refl _ _ | ((with_reducible refine bl_set ?_ ?_ _); rotate_left; (first | exact Nat.le_refl _ | exact gz5 | exact gz6)) | with_reducible refine bl_call h6 ?_ | with_reducible refine bl_call h5 ?_ | with_reducible refine bl_alloc ?_ _ | with_reducible refine bl_drew ?_)); (repeat (first | with_reducible exact Below.refl _ _ | ((with_reducible refine bl_set ?_ ?_ _); rotate_left; (first | exact Nat.le_refl _ | exact gz5 | exact gz6)) | with_reducible refine bl_call h6 ?_ | with_reducible refine bl_call h5 ?_ | with_reducible refine bl_alloc ?_ _ | with_reducible refine bl_drew ?_)); rintro e w5 ⟨v5, rfl, hI5, h5⟩; have gz5 : x3.heap.size ≤ w5.heap.size := (bl_call h5 (by (repeat (first | with_reducible exact Below.refl _ _ | ((with_reducible refine bl_set ?_ ?_ _); rotate_left; (first | exact Nat.le_refl _ | exact gz5 | exact gz6)) | with_reducible refine bl_call h6 ?_ | with_reducible refine bl_call h5 ?_ | with_reducible refine bl_alloc ?_ _ | with_reducible refine bl_drew ?_))) : Below x3.heap.size x3 w5).size; (first | (replace RR := RR.keep h5) | (have R0 := Row.drew (Row.new x3 28 [.bool false, .slice none 0 0, .slice none 0 0]); have RR := R0.keep h5; clear R0) | (have R0 := Row.new x3.drew 28 [.bool false, .slice none 0 0, .slice none 0 0]; have RR := R0.keep h5; clear R0) | (have R0 := Row.new x3 28 [.bool false, .slice none 0 0, .slice none 0 0]; have RR := R0.keep h5; clear R0) | (have R0 := Row.new w6 28 [.bool false, .slice none 0 0, .slice none 0 0]; have RR := R0.keep h5; clear R0) | skip)))
        | (go_at_call 37; ((with_reducible refine (qmake_any (.agg #[.bool (decide ((F0 * F2 - F1 * F1) < 0)), .slice A10 k10 c10]) _ (F0 * F2 - F1 * F1) (F0 * F0) (L + 1 + (L + 5) + 1) ((L + 1) + (L + 1)) _ (hv10.intA.below ?_) (hI5.intA.below ?_) j6 j7 HNE.out).mono ?_); (repeat (first | with_reducible exact Below.refl _ _ | ((with_reducible refine bl_set ?_ ?_ _); rotate_left; (first | exact Nat.le_refl _ | exact gz5 | exact gz6)) | with_reducible refine bl_call h6 ?_ | with_reducible refine bl_call h5 ?_ | with_reducible refine bl_alloc ?_ _ | with_reducible refine bl_drew ?_)); (repeat (first | with_reducible exact Below.refl _ _ | ((with_reducible refine bl_set ?_ ?_ _); rotate_left; (first | exact Nat.le_refl _ | exact gz5 | exact gz6)) | with_reducible refine bl_call h6 ?_ | with_reducible refine bl_call h5 ?_ | with_reducible refine bl_alloc ?_ _ | with_reducible refine bl_drew ?_)); rintro e w6 ⟨v6, rfl, hR6, h6⟩; have gz6 : x3.heap.size ≤ w6.heap.size := (bl_call h6 (by (repeat (first | with_reducible exact Below.refl _ _ | ((with_reducible refine bl_set ?_ ?_ _); rotate_left; (first | exact Nat.le_refl _ | exact gz5 | exact gz6)) | with_reducible refine bl_call h6 ?_ | with_reducible refine bl_call h5 ?_ | with_reducible refine bl_alloc ?_ _ | with_reducible refine bl_drew ?_))) : Below x3.heap.size x3 w6).size; (first | (have zg := RR.lt; replace RR := RR.keep h6) | (have R0 := Row.drew (Row.new x3 28 [.bool false, .slice none 0 0, .slice none 0 0]); have zg := R0.lt; have RR := R0.keep h6) | (have R0 := Row.new x3.drew 28 [.bool false, .slice none 0 0, .slice none 0 0]; have zg := R0.lt; have RR := R0.keep h6) | (have R0 := Row.new x3 28 [.bool false, .slice none 0 0, .slice none 0 0]; have zg := R0.lt; have RR := R0.keep h6) | (have R0 := Row.new w5 28 [.bool false, .slice none 0 0, .slice none 0 0]; have zg := R0.lt; have RR := R0.keep h6) | skip); rw [HFL.out] at hR6; have hR6' := hR6; obtain ⟨m6, d6, e6, hm6, hd6, _, _⟩ := hR6'; subst e6; obtain ⟨A11, k11, c11, rfl⟩ := hm6.lim1.choose_spec.1.show_; obtain ⟨D11, l11, b11, rfl⟩ := hd6.lim1.choose_spec.1.show_; clear hm6 hd6; (try (have e0 := RR.cell 0; have e1 := RR.cell 1; have e2 := RR.cell 2; simp only [List.getElem?_cons_zero, List.getElem?_cons_succ] at e0 e1 e2; have f0 := RR.frozen 0; have f1 := RR.frozen 1; have f2 := RR.frozen 2)))))
    all_goals go_wp2_with fail
    all_goals go_meet
    all_goals go_light
    all_goals
      refine ⟨_, A11, k11, c11, D11, l11, b11, rfl, ?_, ?_, ?_, ?_⟩
      · (first | exact Nat.le_refl _ | exact gz5 | exact gz6)
      · (first | exact Row.new _ _ _ | exact (((RR.set_ 0 _).set_ 1 _).set_ 2 _))
      · (first | exact ((hR6.mono (by omega)).below (lit_below _ _)).base (bl_sz (by (repeat (first | with_reducible exact Below.refl _ _ | ((with_reducible refine bl_set ?_ ?_ _); rotate_left; (first | exact Nat.le_refl _ | exact gz5 | exact gz6)) | with_reducible refine bl_call h6 ?_ | with_reducible refine bl_call h5 ?_ | with_reducible refine bl_alloc ?_ _ | with_reducible refine bl_drew ?_)))) | exact (((((hR6.mono (by omega)).set_ zg _).set_ zg _).set_ zg _)).base (bl_sz (by (repeat (first | with_reducible exact Below.refl _ _ | ((with_reducible refine bl_set ?_ ?_ _); rotate_left; (first | exact Nat.le_refl _ | exact gz5 | exact gz6)) | with_reducible refine bl_call h6 ?_ | with_reducible refine bl_call h5 ?_ | with_reducible refine bl_alloc ?_ _ | with_reducible refine bl_drew ?_)))))
      · (repeat (first | with_reducible exact Below.refl _ _ | ((with_reducible refine bl_set ?_ ?_ _); rotate_left; (first | exact Nat.le_refl _ | exact gz5 | exact gz6)) | with_reducible refine bl_call h6 ?_ | with_reducible refine bl_call h5 ?_ | with_reducible refine bl_alloc ?_ _ | with_reducible refine bl_drew ?_))
  case rest =>
  obtain ⟨g11, A11, k11, c11, D11, l11, b11, rfl, hg11, hr11, hv11, hbc⟩ := hcut
  clear qs0 qs1 qs2 qs3 zs0 zs1 c00 c01 c40 c41 c42 c60 c61 c100 c101 f40 f41 f42 z0 z4 z6 z10
  obtain ⟨x4, hx4⟩ : ∃ x, x = wc := ⟨_, rfl⟩
  rw [← hx4] at hr11 hv11 hbc ⊢
  clear hx4
  have o0_11 : w.heap.size < g11 := by have := hr0.lt; omega
  have o4_11 : w.heap.size + 1 < g11 := by have := hr4.lt; omega
  have o6_11 : g6 < g11 := by have := hr6.lt; omega
  have o10_11 : g10 < g11 := by have := hr10.lt; omega
  have ob_11 : w.heap.size ≤ g11 := by have := BB.size; omega
  replace hr0 := hr0.keep hbc
  replace hr4 := hr4.keep hbc
  replace hv6 := hv6.below hbc
  replace hr6 := hr6.keep hbc
  replace hr10 := hr10.keep hbc
  replace hv10 := hv10.below hbc
  replace BB : Below w.heap.size w x4 := BB.trans (hbc.mono BB.size)
  clear hbc
  have c00 : x4.cell? ⟨w.heap.size, 0, none⟩ = some (.slice PA ps.length pc) := hr0.cell 0
  have c01 : x4.cell? ⟨w.heap.size, 1, none⟩ = some (.slice QA rs.length qc) := hr0.cell 1
  have c40 : x4.cell? ⟨w.heap.size + 1, 0, none⟩ = some (.bool false) := hr4.cell 0
  have c41 : x4.cell? ⟨w.heap.size + 1, 1, none⟩ = some (.slice none 0 0) := hr4.cell 1
  have c42 : x4.cell? ⟨w.heap.size + 1, 2, none⟩ = some (.slice none 0 0) := hr4.cell 2
  have c60 : x4.cell? ⟨g6, 0, none⟩ = some (.bool (decide (F0 < 0))) := hr6.cell 0
  have c61 : x4.cell? ⟨g6, 1, none⟩ = some (.slice A6 k6 c6) := hr6.cell 1
  have c100 : x4.cell? ⟨g10, 0, none⟩ = some (.bool (decide ((F0 * F2 - F1 * F1) < 0))) := hr10.cell 0
  have c101 : x4.cell? ⟨g10, 1, none⟩ = some (.slice A10 k10 c10) := hr10.cell 1
  have c110 : x4.cell? ⟨g11, 0, none⟩ = some (.bool (decide (redP (F0 * F2 - F1 * F1) (F0 * F0).natAbs < 0))) := hr11.cell 0
  have c111 : x4.cell? ⟨g11, 1, none⟩ = some (.slice A11 k11 c11) := hr11.cell 1
  have c112 : x4.cell? ⟨g11, 2, none⟩ = some (.slice D11 l11 b11) := hr11.cell 2
  have f40 : x4.frozen? ⟨w.heap.size + 1, 0, none⟩ = false := hr4.frozen 0
  have f41 : x4.frozen? ⟨w.heap.size + 1, 1, none⟩ = false := hr4.frozen 1
  have f42 : x4.frozen? ⟨w.heap.size + 1, 2, none⟩ = false := hr4.frozen 2
  have z0 := hr0.lt
  have z4 := hr4.lt
  have z6 := hr6.lt
  have z10 := hr10.lt
  have z11 := hr11.lt
  go_wp2_with fail
  refine bodyPost_ret (v := .tuple #[.agg #[.bool (decide (redP (F0 * F2 - F1 * F1) (F0 * F0).natAbs < 0)), .slice A11 k11 c11, .slice D11 l11 b11], .int .i64 0]) (by simp [results, Tryz.results53, go_sem, c40, c41, c42]) rfl ⟨_, rfl, ?_, ((BB.setCell (by simp) _).setCell (by simp) _).setCell (by simp) _⟩
  rw [HH0.out, HH1.out, HH2.out]
  exact (((hv11.set_ (a := ⟨w.heap.size + 1, 0, none⟩) hz6 _).set_ (a := ⟨w.heap.size + 1, 1, none⟩) hz6 _).set_ (a := ⟨w.heap.size + 1, 2, none⟩) hz6 _).base (by omega)

end Go.Proofs.YtfoleamcaflfeaaGreatDoor
