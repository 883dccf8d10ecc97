/- The walk of model.Prob at a valid model. -/
import Derived.Test.YtoihjclkocffhaaDoorMoA
import Derived.Test.YtoihjclkocffhaaDoorQPrn
namespace Go.Proofs.YtoihjclkocffhaaDoor
open Go.RowKit
set_option linter.unusedVariables false

theorem getD_memB {α : Type} {l : List α} (d : α) {k : Nat} (h : k < l.length) : l.getD k d ∈ l := by
  rw [List.getD_eq_getElem?_getD, List.getElem?_eq_getElem h]; exact List.getElem_mem _

set_option maxHeartbeats 4000000 in
theorem prob_ok (rv : Value) (rows : List (List Int)) (q k : Nat) (x : Int) (w : World) (h : IntsL w rv rows) (hv : modE rows (rows.length : Int) = 0) (hq : q < rows.length) (hk : k < catsOf rows) (hx : (rows.getD q []).getD k 0 = x) :
    Calls Tryd.prog 29 #[.agg #[rv], .int .i64 (q : Int), .int .i64 (k : Int)] w fun e w' => ∃ v, e = .returned (.tuple #[v, .int .i64 0]) ∧ RatF w.heap.size w' v (redP x 1000) (redQ x 1000) 2 ∧ Below w.heap.size w w' := by
  obtain ⟨_, m2, _, m4, m5, m6⟩ := modE_zero hv
  have hrow : (rows.getD q []) ∈ rows := getD_memB _ hq
  obtain ⟨rl, rx, _⟩ := m6 _ hrow
  have hkr : k < (rows.getD q []).length := by rw [rl]; exact hk
  have hxb : 1 ≤ x ∧ x ≤ 1000 := by
    rw [← hx]; exact rx _ (getD_memB _ hkr)
  have h0 := h
  obtain ⟨A, c, us, rfl, hc, hm, hs, hu⟩ := h0
  have HU := Lib.hid hu
  have HV := Lib.hid hv
  clear hu m6 rx hv
  obtain ⟨b, o, u, rfl, hb, g1, hr⟩ := lst_at hs HU.out hq
  obtain ⟨X, cX, rfl, x1, x2, x3⟩ := hr
  obtain ⟨b2, o2, rfl, hb2, hcell⟩ := x3.num hkr
  have g2 := hcell k hkr
  rw [hx] at g2
  have hkc : k < catsOf rows := hk
  have hkl : ((rows.getD q []).length : Int) = (catsOf rows : Int) := by rw [rl]
  obtain ⟨W0, hW0⟩ : ∃ W0 : World, W0 = (w.alloc (.cells #[.slice (some ⟨b, o, none⟩) rows.length c] 25)).alloc (.cells #[.bool false, .slice none 0 0, .slice none 0 0] 54) := ⟨_, rfl⟩
  have r0 : Row W0 w.heap.size 25 [.slice (some ⟨b, o, none⟩) rows.length c] := by rw [hW0]; exact (Row.new w 25 [.slice (some ⟨b, o, none⟩) rows.length c]).alloc _
  have r1 : Row W0 (w.heap.size + 1) 54 [.bool false, .slice none 0 0, .slice none 0 0] := by
    rw [hW0]
    have := Row.new (w.alloc (.cells #[.slice (some ⟨b, o, none⟩) rows.length c] 25)) 54 [.bool false, .slice none 0 0, .slice none 0 0]
    simpa using this
  have B0 : Below w.heap.size w W0 := by rw [hW0]; exact ((Below.refl _ _).alloc (Nat.le_refl _) _).alloc (by simp) _
  have hz : w.heap.size + 2 ≤ W0.heap.size := r1.lt
  have a0 : W0.cell? ⟨w.heap.size, 0, none⟩ = some (.slice (some ⟨b, o, none⟩) rows.length c) := r0.cell 0
  have HVm := Lib.hid (mvalid1_any _ rows W0 (h.below B0))
  rw [HV.out] at HVm
  have hc9 : rows.length ≤ 21 := by omega
  have hcat : catsOf rows ≤ 6 := m5
  have HRL := Lib.hid rl
  generalize (rows.getD q []).length = rlen at *
  clear hx hcell x3 hs hrow rl HU
  go_enter Tryd.func29, Tryd.ntmps29
  go_wp2_with fail
  rw [← hW0]
  clear hW0
  go_wp2_with fail
  refine HVm.out.mono ?_
  rintro e w1 ⟨rfl, hb1⟩
  have B1 := B0.trans (hb1.mono B0.size)
  have s0 := r0.keep hb1
  have a1 : w1.cell? ⟨w.heap.size, 0, none⟩ = some (.slice (some ⟨b, o, none⟩) rows.length c) := s0.cell 0
  have HCt := Lib.hid (cats_any _ rows w1 (h.below B1))
  go_wp2_with fail
  refine HCt.out.mono ?_
  rintro e w2 ⟨rfl, hb2'⟩
  have B2 := B1.trans (hb2'.mono B1.size)
  have s1 := s0.keep hb2'
  have a2 : w2.cell? ⟨w.heap.size, 0, none⟩ = some (.slice (some ⟨b, o, none⟩) rows.length c) := s1.cell 0
  have g12 := (B2.cell (p := ⟨b, o + q, none⟩) hb).trans g1
  have g22 := (B2.cell (p := ⟨b2, o2 + k, none⟩) hb2).trans g2
  go_wp2_with fail
  have HQ := Lib.hid (qof_any x 1000 w2 (by omega) (by omega) (by omega) (by omega))
  rw [show Int.toNat 1000 = 1000 from rfl] at HQ
  refine HQ.out.mono ?_
  rintro e w3 ⟨v3, rfl, ⟨mv, dv, rfl, hmv, hdv, fm, fd⟩, hb3⟩
  obtain ⟨A6, n6, c6, rfl⟩ := hmv.lim1.choose_spec.1.show_
  obtain ⟨A7, n7, c7, rfl⟩ := hdv.lim1.choose_spec.1.show_
  have B02 : Below W0.heap.size W0 w2 := hb1.trans (hb2'.mono hb1.size)
  have B03 : Below W0.heap.size W0 w3 := B02.trans (hb3.mono B02.size)
  have B3 := B0.trans (B03.mono B0.size)
  obtain ⟨N, hN⟩ : ∃ N, N = decide (redP x 1000 < 0) := ⟨_, rfl⟩
  rw [← hN]
  have HNN := Lib.hid hN
  clear hN
  obtain ⟨W4, hW4⟩ : ∃ W4 : World, W4 = w3.alloc (.cells #[.bool N, .slice A6 n6 c6, .slice A7 n7 c7] 54) := ⟨_, rfl⟩
  have B34 : Below w3.heap.size w3 W4 := by rw [hW4]; exact (Below.refl _ _).alloc (Nat.le_refl _) _
  have r4 : Row W4 w3.heap.size 54 [.bool N, .slice A6 n6 c6, .slice A7 n7 c7] := by rw [hW4]; exact Row.new w3 54 [.bool N, .slice A6 n6 c6, .slice A7 n7 c7]
  have t0 : W4.cell? ⟨w3.heap.size, 0, none⟩ = some (.bool N) := r4.cell 0
  have t1 : W4.cell? ⟨w3.heap.size, 1, none⟩ = some (.slice A6 n6 c6) := r4.cell 1
  have t2 : W4.cell? ⟨w3.heap.size, 2, none⟩ = some (.slice A7 n7 c7) := r4.cell 2
  have B04 : Below W0.heap.size W0 W4 := B03.trans (B34.mono B03.size)
  have s4 := r1.keep B04
  have d0 : W4.cell? ⟨w.heap.size + 1, 0, none⟩ = some (.bool false) := s4.cell 0
  have d1 : W4.cell? ⟨w.heap.size + 1, 1, none⟩ = some (.slice none 0 0) := s4.cell 1
  have d2 : W4.cell? ⟨w.heap.size + 1, 2, none⟩ = some (.slice none 0 0) := s4.cell 2
  have f0 := s4.frozen 0
  have f1 := s4.frozen 1
  have f2 := s4.frozen 2
  have hfm : Fresh (w.heap.size + 2) (.slice A6 n6 c6) := fm.mono (Nat.le_trans hz B02.size)
  have hfd : Fresh (w.heap.size + 2) (.slice A7 n7 c7) := fd.mono (Nat.le_trans hz B02.size)
  have hm4 := hmv.below B34
  have hd4 := hdv.below B34
  have B4 := B0.trans (B04.mono B0.size)
  have d0' := d0
  have d1' := d1
  have d2' := d2
  have f0' := f0
  have f1' := f1
  have f2' := f2
  rw [hW4] at d0' d1' d2' f0' f1' f2'
  clear g1 g2 g12 g22 a0 a1 a2 s0 s1 hkl
  go_wp2_with fail
  rw [← hW4]
  clear d0' d1' d2' f0' f1' f2' hW4
  refine bodyPost_ret (v := .tuple #[.agg #[.bool N, .slice A6 n6 c6, .slice A7 n7 c7], .int .i64 0]) (by simp [results, Tryd.results29, go_sem, d0, d1, d2]) rfl ⟨_, rfl, ⟨_, _, by rw [HNN.out], ?_, ?_, hfm.mono (by omega), hfd.mono (by omega)⟩, ((B4.setCell (by simp) _).setCell (by simp) _).setCell (by simp) _⟩
  · exact ((hm4.set_ hfm (by simp) _).set_ hfm (by simp) _).set_ hfm (by simp) _
  · exact ((hd4.set_ hfd (by simp) _).set_ hfd (by simp) _).set_ hfd (by simp) _
end Go.Proofs.YtoihjclkocffhaaDoor
