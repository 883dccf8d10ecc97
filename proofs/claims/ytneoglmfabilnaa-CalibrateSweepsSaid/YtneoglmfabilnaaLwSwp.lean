/- The walk of the law CalibrateSweeps: it returns true for all arguments. No condition. -/
import Derived.Test.YtneoglmfabilnaaRsD
namespace Go.Proofs.Ytneoglmfabilnaa
open Go.RowKit
set_option linter.unusedVariables false

set_option maxHeartbeats 8000000 in
set_option maxRecDepth 10000 in
theorem sweeps_all (pv rv qv iv cv fv xv : Value) (ps rs qs is : List Int) (cs : List (List Int)) (fs : List (List Mod)) (ch : List Int) (w : World) (hp : Nums .i64 w pv ps) (hr : Nums .i64 w rv rs) (hq : Nums .i64 w qv qs) (hi : Nums .i64 w iv is) (hc : IntsL w cv cs) (hf : FamL w fv fs) (hx : Nums .i64 w xv ch) :
    Calls Try.prog 7 #[.agg #[pv, rv], .agg #[qv, iv, cv], fv, xv] w fun e w' => e = .returned (.bool true) ∧ Below w.heap.size w w' := by
  have hp0 := hp
  have hr0 := hr
  have hq0 := hq
  have hi0 := hi
  have hc0 := hc
  have hf0 := hf
  have hx0 := hx
  obtain ⟨A, c, rfl, hc1, hm1, hsp⟩ := hp
  obtain ⟨B, c', rfl, hc', hm2, hsr⟩ := hr
  obtain ⟨X, cX, rfl, x1, x2, x3⟩ := hq
  obtain ⟨Y, cY, rfl, y1, y2, y3⟩ := hi
  obtain ⟨Z, cZ, vs, rfl, z1, z2, hsc, hcu⟩ := hc
  obtain ⟨Q, cQ, us, rfl, fq1, fq2, hsf, hfu⟩ := hf
  obtain ⟨D, cD, rfl, d1, d2, hsd⟩ := hx
  have HF := Lib.hid hfu
  unfold maxLen at x2 y2 z2 hm1 hm2 fq2 d2
  clear hsp hsr x3 y3 hcu hsc hfu
  have hgb := (Row.new w 24 [.slice A ps.length c, .slice B rs.length c']).alloc (.cells #[.slice X qs.length cX, .slice Y is.length cY, .slice Z cs.length cZ] 36)
  have hmb := Row.new (w.alloc (.cells #[.slice A ps.length c, .slice B rs.length c'] 24)) 36 [.slice X qs.length cX, .slice Y is.length cY, .slice Z cs.length cZ]
  have B0 : Below w.heap.size w ((w.alloc (.cells #[.slice A ps.length c, .slice B rs.length c'] 24)).alloc (.cells #[.slice X qs.length cX, .slice Y is.length cY, .slice Z cs.length cZ] 36)) := ((Below.refl _ _).alloc (Nat.le_refl _) _).alloc (by simp) _
  rw [show (w.alloc (.cells #[.slice A ps.length c, .slice B rs.length c'] 24)).heap.size = w.heap.size + 1 by simp] at hmb
  have qg0 : ((w.alloc (.cells #[.slice A ps.length c, .slice B rs.length c'] 24)).alloc (.cells #[.slice X qs.length cX, .slice Y is.length cY, .slice Z cs.length cZ] 36)).cell? ⟨w.heap.size, 0, none⟩ = some (.slice A ps.length c) := hgb.cell 0
  have qg1 : ((w.alloc (.cells #[.slice A ps.length c, .slice B rs.length c'] 24)).alloc (.cells #[.slice X qs.length cX, .slice Y is.length cY, .slice Z cs.length cZ] 36)).cell? ⟨w.heap.size, 1, none⟩ = some (.slice B rs.length c') := hgb.cell 1
  have q0 : ((w.alloc (.cells #[.slice A ps.length c, .slice B rs.length c'] 24)).alloc (.cells #[.slice X qs.length cX, .slice Y is.length cY, .slice Z cs.length cZ] 36)).cell? ⟨w.heap.size + 1, 0, none⟩ = some (.slice X qs.length cX) := hmb.cell 0
  have q1 : ((w.alloc (.cells #[.slice A ps.length c, .slice B rs.length c'] 24)).alloc (.cells #[.slice X qs.length cX, .slice Y is.length cY, .slice Z cs.length cZ] 36)).cell? ⟨w.heap.size + 1, 1, none⟩ = some (.slice Y is.length cY) := hmb.cell 1
  have q2 : ((w.alloc (.cells #[.slice A ps.length c, .slice B rs.length c'] 24)).alloc (.cells #[.slice X qs.length cX, .slice Y is.length cY, .slice Z cs.length cZ] 36)).cell? ⟨w.heap.size + 1, 2, none⟩ = some (.slice Z cs.length cZ) := hmb.cell 2
  clear qg0 qg1 q0 q1 q2
  go_enter Try.func7, Try.ntmps7
  go_wp2_with fail
  refine (heavy_any _ _ _ qs is _ (hq0.below B0) (hi0.below B0) ⟨_, _, _, rfl⟩).mono ?_
  rintro e w1 ⟨b, rfl, hb1⟩
  have B1 : Below w.heap.size w w1 := B0.trans (hb1.mono B0.size)
  replace hgb := hgb.keep hb1
  replace hmb := hmb.keep hb1
  clear hb1
  have qg0 : w1.cell? ⟨w.heap.size, 0, none⟩ = some (.slice A ps.length c) := hgb.cell 0
  have qg1 : w1.cell? ⟨w.heap.size, 1, none⟩ = some (.slice B rs.length c') := hgb.cell 1
  have q0 : w1.cell? ⟨w.heap.size + 1, 0, none⟩ = some (.slice X qs.length cX) := hmb.cell 0
  have q1 : w1.cell? ⟨w.heap.size + 1, 1, none⟩ = some (.slice Y is.length cY) := hmb.cell 1
  have q2 : w1.cell? ⟨w.heap.size + 1, 2, none⟩ = some (.slice Z cs.length cZ) := hmb.cell 2
  cases b
  case true =>
    go_wp2_with fail
    go_ret
    exact ⟨rfl, B1⟩
  go_wp2_with fail
  refine (anyWide_any _ fs _ (hf0.below B1)).mono ?_
  rintro e w1 ⟨b, rfl, rfl⟩
  cases b
  case true =>
    go_wp2_with fail
    go_ret
    exact ⟨rfl, B1⟩
  go_wp2_with fail
  clear qg0 qg1 q0 q1 q2
  refine (sweep_any _ _ _ _ _ _ _ ps rs qs is cs fs ch _ (hp0.below B1) (hr0.below B1) (hq0.below B1) (hi0.below B1) (hc0.below B1) (hf0.below B1) (hx0.below B1)).mono ?_
  rintro e w2 ⟨v2, rfl, hv2, hb2⟩
  have B2 : Below w.heap.size w w2 := B1.trans (hb2.mono B1.size)
  replace hgb := hgb.keep hb2
  replace hmb := hmb.keep hb2
  clear hb2
  have qg0 : w2.cell? ⟨w.heap.size, 0, none⟩ = some (.slice A ps.length c) := hgb.cell 0
  have qg1 : w2.cell? ⟨w.heap.size, 1, none⟩ = some (.slice B rs.length c') := hgb.cell 1
  have q0 : w2.cell? ⟨w.heap.size + 1, 0, none⟩ = some (.slice X qs.length cX) := hmb.cell 0
  have q1 : w2.cell? ⟨w.heap.size + 1, 1, none⟩ = some (.slice Y is.length cY) := hmb.cell 1
  have q2 : w2.cell? ⟨w.heap.size + 1, 2, none⟩ = some (.slice Z cs.length cZ) := hmb.cell 2
  have hv2' := hv2
  obtain ⟨V2, c2, rfl, _, _, _⟩ := hv2'
  go_wp2_with fail
  clear qg0 qg1 q0 q1 q2
  refine (rSweep_any _ _ _ _ _ _ _ ps rs qs is cs fs ch _ (hp0.below B2) (hr0.below B2) (hq0.below B2) (hi0.below B2) (hc0.below B2) (hf0.below B2) (hx0.below B2)).mono ?_
  rintro e w3 ⟨v3, rfl, hv3, hb3⟩
  have hv23 := hv2.below hb3
  have B3 : Below w.heap.size w w3 := B2.trans (hb3.mono B2.size)
  replace hgb := hgb.keep hb3
  replace hmb := hmb.keep hb3
  clear hb3
  have hv3' := hv3
  obtain ⟨V3, c3, rfl, _, _, _⟩ := hv3'
  have HX : Hid (swE ps rs qs is cs fs ch = swE ps rs qs is cs fs ch) := rfl
  obtain ⟨E, hE⟩ : ∃ E, swE ps rs qs is cs fs ch = E := ⟨_, rfl⟩
  replace HX := Lib.hid hE
  rw [hE]
  clear hE
  obtain ⟨sl, hsl⟩ : ∃ sl, swV ps rs qs is cs fs ch = sl := ⟨_, rfl⟩
  rw [hsl] at hv23 hv3 hv2 ⊢
  clear hsl
  have f1 : (E != E) = false := by simp
  have f2 : (E == E) = true := by simp
  go_wp2_with fail
  refine (ints_same _ _ sl _ hv23 hv3).mono ?_
  rintro e w4 ⟨rfl, d, rfl⟩
  obtain ⟨w5, hw5⟩ : ∃ w5 : World, w5 = w3.drewN d := ⟨_, rfl⟩
  have B5 : Below w.heap.size w w5 := by rw [hw5]; exact below_drewN B3 d
  have hgb : Row w5 w.heap.size 24 [.slice A ps.length c, .slice B rs.length c'] := by rw [hw5]; exact hgb
  have hmb : Row w5 (w.heap.size + 1) 36 [.slice X qs.length cX, .slice Y is.length cY, .slice Z cs.length cZ] := by rw [hw5]; exact hmb
  rw [← hw5]
  clear hw5
  have qg0 : w5.cell? ⟨w.heap.size, 0, none⟩ = some (.slice A ps.length c) := hgb.cell 0
  have qg1 : w5.cell? ⟨w.heap.size, 1, none⟩ = some (.slice B rs.length c') := hgb.cell 1
  have q0 : w5.cell? ⟨w.heap.size + 1, 0, none⟩ = some (.slice X qs.length cX) := hmb.cell 0
  have q1 : w5.cell? ⟨w.heap.size + 1, 1, none⟩ = some (.slice Y is.length cY) := hmb.cell 1
  have q2 : w5.cell? ⟨w.heap.size + 1, 2, none⟩ = some (.slice Z cs.length cZ) := hmb.cell 2
  go_wp2_with fail
  clear qg0 qg1 q0 q1 q2
  refine (run_any _ _ _ _ _ _ _ ps rs qs is cs fs ch _ (hp0.below B5) (hr0.below B5) (hq0.below B5) (hi0.below B5) (hc0.below B5) (hf0.below B5) (hx0.below B5)).mono ?_
  rintro e w6 ⟨v6, n, l, rfl, hv6, hRV, hb6⟩
  have B6 : Below w.heap.size w w6 := B5.trans (hb6.mono B5.size)
  replace hgb := hgb.keep hb6
  replace hmb := hmb.keep hb6
  clear hb6
  have qg0 : w6.cell? ⟨w.heap.size, 0, none⟩ = some (.slice A ps.length c) := hgb.cell 0
  have qg1 : w6.cell? ⟨w.heap.size, 1, none⟩ = some (.slice B rs.length c') := hgb.cell 1
  have q0 : w6.cell? ⟨w.heap.size + 1, 0, none⟩ = some (.slice X qs.length cX) := hmb.cell 0
  have q1 : w6.cell? ⟨w.heap.size + 1, 1, none⟩ = some (.slice Y is.length cY) := hmb.cell 1
  have q2 : w6.cell? ⟨w.heap.size + 1, 2, none⟩ = some (.slice Z cs.length cZ) := hmb.cell 2
  have hv6' := hv6
  obtain ⟨V6, c6, rfl, _, _, _⟩ := hv6'
  have HRV := Lib.hid hRV
  clear hRV
  go_wp2_with fail
  clear qg0 qg1 q0 q1 q2
  refine (rRun_any _ _ _ _ _ _ _ ps rs qs is cs fs ch _ (hp0.below B6) (hr0.below B6) (hq0.below B6) (hi0.below B6) (hc0.below B6) (hf0.below B6) (hx0.below B6)).mono ?_
  rintro e w7 ⟨v7, m, l', rfl, hv7, hRV, hb7⟩
  have hv67 := hv6.below hb7
  have B7 : Below w.heap.size w w7 := B6.trans (hb7.mono B6.size)
  replace hgb := hgb.keep hb7
  replace hmb := hmb.keep hb7
  clear hb7
  obtain ⟨rfl, rfl⟩ := HRV.out.same hRV
  have hv7' := hv7
  obtain ⟨V7, c7, rfl, _, _, _⟩ := hv7'
  clear hRV HRV
  rw [HX.out]
  have f3 : ((n : Int) == (n : Int)) = true := by simp
  go_wp2_with fail
  refine (ints_same _ _ _ _ hv67 hv7).mono ?_
  rintro e w8 ⟨rfl, d2, rfl⟩
  go_wp2_with fail
  go_ret
  exact ⟨rfl, below_drewN B7 _⟩
end Go.Proofs.Ytneoglmfabilnaa
