/- For every matrix and list of numbers of categories the law MatrixCounts returns true; no condition. -/
import Derived.Test.YtgdngopemlajjaaMtJ
import Derived.Test.YtgdngopemlajjaaOpenL
import Derived.Test.YtgdngopemlajjaaRows
import Derived.Test.YtgdngopemlajjaaMtX
namespace Go.Proofs.Ytgdngopemlajjaa
open Go.RowKit Go.ChangeShapes Go.WideShapes Go.ChangeAt Go.Joins
set_option linter.unusedVariables false

set_option maxRecDepth 100000 in
set_option maxHeartbeats 8000000 in
theorem counts_all (pv iv cv xv : Value) (ps is : List Int) (cs : List (List Int)) (cats : List Int) (w : World) (hM : Mat w pv iv cv ps is cs) (hx : Nums .i64 w xv cats) :
    Calls Try.prog 10 #[.agg #[pv, iv, cv], xv] w fun e w' => e = .returned (.bool true) ∧ Below w.heap.size w w' := by
  obtain ⟨hp, hi, hc⟩ := hM
  have hM0 : Mat w _ _ _ ps is cs := ⟨hp, hi, hc⟩
  have hx0 := hx
  obtain ⟨X, cX, rfl, x1, x2, x3⟩ := hp
  obtain ⟨Y, cY, rfl, y1, y2, y3⟩ := hi
  obtain ⟨Z, cZ, us, rfl, z1, z2, hs, hu⟩ := hc
  obtain ⟨XC, cC, rfl, q1, q2, q3⟩ := hx
  unfold maxLen at x2 y2 z2 q2
  obtain ⟨np, hnp⟩ : ∃ n, ps.length = n := ⟨_, rfl⟩
  have Hnp := Lib.hid hnp
  rw [hnp] at x1 hM0 ⊢
  clear hnp
  obtain ⟨ni, hni⟩ : ∃ n, is.length = n := ⟨_, rfl⟩
  have Hni := Lib.hid hni
  rw [hni] at y1 hM0 ⊢
  clear hni
  obtain ⟨nr, hnr⟩ : ∃ n, cs.length = n := ⟨_, rfl⟩
  have Hnr := Lib.hid hnr
  rw [hnr] at z1 hs hM0 ⊢
  clear hnr
  obtain ⟨nc, hnc⟩ : ∃ n, cats.length = n := ⟨_, rfl⟩
  have Hnc := Lib.hid hnc
  rw [hnc] at q1 q3 hx0 ⊢
  clear hnc
  clear x3 y3
  have hra := Row.new w 25 [.slice X np cX, .slice Y ni cY, .slice Z nr cZ]
  have BB := lit_below w (.cells #[.slice X np cX, .slice Y ni cY, .slice Z nr cZ] 25)
  have hA := hM0.below BB
  have hQ := hx0.below BB
  clear hM0 hx0
  have HU := Lib.hid hu
  clear hu
  go_enter Try.func10, Try.ntmps10
  go_wp2_with fail
  generalize hW : w.alloc (.cells #[.slice X np cX, .slice Y ni cY, .slice Z nr cZ] 25) = w0 at *
  clear hW
  refine (matv_any _ _ _ _ ps is cats cs _ hA.1 hA.2.1 hA.2.2 hQ).mono ?_
  rintro e w1 ⟨rfl, hb⟩
  replace hra := hra.keep hb
  replace hA := hA.below hb
  replace hQ := hQ.below hb
  replace BB : Below w.heap.size w w1 := BB.trans (hb.mono BB.size)
  clear hb
  by_cases e0 : matE ps is cs cats = 0
  case neg =>
    have nz : (matE ps is cs cats != 0) = true := by rw [bne_iff_ne]; exact e0
    clear e0
    generalize matE ps is cs cats = E at *
    have a0 : w1.cell? ⟨w.heap.size, 0, none⟩ = some (.slice X np cX) := hra.cell 0
    have a1 : w1.cell? ⟨w.heap.size, 1, none⟩ = some (.slice Y ni cY) := hra.cell 1
    have a2 : w1.cell? ⟨w.heap.size, 2, none⟩ = some (.slice Z nr cZ) := hra.cell 2
    go_wp2_with fail
    clear a0 a1 a2
    refine (awake_any _).mono ?_
    rintro e w99 ⟨rfl, hb⟩
    go_wp2_with fail
    go_ret
    exact ⟨rfl, BB.trans (hb.mono BB.size)⟩
  case pos =>
    have HK := Lib.hid (okm e0)
    rw [e0]
    clear e0
    have HV : Hid (np ≤ 200 ∧ ni ≤ 60 ∧ nr = np ∧ nc = ni) := by unfold Hid; have h := HK.out; have h1 := h.nps; have h2 := h.nis; have h3 := h.ncs; have h4 := h.ncats; rw [Hnp.out] at h1 h3; rw [Hni.out] at h2 h4; rw [Hnr.out] at h3; rw [Hnc.out] at h4; exact ⟨h1, h2, h3, h4⟩
    have a0 : w1.cell? ⟨w.heap.size, 0, none⟩ = some (.slice X np cX) := hra.cell 0
    have a1 : w1.cell? ⟨w.heap.size, 1, none⟩ = some (.slice Y ni cY) := hra.cell 1
    have a2 : w1.cell? ⟨w.heap.size, 2, none⟩ = some (.slice Z nr cZ) := hra.cell 2
    go_wp2_with fail
    clear a0 a1 a2
    go_loopw [5, 6, 25] (fun s n i wr => ∃ k : Nat, k ≤ nr ∧ s = .int .i64 (sumR pz (cs.take k)) ∧ n = .int .i64 (sumR p1 (cs.take k)) ∧ i = .int .i64 (k : Int) ∧ Below w1.heap.size w1 wr) (fun _ _ i _ => nr - (intOf i).toNat)
    case atStart => exact ⟨0, by omega, by rw [List.take_zero]; rfl, by rw [List.take_zero]; rfl, rfl, Below.refl _ _⟩
    case round =>
      obtain ⟨k, hk, rfl, rfl, rfl, hb⟩ := hrel
      have HBX := hb
      replace hra := hra.keep hb
      replace hA := hA.below hb
      replace hQ := hQ.below hb
      replace BB : Below w.heap.size w wr := BB.trans (hb.mono BB.size)
      clear hb
      have Hz := HK.out.sz k
      have H1 := HK.out.s1 k
      by_cases hlt : k < nr
      case pos =>
        obtain ⟨b1, o1, u, rfl, hb1, hcell, hu⟩ := lst_at (R := Nums .i64) (d := []) (xs := cs) hs HU.out hlt
        have g1 : wr.cell? ⟨b1, o1 + k, none⟩ = some u := (BB.cell (p := ⟨b1, o1 + k, none⟩) hb1).trans hcell
        replace hu := hu.below BB
        clear hcell
        have hkl : Hid (k < cs.length) := by unfold Hid; rw [Hnr.out]; exact hlt
        have HT1 := Lib.hid (sz_succ pz cs hkl.out)
        have HT2 := Lib.hid (sz_succ p1 cs hkl.out)
        have HTO := Lib.hid (HK.out.tot hkl.out)
        have hmem : Hid (cs.getD k [] ∈ cs) := by unfold Hid; rw [getD_get _ _ hkl.out]; exact List.getElem_mem _
        have bz := HK.out.rz hmem.out
        have b1' := HK.out.r1 hmem.out
        clear hmem
        generalize cs.getD k [] = row at *
        generalize sumR pz (cs.take k) = S at *
        generalize sumR p1 (cs.take k) = T at *
        generalize sumL pz row = sr at *
        generalize sumL p1 row = tr at *
        have hu0 := hu
        obtain ⟨RA, rc, rfl, _, _, _⟩ := hu
        have a0 : wr.cell? ⟨w.heap.size, 0, none⟩ = some (.slice X np cX) := hra.cell 0
        have a1 : wr.cell? ⟨w.heap.size, 1, none⟩ = some (.slice Y ni cY) := hra.cell 1
        have a2 : wr.cell? ⟨w.heap.size, 2, none⟩ = some (.slice (some ⟨b1, o1, none⟩) nr cZ) := hra.cell 2
        go_wp2_with fail
        clear a0 a1 a2
        refine (total_b _ row _ hu0).mono ?_
        rintro e w9 ⟨rfl, hb⟩
        rw [HTO.out]
        replace HBX := HBX.trans (hb.mono HBX.size)
        go_wp2_with fail
        go_roundw
        case rel => exact ⟨k + 1, by omega, by rw [HT1.out] <;> go_num, by rw [HT2.out] <;> go_num, by go_num, HBX⟩
        case measure => simp [intOf]; omega
      case neg =>
        obtain rfl : k = nr := by omega
        have HTL : Hid (cs.take k = cs) := by unfold Hid; apply List.take_of_length_le; rw [Hnr.out]; exact Nat.le_refl _
        rw [HTL.out] at Hz H1 ⊢
        have HDz := Lib.hid HK.out.dz
        have HD1 := Lib.hid HK.out.d1
        rw [Hni.out] at HDz HD1
        generalize hS : sumR pz cs = S at *
        generalize hT : sumR p1 cs = T at *
        clear hS hT
        have a0 : wr.cell? ⟨w.heap.size, 0, none⟩ = some (.slice X np cX) := hra.cell 0
        have a1 : wr.cell? ⟨w.heap.size, 1, none⟩ = some (.slice Y ni cY) := hra.cell 1
        have a2 : wr.cell? ⟨w.heap.size, 2, none⟩ = some (.slice Z k cZ) := hra.cell 2
        go_wp2_with fail
        clear a0 a1 a2
        obtain ⟨wo, rfl⟩ : ∃ wo : World, wo = wr := ⟨_, rfl⟩
        go_loopw [5, 6, 44] (fun s n i wr => ∃ k : Nat, k ≤ ni ∧ s = .int .i64 (S - sig (fun i => sumL pz (colL cs (i : Int))) k) ∧ n = .int .i64 (T - sig (fun i => sumL p1 (colL cs (i : Int))) k) ∧ i = .int .i64 (k : Int) ∧ Below wo.heap.size wo wr) (fun _ _ i _ => ni - (intOf i).toNat)
        case atStart => exact ⟨0, by omega, by simp [sig], by simp [sig], rfl, Below.refl _ _⟩
        case round =>
          obtain ⟨m, hm, rfl, rfl, rfl, hb⟩ := hrel
          replace HBX := hb
          replace hra := hra.keep hb
          replace hA := hA.below hb
          replace hQ := hQ.below hb
          replace BB : Below w.heap.size w wr := BB.trans (hb.mono BB.size)
          clear hb
          have hml : Hid (m ≤ is.length) := by unfold Hid; rw [Hni.out]; exact hm
          have Gz := HK.out.gz hml.out
          have G1 := HK.out.g1 hml.out
          by_cases hlt2 : m < ni
          case neg =>
            obtain rfl : m = ni := by omega
            rw [← HDz.out, ← HD1.out, Int.sub_self, Int.sub_self]
            have a0 : wr.cell? ⟨w.heap.size, 0, none⟩ = some (.slice X np cX) := hra.cell 0
            have a1 : wr.cell? ⟨w.heap.size, 1, none⟩ = some (.slice Y m cY) := hra.cell 1
            have a2 : wr.cell? ⟨w.heap.size, 2, none⟩ = some (.slice Z k cZ) := hra.cell 2
            go_wp2_with fail
            clear a0 a1 a2
            refine (awake_any _).mono ?_
            rintro e w99 ⟨rfl, hb⟩
            go_wp2_with fail
            go_ret
            exact ⟨rfl, BB.trans (hb.mono BB.size)⟩
          case pos =>
            have hmi : Hid (m < is.length) := by unfold Hid; rw [Hni.out]; exact hlt2
            have HOK := Lib.hid (HK.out.ok hmi.out)
            have hp200 : np ≤ 200 := HV.out.1
            have hk200 : k ≤ 200 := by have := HV.out; omega
            have hmc : m < nc := by have := HV.out; omega
            obtain ⟨b3, o3, rfl, hb3, hc3⟩ := q3.num hmc
            have HC3 := Lib.hid (hc3 m hmc)
            clear hc3
            have hcat := HK.out.cat m hmi.out
            have HNZ := Lib.hid (fun n => HK.out.nz (n := n) hmi.out)
            have HN1 := Lib.hid (fun n => HK.out.n1 (n := n) hmi.out)
            have HS1 : Hid (sig (fun i => sumL pz (colL cs (i : Int))) (m + 1) = sig (fun i => sumL pz (colL cs (i : Int))) m + sumL pz (colL cs (m : Int))) := rfl
            have HS2 : Hid (sig (fun i => sumL p1 (colL cs (i : Int))) (m + 1) = sig (fun i => sumL p1 (colL cs (i : Int))) m + sumL p1 (colL cs (m : Int))) := rfl
            have HCL : Hid ((colL cs (m : Int)).length = np) := by unfold Hid; rw [colL_len, Hnr.out]; exact HV.out.2.2.1
            obtain ⟨n, hn⟩ : ∃ n : Nat, cats.getD m 0 = (n : Int) := ⟨(cats.getD m 0).toNat, by omega⟩
            have HN := Lib.hid hn
            rw [hn] at hcat
            rw [hn] at HC3
            clear hn
            generalize sig (fun i => sumL pz (colL cs (i : Int))) m = gz at *
            generalize sig (fun i => sumL p1 (colL cs (i : Int))) m = gn at *
            have a0 : wr.cell? ⟨w.heap.size, 0, none⟩ = some (.slice X np cX) := hra.cell 0
            have a1 : wr.cell? ⟨w.heap.size, 1, none⟩ = some (.slice Y ni cY) := hra.cell 1
            have a2 : wr.cell? ⟨w.heap.size, 2, none⟩ = some (.slice Z k cZ) := hra.cell 2
            go_wp2_with fail
            clear a0 a1 a2
            refine (column_any _ _ _ ps is cs (m : Int) _ hA.1 hA.2.1 hA.2.2 (by rw [Hnr.out]; omega)).mono ?_
            rintro e w2 ⟨col, rfl, hcol, hb⟩
            have HB1 := hb
            replace hra := hra.keep hb
            replace hA := hA.below hb
            replace hQ := hQ.below hb
            replace BB : Below w.heap.size w w2 := BB.trans (hb.mono BB.size)
            clear hb
            skip
            rw [HOK.out]
            rw [onB_true HOK.out] at hcol
            generalize colL cs (m : Int) = L at *
            have hcol0 := hcol
            obtain ⟨KA, kc, rfl, _, _, _⟩ := hcol
            rw [HCL.out] at hcol0 ⊢
            have hnn : ((np : Int) != (np : Int)) = false := by simp
            have g3 : w2.cell? ⟨b3, o3 + m, none⟩ = some (.int .i64 (n : Int)) := (BB.cell (p := ⟨b3, o3 + m, none⟩) hb3).trans HC3.out
            have a0 : w2.cell? ⟨w.heap.size, 0, none⟩ = some (.slice X np cX) := hra.cell 0
            have a1 : w2.cell? ⟨w.heap.size, 1, none⟩ = some (.slice Y ni cY) := hra.cell 1
            have a2 : w2.cell? ⟨w.heap.size, 2, none⟩ = some (.slice Z k cZ) := hra.cell 2
            go_wp2_with fail
            clear a0 a1 a2
            clear g3
            refine (counts_any _ L n _ hcol0 (by omega) (by omega) (by rw [HCL.out]; omega)).mono ?_
            rintro e w3 ⟨cu, rfl, hcu, hb⟩
            replace HB1 := HB1.trans (hb.mono HB1.size)
            replace hra := hra.keep hb
            replace hA := hA.below hb
            replace hQ := hQ.below hb
            replace hcol0 := hcol0.below hb
            replace BB : Below w.heap.size w w3 := BB.trans (hb.mono BB.size)
            clear hb
            have hcu0 := hcu
            obtain ⟨CA, cc, rfl, c1, c2, c3⟩ := hcu
            rw [cntL_len] at c1 c3 hcu0 ⊢
            unfold maxLen at c2
            have hn2 : ((n : Int) != (n : Int)) = false := by simp
            have g3 : w3.cell? ⟨b3, o3 + m, none⟩ = some (.int .i64 (n : Int)) := (BB.cell (p := ⟨b3, o3 + m, none⟩) hb3).trans HC3.out
            have a0 : w3.cell? ⟨w.heap.size, 0, none⟩ = some (.slice X np cX) := hra.cell 0
            have a1 : w3.cell? ⟨w.heap.size, 1, none⟩ = some (.slice Y ni cY) := hra.cell 1
            have a2 : w3.cell? ⟨w.heap.size, 2, none⟩ = some (.slice Z k cZ) := hra.cell 2
            go_wp2_with fail
            clear a0 a1 a2
            clear g3
            go_loopw [5, 6, 78] (fun s t i wr => ∃ j : Nat, j ≤ n ∧ s = .int .i64 (S - gz - sig (fun q => (q : Int) * ((cnt L q : Nat) : Int)) j) ∧ t = .int .i64 (T - gn - sig (fun q => ((cnt L q : Nat) : Int)) j) ∧ i = .int .i64 (j : Int) ∧ Below w3.heap.size w3 wr) (fun _ _ i _ => n - (intOf i).toNat)
            case atStart => exact ⟨0, by omega, by simp [sig], by simp [sig], rfl, Below.refl _ _⟩
            case round =>
              obtain ⟨wp, rfl⟩ : ∃ wo : World, wo = wr := ⟨_, rfl⟩
              obtain ⟨j, hj, rfl, rfl, rfl, hb3w⟩ := hrel
              have hnl : ∀ q, cnt L q ≤ np := fun q => by have := cnt_le L q; rw [HCL.out] at this; exact this
              have Bz := sig_bd (f := fun q => (q : Int) * ((cnt L q : Nat) : Int)) (B := 1000) j fun q hq => prod_bd (by omega) (by have := hnl q; omega)
              have B1 := sig_bd (f := fun q => ((cnt L q : Nat) : Int)) (B := 1000) j fun q hq => by have := hnl q; omega
              have HJ1 : Hid (sig (fun q => (q : Int) * ((cnt L q : Nat) : Int)) (j + 1) = sig (fun q => (q : Int) * ((cnt L q : Nat) : Int)) j + (j : Int) * ((cnt L j : Nat) : Int)) := rfl
              have HJ2 : Hid (sig (fun q => ((cnt L q : Nat) : Int)) (j + 1) = sig (fun q => ((cnt L q : Nat) : Int)) j + ((cnt L j : Nat) : Int)) := rfl
              by_cases hlt3 : j < n
              case pos =>
                obtain ⟨b4, o4, rfl, hb4, hc4⟩ := c3.num hlt3
                have g4 : wp.cell? ⟨b4, o4 + j, none⟩ = some (.int .i64 ((cnt L j : Nat) : Int)) := by rw [← cntL_get L hlt3]; exact (hb3w.cell (p := ⟨b4, o4 + j, none⟩) hb4).trans (hc4 j hlt3)
                have hcj := hnl j
                have hpb := prod_bd (j := j) (c := cnt L j) (by omega) (by omega)
                clear hc4 hnl
                generalize sig (fun q => (q : Int) * ((cnt L q : Nat) : Int)) j = sz at *
                generalize sig (fun q => ((cnt L q : Nat) : Int)) j = sn at *
                generalize cnt L j = c at *
                have dc : decide ((c : Int) < 0) = false := decide_eq_false (by omega)
                go_wp2_with fail
                go_roundw
                case rel => exact ⟨j + 1, by omega, by rw [HJ1.out]; go_num, by rw [HJ2.out]; go_num, by go_num, hb3w⟩
                case measure => simp [intOf]; omega
              case neg =>
                obtain rfl : j = n := by omega
                have E1 := HNZ.out j HN.out
                have E2 := HN1.out j HN.out
                rw [E1] at Bz ⊢
                rw [E2] at B1 ⊢
                clear E1 E2 hnl HNZ HN1
                generalize sumL pz L = sl at *
                generalize sumL p1 L = tl at *
                go_wp2_with fail
                go_roundw
                case rel => exact ⟨m + 1, by omega, by rw [HS1.out]; go_num, by rw [HS2.out]; go_num, by go_num, (HBX.trans (HB1.mono HBX.size)).trans (hb3w.mono (Nat.le_trans HBX.size HB1.size))⟩
                case measure => simp [intOf]; omega
namespace MatrixCounts
theorem own : ownKnob Try.prog.godebug = none := by kernel_rfl
theorem laidOut : laidOutB Try.prog = true := by kernel_rfl
theorem readable : ∀ t ∈ Try.f10.params.toList, Try.prog.readableRec t = true ∧ t < Try.prog.types.size := by
  intro t ht
  rw [Try.params10] at ht
  have ht' : t = 22 ∨ t = 25 := by simp at ht; (try rcases ht with h | h); all_goals (subst_vars; simp)
  rcases ht' with rfl | rfl
  · exact ⟨by kernel_rfl, of_decide_eq_true (by kernel_rfl)⟩
  · exact ⟨by kernel_rfl, of_decide_eq_true (by kernel_rfl)⟩
theorem contract (H : Type) (enc : TypeId × Value → H) (W : World) (base : Nat) (args : Array Value) (ds gs : List (DataW H)) (before : List MemPlace)
    (hval : ∀ (j : Nat) t v, Try.f10.params[j]? = some t → args[j]? = some v → Value.okWide Try.prog W .any base t v)
    (hW : DataW.Whole enc Try.prog Try.f10.params.toList Rows.matrixCountsSpec.vars false W args.toList ds gs before) :
    Calls Try.prog 10 args W fun e W' => ∃ v, e = .returned v ∧ Rows.matrixCountsSpec.post enc Try.prog Try.f10 false true false false W args v W' := by
  have hW' := hW
  obtain ⟨p, q, hA0, hV, rfl, hfz, hnd⟩ := hW
  have hA : DataW.TrodAll enc Try.prog W 0 (fun _ => true) true Try.f10.params.toList args.toList ds p := hA0
  rw [Try.params10] at hA hval
  obtain ⟨v0, vs0, d0, ds0, p0, q0, hargs, rfl, rfl, h0, r0⟩ := trodAll_cons hA
  obtain ⟨v1, vs1, d1, ds1, p1, q1, rfl, rfl, rfl, h1, r1⟩ := trodAll_cons r0
  obtain ⟨rfl, rfl, rfl⟩ := trodAll_nil r1
  obtain rfl : args = #[v0, v1] := by cases args; simp_all
  obtain ⟨rfl, rfl⟩ := trodVars_none hV
  obtain ⟨m0, m1, m2, z0, z1, z2, nm, rfl, rfl, rfl, hz0, hz1, hz2⟩ := open_agg3 Try.underlying25 (by kernel_rfl) (show Try.prog.cellsOf 25 = 3 by kernel_rfl) (hval 0 25 v0 rfl rfl) h0
  obtain ⟨ps, hps, wps⟩ := open_nums Try.underlying22 Try.underlying3 (by kernel_rfl) hz0
  obtain ⟨is, his, wis⟩ := open_nums Try.underlying22 Try.underlying3 (by kernel_rfl) hz1
  obtain ⟨cs, hcs⟩ := open_intsL Try.underlying23 (by kernel_rfl) Try.underlying22 Try.underlying3 (by kernel_rfl) hz2
  obtain ⟨Acats, lcats, ccats, rfl⟩ := okWide_slice Try.underlying22 (hval 1 22 v1 rfl rfl)
  obtain ⟨fcats, hfcats⟩ := h1
  obtain ⟨cats, hcats, wcats⟩ := open_nums Try.underlying22 Try.underlying3 (by kernel_rfl) (by simpa [Value.cells] using hfcats)
  refine (counts_all _ _ _ _ ps is cs cats W ⟨hps, his, hcs⟩ hcats).mono fun e W' ⟨he, hb⟩ => ⟨_, he, ?_⟩
  exact law_post laidOut readable rfl rfl Try.underlying4 (ok_one (by kernel_rfl) rfl (okWide_bool_mk Try.underlying4 _)) ⟨rfl, rfl, rfl⟩ hW' hb
set_option maxRecDepth 100000 in
theorem lifted (os : Os) (started : os.Started) (H : Type) (enc : TypeId × Value → H) :
    ReturnsInHanded {} Try.checked os 10 .any (Rows.matrixCountsSpec.pre6 enc Try.prog Try.f10 Rows.matrixCountsRow.domain false) (Rows.matrixCountsSpec.post enc Try.prog Try.f10 false true false false) := by
  refine returnsInHanded_of_change (C := Try.checked) own started (by kernel_rfl) Try.func10
    (ChangeSpec.witness6 (enc := enc) (C := Try.checked) false ⟨#[], #[.agg #[.slice none 0 0, .slice none 0 0, .slice none 0 0], .slice none 0 0], []⟩ 8 (by kernel_rfl) (by kernel_rfl) (by kernel_rfl) (by kernel_rfl)) ?_
  intro W base args ds gs before hval hW _ _
  exact contract H enc W base args ds gs before hval hW
theorem proved : Rows.MatrixCountsSaid :=
  OpenClaim.holds_of_wide 10 Try.f10 rfl rfl rfl rfl rfl rfl rfl ⟨rfl, rfl, rfl, rfl, rfl⟩ rfl rfl rfl rfl rfl (by kernel_rfl) Try.func10 (by kernel_rfl)
    (of_decide_eq_true (by kernel_rfl)) (by unfold Func.isWrapper; first | (rw [if_pos (by decide +kernel)]; kernel_rfl) | (rw [if_neg (by decide +kernel)]; exact ⟨rfl, rfl⟩))
    (fun os started H enc _ => lifted os started H enc)
#print axioms proved
end MatrixCounts
end Go.Proofs.Ytgdngopemlajjaa
