/- For every row the law MatrixMark returns true; no condition. -/
import Derived.Test.YtgdngopemlajjaaMtJ
import Derived.Test.YtgdngopemlajjaaOpenL
import Derived.Test.YtgdngopemlajjaaRows
import Derived.Test.YtgdngopemlajjaaOpenW
namespace Go.Proofs.Ytgdngopemlajjaa
open Go.RowKit Go.ChangeShapes Go.WideShapes Go.ChangeAt Go.Joins
set_option linter.unusedVariables false

theorem mk1_ne {l : List Int} {j : Nat} (h : mk1 l j ≠ l.getD j 0) : l.getD j 0 = -1 ∧ mk1 l j = -2 := by
  unfold mk1 at h ⊢
  split at h
  · rename_i h1; rw [if_pos h1]; exact ⟨h1.1, rfl⟩
  · exact absurd rfl h
theorem mk1_tail {l : List Int} {j : Nat} (hj : j < l.length) (ht : tneg l j = true) : mk1 l j ≠ -1 := by
  unfold mk1
  split
  · omega
  · rename_i h; intro e; exact h ⟨e, ht⟩
theorem markb (v : Value) (l : List Int) (w : World) (h : Nums .i64 w v l) (h8 : l.length * 8 ≤ 140737488351232) :
    Calls Try.prog 19 #[v] w fun e w' => ∃ A c, e = .returned (.slice A l.length c) ∧ Nums .i64 w' (.slice A l.length c) (markL l) ∧ Below w.heap.size w w' :=
  (mark_any v l w h h8).mono fun e w' ⟨u, he, hn, _, hb⟩ => by
    have hn' := hn
    obtain ⟨A, c, rfl, _, _, _⟩ := hn'
    rw [markL_len] at he hn
    exact ⟨A, c, he, hn, hb⟩
set_option maxHeartbeats 8000000 in
theorem lmark_all (v : Value) (l : List Int) (w : World) (h : Nums .i64 w v l) (h8 : l.length * 8 ≤ 140737488351232) :
    Calls Try.prog 6 #[v] w fun e w' => e = .returned (.bool true) ∧ Below w.heap.size w w' := by
  have h0 := h
  obtain ⟨A, c, rfl, hc, hm, hs⟩ := h
  unfold maxLen at hm
  go_enter Try.func6, Try.ntmps6
  go_wp2_with fail
  refine (markb _ l _ h0 h8).mono ?_
  rintro e w1 ⟨A1, c1, rfl, hM, hb1⟩
  have hml := Lib.hid (markL_len l)
  obtain ⟨n, hn⟩ : ∃ n, l.length = n := ⟨_, rfl⟩
  have HN := Lib.hid hn
  have hM0 := hM
  rw [hn] at hs hc h8 h0 hM hM0 ⊢
  clear hn
  have hnn : ((n : Int) != (n : Int)) = false := by simp
  go_wp2_with fail
  refine (total_b _ l _ (h0.below hb1)).mono ?_
  rintro e w2 ⟨rfl, hb⟩
  have hM2 := hM.below hb
  have B2 : Below w.heap.size w w2 := hb1.trans (hb.mono hb1.size)
  clear hb hb1 hM hM0
  have HT := Lib.hid (totF_mark l 0 0)
  generalize hT : totF l 0 0 = T at HT ⊢
  clear hT
  obtain ⟨T1, T2⟩ := T
  have hM2' := hM2
  rw [← show (markL l).length = n by rw [hml.out, HN.out]] at hM2'
  go_wp2_with fail
  refine (total_b _ (markL l) _ hM2).mono ?_
  rw [HT.out]
  rintro e w3 ⟨rfl, hb⟩
  have hM3 := hM2.below hb
  have B3 : Below w.heap.size w w3 := B2.trans (hb.mono B2.size)
  clear hb B2 hM2 hM2' HT
  have t1 : (T1 != T1) = false := by simp
  have t2 : (T2 != T2) = false := by simp
  have hl8 : (markL l).length * 8 ≤ 140737488351232 := by rw [hml.out, HN.out]; exact h8
  go_wp2_with fail
  refine (markb _ (markL l) _ hM3 hl8).mono ?_
  rw [mark_mark, hml.out, HN.out]
  rintro e w4 ⟨A4, c4, rfl, hM4, hb⟩
  have hM3' := hM3.below hb
  have B4 : Below w.heap.size w w4 := B3.trans (hb.mono B3.size)
  clear hb B3 hM3 hl8
  go_wp2_with fail
  refine (equal_yes _ _ (markL l) _ hM4 hM3').mono ?_
  rintro e w5 ⟨rfl, hb⟩
  have hM5 := hM3'.below hb
  have B5 : Below w.heap.size w w5 := B4.trans (hb.mono B4.size)
  clear hb B4 hM4 hM3' t1 t2
  obtain ⟨_, _, hv, m1, m2, m3⟩ := hM5
  rw [hml.out, HN.out] at hv m1 m3
  injection hv with v1 v2 v3
  subst v1 v3
  unfold maxLen at m2
  have HTE : Hid (tneg l n = true) := by unfold Hid; exact tneg_end l (by rw [HN.out]; exact Nat.le_refl _)
  go_wp2_with fail
  go_loop [8] (fun i => ∃ k : Nat, k ≤ n ∧ i = .int .i64 ((k : Int) - 1) ∧ Hid (tneg l k = true)) (fun i => (intOf i + 1).toNat)
  case atStart => exact ⟨n, Nat.le_refl _, rfl, HTE.out⟩
  case round =>
    clear HTE
    obtain ⟨k, hk, rfl, htn⟩ := hrel
    rcases Nat.eq_zero_or_pos k with hz | hkp
    · subst hz
      have d1 : decide (0 ≤ ((0 : Nat) : Int) - 1) = false := by decide
      clear htn
      go_wp2_with fail
      go_loopw [63] (fun i wr => ∃ k : Nat, k ≤ n ∧ i = .int .i64 (k : Int) ∧ Below w5.heap.size w5 wr) (fun i _ => n - (intOf i).toNat)
      case atStart => exact ⟨0, by omega, rfl, Below.refl _ _⟩
      case round =>
        obtain ⟨q, hq, rfl, hbo⟩ := hrel
        have BW : Below w.heap.size w wr := B5.trans (hbo.mono B5.size)
        by_cases hlt : q < n
        · obtain ⟨b1, o1, rfl, hb1, hc1⟩ := hs.num hlt
          obtain ⟨b2, o2, rfl, hb2, hc2⟩ := m3.num hlt
          have g1 : wr.cell? ⟨b1, o1 + q, none⟩ = some (.int .i64 (l.getD q 0)) := (BW.cell (p := ⟨b1, o1 + q, none⟩) hb1).trans (hc1 q hlt)
          have g2 : wr.cell? ⟨b2, o2 + q, none⟩ = some (.int .i64 ((markL l).getD q 0)) := (hbo.cell (p := ⟨b2, o2 + q, none⟩) hb2).trans (hc2 q hlt)
          have hql : Hid (q < l.length) := by unfold Hid; rw [HN.out]; exact hlt
          rw [markL_get l hql.out] at g2
          clear hc1 hc2
          have i1 : (0 : Int) ≤ (q : Int) := by omega
          have i2 : (q : Int) < (n : Int) := by omega
          by_cases he : mk1 l q = l.getD q 0
          · rw [he] at g2
            clear he
            generalize l.getD q 0 = z at *
            have e1 : (z != z) = false := by simp
            go_wp2_with fail
            go_quiet (fail)
            go_wp2_with fail
            go_roundw
            case rel => exact ⟨q + 1, by omega, by go_num, below_drewN hbo _⟩
            case measure => simp [intOf]; omega
          · obtain ⟨e2, e3⟩ := mk1_ne he
            rw [e3] at g2
            rw [e2] at g1
            clear he e2 e3
            have e1 : ((-2 : Int) != -1) = true := by decide
            have e4 : ((-1 : Int) != -1) = false := by decide
            have e5 : ((-2 : Int) != -2) = false := by decide
            go_wp2_with fail
            go_quiet (fail)
            go_wp2_with fail
            go_roundw
            case rel => exact ⟨q + 1, by omega, by go_num, below_drewN hbo _⟩
            case measure => simp [intOf]; omega
        · go_wp2_with fail
          refine (awake_any _).mono ?_
          rintro e w9 ⟨rfl, hb⟩
          go_wp2_with fail
          go_ret
          exact ⟨rfl, BW.trans (hb.mono BW.size)⟩
    · obtain ⟨j, rfl⟩ : ∃ j, k = j + 1 := ⟨k - 1, by omega⟩
      have hjl : Hid (j < l.length) := by unfold Hid; rw [HN.out]; omega
      have e1 : ((j + 1 : Nat) : Int) - 1 = (j : Int) := by omega
      rw [e1]
      clear e1
      obtain ⟨b2, o2, hA1, hb2, hc2⟩ := m3.num (show j < n by omega)
      have g2 : w5.cell? ⟨b2, o2 + j, none⟩ = some (.int .i64 ((markL l).getD j 0)) := hc2 j (by omega)
      rw [markL_get l hjl.out] at g2
      have d1 : decide (0 ≤ (j : Int)) = true := by simp
      have i1 : (0 : Int) ≤ (j : Int) := by omega
      have i2 : (j : Int) < (n : Int) := by omega
      clear hc2
      subst hA1
      by_cases hneg : mk1 l j < 0
      · have HT2 : Hid (tneg l j = true) := by unfold Hid; rw [tneg_step l hjl.out, htn.out, decide_eq_true ((mk1_neg l).1 hneg)]; rfl
        have d2 : decide (mk1 l j < 0) = true := decide_eq_true hneg
        have d3 : (mk1 l j == -1) = false := by rw [beq_eq_false_iff_ne]; exact mk1_tail hjl.out HT2.out
        clear hneg htn
        generalize mk1 l j = z at *
        go_wp2_with fail
        go_round
        case rel => exact ⟨j, by omega, by go_num, HT2.out⟩
        case measure => simp [intOf]
      · have d2 : decide (mk1 l j < 0) = false := decide_eq_false hneg
        clear hneg htn
        generalize mk1 l j = z at *
        go_wp2_with fail
        go_loopw [63] (fun i wr => ∃ k : Nat, k ≤ n ∧ i = .int .i64 (k : Int) ∧ Below w5.heap.size w5 wr) (fun i _ => n - (intOf i).toNat)
        case atStart => exact ⟨0, by omega, rfl, Below.refl _ _⟩
        case round =>
          obtain ⟨q, hq, rfl, hbo⟩ := hrel
          have BW : Below w.heap.size w wr := B5.trans (hbo.mono B5.size)
          by_cases hlt : q < n
          · obtain ⟨b1, o1, rfl, hb1, hc1⟩ := hs.num hlt
            obtain ⟨b4, o4, hA4, hb4, hc2⟩ := m3.num hlt
            injection hA4 with h44
            injection h44 with h45 h46
            subst h45 h46
            have g1 : wr.cell? ⟨b1, o1 + q, none⟩ = some (.int .i64 (l.getD q 0)) := (BW.cell (p := ⟨b1, o1 + q, none⟩) hb1).trans (hc1 q hlt)
            have g2 : wr.cell? ⟨b2, o2 + q, none⟩ = some (.int .i64 ((markL l).getD q 0)) := (hbo.cell (p := ⟨b2, o2 + q, none⟩) hb2).trans (hc2 q hlt)
            have hql : Hid (q < l.length) := by unfold Hid; rw [HN.out]; exact hlt
            rw [markL_get l hql.out] at g2
            clear hc1 hc2
            have i1 : (0 : Int) ≤ (q : Int) := by omega
            have i2 : (q : Int) < (n : Int) := by omega
            by_cases he : mk1 l q = l.getD q 0
            · rw [he] at g2
              clear he
              generalize l.getD q 0 = z at *
              have e1 : (z != z) = false := by simp
              go_wp2_with fail
              go_quiet (fail)
              go_wp2_with fail
              go_roundw
              case rel => exact ⟨q + 1, by omega, by go_num, below_drewN hbo _⟩
              case measure => simp [intOf]; omega
            · obtain ⟨e2, e3⟩ := mk1_ne he
              rw [e3] at g2
              rw [e2] at g1
              clear he e2 e3
              have e1 : ((-2 : Int) != -1) = true := by decide
              have e4 : ((-1 : Int) != -1) = false := by decide
              have e5 : ((-2 : Int) != -2) = false := by decide
              go_wp2_with fail
              go_quiet (fail)
              go_wp2_with fail
              go_roundw
              case rel => exact ⟨q + 1, by omega, by go_num, below_drewN hbo _⟩
              case measure => simp [intOf]; omega
          · go_wp2_with fail
            refine (awake_any _).mono ?_
            rintro e w9 ⟨rfl, hb⟩
            go_wp2_with fail
            go_ret
            exact ⟨rfl, BW.trans (hb.mono BW.size)⟩
namespace MatrixMark
theorem own : ownKnob Try.prog.godebug = none := by kernel_rfl
theorem laidOut : laidOutB Try.prog = true := by kernel_rfl
theorem readable : ∀ t ∈ Try.f6.params.toList, Try.prog.readableRec t = true ∧ t < Try.prog.types.size := by
  intro t ht
  rw [Try.params6] at ht
  have ht' : t = 22 := by simp at ht; (try rcases ht with h); all_goals (subst_vars; simp)
  subst ht'
  exact ⟨by kernel_rfl, of_decide_eq_true (by kernel_rfl)⟩
theorem contract (H : Type) (enc : TypeId × Value → H) (W : World) (base : Nat) (args : Array Value) (ds gs : List (DataW H)) (before : List MemPlace)
    (hval : ∀ (j : Nat) t v, Try.f6.params[j]? = some t → args[j]? = some v → Value.okWide Try.prog W .any base t v)
    (hW : DataW.Whole enc Try.prog Try.f6.params.toList Rows.matrixMarkSpec.vars false W args.toList ds gs before)
    (hsz : (DataW.weightsEach Try.prog (Try.f6.params.toList ++ Rows.matrixMarkSpec.plain.varTypes Try.prog) (ds ++ gs)).all (· ≤ reachBytes) = true) :
    Calls Try.prog 6 args W fun e W' => ∃ v, e = .returned v ∧ Rows.matrixMarkSpec.post enc Try.prog Try.f6 false true false false W args v W' := by
  have hW' := hW
  obtain ⟨p, q, hA0, hV, rfl, hfz, hnd⟩ := hW
  have hA : DataW.TrodAll enc Try.prog W 0 (fun _ => true) true Try.f6.params.toList args.toList ds p := hA0
  rw [Try.params6] at hA hval
  obtain ⟨v0, vs0, d0, ds0, p0, q0, hargs, rfl, rfl, h0, r0⟩ := trodAll_cons hA
  obtain ⟨rfl, rfl, rfl⟩ := trodAll_nil r0
  obtain rfl : args = #[v0] := by cases args; simp_all
  obtain ⟨rfl, rfl⟩ := trodVars_none hV
  rw [Try.params6] at hsz
  obtain ⟨Al, ll, cl, rfl⟩ := okWide_slice Try.underlying22 (hval 0 22 v0 rfl rfl)
  obtain ⟨fl, hfl⟩ := h0
  have sl := sizeAt hsz (j := 0) rfl rfl
  obtain ⟨l, hl, wl, zl⟩ := open_numsS Try.underlying22 Try.underlying3 (by kernel_rfl) (by simpa [Value.cells] using hfl) sl
  refine (lmark_all _ l W hl (by have := zl; rw [bytesInt] at this; exact this)).mono fun e W' ⟨he, hb⟩ => ⟨_, he, ?_⟩
  exact law_post laidOut readable rfl rfl Try.underlying4 (ok_one (by kernel_rfl) rfl (okWide_bool_mk Try.underlying4 _)) ⟨rfl, rfl, rfl⟩ hW' hb
set_option maxRecDepth 100000 in
theorem lifted (os : Os) (started : os.Started) (H : Type) (enc : TypeId × Value → H) :
    ReturnsInHanded {} Try.checked os 6 .any (Rows.matrixMarkSpec.pre6 enc Try.prog Try.f6 Rows.matrixMarkRow.domain false) (Rows.matrixMarkSpec.post enc Try.prog Try.f6 false true false false) := by
  refine returnsInHanded_of_change_sized (C := Try.checked) own started (by kernel_rfl) Try.func6
    (ChangeSpec.witness6 (enc := enc) (C := Try.checked) false ⟨#[], #[.slice none 0 0], []⟩ 8 (by kernel_rfl) (by kernel_rfl) (by kernel_rfl) (by kernel_rfl)) ?_
  intro W base args ds gs before hval hW _ hsz _
  exact contract H enc W base args ds gs before hval hW hsz
theorem proved : Rows.MatrixMarkSaid :=
  OpenClaim.holds_of_wide 6 Try.f6 rfl rfl rfl rfl rfl rfl rfl ⟨rfl, rfl, rfl, rfl, rfl⟩ rfl rfl rfl rfl rfl (by kernel_rfl) Try.func6 (by kernel_rfl)
    (of_decide_eq_true (by kernel_rfl)) (by unfold Func.isWrapper; first | (rw [if_pos (by decide +kernel)]; kernel_rfl) | (rw [if_neg (by decide +kernel)]; exact ⟨rfl, rfl⟩))
    (fun os started H enc _ => lifted os started H enc)
#print axioms proved
end MatrixMark
end Go.Proofs.Ytgdngopemlajjaa
