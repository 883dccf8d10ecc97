/- The walk of the reference's Steps. -/
import Derived.Test.YtokpembimalhmaaDoorMoU
import Derived.Deep.QuietTactic
import Derived.BigQuiet
import Derived.Deep.RegionLaw
import Derived.Deep.AppendLies
namespace Go.Proofs.YtokpembimalhmaaDoor
open Go.RowKit
set_option linter.unusedVariables false

theorem rangeT {m : Nat} (h : m < 1 ∨ 5 < m) : decide ((m : Int) < 1) = true ∨ (decide ((m : Int) < 1) = false ∧ decide (5 < (m : Int)) = true) := by
  simp only [decide_eq_true_eq, decide_eq_false_iff_not]; omega
theorem stepsE_set {g : Int} {ds : List Int} {s : Int} {k : Nat} (h0 : g = 0) (h : ¬ (ds.length < 1 ∨ 5 < ds.length)) (hk : k < ds.length) (h1 : setOk (ds.getD k 0) s = false) : stepsE g ds s = 3 := by
  have h2 : ¬ (-1000 ≤ ds.getD k 0 ∧ ds.getD k 0 ≤ 1000 ∧ 0 ≤ s ∧ s ≤ 2000) := by rw [← setOk_iff, h1]; simp
  by_cases hs : s < 0 ∨ 2000 < s
  · exact stepsE_3 h0 (by omega)
  · exact stepsE_4 h0 (by omega) (inD_no hk (by omega))

section
variable {P : Program}
/-- 'append(s, x)' at one element inside a region. -/
theorem step_app1 {ops : Array Oper} {o : Oper} {a : Act} {K : Act → World → Prop} {Q : Exit → Act → World → Prop} {E : Prop} (w : World) (hgd : o.guard = none) (s x : Operand) (t : TypeId)
    (ho : o.op = .call { callee := .builtin .append, args := #[s, x], argTypes := #[t, t] })
    (base : Nat) (e : TypeId) (z : Value) (bytes : Nat) (ht : P.underlying t = some (.slice e)) (hinfo : (P.info? e).map (fun i => (i.zero, i.size, i.bytes)) = some (some z, 1, bytes)) (hz : z.cells.size = 1)
    (v : Value) (n : Nat) (xs : List Value) (u : Value) (N : Nat) (hs : a.eval s = v) (hx : a.eval x = .slice (some ⟨N, 0, none⟩) 1 1) (hrow : Row w N e [u]) (hown : w.ownsRow base e 1 v n xs) (hu : u.oneCell' = true)
    (h63 : n + 1 ≤ maxLen) (hbytes : (n + 1) * bytes ≤ 140737488355328) (hbase : base ≤ w.heap.size)
    (h : ∀ g cap w', w'.ownsRow base e 1 (.slice (some ⟨g, 0, none⟩) (n + 1) cap) (n + 1) (xs ++ [u]) → w.grownBy w' v.ownBlock → ((Value.slice (some ⟨g, 0, none⟩) (n + 1) cap).ownBlock = v.ownBlock ∨ ∃ j, (Value.slice (some ⟨g, 0, none⟩) (n + 1) cap).ownBlock = some j ∧ w.heap.size ≤ j) → K (a.put o.dst (.slice (some ⟨g, 0, none⟩) (n + 1) cap)) w') :
    if Region.wanted o (yielded ops a.tmps) = true then Oper.wp P o a w K Q else E := by
  obtain ⟨i, hi, hz0, hz1, hz2⟩ := info_parts hinfo
  refine step_append_lies (P := P) (w := w) (Q := Q) hgd s x t ho base e i z 1 bytes ht hi hz0 hz1 hz2 hz (by omega) v n xs hs hown ⟨N, 0, none⟩ 1 1 [u] hx rfl (World.news_of_block (cs := #[u]) (t := e) (fr := (0, 0)) hrow) (by simpa using hu) (by omega) h63 hbytes hbase _ rfl ?_
  intro g cap w' h1 h2 h3 h4
  refine h g cap w' h1 h2 ?_
  rcases h3 with h3 | h3
  · exact .inl h3.symm
  · exact .inr ⟨g, rfl, by omega⟩
end

set_option maxRecDepth 100000 in
set_option maxHeartbeats 8000000 in
theorem rsteps_any (pv rv dv : Value) (ps rs ds : List Int) (s : Int) (w : World) (hp : Nums .i64 w pv ps) (hr : Nums .i64 w rv rs) (hd : Nums .i64 w dv ds) :
    Calls Tryd.prog 21 #[.agg #[pv, rv], dv, .int .i64 s] w (MdPost (stepsE (gridE ps rs) ds s) (stepsL ps ds s) w) := by
  have hp0 := hp
  have hr0 := hr
  have hd0 := hd
  obtain ⟨X, cX, rfl, x1, x2, x3⟩ := hp
  obtain ⟨Y, cY, rfl, y1, y2, y3⟩ := hr
  obtain ⟨D, cD, rfl, e1, e2, e3⟩ := hd
  unfold maxLen at x2 y2 e2
  clear y3
  have hrb := (Row.new w 33 [.slice X ps.length cX, .slice Y rs.length cY]).alloc (.cells #[.slice none 0 0] 24)
  have hre := Row.new (w.alloc (.cells #[.slice X ps.length cX, .slice Y rs.length cY] 33)) 24 [.slice none 0 0]
  rw [show (w.alloc (.cells #[.slice X ps.length cX, .slice Y rs.length cY] 33)).heap.size = w.heap.size + 1 by simp] at hre
  have B0 : Below w.heap.size w ((w.alloc (.cells #[.slice X ps.length cX, .slice Y rs.length cY] 33)).alloc (.cells #[.slice none 0 0] 24)) := ((Below.refl _ _).alloc (Nat.le_refl _) _).alloc (by simp) _
  go_enter Tryd.func21, Tryd.ntmps21
  go_wp2_with fail
  refine (rgvalid_any _ _ ps rs _ (hp0.below B0) (hr0.below B0)).mono ?_
  rintro e w1 ⟨rfl, hb⟩
  have B1 : Below w.heap.size w w1 := B0.trans (hb.mono B0.size)
  replace hrb := hrb.keep hb
  replace hre := hre.keep hb
  clear hb B0
  have a0 : w1.cell? ⟨w.heap.size, 0, none⟩ = some (.slice X ps.length cX) := hrb.cell 0
  have a1 : w1.cell? ⟨w.heap.size, 1, none⟩ = some (.slice Y rs.length cY) := hrb.cell 1
  have r0 : w1.cell? ⟨w.heap.size + 1, 0, none⟩ = some (.slice none 0 0) := hre.cell 0
  have f0 : w1.frozen? ⟨w.heap.size + 1, 0, none⟩ = false := hre.frozen 0
  by_cases f1 : gridE ps rs = 0
  case neg =>
    have HE := Lib.hid (stepsE_g (ds := ds) (s := s) f1)
    have HZ := Lib.hid f1
    have f : (gridE ps rs != 0) = true := by rw [bne_iff_ne]; exact f1
    clear f1
    generalize gridE ps rs = E at *
    go_wp2_with fail
    exact bodyPost_ret (v := .tuple #[.agg #[.slice none 0 0], .int .i64 (E)]) (by simp [results, Tryd.results21, go_sem, r0]) rfl (MdPost.bad HE.out HZ.out (B1.setCell (by simp) _))
  have f : (gridE ps rs != 0) = false := by rw [bne_eq_false_iff_eq]; exact f1
  obtain ⟨z1, z2, z3, z4, z5⟩ := gridE_zero f1
  have HG := Lib.hid z4
  clear z3 z4 z5
  have zl := hre.lt
  have zl0 := hrb.lt
  by_cases f2 : ds.length < 1 ∨ 5 < ds.length
  case pos =>
    have HE := Lib.hid (stepsE_3 (ds := ds) (s := s) f1 (by omega))
    have h := rangeT f2
    clear f1 f2 e1 e3
    generalize gridE ps rs = E at *
    generalize ds.length = m at *
    rcases h with h1 | ⟨h1, h2⟩
    all_goals
      go_wp2_with fail
      exact bodyPost_ret (v := .tuple #[.agg #[.slice none 0 0], .int .i64 (3)]) (by simp [results, Tryd.results21, go_sem, r0]) rfl (MdPost.bad HE.out (by omega) (B1.setCell (by simp) _))
  have H4 := Lib.hid (fun k hk h => stepsE_set (s := s) (k := k) f1 f2 hk h)
  have H23 := Lib.hid (fun (h : 0 ≤ s ∧ s ≤ 2000) => stepsE_23 (ds := ds) (s := s) f1 (by omega))
  have HOK := Lib.hid (fun (h : 0 ≤ s ∧ s ≤ 2000) => stepsE_ok (ds := ds) (s := s) f1 (by omega))
  have f3 : 1 ≤ ds.length ∧ ds.length ≤ 5 := by omega
  obtain ⟨l1, l5⟩ := f3
  clear f1 f2
  generalize gridE ps rs = E at *
  obtain ⟨m, hm⟩ : ∃ m, ds.length = m := ⟨_, rfl⟩
  have HM := Lib.hid hm
  rw [hm] at e1 e3 l1 l5 ⊢
  clear hm
  have hds := e3.below B1
  go_wp2_with fail
  go_loop [10] (fun i => ∃ k : Nat, k ≤ m ∧ i = .int .i64 (k : Int) ∧ Hid (∀ j, j < k → setOk (ds.getD j 0) s = true)) (fun i => m - (intOf i).toNat)
  case atStart => exact ⟨0, by omega, rfl, fun j h => by omega⟩
  case round =>
    obtain ⟨k, hk, rfl, hinv⟩ := hrel
    by_cases hlt : k < m
    · obtain ⟨b2, o2, rfl, hb2, hcell⟩ := hds.num hlt
      have g1 := hcell k hlt
      have hkd : Hid (k < ds.length) := by unfold Hid; rw [HM.out]; exact hlt
      cases hbad : setOk (ds.getD k 0) s with
      | false =>
        have HE := Lib.hid (H4.out k hkd.out hbad)
        clear hcell hinv
        generalize ds.getD k 0 = d at *
        go_wp2_with fail
        refine (settings_any _ _ _).mono ?_
        rintro e w2 ⟨rfl, rfl⟩
        go_wp2_with fail
        exact bodyPost_ret (v := .tuple #[.agg #[.slice none 0 0], .int .i64 (3)]) (by simp [results, Tryd.results21, go_sem, r0]) rfl (MdPost.bad HE.out (by omega) (B1.setCell (by simp) _))
      | true =>
        have HI := Lib.hid (all_up (p := fun j => setOk (ds.getD j 0) s = true) hinv.out hbad)
        clear hcell hinv
        generalize ds.getD k 0 = d at *
        go_wp2_with fail
        refine (settings_any _ _ _).mono ?_
        rintro e w2 ⟨rfl, rfl⟩
        go_wp2_with fail
        go_round
        case rel => exact ⟨k + 1, by omega, by go_num, HI.out⟩
        case measure => simp [intOf]; omega
    · obtain rfl : k = m := by omega
      have hs12 : 0 ≤ s ∧ s ≤ 2000 := (setOk_iff.1 (hinv.out 0 l1)).2.2
      have HIN := Lib.hid (inD_yes (ds := ds) fun j hj => by have := setOk_iff.1 (hinv.out j (by rw [HM.out] at hj; exact hj)); exact ⟨this.1, this.2.1⟩)
      clear hinv
      replace H23 := Lib.hid (H23.out hs12 HIN.out)
      replace HOK := Lib.hid (HOK.out hs12 HIN.out)
      obtain ⟨s1, s2⟩ := hs12
      clear H4
      go_wp2_with fail
      go_loopw [11] (fun i wr => ∃ j : Nat, j + 1 ≤ k ∧ i = .int .i64 ((j : Int) + 1) ∧ Hid (∀ q, q < j → ds.getD q 0 < ds.getD (q + 1) 0) ∧ ∃ d, wr = w1.drewN d) (fun i _ => k - (intOf i).toNat)
      case atStart => exact ⟨0, by omega, rfl, fun q hq => by omega, 0, rfl⟩
      case round =>
        obtain ⟨j, hj, rfl, hris, d, rfl⟩ := hrel
        by_cases hlt2 : j + 1 < k
        · obtain ⟨b3, o3, rfl, hb3, hcell⟩ := hds.num hlt2
          have g1 := hcell j (by omega)
          have g2 := hcell (j + 1) hlt2
          have hkl : Hid (j + 1 < ds.length) := by unfold Hid; rw [HM.out]; exact hlt2
          have t1 : IntKind.i64.wrap ((j : Int) + 1 - 1) = (j : Int) := by rw [IntKind.wrap_i64]; omega
          have t2 : ((j : Int) + 1).toNat = j + 1 := by omega
          have t3 : (j : Int) + 1 - 1 = (j : Int) := by omega
          have i1 : 0 ≤ (j : Int) + 1 := by omega
          have i2 : (j : Int) + 1 < (k : Int) := by omega
          clear hcell
          by_cases hle : ds.getD (j + 1) 0 ≤ ds.getD j 0
          · have HE := Lib.hid (H23.out (riseOk_no hkl.out hle))
            clear hris
            generalize ds.getD j 0 = x at *
            generalize ds.getD (j + 1) 0 = y at *
            have t4 : decide (y ≤ x) = true := decide_eq_true hle
            go_wp2_with fail
            go_quiet (fail)
            clear t1 t2 t3
            go_wp2_with fail
            exact bodyPost_ret (v := .tuple #[.agg #[.slice none 0 0], .int .i64 (23)]) (by simp [results, Tryd.results21, go_sem, r0]) rfl (MdPost.bad HE.out (by omega) ((below_drewN B1 _).setCell (by simp) _))
          · have HI := Lib.hid (all_up (p := fun q => ds.getD q 0 < ds.getD (q + 1) 0) hris.out (by omega : ds.getD j 0 < ds.getD (j + 1) 0))
            clear hris
            generalize ds.getD j 0 = x at *
            generalize ds.getD (j + 1) 0 = y at *
            have t4 : decide (y ≤ x) = false := decide_eq_false hle
            go_wp2_with fail
            go_quiet (fail)
            clear t1 t2 t3
            go_wp2_with fail
            go_roundw
            case rel => exact ⟨j + 1, by omega, by go_num, HI.out, _, rfl⟩
            case measure => simp [intOf]; omega
        · have hge : k ≤ j + 1 := by omega
          have HE := Lib.hid (HOK.out (riseOk_yes fun q hq => hris.out q (by rw [HM.out] at hq; omega)))
          clear hris HOK H23
          have BD := below_drewN B1 d
          replace hrb := hrb.drewN d
          replace hre := hre.drewN d
          have zl' : w.heap.size + 1 < (w1.drewN d).heap.size := hre.lt
          have zl0' : w.heap.size < (w1.drewN d).heap.size := hrb.lt
          clear a0 a1 r0 f0
          have a0 : (w1.drewN d).cell? ⟨w.heap.size, 0, none⟩ = some (.slice X ps.length cX) := hrb.cell 0
          replace a0 := Lib.hid a0
          generalize w1.drewN d = w2 at *
          replace a0 := a0.out
          obtain ⟨W2, hW2⟩ : ∃ W2 : World, W2 = w2.alloc (.cells #[.slice none 0 0] 24) := ⟨_, rfl⟩
          have hrg : Row W2 w2.heap.size 24 [.slice none 0 0] := by rw [hW2]; exact Row.new w2 24 [.slice none 0 0]
          have hB2 : Below w2.heap.size w2 W2 := by rw [hW2]; exact (Below.refl _ _).alloc (Nat.le_refl _) _
          go_wp2_with fail
          rw [← hW2]
          clear f hW2
          have hsp := x3.below BD
          have hdd := e3.below BD
          go_loopw [13] (fun i wr => ∃ (q : Nat) (us : List Value) (V : Option Addr) (cv : Nat), q ≤ ps.length ∧ i = .int .i64 (q : Int) ∧ Row wr w2.heap.size 24 [.slice V q cv] ∧ wr.ownsRow (w2.heap.size + 1) 31 1 (.slice V q cv) q us ∧ CollI wr us (stepsL ps ds s) q (w2.heap.size + 1) (Value.slice V q cv).ownBlock ∧ Below w2.heap.size w2 wr) (fun i _ => ps.length - (intOf i).toNat)
          case atStart => exact ⟨0, [], none, 0, by omega, rfl, hrg, World.ownsRow_nil _ _ _ _, CollI.zero _ _ _ _, hB2⟩
          case round =>
            clear hrg hB2 a0
            obtain ⟨q, us, V, cv, hq, rfl, hrow, hown, hco, hbo⟩ := hrel
            obtain ⟨wo, rfl⟩ : ∃ wo : World, wo = wr := ⟨_, rfl⟩
            have hrbo := hrb.keep hbo
            have a0 : wo.cell? ⟨w.heap.size, 0, none⟩ = some (.slice X ps.length cX) := hrbo.cell 0
            have zo := hrow.lt
            have c0 : wo.cell? ⟨w2.heap.size, 0, none⟩ = some (.slice V q cv) := hrow.cell 0
            by_cases hlt : q < ps.length
            · obtain ⟨b2, o2, rfl, hb2, hcell⟩ := hsp.num hlt
              have g1 := (hbo.cell (p := ⟨b2, o2 + q, none⟩) hb2).trans (hcell q hlt)
              obtain ⟨y3, y4, _, _⟩ := HG.out q hlt
              have HR := Lib.hid (stepsL_get (ds := ds) (s := s) hlt)
              have HRL := Lib.hid (stepsR_len ds.length s (ps.getD q 0) ds 1 1000)
              have HR0 : Hid ((stepsR ds.length s (ps.getD q 0) 1 1000 ds).drop 0 = stepsR ds.length s (ps.getD q 0) (0 + 1) 1000 (ds.drop 0)) := rfl
              clear hcell
              generalize ps.getD q 0 = p at *
              generalize hRR : stepsR ds.length s p 1 1000 ds = R at *
              clear hRR
              rw [HM.out] at HRL HR0
              go_wp2_with fail
              go_loopw [14, 15, 16] (fun l ab i wr => ∃ (j : Nat) (above : Int) (C : Option Addr) (cc : Nat), j ≤ k ∧ i = .int .i64 ((j : Int) + 1) ∧ ab = .int .i64 above ∧ l = .slice C j cc ∧ 1 ≤ above ∧ above ≤ 1000 ∧ Hid (R.drop j = stepsR k s p (j + 1) above (ds.drop j)) ∧ wr.ownsRow wo.heap.size 3 1 (.slice C j cc) j ((R.take j).map (Value.int .i64)) ∧ Below wo.heap.size wo wr) (fun _ _ i _ => k + 1 - (intOf i).toNat)
              case atStart => exact ⟨0, 1000, _, _, by omega, rfl, rfl, rfl, by omega, by omega, HR0, own_zero wo (.int .i64 0) 3 0 (by unfold maxLen; omega), (Below.refl _ _).alloc (Nat.le_refl _) _⟩
              case round =>
                obtain ⟨j, above, C, cc, hj, rfl, rfl, rfl, ab1, ab2, hinv, howl, hbr⟩ := hrel
                have a0r : wr.cell? ⟨w.heap.size, 0, none⟩ = some (.slice (some ⟨b2, o2, none⟩) ps.length cX) := (hrbo.keep hbr).cell 0
                have g1r : wr.cell? ⟨b2, o2 + q, none⟩ = some (.int .i64 p) := (hbr.cell (p := ⟨b2, o2 + q, none⟩) (Nat.lt_of_lt_of_le hb2 hbo.size)).trans g1
                by_cases hlt : j < k
                · obtain ⟨b3, o3, rfl, hb3, hcell⟩ := hdd.num hlt
                  have g2 := (hbr.cell (p := ⟨b3, o3 + j, none⟩) (Nat.lt_of_lt_of_le hb3 hbo.size)).trans ((hbo.cell (p := ⟨b3, o3 + j, none⟩) hb3).trans (hcell j hlt))
                  have hjd : Hid (j < ds.length) := by unfold Hid; rw [HM.out]; exact hlt
                  obtain ⟨d1, d2⟩ := inD_at HIN.out hjd.out
                  have HS := Lib.hid (stepsR_at hinv.out hjd.out)
                  clear hcell
                  generalize ds.getD j 0 = d at *
                  obtain ⟨m1, m2⟩ := mul_bd s1 s2 (show -2000 ≤ p - d by omega) (show p - d ≤ 2000 by omega)
                  obtain ⟨w1', w2'⟩ := stepsW_in (m := (k : Int)) (k := (j : Int) + 1) (d := d) (s := s) (p := p) (above := above) (by omega) (by omega) (by omega) ab2
                  have q1 : -40000 ≤ s * (p - d) / 100 := by omega
                  have q2 : s * (p - d) / 100 ≤ 40000 := by omega
                  have HF := Lib.hid (fun w => floor_any (s * (p - d)) w (by omega) (by omega))
                  have t1 : IntKind.i64.wrap ((j : Int) + 1 - 1) = (j : Int) := by rw [IntKind.wrap_i64]; omega
                  have t2 : ((j : Int) + 1).toNat = j + 1 := by omega
                  have t3 : (j : Int) + 1 - 1 = (j : Int) := by omega
                  have t4 : IntKind.i64.wrap (p - d) = p - d := by rw [IntKind.wrap_i64]; omega
                  have t5 : IntKind.i64.wrap (s * (p - d)) = s * (p - d) := by rw [IntKind.wrap_i64]; omega
                  have t6 : IntKind.i64.wrap (500 + s * (p - d) / 100) = 500 + s * (p - d) / 100 := by rw [IntKind.wrap_i64]; omega
                  have t7 : IntKind.i64.wrap (j : Int) = (j : Int) := by rw [IntKind.wrap_i64]; omega
                  have i1 : 0 ≤ (j : Int) := by omega
                  have i2 : (j : Int) < (k : Int) := by omega
                  have HTU := Lib.hid (take_upG (R := R) (j := j) (by rw [HRL.out]; omega))
                  go_wp2_with fail
                  go_quiet ((go_at_call 40; exact Calls.quiet_of_same ((HF.out _).mono fun _ _ h => ⟨h.1, h.2.symm⟩)))
                  clear t1 t2 t3 t4 t5 t6 t7
                  rename_i nq
                  have howq : (wr.drewN nq).ownsRow wo.heap.size 3 1 (.slice C j cc) j ((R.take j).map (Value.int .i64)) := howl
                  have hbq : Below wo.heap.size wo (wr.drewN nq) := below_drewN hbr nq
                  generalize wr.drewN nq = wq at *
                  have HW : Hid (stepsW (k : Int) ((j : Int) + 1) d s p above = max ((k : Int) - ((j : Int) + 1) + 1) (min (500 + s * (p - d) / 100) (min (1000 - ((j : Int) + 1)) (above - 1)))) := rfl
                  generalize hWW : stepsW (k : Int) ((j : Int) + 1) d s p above = W at *
                  clear hWW HF
                  generalize s * (p - d) / 100 = x at *
                  generalize s * (p - d) = y at *
                  rcases Int.lt_or_le (above - 1) (1000 - ((j : Int) + 1)) with u1 | u1
                  · rcases Int.lt_or_le (above - 1) (500 + x) with u2 | u2
                    · rcases Int.lt_or_le ((k : Int) - ((j : Int) + 1) + 1) (above - 1) with u3 | u3
                      · first
                          | (exfalso; omega)
                          | (have HV : W = above - 1 := by (rw [HW.out]; omega)
                             rw [HV] at HS w1' w2'
                             clear HV HW
                             go_wp2_with (at_builtin; refine wpList_append_one wq rfl (.tmp 103) (.tmp 107) 31 rfl wo.heap.size 3 (.int .i64 0) 8 Tryd.underlying31 infoInt rfl (.slice C j cc) j _ (.int .i64 (above - (above - 1))) rfl rfl howq rfl (by unfold maxLen; omega) (by omega) hbq.size ?_; intro A7 c7 w7 ho7 hb7)
                             go_roundw
                             case rel =>
                               refine ⟨j + 1, above - 1, A7, c7, by omega, by go_num, rfl, rfl, w1', by omega, HS.out.2, ?_, hbq.trans hb7⟩
                               rw [HTU.out, HS.out.1, List.map_append]
                               exact ho7
                             case measure => (simp [intOf]; omega))
                      · first
                          | (exfalso; omega)
                          | (have HV : W = (k : Int) - ((j : Int) + 1) + 1 := by (rw [HW.out]; omega)
                             rw [HV] at HS w1' w2'
                             clear HV HW
                             go_wp2_with (at_builtin; refine wpList_append_one wq rfl (.tmp 103) (.tmp 107) 31 rfl wo.heap.size 3 (.int .i64 0) 8 Tryd.underlying31 infoInt rfl (.slice C j cc) j _ (.int .i64 (above - ((k : Int) - ((j : Int) + 1) + 1))) rfl rfl howq rfl (by unfold maxLen; omega) (by omega) hbq.size ?_; intro A7 c7 w7 ho7 hb7)
                             go_roundw
                             case rel =>
                               refine ⟨j + 1, (k : Int) - ((j : Int) + 1) + 1, A7, c7, by omega, by go_num, rfl, rfl, w1', by omega, HS.out.2, ?_, hbq.trans hb7⟩
                               rw [HTU.out, HS.out.1, List.map_append]
                               exact ho7
                             case measure => (simp [intOf]; omega))
                    · rcases Int.lt_or_le ((k : Int) - ((j : Int) + 1) + 1) (500 + x) with u3 | u3
                      · first
                          | (exfalso; omega)
                          | (have HV : W = 500 + x := by (rw [HW.out]; omega)
                             rw [HV] at HS w1' w2'
                             clear HV HW
                             go_wp2_with (at_builtin; refine wpList_append_one wq rfl (.tmp 103) (.tmp 107) 31 rfl wo.heap.size 3 (.int .i64 0) 8 Tryd.underlying31 infoInt rfl (.slice C j cc) j _ (.int .i64 (above - (500 + x))) rfl rfl howq rfl (by unfold maxLen; omega) (by omega) hbq.size ?_; intro A7 c7 w7 ho7 hb7)
                             go_roundw
                             case rel =>
                               refine ⟨j + 1, 500 + x, A7, c7, by omega, by go_num, rfl, rfl, w1', by omega, HS.out.2, ?_, hbq.trans hb7⟩
                               rw [HTU.out, HS.out.1, List.map_append]
                               exact ho7
                             case measure => (simp [intOf]; omega))
                      · first
                          | (exfalso; omega)
                          | (have HV : W = (k : Int) - ((j : Int) + 1) + 1 := by (rw [HW.out]; omega)
                             rw [HV] at HS w1' w2'
                             clear HV HW
                             go_wp2_with (at_builtin; refine wpList_append_one wq rfl (.tmp 103) (.tmp 107) 31 rfl wo.heap.size 3 (.int .i64 0) 8 Tryd.underlying31 infoInt rfl (.slice C j cc) j _ (.int .i64 (above - ((k : Int) - ((j : Int) + 1) + 1))) rfl rfl howq rfl (by unfold maxLen; omega) (by omega) hbq.size ?_; intro A7 c7 w7 ho7 hb7)
                             go_roundw
                             case rel =>
                               refine ⟨j + 1, (k : Int) - ((j : Int) + 1) + 1, A7, c7, by omega, by go_num, rfl, rfl, w1', by omega, HS.out.2, ?_, hbq.trans hb7⟩
                               rw [HTU.out, HS.out.1, List.map_append]
                               exact ho7
                             case measure => (simp [intOf]; omega))
                  · rcases Int.lt_or_le (1000 - ((j : Int) + 1)) (500 + x) with u2 | u2
                    · rcases Int.lt_or_le ((k : Int) - ((j : Int) + 1) + 1) (1000 - ((j : Int) + 1)) with u3 | u3
                      · first
                          | (exfalso; omega)
                          | (have HV : W = 1000 - ((j : Int) + 1) := by (rw [HW.out]; omega)
                             rw [HV] at HS w1' w2'
                             clear HV HW
                             go_wp2_with (at_builtin; refine wpList_append_one wq rfl (.tmp 103) (.tmp 107) 31 rfl wo.heap.size 3 (.int .i64 0) 8 Tryd.underlying31 infoInt rfl (.slice C j cc) j _ (.int .i64 (above - (1000 - ((j : Int) + 1)))) rfl rfl howq rfl (by unfold maxLen; omega) (by omega) hbq.size ?_; intro A7 c7 w7 ho7 hb7)
                             go_roundw
                             case rel =>
                               refine ⟨j + 1, 1000 - ((j : Int) + 1), A7, c7, by omega, by go_num, rfl, rfl, w1', by omega, HS.out.2, ?_, hbq.trans hb7⟩
                               rw [HTU.out, HS.out.1, List.map_append]
                               exact ho7
                             case measure => (simp [intOf]; omega))
                      · first
                          | (exfalso; omega)
                          | (have HV : W = (k : Int) - ((j : Int) + 1) + 1 := by (rw [HW.out]; omega)
                             rw [HV] at HS w1' w2'
                             clear HV HW
                             go_wp2_with (at_builtin; refine wpList_append_one wq rfl (.tmp 103) (.tmp 107) 31 rfl wo.heap.size 3 (.int .i64 0) 8 Tryd.underlying31 infoInt rfl (.slice C j cc) j _ (.int .i64 (above - ((k : Int) - ((j : Int) + 1) + 1))) rfl rfl howq rfl (by unfold maxLen; omega) (by omega) hbq.size ?_; intro A7 c7 w7 ho7 hb7)
                             go_roundw
                             case rel =>
                               refine ⟨j + 1, (k : Int) - ((j : Int) + 1) + 1, A7, c7, by omega, by go_num, rfl, rfl, w1', by omega, HS.out.2, ?_, hbq.trans hb7⟩
                               rw [HTU.out, HS.out.1, List.map_append]
                               exact ho7
                             case measure => (simp [intOf]; omega))
                    · rcases Int.lt_or_le ((k : Int) - ((j : Int) + 1) + 1) (500 + x) with u3 | u3
                      · first
                          | (exfalso; omega)
                          | (have HV : W = 500 + x := by (rw [HW.out]; omega)
                             rw [HV] at HS w1' w2'
                             clear HV HW
                             go_wp2_with (at_builtin; refine wpList_append_one wq rfl (.tmp 103) (.tmp 107) 31 rfl wo.heap.size 3 (.int .i64 0) 8 Tryd.underlying31 infoInt rfl (.slice C j cc) j _ (.int .i64 (above - (500 + x))) rfl rfl howq rfl (by unfold maxLen; omega) (by omega) hbq.size ?_; intro A7 c7 w7 ho7 hb7)
                             go_roundw
                             case rel =>
                               refine ⟨j + 1, 500 + x, A7, c7, by omega, by go_num, rfl, rfl, w1', by omega, HS.out.2, ?_, hbq.trans hb7⟩
                               rw [HTU.out, HS.out.1, List.map_append]
                               exact ho7
                             case measure => (simp [intOf]; omega))
                      · first
                          | (exfalso; omega)
                          | (have HV : W = (k : Int) - ((j : Int) + 1) + 1 := by (rw [HW.out]; omega)
                             rw [HV] at HS w1' w2'
                             clear HV HW
                             go_wp2_with (at_builtin; refine wpList_append_one wq rfl (.tmp 103) (.tmp 107) 31 rfl wo.heap.size 3 (.int .i64 0) 8 Tryd.underlying31 infoInt rfl (.slice C j cc) j _ (.int .i64 (above - ((k : Int) - ((j : Int) + 1) + 1))) rfl rfl howq rfl (by unfold maxLen; omega) (by omega) hbq.size ?_; intro A7 c7 w7 ho7 hb7)
                             go_roundw
                             case rel =>
                               refine ⟨j + 1, (k : Int) - ((j : Int) + 1) + 1, A7, c7, by omega, by go_num, rfl, rfl, w1', by omega, HS.out.2, ?_, hbq.trans hb7⟩
                               rw [HTU.out, HS.out.1, List.map_append]
                               exact ho7
                             case measure => (simp [intOf]; omega))
                · have hge : k ≤ j := by omega
                  have HJK := Lib.hid (show j = k by omega)
                  have HE1 := Lib.hid (stepsR_end (m := k) (s := s) (p := p) (ds := ds) (R := R) (above := above) (by rw [HM.out]; have := hinv.out; rw [HJK.out] at this; exact this))
                  have HTR : Hid ((R.take j).map (Value.int .i64) ++ [.int .i64 above] = R.map (Value.int .i64)) := by
                    unfold Hid
                    have e := HE1.out.1
                    rw [HM.out, ← HJK.out] at e
                    have e2 := take_upG (R := R) (j := j) (by rw [HRL.out, HJK.out]; omega)
                    rw [e, List.take_of_length_le (by rw [HRL.out, HJK.out]; exact Nat.le_refl _)] at e2
                    have e3 := congrArg (List.map (Value.int .i64)) e2
                    rw [List.map_append] at e3
                    exact e3.symm
                  clear hinv HE1
                  have c0r : wr.cell? ⟨w2.heap.size, 0, none⟩ = some (.slice V q cv) := (hrow.keep hbr).cell 0
                  have zb : wo.heap.size ≤ wr.heap.size := hbr.size
                  have zgr : w2.heap.size < wr.heap.size := (hrow.keep hbr).lt
                  go_wp2_with fail
                  go_region_law (first
                    | ((refine step_app1 _ (by rfl) (.tmp 112) (.tmp 114) 31 (by rfl) wo.heap.size 3 (.int .i64 0) 8 Tryd.underlying31 infoInt rfl (.slice C j cc) j _ (.int .i64 above) wr.heap.size (by rfl) (by rfl) (Row.new wr 3 [.int .i64 above]) ((howl.alloc _).drew) (by rfl) (by unfold maxLen; omega) (by omega) (by simp; omega) ?_); intro g7 c7 w7 ho7 hg7 hr7; clear hr7; have hb7 : Below wo.heap.size wo w7 := ((hbr.alloc zb _).drew).grown hg7 (by simp; omega) (fun t ht => (howl.lt t ht).1); have hf7 := fresh_own ho7; rw [HTR.out] at ho7; have hn7 := Nums.of_own ho7; have hrow7 := hrow.keep hb7; have d0 : w7.cell? ⟨w2.heap.size, 0, none⟩ = some (.slice V q cv) := hrow7.cell 0; have own7 := own_keep hown hb7; have z7 : w2.heap.size < w7.heap.size := hrow7.lt)
                    | ((refine step_app1 _ (by rfl) (.tmp 111) (.tmp 116) 22 (by rfl) (w2.heap.size + 1) 31 (.slice none 0 0) 24 Tryd.underlying22 infoInts rfl (.slice V q cv) q us (.slice (some ⟨g7, 0, none⟩) (j + 1) c7) w7.heap.size (by rfl) (by rfl) (Row.new w7 31 [.slice (some ⟨g7, 0, none⟩) (j + 1) c7]) (own7.alloc _) (by rfl) (by unfold maxLen; omega) (by omega) (by simp; omega) ?_); intro g8 c8 w8 ho8 hg8 hr8; have HR8 := Lib.hid hr8; clear hr8; have hb8 : Below (w2.heap.size + 1) w7 w8 := ((Below.refl _ _).alloc (by omega) _).grown hg8 (by simp; omega) (fun t ht => (own7.lt t ht).1); have hrow8 := hrow7.below hb8 (Nat.lt_succ_self _); have d1 : w8.cell? ⟨w2.heap.size, 0, none⟩ = some (.slice V q cv) := hrow8.cell 0; have d2 : w8.frozen? ⟨w2.heap.size, 0, none⟩ = false := hrow8.frozen 0))
                  all_goals
                    have hof : Off (Value.slice V q cv).ownBlock (.slice (some ⟨g7, 0, none⟩) (j + 1) c7) := by
                      rcases hx : (Value.slice V q cv).ownBlock with _ | t
                      · exact Off.none_ _
                      · exact Off.of_fresh hf7 ((hown.lt t hx).2)
                    have hA7 : Below w7.heap.size w7 (w7.alloc (.cells #[.slice (some ⟨g7, 0, none⟩) (j + 1) c7] 31)) := (Below.refl _ _).alloc (Nat.le_refl _) _
                    have hc8 := (((hco.below hb7).below hA7).snoc (by rw [HR.out]; exact hn7.below hA7) hof (hf7.mono (Nat.succ_le_of_lt zo))).grown hg8 HR8.out
                    go_wp2_with fail
                    go_roundw
                    case rel => exact ⟨q + 1, _, some ⟨g8, 0, none⟩, c8, by omega, by go_num, hrow8.set_ 0 _, own_far ho8 (p := ⟨w2.heap.size, 0, none⟩) (by simp) _, hc8.set_ (p := ⟨w2.heap.size, 0, none⟩) (by simp) _, ((hbo.trans (hb7.mono (Nat.le_of_lt zo))).trans (hb8.mono (Nat.le_succ _))).setCell (Nat.le_refl _) _⟩
                    case measure => simp [intOf]; omega
            · obtain rfl : q = ps.length := by omega
              replace hre := hre.below hbo zl'
              have r0 : wo.cell? ⟨w.heap.size + 1, 0, none⟩ = some (.slice none 0 0) := hre.cell 0
              have f0 : wo.frozen? ⟨w.heap.size + 1, 0, none⟩ = false := hre.frozen 0
              have BW : Below w.heap.size w wo := BD.trans (hbo.mono BD.size)
              go_wp2_with fail
              exact bodyPost_ret (v := .tuple #[.agg #[.slice V ps.length cv], .int .i64 0]) (by simp [results, Tryd.results21, go_sem, r0]) rfl (MdPost.ok HE.out ((hco.set_ (p := ⟨w.heap.size + 1, 0, none⟩) (by simp; omega) _).intsL (stepsL_len _ _ _) (own_far hown (p := ⟨w.heap.size + 1, 0, none⟩) (by simp; omega) _)) (BW.setCell (by simp) _))
end Go.Proofs.YtokpembimalhmaaDoor
