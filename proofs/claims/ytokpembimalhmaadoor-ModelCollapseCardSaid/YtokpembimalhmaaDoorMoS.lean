/- The walk of the reference's Ramp. -/
import Derived.Test.YtokpembimalhmaaDoorMoR
import Derived.WalkLawsBesides
namespace Go.Proofs.YtokpembimalhmaaDoor
open Go.RowKit
set_option linter.unusedVariables false

theorem range4 {lo hi : Int} (h : lo < 1 ∨ hi < lo ∨ 999 < hi) :
    decide (lo < 1) = true ∨ (decide (lo < 1) = false ∧ decide (hi < lo) = true) ∨ (decide (lo < 1) = false ∧ decide (hi < lo) = false ∧ decide (999 < hi) = true) := by
  simp only [decide_eq_true_eq, decide_eq_false_iff_not]; omega
theorem setOk_no {d s : Int} (h : ¬ (-1000 ≤ d ∧ d ≤ 1000 ∧ 0 ≤ s ∧ s ≤ 2000)) : setOk d s = false := by
  rw [← Bool.not_eq_true, setOk_iff]; exact h

/-- 'append(s, x)' onto a row of the call's own, where the new cell's address is spelled otherwise. -/
theorem wpList_append_oneN {P : Program} (w : World) (N : Nat) (hN : N = w.heap.size) {ops : Array Oper} {rest : List Oper} {o : Oper} {a : Act} {Q : Exit → Act → World → Prop} (hgd : o.guard = none) (s x : Operand) (t : TypeId)
    (ho : o.op = .call { callee := .builtin .append, args := #[s, x], argTypes := #[t, t] })
    (base : Nat) (e : TypeId) (z : Value) (bytes : Nat) (ht : P.underlying t = some (.slice e)) (hinfo : (P.info? e).map (fun i => (i.zero, i.size, i.bytes)) = some (some z, 1, bytes)) (hz : z.cells.size = 1)
    (v : Value) (n : Nat) (xs : List Value) (u : Value) (hs : a.eval s = v) (hx : a.eval x = .slice (some ⟨N, 0, none⟩) 1 1) (hown : w.ownsRow base e 1 v n xs) (hu : u.oneCell' = true)
    (h63 : n + 1 ≤ maxLen) (hbytes : (n + 1) * bytes ≤ 140737488355328) (hbase : base ≤ w.heap.size)
    (h : ∀ A' c' w', w'.ownsRow base e 1 (.slice A' (n + 1) c') (n + 1) (xs ++ [u]) → Below base w w' → w.grownBy w' v.ownBlock → ((Value.slice A' (n + 1) c').ownBlock = v.ownBlock ∨ ∃ k, (Value.slice A' (n + 1) c').ownBlock = some k ∧ w.heap.size ≤ k) → wpList P ops Q rest (a.put o.dst (.slice A' (n + 1) c')) w') : wpList P ops Q (o :: rest) a (w.alloc (.cells #[u] e)) := by
  subst hN
  exact wpList_append_oneG w hgd s x t ho base e z bytes ht hinfo hz v n xs u hs hx hown hu h63 hbytes hbase h

/-- A new row of two numbers is appended to the rows collected in a box. -/
theorem coll_two {w1 wr w7 : World} {us : List Value} {L : List (List Int)} {k g cv c7 t : Nat} {V A7 : Option Addr} {a b : Int} (hco : CollI wr us L k (g + 1) (Value.slice V k cv).ownBlock) (hown : wr.ownsRow (g + 1) 31 1 (.slice V k cv) k us) (hb : Below g w1 wr) (hrow : Row wr g t [.slice V k cv])
    (hL : L.getD k [] = [a, b]) (ho7 : w7.ownsRow (g + 1) 31 1 (.slice A7 (k + 1) c7) (k + 1) (us ++ [.slice (some ⟨wr.heap.size, 0, none⟩) 2 2])) (hb7 : Below (g + 1) (wr.alloc (.cells #[.int .i64 a, .int .i64 b] 3)) w7)
    (hg7 : (wr.alloc (.cells #[.int .i64 a, .int .i64 b] 3)).grownBy w7 (Value.slice V k cv).ownBlock) (hr7 : (Value.slice A7 (k + 1) c7).ownBlock = (Value.slice V k cv).ownBlock ∨ ∃ j, (Value.slice A7 (k + 1) c7).ownBlock = some j ∧ (wr.alloc (.cells #[.int .i64 a, .int .i64 b] 3)).heap.size ≤ j) :
    Row (w7.setCell ⟨g, 0, none⟩ (.slice A7 (k + 1) c7)) g t [.slice A7 (k + 1) c7] ∧ (w7.setCell ⟨g, 0, none⟩ (.slice A7 (k + 1) c7)).ownsRow (g + 1) 31 1 (.slice A7 (k + 1) c7) (k + 1) (us ++ [.slice (some ⟨wr.heap.size, 0, none⟩) 2 2]) ∧
    CollI (w7.setCell ⟨g, 0, none⟩ (.slice A7 (k + 1) c7)) (us ++ [.slice (some ⟨wr.heap.size, 0, none⟩) 2 2]) L (k + 1) (g + 1) (Value.slice A7 (k + 1) c7).ownBlock ∧ Below g w1 (w7.setCell ⟨g, 0, none⟩ (.slice A7 (k + 1) c7)) := by
  have hA : Below wr.heap.size wr (wr.alloc (.cells #[.int .i64 a, .int .i64 b] 3)) := (Below.refl _ _).alloc (Nat.le_refl _) _
  have hf : Fresh wr.heap.size (.slice (some ⟨wr.heap.size, 0, none⟩) 2 2) := Nat.le_refl _
  have hof : Off (Value.slice V k cv).ownBlock (.slice (some ⟨wr.heap.size, 0, none⟩) 2 2) := by
    rcases hq : (Value.slice V k cv).ownBlock with _ | q
    · exact Off.none_ _
    · exact Off.of_fresh hf ((hown.lt q hq).2)
  have hn : Nums .i64 (wr.alloc (.cells #[.int .i64 a, .int .i64 b] 3)) (.slice (some ⟨wr.heap.size, 0, none⟩) 2 2) (L.getD k []) := by
    rw [hL]; exact Nums.of_row (zs := [a, b]) (Row.new wr 3 [.int .i64 a, .int .i64 b]) (by simp [maxLen])
  have hc := ((hco.below hA).snoc hn hof (hf.mono (Nat.succ_le_of_lt hrow.lt))).grown hg7 hr7
  have hr := (hrow.keep hA).below hb7 (Nat.lt_succ_self g)
  refine ⟨hr.set_ 0 _, own_far ho7 (p := ⟨g, 0, none⟩) (by simp) _, hc.set_ (p := ⟨g, 0, none⟩) (by simp) _, ((hb.trans (hA.mono (Nat.le_of_lt hrow.lt))).trans (hb7.mono (Nat.le_succ g))).setCell (Nat.le_refl _) _⟩

set_option maxHeartbeats 4000000 in
theorem rramp_any (pv rv : Value) (ps rs : List Int) (d s lo hi : Int) (w : World) (hp : Nums .i64 w pv ps) (hr : Nums .i64 w rv rs) :
    Calls Tryd.prog 18 #[.agg #[pv, rv], .int .i64 d, .int .i64 s, .int .i64 lo, .int .i64 hi] w (MdPost (rampE (gridE ps rs) d s lo hi) (rampL ps d s lo hi) w) := by
  have hp0 := hp
  have hr0 := hr
  obtain ⟨X, cX, rfl, x1, x2, x3⟩ := hp
  obtain ⟨Y, cY, rfl, y1, y2, y3⟩ := hr
  unfold maxLen at x2 y2
  clear y3
  have hrb := (Row.new w 33 [.slice X ps.length cX, .slice Y rs.length cY]).alloc (.cells #[.slice none 0 0] 24)
  have hre := Row.new (w.alloc (.cells #[.slice X ps.length cX, .slice Y rs.length cY] 33)) 24 [.slice none 0 0]
  rw [show (w.alloc (.cells #[.slice X ps.length cX, .slice Y rs.length cY] 33)).heap.size = w.heap.size + 1 by simp] at hre
  have B0 : Below w.heap.size w ((w.alloc (.cells #[.slice X ps.length cX, .slice Y rs.length cY] 33)).alloc (.cells #[.slice none 0 0] 24)) := ((Below.refl _ _).alloc (Nat.le_refl _) _).alloc (by simp) _
  go_enter Tryd.func18, Tryd.ntmps18
  go_wp2_with fail
  refine (rgvalid_any _ _ ps rs _ (hp0.below B0) (hr0.below B0)).mono ?_
  rintro e w1 ⟨rfl, hb⟩
  have B1 : Below w.heap.size w w1 := B0.trans (hb.mono B0.size)
  replace hrb := hrb.keep hb
  replace hre := hre.keep hb
  clear hb B0
  have a0 : w1.cell? ⟨w.heap.size, 0, none⟩ = some (.slice X ps.length cX) := hrb.cell 0
  have a1 : w1.cell? ⟨w.heap.size, 1, none⟩ = some (.slice Y rs.length cY) := hrb.cell 1
  have r0 : w1.cell? ⟨w.heap.size + 1, 0, none⟩ = some (.slice none 0 0) := hre.cell 0
  have f0 : w1.frozen? ⟨w.heap.size + 1, 0, none⟩ = false := hre.frozen 0
  by_cases e1 : gridE ps rs = 0
  case neg =>
    have HE := Lib.hid (rampE_g (d := d) (s := s) (lo := lo) (hi := hi) e1)
    have HZ := Lib.hid e1
    have f : (gridE ps rs != 0) = true := by rw [bne_iff_ne]; exact e1
    clear e1
    generalize gridE ps rs = E at *
    go_wp2_with fail
    exact bodyPost_ret (v := .tuple #[.agg #[.slice none 0 0], .int .i64 (E)]) (by simp [results, Tryd.results18, go_sem, r0]) rfl (MdPost.bad HE.out HZ.out (B1.setCell (by simp) _))
  have f : (gridE ps rs != 0) = false := by rw [bne_eq_false_iff_eq]; exact e1
  obtain ⟨z1, z2, z3, z4, z5⟩ := gridE_zero e1
  have HG := Lib.hid z4
  clear z3 z4 z5
  have zl := hre.lt
  have zl0 := hrb.lt
  by_cases e2 : -1000 ≤ d ∧ d ≤ 1000 ∧ 0 ≤ s ∧ s ≤ 2000
  case neg =>
    have HE := Lib.hid (rampE_3 (d := d) (s := s) (lo := lo) (hi := hi) e1 (by omega))
    have HSO := setOk_no e2
    clear e1 e2
    generalize gridE ps rs = E at *
    go_wp2_with fail
    refine (settings_any _ _ _).mono ?_
    rintro e w2 ⟨rfl, rfl⟩
    go_wp2_with fail
    exact bodyPost_ret (v := .tuple #[.agg #[.slice none 0 0], .int .i64 (3)]) (by simp [results, Tryd.results18, go_sem, r0]) rfl (MdPost.bad HE.out (by omega) (B1.setCell (by simp) _))
  have HSO := setOk_iff.2 e2
  by_cases e3 : lo < 1 ∨ hi < lo ∨ 999 < hi
  case pos =>
    have HE := Lib.hid (rampE_3 (d := d) (s := s) (lo := lo) (hi := hi) e1 (by omega))
    have h := range4 e3
    clear e1 e2 e3
    generalize gridE ps rs = E at *
    go_wp2_with fail
    refine (settings_any _ _ _).mono ?_
    rintro e w2 ⟨rfl, rfl⟩
    rcases h with h1 | ⟨h1, h2⟩ | ⟨h1, h2, h3⟩
    all_goals
      go_wp2_with fail
      exact bodyPost_ret (v := .tuple #[.agg #[.slice none 0 0], .int .i64 (3)]) (by simp [results, Tryd.results18, go_sem, r0]) rfl (MdPost.bad HE.out (by omega) (B1.setCell (by simp) _))
  have HE := Lib.hid (rampE_ok (d := d) (s := s) (lo := lo) (hi := hi) e1 (by omega))
  obtain ⟨d1, d2, s1, s2⟩ := e2
  have e4 : 1 ≤ lo ∧ lo ≤ hi ∧ hi ≤ 999 := by omega
  obtain ⟨l1, l2, l3⟩ := e4
  clear e1 e3
  generalize gridE ps rs = E at *
  go_wp2_with fail
  refine (settings_any _ _ _).mono ?_
  rintro e w2 ⟨rfl, rfl⟩
  obtain ⟨W2, hW2⟩ : ∃ W2 : World, W2 = w1.alloc (.cells #[.slice none 0 0] 24) := ⟨_, rfl⟩
  have hrg : Row W2 w1.heap.size 24 [.slice none 0 0] := by rw [hW2]; exact Row.new w1 24 [.slice none 0 0]
  have hB2 : Below w1.heap.size w1 W2 := by rw [hW2]; exact (Below.refl _ _).alloc (Nat.le_refl _) _
  go_wp2_with fail
  rw [← hW2]
  clear f hW2 HSO
  have hsp := x3.below B1
  go_loopw [14] (fun i wr => ∃ (k : Nat) (us : List Value) (V : Option Addr) (cv : Nat), k ≤ ps.length ∧ i = .int .i64 (k : Int) ∧ Row wr w1.heap.size 24 [.slice V k cv] ∧ wr.ownsRow (w1.heap.size + 1) 31 1 (.slice V k cv) k us ∧ CollI wr us (rampL ps d s lo hi) k (w1.heap.size + 1) (Value.slice V k cv).ownBlock ∧ Below w1.heap.size w1 wr) (fun i _ => ps.length - (intOf i).toNat)
  case atStart => exact ⟨0, [], none, 0, by omega, rfl, hrg, World.ownsRow_nil _ _ _ _, CollI.zero _ _ _ _, hB2⟩
  case round =>
    clear hrg hB2
    obtain ⟨k, us, V, cv, hk, rfl, hrow, hown, hco, hbr⟩ := hrel
    have hrbo := hrb.keep hbr
    have a0' : wr.cell? ⟨w.heap.size, 0, none⟩ = some (.slice X ps.length cX) := hrbo.cell 0
    have zr := hrow.lt
    have c0 : wr.cell? ⟨w1.heap.size, 0, none⟩ = some (.slice V k cv) := hrow.cell 0
    by_cases hlt : k < ps.length
    · obtain ⟨b2, o2, rfl, hb2, hcell⟩ := hsp.num hlt
      have g1 := (hbr.cell (p := ⟨b2, o2 + k, none⟩) hb2).trans (hcell k hlt)
      obtain ⟨y3, y4, _, _⟩ := HG.out k hlt
      have HR := Lib.hid (rampL_get (d := d) (s := s) (lo := lo) (hi := hi) hlt)
      clear hcell
      generalize ps.getD k 0 = p at *
      obtain ⟨m1, m2⟩ := mul_bd s1 s2 (show -2000 ≤ p - d by omega) (show p - d ≤ 2000 by omega)
      go_wp2_with fail
      refine (floor_any _ _ (by omega) (by omega)).mono ?_
      rintro e w2 ⟨rfl, rfl⟩
      have q1 : -40000 ≤ s * (p - d) / 100 := by omega
      have q2 : s * (p - d) / 100 ≤ 40000 := by omega
      have HW : Hid (rampW d s lo hi p = max lo (min hi (500 + s * (p - d) / 100))) := rfl
      generalize s * (p - d) / 100 = x at *
      generalize s * (p - d) = y at *
      have zb : w1.heap.size + 1 ≤ wr.heap.size + 1 := by omega
      have hlen : k + 1 ≤ 21 := by omega
      rcases (by omega : (500 + x < hi ∧ lo < 500 + x) ∨ (500 + x < hi ∧ 500 + x ≤ lo) ∨ (hi ≤ 500 + x ∧ lo < hi) ∨ (hi ≤ 500 + x ∧ hi ≤ lo)) with ⟨t1, t2⟩ | ⟨t1, t2⟩ | ⟨t1, t2⟩ | ⟨t1, t2⟩
      all_goals
        first
          | (have HV : rampW d s lo hi p = 500 + x := by rw [HW.out]; omega)
          | (have HV : rampW d s lo hi p = lo := by rw [HW.out]; omega)
          | (have HV : rampW d s lo hi p = hi := by rw [HW.out]; omega)
        rw [HV] at HR
        clear HV HW
      case inl => 
        have hown2 : (wr.alloc (.cells #[.int .i64 (1000 - (500 + x)), .int .i64 (500 + x)] 3)).ownsRow (w1.heap.size + 1) 31 1 (.slice V k cv) k us := own_keep hown ((Below.refl _ _).alloc (Nat.le_refl _) _)
        have HS := Lib.hid (show wr.heap.size + 1 = (wr.alloc (.cells #[.int .i64 (1000 - (500 + x)), .int .i64 (500 + x)] 3)).heap.size by simp)
        go_wp2_with (at_builtin; refine wpList_append_oneN (wr.alloc (.cells #[.int .i64 (1000 - (500 + x)), .int .i64 (500 + x)] 3)) (wr.heap.size + 1) HS.out rfl (.tmp 64) (.tmp 69) 22 rfl (w1.heap.size + 1) 31 (.slice none 0 0) 24 Tryd.underlying22 infoInts rfl (.slice V k cv) k us (.slice (some ⟨wr.heap.size, 0, none⟩) 2 2) rfl rfl hown2 rfl (by unfold maxLen; omega) (by omega) (HS.out ▸ zb) ?_; intro A7 c7 w7 ho7 hb7 hg7 hr7; have P1 := Lib.hid (coll_two hco hown hbr hrow HR.out ho7 hb7 hg7 hr7); have hrow7 := (hrow.keep ((Below.refl _ _).alloc (Nat.le_refl _) (.cells #[.int .i64 (1000 - (500 + x)), .int .i64 (500 + x)] 3))).below hb7 (Nat.lt_succ_self _); have d0 : w7.cell? ⟨w1.heap.size, 0, none⟩ = some (.slice V k cv) := hrow7.cell 0; have d1 : w7.frozen? ⟨w1.heap.size, 0, none⟩ = false := hrow7.frozen 0)
        go_roundw
        case rel => exact ⟨k + 1, _, A7, c7, by omega, by go_num, P1.out⟩
        case measure => simp [intOf]; omega
      case inr.inl => 
        have hown2 : (wr.alloc (.cells #[.int .i64 (1000 - lo), .int .i64 (lo)] 3)).ownsRow (w1.heap.size + 1) 31 1 (.slice V k cv) k us := own_keep hown ((Below.refl _ _).alloc (Nat.le_refl _) _)
        have HS := Lib.hid (show wr.heap.size + 1 = (wr.alloc (.cells #[.int .i64 (1000 - lo), .int .i64 (lo)] 3)).heap.size by simp)
        go_wp2_with (at_builtin; refine wpList_append_oneN (wr.alloc (.cells #[.int .i64 (1000 - lo), .int .i64 (lo)] 3)) (wr.heap.size + 1) HS.out rfl (.tmp 64) (.tmp 69) 22 rfl (w1.heap.size + 1) 31 (.slice none 0 0) 24 Tryd.underlying22 infoInts rfl (.slice V k cv) k us (.slice (some ⟨wr.heap.size, 0, none⟩) 2 2) rfl rfl hown2 rfl (by unfold maxLen; omega) (by omega) (HS.out ▸ zb) ?_; intro A7 c7 w7 ho7 hb7 hg7 hr7; have P1 := Lib.hid (coll_two hco hown hbr hrow HR.out ho7 hb7 hg7 hr7); have hrow7 := (hrow.keep ((Below.refl _ _).alloc (Nat.le_refl _) (.cells #[.int .i64 (1000 - lo), .int .i64 (lo)] 3))).below hb7 (Nat.lt_succ_self _); have d0 : w7.cell? ⟨w1.heap.size, 0, none⟩ = some (.slice V k cv) := hrow7.cell 0; have d1 : w7.frozen? ⟨w1.heap.size, 0, none⟩ = false := hrow7.frozen 0)
        go_roundw
        case rel => exact ⟨k + 1, _, A7, c7, by omega, by go_num, P1.out⟩
        case measure => simp [intOf]; omega
      case inr.inr.inl => 
        have hown2 : (wr.alloc (.cells #[.int .i64 (1000 - hi), .int .i64 (hi)] 3)).ownsRow (w1.heap.size + 1) 31 1 (.slice V k cv) k us := own_keep hown ((Below.refl _ _).alloc (Nat.le_refl _) _)
        have HS := Lib.hid (show wr.heap.size + 1 = (wr.alloc (.cells #[.int .i64 (1000 - hi), .int .i64 (hi)] 3)).heap.size by simp)
        go_wp2_with (at_builtin; refine wpList_append_oneN (wr.alloc (.cells #[.int .i64 (1000 - hi), .int .i64 (hi)] 3)) (wr.heap.size + 1) HS.out rfl (.tmp 64) (.tmp 69) 22 rfl (w1.heap.size + 1) 31 (.slice none 0 0) 24 Tryd.underlying22 infoInts rfl (.slice V k cv) k us (.slice (some ⟨wr.heap.size, 0, none⟩) 2 2) rfl rfl hown2 rfl (by unfold maxLen; omega) (by omega) (HS.out ▸ zb) ?_; intro A7 c7 w7 ho7 hb7 hg7 hr7; have P1 := Lib.hid (coll_two hco hown hbr hrow HR.out ho7 hb7 hg7 hr7); have hrow7 := (hrow.keep ((Below.refl _ _).alloc (Nat.le_refl _) (.cells #[.int .i64 (1000 - hi), .int .i64 (hi)] 3))).below hb7 (Nat.lt_succ_self _); have d0 : w7.cell? ⟨w1.heap.size, 0, none⟩ = some (.slice V k cv) := hrow7.cell 0; have d1 : w7.frozen? ⟨w1.heap.size, 0, none⟩ = false := hrow7.frozen 0)
        go_roundw
        case rel => exact ⟨k + 1, _, A7, c7, by omega, by go_num, P1.out⟩
        case measure => simp [intOf]; omega
      case inr.inr.inr => 
        have hown2 : (wr.alloc (.cells #[.int .i64 (1000 - lo), .int .i64 (lo)] 3)).ownsRow (w1.heap.size + 1) 31 1 (.slice V k cv) k us := own_keep hown ((Below.refl _ _).alloc (Nat.le_refl _) _)
        have HS := Lib.hid (show wr.heap.size + 1 = (wr.alloc (.cells #[.int .i64 (1000 - lo), .int .i64 (lo)] 3)).heap.size by simp)
        go_wp2_with (at_builtin; refine wpList_append_oneN (wr.alloc (.cells #[.int .i64 (1000 - lo), .int .i64 (lo)] 3)) (wr.heap.size + 1) HS.out rfl (.tmp 64) (.tmp 69) 22 rfl (w1.heap.size + 1) 31 (.slice none 0 0) 24 Tryd.underlying22 infoInts rfl (.slice V k cv) k us (.slice (some ⟨wr.heap.size, 0, none⟩) 2 2) rfl rfl hown2 rfl (by unfold maxLen; omega) (by omega) (HS.out ▸ zb) ?_; intro A7 c7 w7 ho7 hb7 hg7 hr7; have P1 := Lib.hid (coll_two hco hown hbr hrow HR.out ho7 hb7 hg7 hr7); have hrow7 := (hrow.keep ((Below.refl _ _).alloc (Nat.le_refl _) (.cells #[.int .i64 (1000 - lo), .int .i64 (lo)] 3))).below hb7 (Nat.lt_succ_self _); have d0 : w7.cell? ⟨w1.heap.size, 0, none⟩ = some (.slice V k cv) := hrow7.cell 0; have d1 : w7.frozen? ⟨w1.heap.size, 0, none⟩ = false := hrow7.frozen 0)
        go_roundw
        case rel => exact ⟨k + 1, _, A7, c7, by omega, by go_num, P1.out⟩
        case measure => simp [intOf]; omega
    · obtain rfl : k = ps.length := by omega
      replace hre := hre.below hbr zl
      have r0 : wr.cell? ⟨w.heap.size + 1, 0, none⟩ = some (.slice none 0 0) := hre.cell 0
      have f0 : wr.frozen? ⟨w.heap.size + 1, 0, none⟩ = false := hre.frozen 0
      have BW : Below w.heap.size w wr := B1.trans (hbr.mono B1.size)
      go_wp2_with fail
      exact bodyPost_ret (v := .tuple #[.agg #[.slice V ps.length cv], .int .i64 0]) (by simp [results, Tryd.results18, go_sem, r0]) rfl (MdPost.ok HE.out ((hco.set_ (p := ⟨w.heap.size + 1, 0, none⟩) (by simp; omega) _).intsL (rampL_len _ _ _ _ _) (own_far hown (p := ⟨w.heap.size + 1, 0, none⟩) (by simp; omega) _)) (BW.setCell (by simp) _))
end Go.Proofs.YtokpembimalhmaaDoor
