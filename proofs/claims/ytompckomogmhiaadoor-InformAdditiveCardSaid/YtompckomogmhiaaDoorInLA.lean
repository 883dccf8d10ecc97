/- Law InformAdditive. -/
import Derived.Test.YtompckomogmhiaaDoorInW
import Derived.Test.YtompckomogmhiaaDoorSmR
import Derived.Deep.RegionHeld3
namespace Go.Proofs.YtompckomogmhiaaDoor
open Go.RowKit
set_option linter.unusedVariables false
set_option maxRecDepth 100000

theorem infoMdl : (Tryd.prog.info? 40).map (fun i => (i.zero, i.size, i.bytes)) = some (some (.agg #[.slice none 0 0]), 1, 24) := by kernel_rfl
theorem mom_congr {f g : Nat → Int} : ∀ n, (∀ j, j < n → f j = g j) → mom f n = mom g n
  | 0, _ => rfl
  | n + 1, h => by
    show mom f n + f n = mom g n + g n
    rw [mom_congr n (fun j hj => h j (by omega)), h n (by omega)]
theorem mom_shift (f : Nat → Int) : ∀ n, mom f (n + 1) = f 0 + mom (fun j => f (j + 1)) n
  | 0 => by show (0 : Int) + f 0 = f 0 + 0; omega
  | n + 1 => by
    show mom f (n + 1) + f (n + 1) = f 0 + (mom (fun j => f (j + 1)) n + f (n + 1))
    rw [mom_shift f n]; omega
theorem mom_rev : ∀ (n : Nat) (f : Nat → Int), mom (fun j => f (n - 1 - j)) n = mom f n
  | 0, _ => rfl
  | n + 1, f => by
    show mom (fun j => f (n + 1 - 1 - j)) n + f (n + 1 - 1 - n) = mom f (n + 1)
    have h1 : mom (fun j => f (n + 1 - 1 - j)) n = mom (fun j => (fun i => f (i + 1)) (n - 1 - j)) n :=
      mom_congr n fun j hj => by show f (n + 1 - 1 - j) = f (n - 1 - j + 1); congr 1; omega
    rw [h1, mom_rev n (fun i => f (i + 1)), mom_shift f n, show n + 1 - 1 - n = 0 by omega]
    omega
theorem rev_get {α : Type} (l : List α) (d : α) {j : Nat} (h : j < l.length) : l.reverse.getD j d = l.getD (l.length - 1 - j) d := by
  rw [List.getD_eq_getElem?_getD, List.getD_eq_getElem?_getD, List.getElem?_reverse h]
theorem sumF_rev (Z : Nat) (ms : List Mdl) (n q : Nat) : sumF Z ms.reverse n q = sumF Z ms n q := by
  unfold sumF
  rw [List.length_reverse, ← mom_rev ms.length (tsF Z ms n q)]
  exact mom_congr _ fun j hj => by unfold tsF; rw [rev_get ms [] hj]
theorem modsE_of {n : Nat} : ∀ {ms : List Mdl}, (∀ m ∈ ms, modE m n = 0) → modsE n ms = 0
  | [], _ => rfl
  | m :: ms, h => by
    unfold modsE
    rw [if_neg (by simpa using h m (by simp))]
    exact modsE_of fun x hx => h x (by simp [hx])
theorem testE_rev {n : Nat} {ms : List Mdl} (h : testE n ms = 0) : testE n ms.reverse = 0 := by
  obtain ⟨h1, h2⟩ := testE_zero h
  unfold testE
  rw [List.length_reverse, if_neg (by omega)]
  refine modsE_of fun m hm => ?_
  rw [List.mem_reverse] at hm
  obtain ⟨i, hi, rfl⟩ := List.getElem_of_mem hm
  have := h2 i hi
  rwa [List.getD_eq_getElem?_getD, List.getElem?_eq_getElem hi] at this
theorem RatF.cut {b : Nat} {w : World} {v : Value} {p : Int} {q L k : Nat} (h : RatF b w v p q L) (hp : p.natAbs < bp k) (hq : q < bp k) : RatF b w v p q k := by
  obtain ⟨mv, dv, hv, h1, h2, f1, f2⟩ := h
  exact ⟨mv, dv, hv, h1.short hp, h2.short hq, f1, f2⟩
theorem RatF.grown {b : Nat} {w w' : World} {v : Value} {p : Int} {q L : Nat} {row : Option Nat} (h : RatF b w v p q L) (hg : w.grownBy w' row) (ho : ∀ j, row = some j → j < b) : RatF b w' v p q L := by
  obtain ⟨mv, dv, hv, h1, h2, f1, f2⟩ := h
  have hoff : ∀ u, Fresh b u → Off row u := fun u hu => by
    rcases row with _ | j
    · exact Off.none_ _
    · exact Off.of_fresh hu (ho j rfl)
  exact ⟨mv, dv, hv, h1.grown hg (hoff _ f1), h2.grown hg (hoff _ f2), f1, f2⟩
theorem own_row0 {w : World} {g t : Nat} {xs : List Value} (h : Row w g t []) : w.ownsRow g t 1 (.slice (some ⟨g, 0, none⟩) 0 0) 0 (xs.take 0) :=
  ⟨rfl, .inr ⟨g, 0, #[], rfl, Nat.le_refl _, h, Nat.le_refl _, by unfold maxLen; omega, rfl, rfl⟩⟩
theorem lit_one {w : World} {g : Nat} (h : Row w g 36 [.int .u32 1]) : RatF g w (.agg #[.bool false, .slice none 0 0, .slice (some ⟨g, 0, none⟩) 1 1]) 0 1 1 := by
  have hl : Lim w (.slice (some ⟨g, 0, none⟩) 1 1) [1] := Lim.of_row (ls := [1]) h (by unfold maxLen; simp) (AllB.cons (by decide) AllB.nil)
  exact ⟨_, _, rfl, natAt_nilD _ _, ⟨[1], hl, noTop_snoc [] (by decide), by simp [val], by simp⟩, trivial, Nat.le_refl _⟩
theorem rev_snoc {w : World} {us : List Value} {n k j lb lo : Nat} {u : Value} (hl : us.length = n) (hk : k < n) (hj : j = n - 1 - k) (hc : w.cell? ⟨lb, lo + j, none⟩ = some u) (hcl : ∀ i x, us[i]? = some x → w.cell? ⟨lb, lo + i, none⟩ = some x) : us.reverse.take (k + 1) = us.reverse.take k ++ [u] := by
  rw [List.take_succ_eq_append_getElem (by rw [List.length_reverse]; omega)]
  have hjl : j < us.length := by omega
  have h1 := hcl j _ (List.getElem?_eq_getElem hjl)
  rw [hc] at h1
  injection h1 with h1
  rw [List.getElem_reverse]
  congr 2
  rw [h1]
  congr 1
  omega
theorem modL_rev {w wr : World} {LA A : Option Addr} {n c base e : Nat} {us : List Value} {ms : List Mdl} (hn : ms.length = n) (hls : Sl w LA n us) (hlu : ∀ i u, us[i]? = some u → IntsL w u (ms.getD i [])) (hown : wr.ownsRow base e 1 (.slice A n c) n us.reverse) (hb : Below w.heap.size w wr) : ModL wr (.slice A n c) ms.reverse := by
  obtain ⟨A', c', hv, h1, h2, hs⟩ := Sl.of_own hown
  injection hv with e1 e2 e3
  subst e1 e3
  refine ⟨A, c, us.reverse, by rw [List.length_reverse, hn], by rw [List.length_reverse, hn]; exact h1, h2, by rw [List.length_reverse, hn]; exact hs, fun i u hu => ?_⟩
  have hi : i < us.length := by
    rcases Nat.lt_or_ge i us.reverse.length with h | h
    · simpa using h
    · rw [List.getElem?_eq_none h] at hu; cases hu
  rw [List.getElem?_reverse hi] at hu
  rw [rev_get ms [] (by rw [hn, ← hls.1]; exact hi), hn, ← hls.1]
  exact (hlu _ u hu).below hb
theorem qcmp_eqA (v u : Value) (p : Int) (q L : Nat) (w : World) (ha : RatA w v p q L) (hb : RatA w u p q L) (hL : 2 ≤ L) (hM : L ≤ 35184372088800) :
    Calls Tryd.prog 13 #[v, u] w fun e w' => e = .returned (.int .i64 0) ∧ Below w.heap.size w w' :=
  (qcmp_any v u p p q q L w ha hb hL hM).mono fun e w' h => ⟨by rw [h.1]; unfold cmpZ; rw [if_neg (by omega), if_neg (by omega)], h.2⟩
theorem keep12a {W w' : World} {p1 p2 p3 p4 p5 p6 p7 p8 p9 p10 p11 p12 : Addr} {x1 x2 x3 x4 x5 x6 x7 x8 x9 x10 x11 x12 : Value} (l1 : p1.block < W.heap.size) (l2 : p2.block < W.heap.size) (l3 : p3.block < W.heap.size) (l4 : p4.block < W.heap.size) (l5 : p5.block < W.heap.size) (l6 : p6.block < W.heap.size) (l7 : p7.block < W.heap.size) (l8 : p8.block < W.heap.size) (l9 : p9.block < W.heap.size) (l10 : p10.block < W.heap.size) (l11 : p11.block < W.heap.size) (l12 : p12.block < W.heap.size) (h1 : W.cell? p1 = some x1) (h2 : W.cell? p2 = some x2) (h3 : W.cell? p3 = some x3) (h4 : W.cell? p4 = some x4) (h5 : W.cell? p5 = some x5) (h6 : W.cell? p6 = some x6) (h7 : W.cell? p7 = some x7) (h8 : W.cell? p8 = some x8) (h9 : W.cell? p9 = some x9) (h10 : W.cell? p10 = some x10) (h11 : W.cell? p11 = some x11) (h12 : W.cell? p12 = some x12) (hb : Below W.heap.size W w') :
    w'.cell? p1 = some x1 ∧ w'.cell? p2 = some x2 ∧ w'.cell? p3 = some x3 ∧ w'.cell? p4 = some x4 ∧ w'.cell? p5 = some x5 ∧ w'.cell? p6 = some x6 ∧ w'.cell? p7 = some x7 ∧ w'.cell? p8 = some x8 ∧ w'.cell? p9 = some x9 ∧ w'.cell? p10 = some x10 ∧ w'.cell? p11 = some x11 ∧ w'.cell? p12 = some x12 := ⟨(hb.cell l1).trans h1, (hb.cell l2).trans h2, (hb.cell l3).trans h3, (hb.cell l4).trans h4, (hb.cell l5).trans h5, (hb.cell l6).trans h6, (hb.cell l7).trans h7, (hb.cell l8).trans h8, (hb.cell l9).trans h9, (hb.cell l10).trans h10, (hb.cell l11).trans h11, (hb.cell l12).trans h12⟩
/-- Curve, seen at one index. -/
theorem curve_at (pv rv lv : Value) (ps rs : List Int) (ms : List Mdl) (q Z : Nat) (w : World) (hp : Nums .i64 w pv ps) (hr : Nums .i64 w rv rs) (hm : ModL w lv ms) (hZ : IsLam Z) (hE : crvE ps rs ms = 0) (hq : q < ps.length) :
    Calls Tryd.prog 11 #[.agg #[pv, rv], lv] w fun e w' => ∃ g a0 a1 a2, e = .returned (.tuple #[.slice (some ⟨g, 0, none⟩) ps.length ps.length, .int .i64 0]) ∧ w'.cell? ⟨g, q * 3, none⟩ = some a0 ∧ w'.cell? ⟨g, q * 3 + 1, none⟩ = some a1 ∧ w'.cell? ⟨g, q * 3 + 2, none⟩ = some a2 ∧ RatF 0 w' (.agg #[a0, a1, a2]) (redP (sumF Z ms ps.length q) (ifD Z ps q)) (redQ (sumF Z ms ps.length q) (ifD Z ps q)) 330 ∧ g < w'.heap.size ∧ Below w.heap.size w w' := by
  refine (curve_ok pv rv lv ps rs ms Z w hp hr hm hZ hE).mono fun e w' h => ?_
  obtain ⟨g, us, he, _, hrow, hc, hb⟩ := h
  have hlt : q < us.length := by rw [hc.1]; exact hq
  have hu := List.getElem?_eq_getElem hlt
  obtain ⟨f0, f1, f2⟩ := flat_get hu
  have hv := hc.2 q _ hu
  rw [curL_get Z ps ms hq] at hv
  rw [Nat.mul_comm] at f0 f1 f2
  exact ⟨g, _, _, _, he, (hrow.cell _).trans f0, (hrow.cell _).trans f1, (hrow.cell _).trans f2, hv.base (Nat.zero_le _), hrow.lt, hb⟩

set_option maxHeartbeats 16000000 in
theorem ladd_no (pv rv lv : Value) (ps rs : List Int) (ms : List Mdl) (q : Int) (w : World) (hp : Nums .i64 w pv ps) (hr : Nums .i64 w rv rs) (hm : ModL w lv ms) (htab : Pow10 w) (hE : tstE ps rs ms q ≠ 0) :
    Calls Tryd.prog 3 #[.agg #[pv, rv], lv, .int .i64 q] w fun e w' => e = .returned (.bool true) ∧ Below w.heap.size w w' := by
  have HB := Lib.hid (fun (W : World) (h : Below w.heap.size w W) => test_no pv rv lv ps rs ms q W (hp.below h) (hr.below h) (hm.below h) hE)
  have t1 : (tstE ps rs ms q != 0) = true := by rw [bne_iff_ne]; exact hE
  generalize tstE ps rs ms q = E at *
  clear hE
  obtain ⟨PA, pc, rfl, _, _, hps⟩ := hp
  obtain ⟨RV, vc, rfl, _, _, _⟩ := hr
  obtain ⟨LA, lc, us, rfl, hlc, hlm, hls, hlu⟩ := hm
  clear hls hlu hps
  obtain ⟨pn, hpn⟩ : ∃ n, ps.length = n := ⟨_, rfl⟩
  obtain ⟨n, hnn⟩ : ∃ n, ms.length = n := ⟨_, rfl⟩
  rw [hpn] at HB ⊢
  rw [hnn] at HB ⊢
  clear hpn hnn
  obtain ⟨W0, hW0⟩ : ∃ W0 : World, W0 = w.alloc (.cells #[.slice PA pn pc, .slice RV rs.length vc] 24) := ⟨_, rfl⟩
  have r0 : Row W0 w.heap.size 24 [.slice PA pn pc, .slice RV rs.length vc] := by
    rw [hW0]
    have := Row.new w 24 [.slice PA pn pc, .slice RV rs.length vc]
    simpa using this
  have B0 : Below w.heap.size w W0 := by rw [hW0]; exact ((Below.refl _ _).alloc (Nat.le_refl _) _)
  go_enter Tryd.func3, Tryd.ntmps3
  go_wp2_with fail
  rw [← hW0]
  clear hW0
  replace htab := htab.below B0
  have hgw0 := r0.lt
  have BB := B0
  have hr3 : Row W0 (w.heap.size) 24 [.slice PA pn pc, .slice RV rs.length vc] := r0
  clear B0 r0
  have c30 : W0.cell? ⟨w.heap.size, 0, none⟩ = some (.slice PA pn pc) := hr3.cell 0
  have c31 : W0.cell? ⟨w.heap.size, 1, none⟩ = some (.slice RV rs.length vc) := hr3.cell 1
  have z3 := hr3.lt
  go_wp2_with fail
  clear c30 c31 z3
  refine (HB.out _ BB).mono ?_
  rintro e x1 ⟨rfl, hb⟩
  replace hr3 := hr3.keep hb
  replace htab := htab.below hb
  replace BB : Below w.heap.size w x1 := BB.trans (hb.mono BB.size)
  clear hb
  obtain ⟨g7, hg7⟩ : ∃ g, x1.heap.size = g := ⟨_, rfl⟩
  have hr7 : Row (x1.alloc (.cells #[.bool false, .slice none 0 0, .slice none 0 0] 31)) g7 31 [.bool false, .slice none 0 0, .slice none 0 0] := row_at hg7
  have hl := lit_below x1 (.cells #[.bool false, .slice none 0 0, .slice none 0 0] 31)
  have o3_7 : w.heap.size < g7 := by have := hr3.lt; omega
  have ob_7 : w.heap.size ≤ g7 := by have := BB.size; omega
  have c30 : x1.cell? ⟨w.heap.size, 0, none⟩ = some (.slice PA pn pc) := hr3.cell 0
  have c31 : x1.cell? ⟨w.heap.size, 1, none⟩ = some (.slice RV rs.length vc) := hr3.cell 1
  have d30 : (x1.alloc (.cells #[.bool false, .slice none 0 0, .slice none 0 0] 31)).cell? ⟨w.heap.size, 0, none⟩ = some (.slice PA pn pc) := (hr3.alloc _).cell 0
  have d31 : (x1.alloc (.cells #[.bool false, .slice none 0 0, .slice none 0 0] 31)).cell? ⟨w.heap.size, 1, none⟩ = some (.slice RV rs.length vc) := (hr3.alloc _).cell 1
  have e0 : (x1.alloc (.cells #[.bool false, .slice none 0 0, .slice none 0 0] 31)).cell? ⟨g7, 0, none⟩ = some (.bool false) := hr7.cell 0
  have e1 : (x1.alloc (.cells #[.bool false, .slice none 0 0, .slice none 0 0] 31)).cell? ⟨g7, 1, none⟩ = some (.slice none 0 0) := hr7.cell 1
  have e2 : (x1.alloc (.cells #[.bool false, .slice none 0 0, .slice none 0 0] 31)).cell? ⟨g7, 2, none⟩ = some (.slice none 0 0) := hr7.cell 2
  go_wp2_with fail
  clear c30 c31 d30 d31 e0 e1 e2
  clear hg7
  generalize (x1.alloc (.cells #[.bool false, .slice none 0 0, .slice none 0 0] 31)) = x2 at *
  replace hr3 := hr3.keep hl
  replace htab := htab.below hl
  replace BB : Below w.heap.size w x2 := BB.trans (hl.mono BB.size)
  clear hl
  have c30 : x2.cell? ⟨w.heap.size, 0, none⟩ = some (.slice PA pn pc) := hr3.cell 0
  have c31 : x2.cell? ⟨w.heap.size, 1, none⟩ = some (.slice RV rs.length vc) := hr3.cell 1
  have c70 : x2.cell? ⟨g7, 0, none⟩ = some (.bool false) := hr7.cell 0
  have c71 : x2.cell? ⟨g7, 1, none⟩ = some (.slice none 0 0) := hr7.cell 1
  have c72 : x2.cell? ⟨g7, 2, none⟩ = some (.slice none 0 0) := hr7.cell 2
  have z3 := hr3.lt
  have z7 := hr7.lt
  go_wp2_with fail
  clear c30 c31 c70 c71 c72 z3 z7
  refine (awake_any _ htab).mono ?_
  rintro e x3 ⟨rfl, hb⟩
  replace hr3 := hr3.keep hb
  replace htab := htab.below hb
  replace hr7 := hr7.keep hb
  replace BB : Below w.heap.size w x3 := BB.trans (hb.mono BB.size)
  clear hb
  have c30 : x3.cell? ⟨w.heap.size, 0, none⟩ = some (.slice PA pn pc) := hr3.cell 0
  have c31 : x3.cell? ⟨w.heap.size, 1, none⟩ = some (.slice RV rs.length vc) := hr3.cell 1
  have c70 : x3.cell? ⟨g7, 0, none⟩ = some (.bool false) := hr7.cell 0
  have c71 : x3.cell? ⟨g7, 1, none⟩ = some (.slice none 0 0) := hr7.cell 1
  have c72 : x3.cell? ⟨g7, 2, none⟩ = some (.slice none 0 0) := hr7.cell 2
  have z3 := hr3.lt
  have z7 := hr7.lt
  go_wp2_with fail
  clear c30 c31 c70 c71 c72 z3 z7
  go_ret
  exact ⟨rfl, BB⟩
set_option maxHeartbeats 64000000 in
theorem ladd_ok (pv rv lv : Value) (ps rs : List Int) (ms : List Mdl) (q : Nat) (w : World) (hp : Nums .i64 w pv ps) (hr : Nums .i64 w rv rs) (hm : ModL w lv ms) (htab : Pow10 w) (hE : tstE ps rs ms (q : Int) = 0) :
    Calls Tryd.prog 3 #[.agg #[pv, rv], lv, .int .i64 (q : Int)] w fun e w' => e = .returned (.bool true) ∧ Below w.heap.size w w' := by
  obtain ⟨Z, hZ⟩ := lam_ex
  obtain ⟨e1, e2, e3, e4⟩ := tstE_zero hE
  obtain ⟨h60, hmods⟩ := testE_zero e2
  have hqn : q < ps.length := by omega
  obtain ⟨D0, D1⟩ := inD_bd hZ e1 hqn
  have HDP := Lib.hid D0
  have hp21 : ps.length ≤ 21 := (gridE_zero e1).1
  have HTT := Lib.hid (fun (W : World) (h : Below w.heap.size w W) => test_ok pv rv lv ps rs ms q Z W (hp.below h) (hr.below h) (hm.below h) hZ hE)
  have hER : tstE ps rs ms.reverse (q : Int) = 0 := by
    unfold tstE
    rw [if_neg (by simpa using e1), if_neg (by simpa using testE_rev e2), if_neg (by omega)]
  have HTR := Lib.hid (fun (W : World) (u : Value) (h : Below w.heap.size w W) (hu : ModL W u ms.reverse) => test_ok pv rv u ps rs ms.reverse q Z W (hp.below h) (hr.below h) hu hZ hER)
  rw [sumF_rev] at HTR
  have HCU := Lib.hid (fun (W : World) (h : Below w.heap.size w W) => curve_at pv rv lv ps rs ms q Z W (hp.below h) (hr.below h) (hm.below h) hZ (by unfold crvE; rw [if_neg (by simpa using e1)]; exact e2) hqn)
  have HIN : Hid (∀ j, j < ms.length → ∀ W u, Nums .i64 W pv ps → Nums .i64 W rv rs → IntsL W u (ms.getD j []) → Calls Tryd.prog 9 #[.agg #[pv, rv], .agg #[u], .int .i64 (q : Int)] W fun e w' => ∃ x, e = .returned (.tuple #[x, .int .i64 0]) ∧ RatF W.heap.size w' x (redP (tsF Z ms ps.length q j) (ifD Z ps q)) (redQ (tsF Z ms ps.length q j) (ifD Z ps q)) 330 ∧ Below W.heap.size W w') :=
    fun j hj W u h1 h2 h3 => item_ok pv rv u ps rs (ms.getD j []) q Z W h1 h2 h3 hZ (by unfold itemE; rw [if_neg (by simpa using e1), if_neg (by simpa using hmods j hj), if_neg (by omega)])
  have HBD : Hid (∀ j, j ≤ ms.length → (redP (mom (tsF Z ms ps.length q) j) (ifD Z ps q)).natAbs < bp 330 ∧ redQ (mom (tsF Z ms ps.length q) j) (ifD Z ps q) < bp 330) := fun j hj => by
    obtain ⟨b1, b2⟩ := ts_bd (Z := Z) hmods hqn h60 hj
    exact red_bd hZ b1 (by have : 0 ≤ (Z : Int) := Int.natCast_nonneg _; omega) (by omega)
  have HSP : Hid (redP (mom (tsF Z ms ps.length q) ms.length) (ifD Z ps q) = redP (sumF Z ms ps.length q) (ifD Z ps q) ∧ redQ (mom (tsF Z ms ps.length q) ms.length) (ifD Z ps q) = redQ (sumF Z ms ps.length q) (ifD Z ps q)) := ⟨rfl, rfl⟩
  have hQ0 := redQ_pos (p := sumF Z ms ps.length q) D0
  obtain ⟨P, hPe⟩ : ∃ x, redP (sumF Z ms ps.length q) (ifD Z ps q) = x := ⟨_, rfl⟩
  obtain ⟨Q, hQe⟩ : ∃ x, redQ (sumF Z ms ps.length q) (ifD Z ps q) = x := ⟨_, rfl⟩
  rw [hPe, hQe] at HTT HTR HCU HSP
  rw [hQe] at hQ0
  have hQ : 0 < Q := hQ0
  clear hPe hQe hQ0
  generalize tsF Z ms ps.length q = f at *
  generalize ifD Z ps q = D at *
  clear e1 e2 e3 e4 hE hER hmods D0 D1
  have HP := Lib.hid hp
  have HR := Lib.hid hr
  obtain ⟨PA, pc, rfl, _, _, hps⟩ := hp
  obtain ⟨RV, vc, rfl, _, _, _⟩ := hr
  obtain ⟨LA, lc, us, rfl, hlc, hlm, hls, hlu⟩ := hm
  have HLU := Lib.hid hlu
  clear hlu
  obtain ⟨pn, hpn⟩ : ∃ n, ps.length = n := ⟨_, rfl⟩
  obtain ⟨n, hnn⟩ : ∃ n, ms.length = n := ⟨_, rfl⟩
  rw [hpn] at HTT HTR HCU HIN HP hqn hp21 ⊢
  rw [hnn] at HTT HCU HIN HBD HSP hls h60 ⊢
  have HNN := Lib.hid hnn
  clear hpn hnn hps
  obtain ⟨W0, hW0⟩ : ∃ W0 : World, W0 = w.alloc (.cells #[.slice PA pn pc, .slice RV rs.length vc] 24) := ⟨_, rfl⟩
  have r0 : Row W0 w.heap.size 24 [.slice PA pn pc, .slice RV rs.length vc] := by
    rw [hW0]
    have := Row.new w 24 [.slice PA pn pc, .slice RV rs.length vc]
    simpa using this
  have B0 : Below w.heap.size w W0 := by rw [hW0]; exact ((Below.refl _ _).alloc (Nat.le_refl _) _)
  go_enter Tryd.func3, Tryd.ntmps3
  go_wp2_with fail
  rw [← hW0]
  clear hW0
  replace htab := htab.below B0
  have hgw0 := r0.lt
  have BB := B0
  have hr3 : Row W0 (w.heap.size) 24 [.slice PA pn pc, .slice RV rs.length vc] := r0
  clear B0 r0
  have c30 : W0.cell? ⟨w.heap.size, 0, none⟩ = some (.slice PA pn pc) := hr3.cell 0
  have c31 : W0.cell? ⟨w.heap.size, 1, none⟩ = some (.slice RV rs.length vc) := hr3.cell 1
  have z3 := hr3.lt
  go_wp2_with fail
  clear c30 c31 z3
  refine (HTT.out _ BB).mono ?_
  rintro e x1 ⟨v7, rfl, hv7, hb⟩
  replace hr3 := hr3.keep hb
  replace htab := htab.below hb
  replace BB : Below w.heap.size w x1 := BB.trans (hb.mono BB.size)
  clear hb
  have h7' := hv7
  obtain ⟨m7, d7, e7, hm7, hd7, _, _⟩ := h7'
  subst e7
  obtain ⟨A7, k7, c7, rfl⟩ := hm7.lim1.choose_spec.1.show_
  obtain ⟨D7, l7, b7, rfl⟩ := hd7.lim1.choose_spec.1.show_
  clear hm7 hd7
  have phr3 := hr3
  have phv7 := hv7
  have phtab := htab
  have hgw := hr3.lt
  have BBp := BB
  obtain ⟨g7, hg7⟩ : ∃ g, x1.heap.size = g := ⟨_, rfl⟩
  have hr7 : Row ((((x1.alloc (.cells #[.bool (decide (P < 0)), .slice A7 k7 c7, .slice D7 l7 b7] 31)).alloc (.cells #[.int .u32 1] 36)).alloc (.cells #[.bool false, .slice none 0 0, .slice (some ⟨g7 + 1, 0, none⟩) 1 1] 31)).alloc (.cells #[] 40)) (g7) 31 [.bool (decide (P < 0)), .slice A7 k7 c7, .slice D7 l7 b7] := Row.alloc (Row.alloc (Row.alloc (row_at (w := x1) (g := g7) (by simp [hg7])) (.cells #[.int .u32 1] 36)) (.cells #[.bool false, .slice none 0 0, .slice (some ⟨g7 + 1, 0, none⟩) 1 1] 31)) (.cells #[] 40)
  have hro : Row ((((x1.alloc (.cells #[.bool (decide (P < 0)), .slice A7 k7 c7, .slice D7 l7 b7] 31)).alloc (.cells #[.int .u32 1] 36)).alloc (.cells #[.bool false, .slice none 0 0, .slice (some ⟨g7 + 1, 0, none⟩) 1 1] 31)).alloc (.cells #[] 40)) (g7 + 1) 36 [.int .u32 1] := Row.alloc (Row.alloc (row_at (w := (x1.alloc (.cells #[.bool (decide (P < 0)), .slice A7 k7 c7, .slice D7 l7 b7] 31))) (g := g7 + 1) (by simp [hg7])) (.cells #[.bool false, .slice none 0 0, .slice (some ⟨g7 + 1, 0, none⟩) 1 1] 31)) (.cells #[] 40)
  have hr9 : Row ((((x1.alloc (.cells #[.bool (decide (P < 0)), .slice A7 k7 c7, .slice D7 l7 b7] 31)).alloc (.cells #[.int .u32 1] 36)).alloc (.cells #[.bool false, .slice none 0 0, .slice (some ⟨g7 + 1, 0, none⟩) 1 1] 31)).alloc (.cells #[] 40)) (g7 + 1 + 1) 31 [.bool false, .slice none 0 0, .slice (some ⟨g7 + 1, 0, none⟩) 1 1] := Row.alloc (row_at (w := ((x1.alloc (.cells #[.bool (decide (P < 0)), .slice A7 k7 c7, .slice D7 l7 b7] 31)).alloc (.cells #[.int .u32 1] 36))) (g := g7 + 1 + 1) (by simp [hg7])) (.cells #[] 40)
  have hrz : Row ((((x1.alloc (.cells #[.bool (decide (P < 0)), .slice A7 k7 c7, .slice D7 l7 b7] 31)).alloc (.cells #[.int .u32 1] 36)).alloc (.cells #[.bool false, .slice none 0 0, .slice (some ⟨g7 + 1, 0, none⟩) 1 1] 31)).alloc (.cells #[] 40)) (g7 + 1 + 1 + 1) 40 [] := row_at (w := (((x1.alloc (.cells #[.bool (decide (P < 0)), .slice A7 k7 c7, .slice D7 l7 b7] 31)).alloc (.cells #[.int .u32 1] 36)).alloc (.cells #[.bool false, .slice none 0 0, .slice (some ⟨g7 + 1, 0, none⟩) 1 1] 31))) (g := g7 + 1 + 1 + 1) (by simp [hg7])
  have hl : Below x1.heap.size x1 ((((x1.alloc (.cells #[.bool (decide (P < 0)), .slice A7 k7 c7, .slice D7 l7 b7] 31)).alloc (.cells #[.int .u32 1] 36)).alloc (.cells #[.bool false, .slice none 0 0, .slice (some ⟨g7 + 1, 0, none⟩) 1 1] 31)).alloc (.cells #[] 40)) := lit_more (lit_more (lit_more (lit_below x1 _) _) _) _
  have o3_7 : w.heap.size < g7 := by have := hr3.lt; omega
  have ob_7 : w.heap.size ≤ g7 := by have := BB.size; omega
  have c30 : x1.cell? ⟨w.heap.size, 0, none⟩ = some (.slice PA pn pc) := hr3.cell 0
  have c31 : x1.cell? ⟨w.heap.size, 1, none⟩ = some (.slice RV rs.length vc) := hr3.cell 1
  have d1_30 : (x1.alloc (.cells #[.bool (decide (P < 0)), .slice A7 k7 c7, .slice D7 l7 b7] 31)).cell? ⟨w.heap.size, 0, none⟩ = some (.slice PA pn pc) := (hr3.alloc _).cell 0
  have d1_31 : (x1.alloc (.cells #[.bool (decide (P < 0)), .slice A7 k7 c7, .slice D7 l7 b7] 31)).cell? ⟨w.heap.size, 1, none⟩ = some (.slice RV rs.length vc) := (hr3.alloc _).cell 1
  have d2_30 : ((x1.alloc (.cells #[.bool (decide (P < 0)), .slice A7 k7 c7, .slice D7 l7 b7] 31)).alloc (.cells #[.int .u32 1] 36)).cell? ⟨w.heap.size, 0, none⟩ = some (.slice PA pn pc) := ((hr3.alloc _).alloc _).cell 0
  have d2_31 : ((x1.alloc (.cells #[.bool (decide (P < 0)), .slice A7 k7 c7, .slice D7 l7 b7] 31)).alloc (.cells #[.int .u32 1] 36)).cell? ⟨w.heap.size, 1, none⟩ = some (.slice RV rs.length vc) := ((hr3.alloc _).alloc _).cell 1
  have d3_30 : (((x1.alloc (.cells #[.bool (decide (P < 0)), .slice A7 k7 c7, .slice D7 l7 b7] 31)).alloc (.cells #[.int .u32 1] 36)).alloc (.cells #[.bool false, .slice none 0 0, .slice (some ⟨g7 + 1, 0, none⟩) 1 1] 31)).cell? ⟨w.heap.size, 0, none⟩ = some (.slice PA pn pc) := (((hr3.alloc _).alloc _).alloc _).cell 0
  have d3_31 : (((x1.alloc (.cells #[.bool (decide (P < 0)), .slice A7 k7 c7, .slice D7 l7 b7] 31)).alloc (.cells #[.int .u32 1] 36)).alloc (.cells #[.bool false, .slice none 0 0, .slice (some ⟨g7 + 1, 0, none⟩) 1 1] 31)).cell? ⟨w.heap.size, 1, none⟩ = some (.slice RV rs.length vc) := (((hr3.alloc _).alloc _).alloc _).cell 1
  have d4_30 : ((((x1.alloc (.cells #[.bool (decide (P < 0)), .slice A7 k7 c7, .slice D7 l7 b7] 31)).alloc (.cells #[.int .u32 1] 36)).alloc (.cells #[.bool false, .slice none 0 0, .slice (some ⟨g7 + 1, 0, none⟩) 1 1] 31)).alloc (.cells #[] 40)).cell? ⟨w.heap.size, 0, none⟩ = some (.slice PA pn pc) := ((((hr3.alloc _).alloc _).alloc _).alloc _).cell 0
  have d4_31 : ((((x1.alloc (.cells #[.bool (decide (P < 0)), .slice A7 k7 c7, .slice D7 l7 b7] 31)).alloc (.cells #[.int .u32 1] 36)).alloc (.cells #[.bool false, .slice none 0 0, .slice (some ⟨g7 + 1, 0, none⟩) 1 1] 31)).alloc (.cells #[] 40)).cell? ⟨w.heap.size, 1, none⟩ = some (.slice RV rs.length vc) := ((((hr3.alloc _).alloc _).alloc _).alloc _).cell 1
  have e0_0 : ((((x1.alloc (.cells #[.bool (decide (P < 0)), .slice A7 k7 c7, .slice D7 l7 b7] 31)).alloc (.cells #[.int .u32 1] 36)).alloc (.cells #[.bool false, .slice none 0 0, .slice (some ⟨g7 + 1, 0, none⟩) 1 1] 31)).alloc (.cells #[] 40)).cell? ⟨g7, 0, none⟩ = some (.bool (decide (P < 0))) := hr7.cell 0
  have e0_1 : ((((x1.alloc (.cells #[.bool (decide (P < 0)), .slice A7 k7 c7, .slice D7 l7 b7] 31)).alloc (.cells #[.int .u32 1] 36)).alloc (.cells #[.bool false, .slice none 0 0, .slice (some ⟨g7 + 1, 0, none⟩) 1 1] 31)).alloc (.cells #[] 40)).cell? ⟨g7, 1, none⟩ = some (.slice A7 k7 c7) := hr7.cell 1
  have e0_2 : ((((x1.alloc (.cells #[.bool (decide (P < 0)), .slice A7 k7 c7, .slice D7 l7 b7] 31)).alloc (.cells #[.int .u32 1] 36)).alloc (.cells #[.bool false, .slice none 0 0, .slice (some ⟨g7 + 1, 0, none⟩) 1 1] 31)).alloc (.cells #[] 40)).cell? ⟨g7, 2, none⟩ = some (.slice D7 l7 b7) := hr7.cell 2
  have e1_0 : ((((x1.alloc (.cells #[.bool (decide (P < 0)), .slice A7 k7 c7, .slice D7 l7 b7] 31)).alloc (.cells #[.int .u32 1] 36)).alloc (.cells #[.bool false, .slice none 0 0, .slice (some ⟨g7 + 1, 0, none⟩) 1 1] 31)).alloc (.cells #[] 40)).cell? ⟨g7 + 1, 0, none⟩ = some (.int .u32 1) := hro.cell 0
  have e2_0 : ((((x1.alloc (.cells #[.bool (decide (P < 0)), .slice A7 k7 c7, .slice D7 l7 b7] 31)).alloc (.cells #[.int .u32 1] 36)).alloc (.cells #[.bool false, .slice none 0 0, .slice (some ⟨g7 + 1, 0, none⟩) 1 1] 31)).alloc (.cells #[] 40)).cell? ⟨g7 + 1 + 1, 0, none⟩ = some (.bool false) := hr9.cell 0
  have e2_1 : ((((x1.alloc (.cells #[.bool (decide (P < 0)), .slice A7 k7 c7, .slice D7 l7 b7] 31)).alloc (.cells #[.int .u32 1] 36)).alloc (.cells #[.bool false, .slice none 0 0, .slice (some ⟨g7 + 1, 0, none⟩) 1 1] 31)).alloc (.cells #[] 40)).cell? ⟨g7 + 1 + 1, 1, none⟩ = some (.slice none 0 0) := hr9.cell 1
  have e2_2 : ((((x1.alloc (.cells #[.bool (decide (P < 0)), .slice A7 k7 c7, .slice D7 l7 b7] 31)).alloc (.cells #[.int .u32 1] 36)).alloc (.cells #[.bool false, .slice none 0 0, .slice (some ⟨g7 + 1, 0, none⟩) 1 1] 31)).alloc (.cells #[] 40)).cell? ⟨g7 + 1 + 1, 2, none⟩ = some (.slice (some ⟨g7 + 1, 0, none⟩) 1 1) := hr9.cell 2
  go_wp2_with fail
  clear c30 c31 e0_0 e0_1 e0_2 e1_0 e2_0 e2_1 e2_2 d1_30 d1_31 d2_30 d2_31 d3_30 d3_31 d4_30 d4_31
  have HQ := Lib.hid hg7
  clear hg7
  generalize ((((x1.alloc (.cells #[.bool (decide (P < 0)), .slice A7 k7 c7, .slice D7 l7 b7] 31)).alloc (.cells #[.int .u32 1] 36)).alloc (.cells #[.bool false, .slice none 0 0, .slice (some ⟨g7 + 1, 0, none⟩) 1 1] 31)).alloc (.cells #[] 40)) = x2 at *
  have BQ0 := Lib.hid hl
  replace hr3 := hr3.keep hl
  replace htab := htab.below hl
  replace hv7 := hv7.below hl
  replace BB : Below w.heap.size w x2 := BB.trans (hl.mono BB.size)
  clear hl
  have hlit := lit_one hro
  have phr7 := hr7
  have gz9 := hr9.lt
  obtain ⟨g9, HG1⟩ : ∃ g, Hid (g7 + 1 + 1 = g) := ⟨_, rfl⟩
  have hrz0 : Row _ (g7 + 1 + 1 + 1) _ [] := hrz
  rw [HG1.out] at hr9 hrz0 gz9 ⊢
  have HGX : Hid (x1.heap.size ≤ g7 ∧ g7 < g9 ∧ g9 < x2.heap.size) := (by have h1 := HQ.out; have h2 := HG1.out; exact ⟨by omega, by omega, gz9⟩)
  have howz : x2.ownsRow (g9 + 1) 40 1 (.slice (some ⟨g9 + 1, 0, none⟩) 0 0) 0 (us.reverse.take 0) := own_row0 hrz0
  clear hr3 hr7 hro hrz hrz0 hv7 htab BB gz9
  go_loopw [10, 11] (fun bv iv wr => ∃ (k : Nat) (VA : Option Addr) (cv : Nat) (v0 v1 v2 : Value), k ≤ n ∧ bv = .slice VA k cv ∧ iv = .int .i64 (k : Int) ∧ wr.ownsRow (g9 + 1) 40 1 (.slice VA k cv) k (us.reverse.take k) ∧ Row wr g9 31 [v0, v1, v2] ∧ RatF 0 wr (.agg #[v0, v1, v2]) (redP (mom f k) D) (redQ (mom f k) D) 330 ∧ Below g9 x2 wr) (fun _ iv _ => n - (intOf iv).toNat)
  case atStart => exact ⟨0, _, 0, _, _, _, by omega, rfl, rfl, howz, hr9, (by rw [show mom f 0 = 0 from rfl, red_nul.1 HDP.out, red_nul.2 HDP.out]; exact (hlit.base (Nat.zero_le _)).mono (by decide)), Below.refl _ _⟩
  case round =>
    clear hr9 hlit howz
    obtain ⟨k, VA, cv, v0, v1, v2, hk, rfl, rfl, hown, hr9, hv9, BQ⟩ := hrel
    have BX : Below x1.heap.size x1 wr := BQ0.out.trans (BQ.mono (Nat.le_trans HGX.out.1 (Nat.le_of_lt HGX.out.2.1)))
    have BB := BBp.trans (BX.mono BBp.size)
    have hr3 := phr3.keep BX
    have hr7 := phr7.below BQ HGX.out.2.1
    have hv7 := phv7.below BX
    have htab := phtab.below BX
    clear phr3 phv7 phtab BX
    by_cases hlt : k < n
    · have hkI : (k : Int) < (n : Int) := by omega
      obtain ⟨lb, lo, hLA, hcl0⟩ := hls.2 (Nat.lt_of_le_of_lt (Nat.zero_le _) hlt)
      subst hLA
      have hcl : Hid (∀ i x, us[i]? = some x → w.cell? ⟨lb, lo + i, none⟩ = some x) := hcl0
      clear hcl0
      clear hr7 hv7 htab
      obtain ⟨bi, oi, ui, hLAk, hbi, hci, hui0⟩ := lst_at (R := IntsL) (d := []) (xs := ms) hls HLU.out hlt
      obtain ⟨rfl, rfl⟩ : lb = bi ∧ lo = oi := by injection hLAk with h; injection h with h1 h2 h3; exact ⟨h1, h2⟩
      clear hLAk
      have HII := Lib.hid (HIN.out k hlt)
      obtain ⟨mi, hmi⟩ : ∃ x, ms.getD k [] = x := ⟨_, rfl⟩
      rw [hmi] at HII hui0
      clear hmi
      obtain ⟨MA, mc, mus, rfl, _, _, _, _⟩ := id hui0
      obtain ⟨ml, hml⟩ : ∃ x, mi.length = x := ⟨_, rfl⟩
      rw [hml] at hci hui0
      clear hml
      have hui := hui0.below BB
      have gi := (BB.cell (p := ⟨lb, lo + k, none⟩) hbi).trans hci
      have hp0 := HP.out.below BB
      have hr0 := HR.out.below BB
      have hoj : ∀ j, (Value.slice VA k cv).ownBlock = some j → j < wr.heap.size := fun j hj => (hown.lt j hj).2
      have c30 : wr.cell? ⟨w.heap.size, 0, none⟩ = some (.slice PA pn pc) := hr3.cell 0
      have c31 : wr.cell? ⟨w.heap.size, 1, none⟩ = some (.slice RV rs.length vc) := hr3.cell 1
      have c90 : wr.cell? ⟨g9, 0, none⟩ = some (v0) := hr9.cell 0
      have c91 : wr.cell? ⟨g9, 1, none⟩ = some (v1) := hr9.cell 1
      have c92 : wr.cell? ⟨g9, 2, none⟩ = some (v2) := hr9.cell 2
      have z3 := hr3.lt
      have z9 := hr9.lt
      go_wp2_with fail
      have qs0 : wr.cell? ⟨w.heap.size, 0, none⟩ = some (.slice PA pn pc) := hr3.cell 0
      have qs1 : wr.cell? ⟨w.heap.size, 1, none⟩ = some (.slice RV rs.length vc) := hr3.cell 1
      have zs0 := hr3.lt
      have qs2 : wr.cell? ⟨lb, lo + k, none⟩ = some (.slice MA ml mc) := gi
      have zs1 := Nat.lt_of_lt_of_le hbi BB.size
      go_cut [12, 13] (fun s0 s1 wx => ∃ (g : Nat) (A12 : Option Addr) (k12 c12 : Nat) (D12 : Option Addr) (l12 b12 : Nat), s0 = .pointer (some ⟨g, 0, none⟩) ∧ wr.heap.size ≤ g ∧ Row wx g 31 [.bool (decide ((redP (f k) D) < 0)), .slice A12 k12 c12, .slice D12 l12 b12] ∧ RatF wr.heap.size wx (.agg #[.bool (decide ((redP (f k) D) < 0)), .slice A12 k12 c12, .slice D12 l12 b12]) (redP (f k) D) (redQ (f k) D) 330 ∧ s1 = .int .i64 0 ∧ Below wr.heap.size wr wx)
      case first =>
        go_region_held3 (fun w' => w'.cell? ⟨w.heap.size, 0, none⟩ = some (.slice PA pn pc) ∧ w'.cell? ⟨w.heap.size, 1, none⟩ = some (.slice RV rs.length vc) ∧ w'.cell? ⟨lb, lo + k, none⟩ = some (.slice MA ml mc))
          ((refine keep3c zs0 zs0 zs1 qs0 qs1 qs2 ?_; (repeat (first | with_reducible exact Below.refl _ _ | ((with_reducible refine bl_set ?_ ?_ _); rotate_left; (first | exact Nat.le_refl _ | exact gz4)) | with_reducible refine bl_call h4 ?_ | with_reducible refine bl_alloc ?_ _ | with_reducible refine bl_drew ?_)); done))
          (first
            | (go_at_call 9; ((with_reducible refine (HII.out _ _ (hp0.below ?_) (hr0.below ?_) (hui.below ?_)).mono ?_); (repeat (first | with_reducible exact Below.refl _ _ | ((with_reducible refine bl_set ?_ ?_ _); rotate_left; (first | exact Nat.le_refl _ | exact gz4)) | with_reducible refine bl_call h4 ?_ | with_reducible refine bl_alloc ?_ _ | with_reducible refine bl_drew ?_)); (repeat (first | with_reducible exact Below.refl _ _ | ((with_reducible refine bl_set ?_ ?_ _); rotate_left; (first | exact Nat.le_refl _ | exact gz4)) | with_reducible refine bl_call h4 ?_ | with_reducible refine bl_alloc ?_ _ | with_reducible refine bl_drew ?_)); (repeat (first | with_reducible exact Below.refl _ _ | ((with_reducible refine bl_set ?_ ?_ _); rotate_left; (first | exact Nat.le_refl _ | exact gz4)) | with_reducible refine bl_call h4 ?_ | with_reducible refine bl_alloc ?_ _ | with_reducible refine bl_drew ?_)); rintro e w4 ⟨v4, rfl, hR4, h4⟩; have gz4 : wr.heap.size ≤ w4.heap.size := (bl_call h4 (by (repeat (first | with_reducible exact Below.refl _ _ | ((with_reducible refine bl_set ?_ ?_ _); rotate_left; (first | exact Nat.le_refl _ | exact gz4)) | with_reducible refine bl_call h4 ?_ | with_reducible refine bl_alloc ?_ _ | with_reducible refine bl_drew ?_))) : Below wr.heap.size wr w4).size; (first | (have zg := RR.lt; replace RR := RR.keep h4) | (have R0 := Row.drew (Row.new wr 31 [.bool false, .slice none 0 0, .slice none 0 0]); have zg := R0.lt; have RR := R0.keep h4) | (have R0 := Row.new wr.drew 31 [.bool false, .slice none 0 0, .slice none 0 0]; have zg := R0.lt; have RR := R0.keep h4) | (have R0 := Row.new wr 31 [.bool false, .slice none 0 0, .slice none 0 0]; have zg := R0.lt; have RR := R0.keep h4) | skip); have hR4' := hR4; obtain ⟨m6, d6, e6, hm6, hd6, _, _⟩ := hR4'; subst e6; obtain ⟨A12, k12, c12, rfl⟩ := hm6.lim1.choose_spec.1.show_; obtain ⟨D12, l12, b12, rfl⟩ := hd6.lim1.choose_spec.1.show_; clear hm6 hd6; (try (have e0 := RR.cell 0; have e1 := RR.cell 1; have e2 := RR.cell 2; simp only [List.getElem?_cons_zero, List.getElem?_cons_succ] at e0 e1 e2; have f0 := RR.frozen 0; have f1 := RR.frozen 1; have f2 := RR.frozen 2)))))
        all_goals go_wp2_with fail
        all_goals go_meet
        all_goals go_light
        all_goals
          refine ⟨_, A12, k12, c12, D12, l12, b12, rfl, ?_, ?_, ?_, rfl, ?_⟩
          · (first | exact Nat.le_refl _ | exact gz4)
          · (first | exact Row.new _ _ _ | exact (((RR.set_ 0 _).set_ 1 _).set_ 2 _))
          · (first | exact (hR4.below (lit_below _ _)).base (bl_sz (by (repeat (first | with_reducible exact Below.refl _ _ | ((with_reducible refine bl_set ?_ ?_ _); rotate_left; (first | exact Nat.le_refl _ | exact gz4)) | with_reducible refine bl_call h4 ?_ | with_reducible refine bl_alloc ?_ _ | with_reducible refine bl_drew ?_)))) | exact ((((hR4.set_ zg _).set_ zg _).set_ zg _)).base (bl_sz (by (repeat (first | with_reducible exact Below.refl _ _ | ((with_reducible refine bl_set ?_ ?_ _); rotate_left; (first | exact Nat.le_refl _ | exact gz4)) | with_reducible refine bl_call h4 ?_ | with_reducible refine bl_alloc ?_ _ | with_reducible refine bl_drew ?_)))))
          · (repeat (first | with_reducible exact Below.refl _ _ | ((with_reducible refine bl_set ?_ ?_ _); rotate_left; (first | exact Nat.le_refl _ | exact gz4)) | with_reducible refine bl_call h4 ?_ | with_reducible refine bl_alloc ?_ _ | with_reducible refine bl_drew ?_))
      case rest =>
      obtain ⟨g12, A12, k12, c12, D12, l12, b12, rfl, hg12, hr12, hv12, rfl, hbc⟩ := hcut
      clear qs0 qs1 qs2 zs0 zs1 c30 c31 c90 c91 c92 z3 z9
      obtain ⟨x61, hx61⟩ : ∃ x, x = wc := ⟨_, rfl⟩
      rw [← hx61] at hr12 hv12 hbc ⊢
      clear hx61
      have o3_12 : w.heap.size < g12 := by have := hr3.lt; omega
      have o9_12 : g9 < g12 := by have := hr9.lt; omega
      have ob_12 : w.heap.size ≤ g12 := by have := BB.size; omega
      replace hr3 := hr3.keep hbc
      replace hr9 := hr9.keep hbc
      replace hown := own_keep hown hbc
      replace hv9 := hv9.below hbc
      replace BQ : Below g9 x2 x61 := BQ.trans (hbc.mono (Nat.le_trans (Nat.le_of_lt HGX.out.2.2) BQ.size))
      replace BB : Below w.heap.size w x61 := BB.trans (hbc.mono BB.size)
      clear hbc
      clear hp0 hr0 hui hui0 gi HII hci hbi
      skip
      have c30 : x61.cell? ⟨w.heap.size, 0, none⟩ = some (.slice PA pn pc) := hr3.cell 0
      have c31 : x61.cell? ⟨w.heap.size, 1, none⟩ = some (.slice RV rs.length vc) := hr3.cell 1
      have c90 : x61.cell? ⟨g9, 0, none⟩ = some (v0) := hr9.cell 0
      have c91 : x61.cell? ⟨g9, 1, none⟩ = some (v1) := hr9.cell 1
      have c92 : x61.cell? ⟨g9, 2, none⟩ = some (v2) := hr9.cell 2
      have c120 : x61.cell? ⟨g12, 0, none⟩ = some (.bool (decide ((redP (f k) D) < 0))) := hr12.cell 0
      have c121 : x61.cell? ⟨g12, 1, none⟩ = some (.slice A12 k12 c12) := hr12.cell 1
      have c122 : x61.cell? ⟨g12, 2, none⟩ = some (.slice D12 l12 b12) := hr12.cell 2
      have z3 := hr3.lt
      have z9 := hr9.lt
      have z12 := hr12.lt
      go_wp2_with fail
      clear c30 c31 c90 c91 c92 c120 c121 c122 z3 z9 z12
      refine (qadd_wide _ _ _ _ _ _ 330 _ (hv9.ratA (redQ_pos HDP.out)) (hv12.ratA (redQ_pos HDP.out)) (by decide) (by decide)).mono ?_
      have yy9 := hr9.lt
      have hoj1 : ∀ j, (Value.slice VA k cv).ownBlock = some j → j < x61.heap.size := fun j hj => (hown.lt j hj).2
      rintro e x62 ⟨v20, rfl, hv20, hb⟩
      replace hr3 := hr3.keep hb
      replace hr9 := hr9.keep hb
      replace hown := own_keep hown hb
      replace hv9 := hv9.below hb
      replace hr12 := hr12.keep hb
      replace hv12 := hv12.below hb
      replace BQ : Below g9 x2 x62 := BQ.trans (hb.mono (Nat.le_trans (Nat.le_of_lt HGX.out.2.2) BQ.size))
      replace BB : Below w.heap.size w x62 := BB.trans (hb.mono BB.size)
      clear hb
      rw [(add_red (mom f k) (f k) _ HDP.out).1, (add_red (mom f k) (f k) _ HDP.out).2] at hv20
      rw [show mom f k + f k = mom f (k + 1) from rfl] at hv20
      replace hv20 := hv20.cut (HBD.out (k + 1) hlt).1 (HBD.out (k + 1) hlt).2
      have h20' := hv20
      obtain ⟨m20, d20, e20, hm20, hd20, _, _⟩ := h20'
      subst e20
      obtain ⟨A20, k20, c20, rfl⟩ := hm20.lim1.choose_spec.1.show_
      obtain ⟨D20, l20, b20, rfl⟩ := hd20.lim1.choose_spec.1.show_
      clear hm20 hd20
      clear hv9 hv12 hr12
      have hw9 : w.heap.size ≤ g9 := Nat.le_trans (Nat.le_trans BBp.size HGX.out.1) (Nat.le_of_lt HGX.out.2.1)
      have o3_9 : w.heap.size < g9 := Nat.lt_of_lt_of_le hgw (Nat.le_trans HGX.out.1 (Nat.le_of_lt HGX.out.2.1))
      obtain ⟨j, hj⟩ : ∃ j, j = n - 1 - k := ⟨_, rfl⟩
      have hjn : j < n := by omega
      have ej : (n : Int) - 1 - (k : Int) = (j : Int) := by omega
      have ejk : n - 1 - k = j := by omega
      have HJ := Lib.hid hj
      clear hj
      obtain ⟨bj, oj, uj, hLAj, hbj, hcj, huj0⟩ := lst_at (R := IntsL) (d := []) (xs := ms) hls HLU.out hjn
      obtain ⟨rfl, rfl⟩ : lb = bj ∧ lo = oj := by injection hLAj with h; injection h with h1 h2 h3; exact ⟨h1, h2⟩
      clear hLAj
      obtain ⟨NA, nc, nus, rfl, _, _, _, _⟩ := id huj0
      have HUJ : Hid (us.reverse.take (k + 1) = us.reverse.take k ++ [.slice NA (ms.getD j []).length nc]) := rev_snoc hls.1 hlt HJ.out hcj hcl.out
      generalize (ms.getD j []).length = nl at hcj HUJ
      clear huj0
      have gj := (BB.cell (p := ⟨lb, lo + j, none⟩) hbj).trans hcj
      have zlb : lb < w.heap.size := hbj
      have gj2 := gj
      have c30 : x62.cell? ⟨w.heap.size, 0, none⟩ = some (.slice PA pn pc) := hr3.cell 0
      have c31 : x62.cell? ⟨w.heap.size, 1, none⟩ = some (.slice RV rs.length vc) := hr3.cell 1
      have c90 : x62.cell? ⟨g9, 0, none⟩ = some (v0) := hr9.cell 0
      have c91 : x62.cell? ⟨g9, 1, none⟩ = some (v1) := hr9.cell 1
      have c92 : x62.cell? ⟨g9, 2, none⟩ = some (v2) := hr9.cell 2
      have f90 : x62.frozen? ⟨g9, 0, none⟩ = false := hr9.frozen 0
      have f91 : x62.frozen? ⟨g9, 1, none⟩ = false := hr9.frozen 1
      have f92 : x62.frozen? ⟨g9, 2, none⟩ = false := hr9.frozen 2
      have z3 := hr3.lt
      have z9 := hr9.lt
      have nhr3 : Row (((x62.setCell ⟨g9, 0, none⟩ (.bool (decide (redP (mom f (k + 1)) D < 0)))).setCell ⟨g9, 1, none⟩ (.slice A20 k20 c20)).setCell ⟨g9, 2, none⟩ (.slice D20 l20 b20)) (w.heap.size) 24 [.slice PA pn pc, .slice RV rs.length vc] := (((hr3.far (by show w.heap.size ≠ g9; omega) _).far (by show w.heap.size ≠ g9; omega) _).far (by show w.heap.size ≠ g9; omega) _)
      have nhr9 : Row (((x62.setCell ⟨g9, 0, none⟩ (.bool (decide (redP (mom f (k + 1)) D < 0)))).setCell ⟨g9, 1, none⟩ (.slice A20 k20 c20)).setCell ⟨g9, 2, none⟩ (.slice D20 l20 b20)) (g9) 31 [.bool (decide (redP (mom f (k + 1)) D < 0)), .slice A20 k20 c20, .slice D20 l20 b20] := (((hr9.set_ 0 (.bool (decide (redP (mom f (k + 1)) D < 0)))).set_ 1 (.slice A20 k20 c20)).set_ 2 (.slice D20 l20 b20))
      have ngj : (((x62.setCell ⟨g9, 0, none⟩ (.bool (decide (redP (mom f (k + 1)) D < 0)))).setCell ⟨g9, 1, none⟩ (.slice A20 k20 c20)).setCell ⟨g9, 2, none⟩ (.slice D20 l20 b20)).cell? ⟨lb, lo + j, none⟩ = some (.slice NA nl nc) := by rw [World.cell?_setCell_other _ _ _ _ (fun e => by injection e with e1; omega), World.cell?_setCell_other _ _ _ _ (fun e => by injection e with e1; omega), World.cell?_setCell_other _ _ _ _ (fun e => by injection e with e1; omega)]; exact gj
      have nBB : Below w.heap.size w (((x62.setCell ⟨g9, 0, none⟩ (.bool (decide (redP (mom f (k + 1)) D < 0)))).setCell ⟨g9, 1, none⟩ (.slice A20 k20 c20)).setCell ⟨g9, 2, none⟩ (.slice D20 l20 b20)) := (((BB.setCell (by show w.heap.size ≤ g9; omega) _).setCell (by show w.heap.size ≤ g9; omega) _).setCell (by show w.heap.size ≤ g9; omega) _)
      have nBQ : Below g9 x2 (((x62.setCell ⟨g9, 0, none⟩ (.bool (decide (redP (mom f (k + 1)) D < 0)))).setCell ⟨g9, 1, none⟩ (.slice A20 k20 c20)).setCell ⟨g9, 2, none⟩ (.slice D20 l20 b20)) := ((BQ.setCell (Nat.le_refl _) _).setCell (Nat.le_refl _) _).setCell (Nat.le_refl _) _
      have nhown := (own_far (own_far (own_far hown (p := ⟨g9, 0, none⟩) (by show g9 < _; omega) (.bool (decide (redP (mom f (k + 1)) D < 0)))) (p := ⟨g9, 1, none⟩) (by show g9 < _; omega) (.slice A20 k20 c20)) (p := ⟨g9, 2, none⟩) (by show g9 < _; omega) (.slice D20 l20 b20))
      have nhv20 := (((hv20.set_ (a := ⟨g9, 0, none⟩) (by show g9 < _; omega) (.bool (decide (redP (mom f (k + 1)) D < 0)))).set_ (a := ⟨g9, 1, none⟩) (by show g9 < _; omega) (.slice A20 k20 c20)).set_ (a := ⟨g9, 2, none⟩) (by show g9 < _; omega) (.slice D20 l20 b20))
      have d30 : (((x62.setCell ⟨g9, 0, none⟩ (.bool (decide (redP (mom f (k + 1)) D < 0)))).setCell ⟨g9, 1, none⟩ (.slice A20 k20 c20)).setCell ⟨g9, 2, none⟩ (.slice D20 l20 b20)).cell? ⟨w.heap.size, 0, none⟩ = some (.slice PA pn pc) := nhr3.cell 0
      have d31 : (((x62.setCell ⟨g9, 0, none⟩ (.bool (decide (redP (mom f (k + 1)) D < 0)))).setCell ⟨g9, 1, none⟩ (.slice A20 k20 c20)).setCell ⟨g9, 2, none⟩ (.slice D20 l20 b20)).cell? ⟨w.heap.size, 1, none⟩ = some (.slice RV rs.length vc) := nhr3.cell 1
      have d90 : (((x62.setCell ⟨g9, 0, none⟩ (.bool (decide (redP (mom f (k + 1)) D < 0)))).setCell ⟨g9, 1, none⟩ (.slice A20 k20 c20)).setCell ⟨g9, 2, none⟩ (.slice D20 l20 b20)).cell? ⟨g9, 0, none⟩ = some (.bool (decide (redP (mom f (k + 1)) D < 0))) := nhr9.cell 0
      have d91 : (((x62.setCell ⟨g9, 0, none⟩ (.bool (decide (redP (mom f (k + 1)) D < 0)))).setCell ⟨g9, 1, none⟩ (.slice A20 k20 c20)).setCell ⟨g9, 2, none⟩ (.slice D20 l20 b20)).cell? ⟨g9, 1, none⟩ = some (.slice A20 k20 c20) := nhr9.cell 1
      have d92 : (((x62.setCell ⟨g9, 0, none⟩ (.bool (decide (redP (mom f (k + 1)) D < 0)))).setCell ⟨g9, 1, none⟩ (.slice A20 k20 c20)).setCell ⟨g9, 2, none⟩ (.slice D20 l20 b20)).cell? ⟨g9, 2, none⟩ = some (.slice D20 l20 b20) := nhr9.cell 2
      have h90 : (((x62.setCell ⟨g9, 0, none⟩ (.bool (decide (redP (mom f (k + 1)) D < 0)))).setCell ⟨g9, 1, none⟩ (.slice A20 k20 c20)).setCell ⟨g9, 2, none⟩ (.slice D20 l20 b20)).frozen? ⟨g9, 0, none⟩ = false := nhr9.frozen 0
      have h91 : (((x62.setCell ⟨g9, 0, none⟩ (.bool (decide (redP (mom f (k + 1)) D < 0)))).setCell ⟨g9, 1, none⟩ (.slice A20 k20 c20)).setCell ⟨g9, 2, none⟩ (.slice D20 l20 b20)).frozen? ⟨g9, 1, none⟩ = false := nhr9.frozen 1
      have h92 : (((x62.setCell ⟨g9, 0, none⟩ (.bool (decide (redP (mom f (k + 1)) D < 0)))).setCell ⟨g9, 1, none⟩ (.slice A20 k20 c20)).setCell ⟨g9, 2, none⟩ (.slice D20 l20 b20)).frozen? ⟨g9, 2, none⟩ = false := nhr9.frozen 2
      go_upto_region 13 with fail
      clear d30 d31 d90 d91 d92 h90 h91 h92 c30 c31 c90 c91 c92 f90 f91 f92 z3 z9
      replace hr3 := nhr3
      clear nhr3
      replace hr9 := nhr9
      clear nhr9
      replace hown := nhown
      clear nhown
      replace hv20 := nhv20
      clear nhv20
      replace BB := nBB
      replace BQ := nBQ
      clear nBB
      clear nBQ
      generalize (((x62.setCell ⟨g9, 0, none⟩ (.bool (decide (redP (mom f (k + 1)) D < 0)))).setCell ⟨g9, 1, none⟩ (.slice A20 k20 c20)).setCell ⟨g9, 2, none⟩ (.slice D20 l20 b20)) = x63 at *
      skip
      have zz9 := hr9.lt
      have c30 : x63.cell? ⟨w.heap.size, 0, none⟩ = some (.slice PA pn pc) := hr3.cell 0
      have c31 : x63.cell? ⟨w.heap.size, 1, none⟩ = some (.slice RV rs.length vc) := hr3.cell 1
      have c90 : x63.cell? ⟨g9, 0, none⟩ = some (.bool (decide (redP (mom f (k + 1)) D < 0))) := hr9.cell 0
      have c91 : x63.cell? ⟨g9, 1, none⟩ = some (.slice A20 k20 c20) := hr9.cell 1
      have c92 : x63.cell? ⟨g9, 2, none⟩ = some (.slice D20 l20 b20) := hr9.cell 2
      have z3 := hr3.lt
      have z9 := hr9.lt
      have gj4 : x63.cell? ⟨lb, lo + j, none⟩ = some (.slice NA nl nc) := ngj
      have zj : lb < x63.heap.size := Nat.lt_of_lt_of_le zlb BB.size
      go_wp2_with (at_builtin; refine wpList_append_oneG x63 rfl (.tmp 51) (.tmp 60) 25 rfl (g9 + 1) 40 (.agg #[.slice none 0 0]) 24 Tryd.underlying25 infoMdl rfl (.slice VA k cv) k (us.reverse.take k) (.slice NA nl nc) rfl rfl hown rfl (by unfold maxLen; omega) (by omega) (Nat.succ_le_of_lt zz9) ?_; intro A' c3 w3 hown3 hb3 hg3 hr3x)
      go_roundw
      case rel =>
        exact ⟨k + 1, A', c3, _, _, _, by omega, rfl, by go_num, (by rw [HUJ.out]; exact hown3), hr9.below hb3 (Nat.lt_succ_self _), ((hv20.grown hg3 hoj1).base (Nat.zero_le _)), BQ.trans (hb3.mono (Nat.le_succ _))⟩
      case measure => simp [intOf]; omega
    · obtain rfl : n = k := by omega
      rw [List.take_of_length_le (by rw [List.length_reverse, hls.1]; exact Nat.le_refl _)] at hown
      rw [HSP.out.1, HSP.out.2] at hv9
      have hmr := modL_rev HNN.out hls HLU.out hown BB
      clear hown
      have c30 : wr.cell? ⟨w.heap.size, 0, none⟩ = some (.slice PA pn pc) := hr3.cell 0
      have c31 : wr.cell? ⟨w.heap.size, 1, none⟩ = some (.slice RV rs.length vc) := hr3.cell 1
      have c70 : wr.cell? ⟨g7, 0, none⟩ = some (.bool (decide (P < 0))) := hr7.cell 0
      have c71 : wr.cell? ⟨g7, 1, none⟩ = some (.slice A7 k7 c7) := hr7.cell 1
      have c72 : wr.cell? ⟨g7, 2, none⟩ = some (.slice D7 l7 b7) := hr7.cell 2
      have c90 : wr.cell? ⟨g9, 0, none⟩ = some (v0) := hr9.cell 0
      have c91 : wr.cell? ⟨g9, 1, none⟩ = some (v1) := hr9.cell 1
      have c92 : wr.cell? ⟨g9, 2, none⟩ = some (v2) := hr9.cell 2
      have z3 := hr3.lt
      have z7 := hr7.lt
      have z9 := hr9.lt
      go_wp2_with fail
      clear c30 c31 c70 c71 c72 c90 c91 c92 z3 z7 z9
      refine (HTR.out _ _ BB hmr).mono ?_
      rintro e x96 ⟨v14, rfl, hv14, hb⟩
      replace hr3 := hr3.keep hb
      replace hr7 := hr7.keep hb
      replace hr9 := hr9.keep hb
      replace htab := htab.below hb
      replace hv7 := hv7.below hb
      replace hv9 := hv9.below hb
      replace hmr := hmr.below hb
      replace BQ : Below g9 x2 x96 := BQ.trans (hb.mono (Nat.le_trans (Nat.le_of_lt HGX.out.2.2) BQ.size))
      replace BB : Below w.heap.size w x96 := BB.trans (hb.mono BB.size)
      clear hb
      have h14' := hv14
      obtain ⟨m14, d14, e14, hm14, hd14, _, _⟩ := h14'
      subst e14
      obtain ⟨A14, k14, c14, rfl⟩ := hm14.lim1.choose_spec.1.show_
      obtain ⟨D14, l14, b14, rfl⟩ := hd14.lim1.choose_spec.1.show_
      clear hm14 hd14
      clear hmr
      obtain ⟨g14, hg14⟩ : ∃ g, x96.heap.size = g := ⟨_, rfl⟩
      have hr14 : Row (x96.alloc (.cells #[.bool (decide (P < 0)), .slice A14 k14 c14, .slice D14 l14 b14] 31)) g14 31 [.bool (decide (P < 0)), .slice A14 k14 c14, .slice D14 l14 b14] := row_at hg14
      have hl := lit_below x96 (.cells #[.bool (decide (P < 0)), .slice A14 k14 c14, .slice D14 l14 b14] 31)
      have o3_14 : w.heap.size < g14 := by have := hr3.lt; omega
      have o7_14 : g7 < g14 := by have := hr7.lt; omega
      have o9_14 : g9 < g14 := by have := hr9.lt; omega
      have ob_14 : w.heap.size ≤ g14 := by have := BB.size; omega
      have c30 : x96.cell? ⟨w.heap.size, 0, none⟩ = some (.slice PA pn pc) := hr3.cell 0
      have c31 : x96.cell? ⟨w.heap.size, 1, none⟩ = some (.slice RV rs.length vc) := hr3.cell 1
      have c70 : x96.cell? ⟨g7, 0, none⟩ = some (.bool (decide (P < 0))) := hr7.cell 0
      have c71 : x96.cell? ⟨g7, 1, none⟩ = some (.slice A7 k7 c7) := hr7.cell 1
      have c72 : x96.cell? ⟨g7, 2, none⟩ = some (.slice D7 l7 b7) := hr7.cell 2
      have c90 : x96.cell? ⟨g9, 0, none⟩ = some (v0) := hr9.cell 0
      have c91 : x96.cell? ⟨g9, 1, none⟩ = some (v1) := hr9.cell 1
      have c92 : x96.cell? ⟨g9, 2, none⟩ = some (v2) := hr9.cell 2
      have d30 : (x96.alloc (.cells #[.bool (decide (P < 0)), .slice A14 k14 c14, .slice D14 l14 b14] 31)).cell? ⟨w.heap.size, 0, none⟩ = some (.slice PA pn pc) := (hr3.alloc _).cell 0
      have d31 : (x96.alloc (.cells #[.bool (decide (P < 0)), .slice A14 k14 c14, .slice D14 l14 b14] 31)).cell? ⟨w.heap.size, 1, none⟩ = some (.slice RV rs.length vc) := (hr3.alloc _).cell 1
      have d70 : (x96.alloc (.cells #[.bool (decide (P < 0)), .slice A14 k14 c14, .slice D14 l14 b14] 31)).cell? ⟨g7, 0, none⟩ = some (.bool (decide (P < 0))) := (hr7.alloc _).cell 0
      have d71 : (x96.alloc (.cells #[.bool (decide (P < 0)), .slice A14 k14 c14, .slice D14 l14 b14] 31)).cell? ⟨g7, 1, none⟩ = some (.slice A7 k7 c7) := (hr7.alloc _).cell 1
      have d72 : (x96.alloc (.cells #[.bool (decide (P < 0)), .slice A14 k14 c14, .slice D14 l14 b14] 31)).cell? ⟨g7, 2, none⟩ = some (.slice D7 l7 b7) := (hr7.alloc _).cell 2
      have d90 : (x96.alloc (.cells #[.bool (decide (P < 0)), .slice A14 k14 c14, .slice D14 l14 b14] 31)).cell? ⟨g9, 0, none⟩ = some (v0) := (hr9.alloc _).cell 0
      have d91 : (x96.alloc (.cells #[.bool (decide (P < 0)), .slice A14 k14 c14, .slice D14 l14 b14] 31)).cell? ⟨g9, 1, none⟩ = some (v1) := (hr9.alloc _).cell 1
      have d92 : (x96.alloc (.cells #[.bool (decide (P < 0)), .slice A14 k14 c14, .slice D14 l14 b14] 31)).cell? ⟨g9, 2, none⟩ = some (v2) := (hr9.alloc _).cell 2
      have e0 : (x96.alloc (.cells #[.bool (decide (P < 0)), .slice A14 k14 c14, .slice D14 l14 b14] 31)).cell? ⟨g14, 0, none⟩ = some (.bool (decide (P < 0))) := hr14.cell 0
      have e1 : (x96.alloc (.cells #[.bool (decide (P < 0)), .slice A14 k14 c14, .slice D14 l14 b14] 31)).cell? ⟨g14, 1, none⟩ = some (.slice A14 k14 c14) := hr14.cell 1
      have e2 : (x96.alloc (.cells #[.bool (decide (P < 0)), .slice A14 k14 c14, .slice D14 l14 b14] 31)).cell? ⟨g14, 2, none⟩ = some (.slice D14 l14 b14) := hr14.cell 2
      go_wp2_with fail
      clear c30 c31 c70 c71 c72 c90 c91 c92 d30 d31 d70 d71 d72 d90 d91 d92 e0 e1 e2
      clear hg14
      generalize (x96.alloc (.cells #[.bool (decide (P < 0)), .slice A14 k14 c14, .slice D14 l14 b14] 31)) = x97 at *
      replace hr3 := hr3.keep hl
      replace hr7 := hr7.keep hl
      replace hr9 := hr9.keep hl
      replace htab := htab.below hl
      replace hv7 := hv7.below hl
      replace hv9 := hv9.below hl
      replace hv14 := hv14.below hl
      replace BQ : Below g9 x2 x97 := BQ.trans (hl.mono (Nat.le_trans (Nat.le_of_lt HGX.out.2.2) BQ.size))
      replace BB : Below w.heap.size w x97 := BB.trans (hl.mono BB.size)
      clear hl
      refine (HCU.out _ BB).mono ?_
      rintro e x98 ⟨gc, a0, a1, a2, rfl, hc0, hc1, hc2, hvc, hgc, hb⟩
      replace hr3 := hr3.keep hb
      replace hr7 := hr7.keep hb
      replace hr9 := hr9.keep hb
      replace htab := htab.below hb
      replace hv7 := hv7.below hb
      replace hv9 := hv9.below hb
      replace hv14 := hv14.below hb
      replace hr14 := hr14.keep hb
      replace BQ : Below g9 x2 x98 := BQ.trans (hb.mono (Nat.le_trans (Nat.le_of_lt HGX.out.2.2) BQ.size))
      replace BB : Below w.heap.size w x98 := BB.trans (hb.mono BB.size)
      clear hb
      have hnn : ((pn : Int) != (pn : Int)) = false := by simp
      have hnn2 : (pn != pn) = false := by simp
      have z3 := hr3.lt
      have z7 := hr7.lt
      have z9 := hr9.lt
      have z14 := hr14.lt
      have c30 : x98.cell? ⟨w.heap.size, 0, none⟩ = some (.slice PA pn pc) := hr3.cell 0
      have c31 : x98.cell? ⟨w.heap.size, 1, none⟩ = some (.slice RV rs.length vc) := hr3.cell 1
      have c70 : x98.cell? ⟨g7, 0, none⟩ = some (.bool (decide (P < 0))) := hr7.cell 0
      have c71 : x98.cell? ⟨g7, 1, none⟩ = some (.slice A7 k7 c7) := hr7.cell 1
      have c72 : x98.cell? ⟨g7, 2, none⟩ = some (.slice D7 l7 b7) := hr7.cell 2
      have c90 : x98.cell? ⟨g9, 0, none⟩ = some (v0) := hr9.cell 0
      have c91 : x98.cell? ⟨g9, 1, none⟩ = some (v1) := hr9.cell 1
      have c92 : x98.cell? ⟨g9, 2, none⟩ = some (v2) := hr9.cell 2
      have c140 : x98.cell? ⟨g14, 0, none⟩ = some (.bool (decide (P < 0))) := hr14.cell 0
      have c141 : x98.cell? ⟨g14, 1, none⟩ = some (.slice A14 k14 c14) := hr14.cell 1
      have c142 : x98.cell? ⟨g14, 2, none⟩ = some (.slice D14 l14 b14) := hr14.cell 2
      have qs0 : x98.cell? ⟨g7, 0, none⟩ = some (.bool (decide (P < 0))) := hr7.cell 0
      have qs1 : x98.cell? ⟨g7, 1, none⟩ = some (.slice A7 k7 c7) := hr7.cell 1
      have qs2 : x98.cell? ⟨g7, 2, none⟩ = some (.slice D7 l7 b7) := hr7.cell 2
      have qs3 : x98.cell? ⟨g14, 0, none⟩ = some (.bool (decide (P < 0))) := hr14.cell 0
      have qs4 : x98.cell? ⟨g14, 1, none⟩ = some (.slice A14 k14 c14) := hr14.cell 1
      have qs5 : x98.cell? ⟨g14, 2, none⟩ = some (.slice D14 l14 b14) := hr14.cell 2
      have qs6 : x98.cell? ⟨g9, 0, none⟩ = some (v0) := hr9.cell 0
      have qs7 : x98.cell? ⟨g9, 1, none⟩ = some (v1) := hr9.cell 1
      have qs8 : x98.cell? ⟨g9, 2, none⟩ = some (v2) := hr9.cell 2
      have qs9 : x98.cell? ⟨gc, q * 3, none⟩ = some (a0) := hc0
      have qs10 : x98.cell? ⟨gc, q * 3 + 1, none⟩ = some (a1) := hc1
      have qs11 : x98.cell? ⟨gc, q * 3 + 2, none⟩ = some (a2) := hc2
      clear hc0 hc1 hc2
      have hqI : (q : Int) < (pn : Int) := by omega
      go_wp2_with fail
      go_region_held3 (fun w' => w'.cell? ⟨g7, 0, none⟩ = some (.bool (decide (P < 0))) ∧ w'.cell? ⟨g7, 1, none⟩ = some (.slice A7 k7 c7) ∧ w'.cell? ⟨g7, 2, none⟩ = some (.slice D7 l7 b7) ∧ w'.cell? ⟨g14, 0, none⟩ = some (.bool (decide (P < 0))) ∧ w'.cell? ⟨g14, 1, none⟩ = some (.slice A14 k14 c14) ∧ w'.cell? ⟨g14, 2, none⟩ = some (.slice D14 l14 b14) ∧ w'.cell? ⟨g9, 0, none⟩ = some (v0) ∧ w'.cell? ⟨g9, 1, none⟩ = some (v1) ∧ w'.cell? ⟨g9, 2, none⟩ = some (v2) ∧ w'.cell? ⟨gc, q * 3, none⟩ = some (a0) ∧ w'.cell? ⟨gc, q * 3 + 1, none⟩ = some (a1) ∧ w'.cell? ⟨gc, q * 3 + 2, none⟩ = some (a2))
        ((refine keep12a z7 z7 z7 z14 z14 z14 z9 z9 z9 hgc hgc hgc qs0 qs1 qs2 qs3 qs4 qs5 qs6 qs7 qs8 qs9 qs10 qs11 ?_; (repeat (first | with_reducible exact Below.refl _ _ | with_reducible refine bl_call h8 ?_ | with_reducible refine bl_call h7 ?_ | with_reducible refine bl_call h6 ?_ | with_reducible refine bl_call h5 ?_ | with_reducible refine bl_alloc ?_ _ | with_reducible refine bl_drew ?_)); done))
        (first
          | (go_at_call 12; ((with_reducible refine (srat_yes _ _ P Q 330 330 _ _ _ (hv7.below ?_) (hv14.below ?_)).mono ?_); (repeat (first | with_reducible exact Below.refl _ _ | with_reducible refine bl_call h8 ?_ | with_reducible refine bl_call h7 ?_ | with_reducible refine bl_call h6 ?_ | with_reducible refine bl_call h5 ?_ | with_reducible refine bl_alloc ?_ _ | with_reducible refine bl_drew ?_)); (repeat (first | with_reducible exact Below.refl _ _ | with_reducible refine bl_call h8 ?_ | with_reducible refine bl_call h7 ?_ | with_reducible refine bl_call h6 ?_ | with_reducible refine bl_call h5 ?_ | with_reducible refine bl_alloc ?_ _ | with_reducible refine bl_drew ?_)); rintro e w5 ⟨rfl, h5⟩))
          | (go_at_call 13; ((with_reducible refine (qcmp_eqA _ _ P Q 330 _ ((hv7.ratA hQ).below ?_) ((hv9.ratA hQ).below ?_) (by decide) (by decide)).mono ?_); (repeat (first | with_reducible exact Below.refl _ _ | with_reducible refine bl_call h8 ?_ | with_reducible refine bl_call h7 ?_ | with_reducible refine bl_call h6 ?_ | with_reducible refine bl_call h5 ?_ | with_reducible refine bl_alloc ?_ _ | with_reducible refine bl_drew ?_)); (repeat (first | with_reducible exact Below.refl _ _ | with_reducible refine bl_call h8 ?_ | with_reducible refine bl_call h7 ?_ | with_reducible refine bl_call h6 ?_ | with_reducible refine bl_call h5 ?_ | with_reducible refine bl_alloc ?_ _ | with_reducible refine bl_drew ?_)); rintro e w6 ⟨rfl, h6⟩))
          | (go_at_call 13; ((with_reducible refine (qcmp_eqA _ _ P Q 330 _ ((hvc.ratA hQ).below ?_) ((hv7.ratA hQ).below ?_) (by decide) (by decide)).mono ?_); (repeat (first | with_reducible exact Below.refl _ _ | with_reducible refine bl_call h8 ?_ | with_reducible refine bl_call h7 ?_ | with_reducible refine bl_call h6 ?_ | with_reducible refine bl_call h5 ?_ | with_reducible refine bl_alloc ?_ _ | with_reducible refine bl_drew ?_)); (repeat (first | with_reducible exact Below.refl _ _ | with_reducible refine bl_call h8 ?_ | with_reducible refine bl_call h7 ?_ | with_reducible refine bl_call h6 ?_ | with_reducible refine bl_call h5 ?_ | with_reducible refine bl_alloc ?_ _ | with_reducible refine bl_drew ?_)); rintro e w7 ⟨rfl, h7⟩))
          | (go_at_call 8; ((with_reducible refine (awake_any _ (htab.below ?_)).mono ?_); (repeat (first | with_reducible exact Below.refl _ _ | with_reducible refine bl_call h8 ?_ | with_reducible refine bl_call h7 ?_ | with_reducible refine bl_call h6 ?_ | with_reducible refine bl_call h5 ?_ | with_reducible refine bl_alloc ?_ _ | with_reducible refine bl_drew ?_)); rintro e w8 ⟨rfl, h8⟩)))
      all_goals
        have hb : Below x98.heap.size x98 w8 := bl_call h8 (bl_call h7 (bl_call h6 (bl_call h5 (bl_drew (Below.refl _ _)))))
        replace BB := BB.trans (hb.mono BB.size)
        go_wp2_with fail
        go_ret
        exact ⟨rfl, BB⟩
theorem ladd_any (pv rv lv : Value) (ps rs : List Int) (ms : List Mdl) (q : Int) (w : World) (hp : Nums .i64 w pv ps) (hr : Nums .i64 w rv rs) (hm : ModL w lv ms) (htab : Pow10 w) :
    Calls Tryd.prog 3 #[.agg #[pv, rv], lv, .int .i64 q] w fun e w' => e = .returned (.bool true) ∧ Below w.heap.size w w' := by
  by_cases hE : tstE ps rs ms q = 0
  · obtain ⟨_, _, e3, e4⟩ := tstE_zero hE
    obtain ⟨q', rfl⟩ := Int.eq_ofNat_of_zero_le e3
    exact ladd_ok pv rv lv ps rs ms q' w hp hr hm htab hE
  · exact ladd_no pv rv lv ps rs ms q w hp hr hm htab hE
end Go.Proofs.YtompckomogmhiaaDoor
