/- Law InformPositive. -/
import Derived.Test.YtompckomogmhiaaDoorInW
import Derived.Test.YtompckomogmhiaaDoorInR
import Derived.Deep.RegionHeld3
import Derived.Deep.QuietTactic
import Derived.BigQuiet
namespace Go.Proofs.YtompckomogmhiaaDoor
open Go.RowKit
set_option linter.unusedVariables false
set_option maxRecDepth 100000

theorem keep6p {W w' : World} {p1 p2 p3 p4 p5 p6 : Addr} {x1 x2 x3 x4 x5 x6 : Value} (l1 : p1.block < W.heap.size) (l2 : p2.block < W.heap.size) (l3 : p3.block < W.heap.size) (l4 : p4.block < W.heap.size) (l5 : p5.block < W.heap.size) (l6 : p6.block < W.heap.size)
    (h1 : W.cell? p1 = some x1) (h2 : W.cell? p2 = some x2) (h3 : W.cell? p3 = some x3) (h4 : W.cell? p4 = some x4) (h5 : W.cell? p5 = some x5) (h6 : W.cell? p6 = some x6) (hb : Below W.heap.size W w') :
    w'.cell? p1 = some x1 ∧ w'.cell? p2 = some x2 ∧ w'.cell? p3 = some x3 ∧ w'.cell? p4 = some x4 ∧ w'.cell? p5 = some x5 ∧ w'.cell? p6 = some x6 :=
  ⟨(hb.cell l1).trans h1, (hb.cell l2).trans h2, (hb.cell l3).trans h3, (hb.cell l4).trans h4, (hb.cell l5).trans h5, (hb.cell l6).trans h6⟩
theorem cmp_le0 {a b : Int} (h : a ≤ b) : cmpZ a b ≤ 0 := by unfold cmpZ; split <;> (try split) <;> omega
theorem cmp_ne0 {a b : Int} (h : a < b) : cmpZ a b = -1 := by unfold cmpZ; rw [if_pos h]
theorem sgn_red {x : Int} {D : Nat} (h : 0 ≤ x) (hD : 0 < D) : sgnZ (redP x D) = if x = 0 then 0 else 1 := by
  have h1 := (redP_neg x D)
  have h2 := red_mul x D
  unfold sgnZ
  rw [if_neg (by rw [h1]; omega)]
  by_cases hx : x = 0
  · subst hx
    rw [if_pos (red_nul.1 hD), if_pos rfl]
  · rw [if_neg (fun h0 => hx (by rw [h2.1, h0, Int.zero_mul])), if_neg hx]
theorem rows_eq {ra rb : List Int} (hl : ra.length = rb.length) : ra = rb ↔ ∀ k, k < ra.length → ra.getD k 0 = rb.getD k 0 := by
  constructor
  · intro h k _; rw [h]
  · intro h
    refine List.ext_getElem hl fun i h1 h2 => ?_
    have := h i h1
    rwa [List.getD_eq_getElem?_getD, List.getD_eq_getElem?_getD, List.getElem?_eq_getElem h1, List.getElem?_eq_getElem h2] at this
theorem pos_fact {Z : Nat} {m : List (List Int)} {n q : Nat} (hZ : IsLam Z) (hm : modE m (n : Int) = 0) (hq : q < n) :
    m.length = n ∧ (m.getD (inA q) []).length = catsOf m ∧ (m.getD (inB n q) []).length = catsOf m ∧ 0 ≤ inF Z m n q ∧ (inF Z m n q = 0 ↔ m.getD (inA q) [] = m.getD (inB n q) []) := by
  obtain ⟨m1, m2, m3, m4, m5, m6⟩ := in_rows hm
  obtain ⟨a1, a2, _, _⟩ := in_ab hq
  obtain ⟨z1, z2⟩ := inF_zero hZ hm hq
  have ha := (m6 _ a1).1
  have hb := (m6 _ a2).1
  refine ⟨m1, ha, hb, z1, ?_⟩
  rw [z2, rows_eq (ha.trans hb.symm), ha]

set_option maxHeartbeats 8000000 in
theorem leq_any (u v : Value) (zs ys : List Int) (w : World) (hu : Nums .i64 w u zs) (hv : Nums .i64 w v ys) (hl : zs.length = ys.length) :
    Calls Tryd.prog 18 #[u, v] w fun e w' => e = .returned (.bool (decide (zs = ys))) ∧ Below w.heap.size w w' := by
  have HRE := Lib.hid (rows_eq hl)
  obtain ⟨A, ca, rfl, hla, hma, hsa⟩ := hu
  obtain ⟨B, cb, rfl, _, hmb, hsb⟩ := hv
  rw [← hl] at hsb ⊢
  clear hl
  unfold maxLen at hma hmb
  obtain ⟨n, hn⟩ : ∃ n, zs.length = n := ⟨_, rfl⟩
  rw [hn] at hsa hsb hla HRE ⊢
  have hnm : n ≤ 9223372036854775807 := by omega
  clear hn hma hla
  go_enter Tryd.func18, Tryd.ntmps18
  go_wp2_with fail
  go_loopw [5] (fun i wr => ∃ (k : Nat), k ≤ n ∧ i = .int .i64 (k : Int) ∧ Hid (∀ j, j < k → zs.getD j 0 = ys.getD j 0) ∧ Below w.heap.size w wr) (fun i _ => n - (intOf i).toNat)
  case atStart => exact ⟨0, by omega, rfl, (fun j hj => by omega), Below.refl _ _⟩
  case round =>
    obtain ⟨k, hk, rfl, HE, BQ⟩ := hrel
    by_cases hlt : k < n
    · obtain ⟨b1, o1, rfl, hb1, g1⟩ := hsa.num hlt
      obtain ⟨b2, o2, rfl, hb2, g2⟩ := hsb.num hlt
      have g1 := (BQ.cell (p := ⟨b1, o1 + k, none⟩) hb1).trans (g1 k hlt)
      have g2 := (BQ.cell (p := ⟨b2, o2 + k, none⟩) hb2).trans (g2 k hlt)
      have y1 : b1 < wr.heap.size := Nat.lt_of_lt_of_le hb1 BQ.size
      have y2 : b2 < wr.heap.size := Nat.lt_of_lt_of_le hb2 BQ.size
      have hkI : (k : Int) < (n : Int) := by omega
      have HX : Hid (∀ j, j < k + 1 → zs.getD j 0 = ys.getD j 0 ∨ j = k) := fun j hj => by
        rcases Nat.lt_or_ge j k with h | h
        · exact .inl (HE.out j h)
        · exact .inr (by omega)
      have HNE : Hid (zs.getD k 0 ≠ ys.getD k 0 → zs ≠ ys) := fun h h2 => h (by rw [h2])
      by_cases hxy : zs.getD k 0 = ys.getD k 0
      · have HK := Lib.hid hxy
        rw [hxy] at g1
        generalize ys.getD k 0 = y at g1 g2
        clear hxy hsa hsb
        have t1 : (y != y) = false := by simp
        go_wp2_with fail
        go_quiet (fail)
        go_wp2_with fail
        go_roundw
        case rel => exact ⟨k + 1, by omega, by go_num, (fun j hj => by rcases HX.out j hj with h | h; exact h; rw [h]; exact HK.out), below_drewN BQ _⟩
        case measure => simp [intOf]; omega
      · have HD : Hid (decide (zs = ys) = false) := decide_eq_false (HNE.out hxy)
        generalize ys.getD k 0 = y at g1 g2 hxy
        generalize zs.getD k 0 = x at g1 hxy
        have t1 : (x != y) = true := by rw [bne_iff_ne]; exact hxy
        clear hxy hsa hsb
        go_wp2_with fail
        go_quiet (fail)
        go_wp2_with fail
        go_ret
        exact ⟨by rw [HD.out]; rfl, below_drewN BQ _⟩
    · obtain rfl : n = k := by omega
      have HD : Hid (decide (zs = ys) = true) := decide_eq_true (HRE.out.2 HE.out)
      go_wp2_with fail
      go_ret
      exact ⟨by rw [HD.out]; rfl, BQ⟩

set_option maxHeartbeats 16000000 in
theorem lpos_no (pv rv lv : Value) (ps rs : List Int) (ms : List Mdl) (q : Int) (w : World) (hp : Nums .i64 w pv ps) (hr : Nums .i64 w rv rs) (hm : ModL w lv ms) (htab : Pow10 w) (hE : bstE ps rs ms q ≠ 0) :
    Calls Tryd.prog 5 #[.agg #[pv, rv], lv, .int .i64 q] w fun e w' => e = .returned (.bool true) ∧ Below w.heap.size w w' := by
  have HB := Lib.hid (fun (W : World) (h : Below w.heap.size w W) => best_no pv rv lv ps rs ms q W (hp.below h) (hr.below h) (hm.below h) hE)
  have t1 : (bstE ps rs ms q != 0) = true := by rw [bne_iff_ne]; exact hE
  generalize bstE ps rs ms q = E at *
  clear hE
  obtain ⟨PA, pc, rfl, _, _, hps⟩ := hp
  obtain ⟨RV, vc, rfl, _, _, _⟩ := hr
  obtain ⟨LA, lc, us, rfl, hlc, hlm, hls, hlu⟩ := hm
  clear hls hlu hps
  obtain ⟨pn, hpn⟩ : ∃ n, ps.length = n := ⟨_, rfl⟩
  obtain ⟨n, hnn⟩ : ∃ n, ms.length = n := ⟨_, rfl⟩
  rw [hpn] at HB ⊢
  rw [hnn] at HB ⊢
  clear hpn hnn
  obtain ⟨W0, hW0⟩ : ∃ W0 : World, W0 = w.alloc (.cells #[.slice PA pn pc, .slice RV rs.length vc] 24) := ⟨_, rfl⟩
  have r0 : Row W0 w.heap.size 24 [.slice PA pn pc, .slice RV rs.length vc] := by
    rw [hW0]
    have := Row.new w 24 [.slice PA pn pc, .slice RV rs.length vc]
    simpa using this
  have B0 : Below w.heap.size w W0 := by rw [hW0]; exact ((Below.refl _ _).alloc (Nat.le_refl _) _)
  go_enter Tryd.func5, Tryd.ntmps5
  go_wp2_with fail
  rw [← hW0]
  clear hW0
  replace htab := htab.below B0
  have BB := B0
  have hr3 : Row W0 (w.heap.size) 24 [.slice PA pn pc, .slice RV rs.length vc] := r0
  clear B0 r0
  have c30 : W0.cell? ⟨w.heap.size, 0, none⟩ = some (.slice PA pn pc) := hr3.cell 0
  have c31 : W0.cell? ⟨w.heap.size, 1, none⟩ = some (.slice RV rs.length vc) := hr3.cell 1
  have z3 := hr3.lt
  go_wp2_with fail
  clear c30 c31 z3
  refine (HB.out _ BB).mono ?_
  rintro e x1 ⟨rfl, hb⟩
  replace hr3 := hr3.keep hb
  replace htab := htab.below hb
  replace BB : Below w.heap.size w x1 := BB.trans (hb.mono BB.size)
  clear hb
  have c30 : x1.cell? ⟨w.heap.size, 0, none⟩ = some (.slice PA pn pc) := hr3.cell 0
  have c31 : x1.cell? ⟨w.heap.size, 1, none⟩ = some (.slice RV rs.length vc) := hr3.cell 1
  have z3 := hr3.lt
  go_wp2_with fail
  clear c30 c31 z3
  refine (awake_any _ htab).mono ?_
  rintro e x2 ⟨rfl, hb⟩
  replace hr3 := hr3.keep hb
  replace htab := htab.below hb
  replace BB : Below w.heap.size w x2 := BB.trans (hb.mono BB.size)
  clear hb
  have c30 : x2.cell? ⟨w.heap.size, 0, none⟩ = some (.slice PA pn pc) := hr3.cell 0
  have c31 : x2.cell? ⟨w.heap.size, 1, none⟩ = some (.slice RV rs.length vc) := hr3.cell 1
  have z3 := hr3.lt
  go_wp2_with fail
  clear c30 c31 z3
  go_ret
  exact ⟨rfl, BB⟩
set_option maxHeartbeats 64000000 in
theorem lpos_ok (pv rv lv : Value) (ps rs : List Int) (ms : List Mdl) (q : Nat) (w : World) (hp : Nums .i64 w pv ps) (hr : Nums .i64 w rv rs) (hm : ModL w lv ms) (htab : Pow10 w) (hE : bstE ps rs ms (q : Int) = 0) :
    Calls Tryd.prog 5 #[.agg #[pv, rv], lv, .int .i64 (q : Int)] w fun e w' => e = .returned (.bool true) ∧ Below w.heap.size w w' := by
  obtain ⟨Z, hZ⟩ := lam_ex
  obtain ⟨e1, h0, e2, e3, e4⟩ := bstE_zero hE
  obtain ⟨h60, hmods⟩ := testE_zero e2
  have hqn : q < ps.length := by omega
  obtain ⟨D0, _⟩ := inD_bd hZ e1 hqn
  have HDP := Lib.hid D0
  have n1 := (gridE_zero e1).2.1
  have hp21 : ps.length ≤ 21 := (gridE_zero e1).1
  have HBS := Lib.hid (fun (W : World) (h : Below w.heap.size w W) => best_ok pv rv lv ps rs ms q Z W (hp.below h) (hr.below h) (hm.below h) hZ hE)
  have HIN : Hid (∀ j, j < ms.length → ∀ W u, Nums .i64 W pv ps → Nums .i64 W rv rs → IntsL W u (ms.getD j []) → Calls Tryd.prog 9 #[.agg #[pv, rv], .agg #[u], .int .i64 (q : Int)] W fun e w' => ∃ x, e = .returned (.tuple #[x, .int .i64 0]) ∧ RatF W.heap.size w' x (redP (tsF Z ms ps.length q j) (ifD Z ps q)) (redQ (tsF Z ms ps.length q j) (ifD Z ps q)) 330 ∧ Below W.heap.size W w') :=
    fun j hj W u h1 h2 h3 => item_ok pv rv u ps rs (ms.getD j []) q Z W h1 h2 h3 hZ (by unfold itemE; rw [if_neg (by simpa using e1), if_neg (by simpa using hmods j hj), if_neg (by omega)])
  have HMOD : Hid (∀ j, j < ms.length → (ms.getD j []).length = ps.length ∧ ((ms.getD j []).getD (inA q) []).length = catsOf (ms.getD j []) ∧ ((ms.getD j []).getD (inB ps.length q) []).length = catsOf (ms.getD j []) ∧ 0 ≤ tsF Z ms ps.length q j ∧ (tsF Z ms ps.length q j = 0 ↔ (ms.getD j []).getD (inA q) [] = (ms.getD j []).getD (inB ps.length q) [])) :=
    fun j hj => pos_fact hZ (hmods j hj) hqn
  have HTOP := Lib.hid (fun i (hi : i < ms.length) => topI_max (tsF Z ms ps.length q) ms.length i hi)
  have htl := topI_le (tsF Z ms ps.length q) ms.length
  obtain ⟨hA, hB, _, _⟩ := in_ab hqn
  have HAD : Hid (max ((q : Int) - 1) 0 = ((inA q : Nat) : Int)) := by unfold Hid inA; omega
  have HBD : Hid (min ((q : Int) + 1) ((ps.length : Int) - 1) = ((inB ps.length q : Nat) : Int)) := by unfold Hid inB; omega
  have HU : Hid (IntKind.i64.wrap ((q : Int) - 1) = (q : Int) - 1 ∧ IntKind.i64.wrap ((q : Int) + 1) = (q : Int) + 1 ∧ IntKind.i64.wrap ((ps.length : Int) - 1) = (ps.length : Int) - 1) := ⟨by rw [IntKind.wrap_i64]; omega, by rw [IntKind.wrap_i64]; omega, by rw [IntKind.wrap_i64]; omega⟩
  generalize tsF Z ms ps.length q = f at *
  generalize ifD Z ps q = D at *
  generalize inA q = a at *
  generalize inB ps.length q = b at *
  clear e1 e2 e3 e4 hE hmods D0
  have HP := Lib.hid hp
  have HR := Lib.hid hr
  obtain ⟨PA, pc, rfl, _, _, hps⟩ := hp
  obtain ⟨RV, vc, rfl, _, _, _⟩ := hr
  obtain ⟨LA, lc, us, rfl, hlc, hlm, hls, hlu⟩ := hm
  have HLU := Lib.hid hlu
  clear hlu
  obtain ⟨lb, lo, u0, hLA, hlb, _, _⟩ := lst_at (R := IntsL) (d := []) (xs := ms) hls HLU.out h0
  subst hLA
  obtain ⟨pn, hpn⟩ : ∃ n, ps.length = n := ⟨_, rfl⟩
  obtain ⟨n, hnn⟩ : ∃ n, ms.length = n := ⟨_, rfl⟩
  rw [hpn] at HBS HIN HMOD HP HU HBD hqn hA hB n1 hp21 ⊢
  rw [hnn] at HBS HIN HMOD HTOP htl hls h0 h60 ⊢
  clear hpn hnn hps
  obtain ⟨t, hte⟩ : ∃ x, topI f n = x := ⟨_, rfl⟩
  rw [hte] at HTOP htl
  have HT := Lib.hid hte
  clear hte
  have ht : t < n := by omega
  have h0I : (0 : Int) < (n : Int) := by omega
  obtain ⟨W0, hW0⟩ : ∃ W0 : World, W0 = w.alloc (.cells #[.slice PA pn pc, .slice RV rs.length vc] 24) := ⟨_, rfl⟩
  have r0 : Row W0 w.heap.size 24 [.slice PA pn pc, .slice RV rs.length vc] := by
    rw [hW0]
    have := Row.new w 24 [.slice PA pn pc, .slice RV rs.length vc]
    simpa using this
  have B0 : Below w.heap.size w W0 := by rw [hW0]; exact ((Below.refl _ _).alloc (Nat.le_refl _) _)
  go_enter Tryd.func5, Tryd.ntmps5
  go_wp2_with fail
  rw [← hW0]
  clear hW0
  replace htab := htab.below B0
  have BB := B0
  have hr3 : Row W0 (w.heap.size) 24 [.slice PA pn pc, .slice RV rs.length vc] := r0
  clear B0 r0
  have c30 : W0.cell? ⟨w.heap.size, 0, none⟩ = some (.slice PA pn pc) := hr3.cell 0
  have c31 : W0.cell? ⟨w.heap.size, 1, none⟩ = some (.slice RV rs.length vc) := hr3.cell 1
  have z3 := hr3.lt
  go_wp2_with fail
  clear c30 c31 z3
  refine (HBS.out _ BB).mono ?_
  rintro e x1 ⟨rfl, hb⟩
  replace hr3 := hr3.keep hb
  replace htab := htab.below hb
  replace BB : Below w.heap.size w x1 := BB.trans (hb.mono BB.size)
  clear hb
  rw [HT.out]
  have htI : (t : Int) < (n : Int) := by omega
  obtain ⟨bi, oi, ui, hLAt, hbi, hci, hui0⟩ := lst_at (R := IntsL) (d := []) (xs := ms) hls HLU.out ht
  obtain ⟨rfl, rfl⟩ : lb = bi ∧ lo = oi := by injection hLAt with h; injection h with h1 h2 h3; exact ⟨h1, h2⟩
  clear hLAt
  have HII := Lib.hid (HIN.out t ht)
  have HMI := Lib.hid (HMOD.out t ht)
  obtain ⟨mi, hmi⟩ : ∃ x, ms.getD t [] = x := ⟨_, rfl⟩
  rw [hmi] at HII HMI hui0
  clear hmi
  have HML := Lib.hid HMI.out.1
  obtain ⟨MA, mc, mus, rfl, _, _, _, _⟩ := id hui0
  rw [HML.out] at hci hui0
  have hui := hui0.below BB
  have gi := (BB.cell (p := ⟨lb, lo + t, none⟩) hbi).trans hci
  have hp0 := HP.out.below BB
  have hr0 := HR.out.below BB
  have c30 : x1.cell? ⟨w.heap.size, 0, none⟩ = some (.slice PA pn pc) := hr3.cell 0
  have c31 : x1.cell? ⟨w.heap.size, 1, none⟩ = some (.slice RV rs.length vc) := hr3.cell 1
  have z3 := hr3.lt
  go_wp2_with fail
  have qs0 : x1.cell? ⟨w.heap.size, 0, none⟩ = some (.slice PA pn pc) := hr3.cell 0
  have qs1 : x1.cell? ⟨w.heap.size, 1, none⟩ = some (.slice RV rs.length vc) := hr3.cell 1
  have zs0 := hr3.lt
  have qs2 : x1.cell? ⟨lb, lo + t, none⟩ = some (.slice MA pn mc) := gi
  have zs1 := Nat.lt_of_lt_of_le hbi BB.size
  go_cut [9, 8] (fun s0 s1 wx => ∃ (g : Nat) (A9 : Option Addr) (k9 c9 : Nat) (D9 : Option Addr) (l9 b9 : Nat), s0 = .pointer (some ⟨g, 0, none⟩) ∧ x1.heap.size ≤ g ∧ Row wx g 31 [.bool (decide ((redP (f t) D) < 0)), .slice A9 k9 c9, .slice D9 l9 b9] ∧ RatF x1.heap.size wx (.agg #[.bool (decide ((redP (f t) D) < 0)), .slice A9 k9 c9, .slice D9 l9 b9]) (redP (f t) D) (redQ (f t) D) 330 ∧ s1 = .int .i64 0 ∧ Below x1.heap.size x1 wx)
  case first =>
    go_region_held3 (fun w' => w'.cell? ⟨w.heap.size, 0, none⟩ = some (.slice PA pn pc) ∧ w'.cell? ⟨w.heap.size, 1, none⟩ = some (.slice RV rs.length vc) ∧ w'.cell? ⟨lb, lo + t, none⟩ = some (.slice MA pn mc))
      ((refine keep3c zs0 zs0 zs1 qs0 qs1 qs2 ?_; (repeat (first | with_reducible exact Below.refl _ _ | ((with_reducible refine bl_set ?_ ?_ _); rotate_left; (first | exact Nat.le_refl _ | exact gz4)) | with_reducible refine bl_call h4 ?_ | with_reducible refine bl_alloc ?_ _ | with_reducible refine bl_drew ?_)); done))
      (first
        | (go_at_call 9; ((with_reducible refine (HII.out _ _ (hp0.below ?_) (hr0.below ?_) (hui.below ?_)).mono ?_); (repeat (first | with_reducible exact Below.refl _ _ | ((with_reducible refine bl_set ?_ ?_ _); rotate_left; (first | exact Nat.le_refl _ | exact gz4)) | with_reducible refine bl_call h4 ?_ | with_reducible refine bl_alloc ?_ _ | with_reducible refine bl_drew ?_)); (repeat (first | with_reducible exact Below.refl _ _ | ((with_reducible refine bl_set ?_ ?_ _); rotate_left; (first | exact Nat.le_refl _ | exact gz4)) | with_reducible refine bl_call h4 ?_ | with_reducible refine bl_alloc ?_ _ | with_reducible refine bl_drew ?_)); (repeat (first | with_reducible exact Below.refl _ _ | ((with_reducible refine bl_set ?_ ?_ _); rotate_left; (first | exact Nat.le_refl _ | exact gz4)) | with_reducible refine bl_call h4 ?_ | with_reducible refine bl_alloc ?_ _ | with_reducible refine bl_drew ?_)); rintro e w4 ⟨v4, rfl, hR4, h4⟩; have gz4 : x1.heap.size ≤ w4.heap.size := (bl_call h4 (by (repeat (first | with_reducible exact Below.refl _ _ | ((with_reducible refine bl_set ?_ ?_ _); rotate_left; (first | exact Nat.le_refl _ | exact gz4)) | with_reducible refine bl_call h4 ?_ | with_reducible refine bl_alloc ?_ _ | with_reducible refine bl_drew ?_))) : Below x1.heap.size x1 w4).size; (first | (have zg := RR.lt; replace RR := RR.keep h4) | (have R0 := Row.drew (Row.new x1 31 [.bool false, .slice none 0 0, .slice none 0 0]); have zg := R0.lt; have RR := R0.keep h4) | (have R0 := Row.new x1.drew 31 [.bool false, .slice none 0 0, .slice none 0 0]; have zg := R0.lt; have RR := R0.keep h4) | (have R0 := Row.new x1 31 [.bool false, .slice none 0 0, .slice none 0 0]; have zg := R0.lt; have RR := R0.keep h4) | skip); have hR4' := hR4; obtain ⟨m6, d6, e6, hm6, hd6, _, _⟩ := hR4'; subst e6; obtain ⟨A9, k9, c9, rfl⟩ := hm6.lim1.choose_spec.1.show_; obtain ⟨D9, l9, b9, rfl⟩ := hd6.lim1.choose_spec.1.show_; clear hm6 hd6; (try (have e0 := RR.cell 0; have e1 := RR.cell 1; have e2 := RR.cell 2; simp only [List.getElem?_cons_zero, List.getElem?_cons_succ] at e0 e1 e2; have f0 := RR.frozen 0; have f1 := RR.frozen 1; have f2 := RR.frozen 2)))))
    all_goals go_wp2_with fail
    all_goals go_meet
    all_goals go_light
    all_goals
      refine ⟨_, A9, k9, c9, D9, l9, b9, rfl, ?_, ?_, ?_, rfl, ?_⟩
      · (first | exact Nat.le_refl _ | exact gz4)
      · (first | exact Row.new _ _ _ | exact (((RR.set_ 0 _).set_ 1 _).set_ 2 _))
      · (first | exact (hR4.below (lit_below _ _)).base (bl_sz (by (repeat (first | with_reducible exact Below.refl _ _ | ((with_reducible refine bl_set ?_ ?_ _); rotate_left; (first | exact Nat.le_refl _ | exact gz4)) | with_reducible refine bl_call h4 ?_ | with_reducible refine bl_alloc ?_ _ | with_reducible refine bl_drew ?_)))) | exact ((((hR4.set_ zg _).set_ zg _).set_ zg _)).base (bl_sz (by (repeat (first | with_reducible exact Below.refl _ _ | ((with_reducible refine bl_set ?_ ?_ _); rotate_left; (first | exact Nat.le_refl _ | exact gz4)) | with_reducible refine bl_call h4 ?_ | with_reducible refine bl_alloc ?_ _ | with_reducible refine bl_drew ?_)))))
      · (repeat (first | with_reducible exact Below.refl _ _ | ((with_reducible refine bl_set ?_ ?_ _); rotate_left; (first | exact Nat.le_refl _ | exact gz4)) | with_reducible refine bl_call h4 ?_ | with_reducible refine bl_alloc ?_ _ | with_reducible refine bl_drew ?_))
  case rest =>
  obtain ⟨g9, A9, k9, c9, D9, l9, b9, rfl, hg9, hr9, hv9, rfl, hbc⟩ := hcut
  clear qs0 qs1 qs2 zs0 zs1 c30 c31 z3
  obtain ⟨x2, hx2⟩ : ∃ x, x = wc := ⟨_, rfl⟩
  rw [← hx2] at hr9 hv9 hbc ⊢
  clear hx2
  have o3_9 : w.heap.size < g9 := by have := hr3.lt; omega
  have ob_9 : w.heap.size ≤ g9 := by have := BB.size; omega
  replace hr3 := hr3.keep hbc
  replace htab := htab.below hbc
  replace BB : Below w.heap.size w x2 := BB.trans (hbc.mono BB.size)
  clear hbc
  clear hp0 hr0 hui hui0 gi HII HMI HML hci hbi
  have c30 : x2.cell? ⟨w.heap.size, 0, none⟩ = some (.slice PA pn pc) := hr3.cell 0
  have c31 : x2.cell? ⟨w.heap.size, 1, none⟩ = some (.slice RV rs.length vc) := hr3.cell 1
  have c90 : x2.cell? ⟨g9, 0, none⟩ = some (.bool (decide ((redP (f t) D) < 0))) := hr9.cell 0
  have c91 : x2.cell? ⟨g9, 1, none⟩ = some (.slice A9 k9 c9) := hr9.cell 1
  have c92 : x2.cell? ⟨g9, 2, none⟩ = some (.slice D9 l9 b9) := hr9.cell 2
  have z3 := hr3.lt
  have z9 := hr9.lt
  go_wp2_with fail
  clear c30 c31 c90 c91 c92 z3 z9
  have phr3 := hr3
  have phtab := htab
  have phr9 := hr9
  have phv9 := hv9
  have BBp := BB
  clear hr3 hr9 hv9 htab BB
  go_loopw [10] (fun iv wr => ∃ (k : Nat), k ≤ n ∧ iv = .int .i64 (k : Int) ∧ Below x2.heap.size x2 wr) (fun iv _ => n - (intOf iv).toNat)
  case atStart => exact ⟨0, by omega, rfl, Below.refl _ _⟩
  case round =>
    obtain ⟨k, hk, rfl, BQ⟩ := hrel
    have BB := BBp.trans (BQ.mono BBp.size)
    have hr3 := phr3.keep BQ
    have hr9 := phr9.keep BQ
    have hv9 := phv9.below BQ
    have htab := phtab.below BQ
    by_cases hlt : k < n
    · have hkI : (k : Int) < (n : Int) := by omega
      obtain ⟨bi, oi, ui, hLAk, hbi, hci, hui0⟩ := lst_at (R := IntsL) (d := []) (xs := ms) hls HLU.out hlt
      obtain ⟨rfl, rfl⟩ : lb = bi ∧ lo = oi := by injection hLAk with h; injection h with h1 h2 h3; exact ⟨h1, h2⟩
      clear hLAk
      have HII := Lib.hid (HIN.out k hlt)
      have HMI := Lib.hid (HMOD.out k hlt)
      obtain ⟨mi, hmi⟩ : ∃ x, ms.getD k [] = x := ⟨_, rfl⟩
      rw [hmi] at HII HMI hui0
      clear hmi
      obtain ⟨MA, mc, mus, rfl, hmlc, hmm, hms, hmu⟩ := id hui0
      have HMU := Lib.hid hmu
      have HML := Lib.hid HMI.out.1
      rw [HML.out] at hms hmlc hci hui0
      clear hmu
      obtain ⟨mb, mo, ua, hA1, hmb, hca, hua⟩ := lst_at (R := Nums .i64) (d := []) (xs := mi) hms HMU.out hA
      obtain ⟨mb', mo', ub, hB1, hmb', hcb, hub⟩ := lst_at (R := Nums .i64) (d := []) (xs := mi) hms HMU.out hB
      subst hA1
      obtain ⟨rfl, rfl⟩ : mb = mb' ∧ mo = mo' := by injection hB1 with h; injection h with h1 h2 h3; exact ⟨h1, h2⟩
      clear hB1 hmb' hms hmlc hmm
      obtain ⟨ra, hra⟩ : ∃ x, mi.getD a [] = x := ⟨_, rfl⟩
      obtain ⟨rb, hrb⟩ : ∃ x, mi.getD b [] = x := ⟨_, rfl⟩
      rw [hra] at hua HMI
      rw [hrb] at hub HMI
      clear hra hrb HMU
      obtain ⟨UA, uc, rfl, _, _, _⟩ := id hua
      obtain ⟨UB, uc', rfl, _, _, _⟩ := id hub
      have hui := hui0.below BB
      have gi := (BB.cell (p := ⟨lb, lo + k, none⟩) hbi).trans hci
      have hp0 := HP.out.below BB
      have hr0 := HR.out.below BB
      clear phr3 phr9 phv9 phtab
      have c30 : wr.cell? ⟨w.heap.size, 0, none⟩ = some (.slice PA pn pc) := hr3.cell 0
      have c31 : wr.cell? ⟨w.heap.size, 1, none⟩ = some (.slice RV rs.length vc) := hr3.cell 1
      have c90 : wr.cell? ⟨g9, 0, none⟩ = some (.bool (decide ((redP (f t) D) < 0))) := hr9.cell 0
      have c91 : wr.cell? ⟨g9, 1, none⟩ = some (.slice A9 k9 c9) := hr9.cell 1
      have c92 : wr.cell? ⟨g9, 2, none⟩ = some (.slice D9 l9 b9) := hr9.cell 2
      have z3 := hr3.lt
      have z9 := hr9.lt
      go_wp2_with fail
      have qs0 : wr.cell? ⟨w.heap.size, 0, none⟩ = some (.slice PA pn pc) := hr3.cell 0
      have qs1 : wr.cell? ⟨w.heap.size, 1, none⟩ = some (.slice RV rs.length vc) := hr3.cell 1
      have zs0 := hr3.lt
      have qs2 : wr.cell? ⟨lb, lo + k, none⟩ = some (.slice (some ⟨mb, mo, none⟩) pn mc) := gi
      have zs1 := Nat.lt_of_lt_of_le hbi BB.size
      go_cut [11, 12] (fun s0 s1 wx => ∃ (g : Nat) (A11 : Option Addr) (k11 c11 : Nat) (D11 : Option Addr) (l11 b11 : Nat), s0 = .pointer (some ⟨g, 0, none⟩) ∧ wr.heap.size ≤ g ∧ Row wx g 31 [.bool (decide ((redP (f k) D) < 0)), .slice A11 k11 c11, .slice D11 l11 b11] ∧ RatF wr.heap.size wx (.agg #[.bool (decide ((redP (f k) D) < 0)), .slice A11 k11 c11, .slice D11 l11 b11]) (redP (f k) D) (redQ (f k) D) 330 ∧ s1 = .int .i64 0 ∧ Below wr.heap.size wr wx)
      case first =>
        go_region_held3 (fun w' => w'.cell? ⟨w.heap.size, 0, none⟩ = some (.slice PA pn pc) ∧ w'.cell? ⟨w.heap.size, 1, none⟩ = some (.slice RV rs.length vc) ∧ w'.cell? ⟨lb, lo + k, none⟩ = some (.slice (some ⟨mb, mo, none⟩) pn mc))
          ((refine keep3c zs0 zs0 zs1 qs0 qs1 qs2 ?_; (repeat (first | with_reducible exact Below.refl _ _ | ((with_reducible refine bl_set ?_ ?_ _); rotate_left; (first | exact Nat.le_refl _ | exact gz4)) | with_reducible refine bl_call h4 ?_ | with_reducible refine bl_alloc ?_ _ | with_reducible refine bl_drew ?_)); done))
          (first
            | (go_at_call 9; ((with_reducible refine (HII.out _ _ (hp0.below ?_) (hr0.below ?_) (hui.below ?_)).mono ?_); (repeat (first | with_reducible exact Below.refl _ _ | ((with_reducible refine bl_set ?_ ?_ _); rotate_left; (first | exact Nat.le_refl _ | exact gz4)) | with_reducible refine bl_call h4 ?_ | with_reducible refine bl_alloc ?_ _ | with_reducible refine bl_drew ?_)); (repeat (first | with_reducible exact Below.refl _ _ | ((with_reducible refine bl_set ?_ ?_ _); rotate_left; (first | exact Nat.le_refl _ | exact gz4)) | with_reducible refine bl_call h4 ?_ | with_reducible refine bl_alloc ?_ _ | with_reducible refine bl_drew ?_)); (repeat (first | with_reducible exact Below.refl _ _ | ((with_reducible refine bl_set ?_ ?_ _); rotate_left; (first | exact Nat.le_refl _ | exact gz4)) | with_reducible refine bl_call h4 ?_ | with_reducible refine bl_alloc ?_ _ | with_reducible refine bl_drew ?_)); rintro e w4 ⟨v4, rfl, hR4, h4⟩; have gz4 : wr.heap.size ≤ w4.heap.size := (bl_call h4 (by (repeat (first | with_reducible exact Below.refl _ _ | ((with_reducible refine bl_set ?_ ?_ _); rotate_left; (first | exact Nat.le_refl _ | exact gz4)) | with_reducible refine bl_call h4 ?_ | with_reducible refine bl_alloc ?_ _ | with_reducible refine bl_drew ?_))) : Below wr.heap.size wr w4).size; (first | (have zg := RR.lt; replace RR := RR.keep h4) | (have R0 := Row.drew (Row.new wr 31 [.bool false, .slice none 0 0, .slice none 0 0]); have zg := R0.lt; have RR := R0.keep h4) | (have R0 := Row.new wr.drew 31 [.bool false, .slice none 0 0, .slice none 0 0]; have zg := R0.lt; have RR := R0.keep h4) | (have R0 := Row.new wr 31 [.bool false, .slice none 0 0, .slice none 0 0]; have zg := R0.lt; have RR := R0.keep h4) | skip); have hR4' := hR4; obtain ⟨m6, d6, e6, hm6, hd6, _, _⟩ := hR4'; subst e6; obtain ⟨A11, k11, c11, rfl⟩ := hm6.lim1.choose_spec.1.show_; obtain ⟨D11, l11, b11, rfl⟩ := hd6.lim1.choose_spec.1.show_; clear hm6 hd6; (try (have e0 := RR.cell 0; have e1 := RR.cell 1; have e2 := RR.cell 2; simp only [List.getElem?_cons_zero, List.getElem?_cons_succ] at e0 e1 e2; have f0 := RR.frozen 0; have f1 := RR.frozen 1; have f2 := RR.frozen 2)))))
        all_goals go_wp2_with fail
        all_goals go_meet
        all_goals go_light
        all_goals
          refine ⟨_, A11, k11, c11, D11, l11, b11, rfl, ?_, ?_, ?_, rfl, ?_⟩
          · (first | exact Nat.le_refl _ | exact gz4)
          · (first | exact Row.new _ _ _ | exact (((RR.set_ 0 _).set_ 1 _).set_ 2 _))
          · (first | exact (hR4.below (lit_below _ _)).base (bl_sz (by (repeat (first | with_reducible exact Below.refl _ _ | ((with_reducible refine bl_set ?_ ?_ _); rotate_left; (first | exact Nat.le_refl _ | exact gz4)) | with_reducible refine bl_call h4 ?_ | with_reducible refine bl_alloc ?_ _ | with_reducible refine bl_drew ?_)))) | exact ((((hR4.set_ zg _).set_ zg _).set_ zg _)).base (bl_sz (by (repeat (first | with_reducible exact Below.refl _ _ | ((with_reducible refine bl_set ?_ ?_ _); rotate_left; (first | exact Nat.le_refl _ | exact gz4)) | with_reducible refine bl_call h4 ?_ | with_reducible refine bl_alloc ?_ _ | with_reducible refine bl_drew ?_)))))
          · (repeat (first | with_reducible exact Below.refl _ _ | ((with_reducible refine bl_set ?_ ?_ _); rotate_left; (first | exact Nat.le_refl _ | exact gz4)) | with_reducible refine bl_call h4 ?_ | with_reducible refine bl_alloc ?_ _ | with_reducible refine bl_drew ?_))
      case rest =>
      obtain ⟨g11, A11, k11, c11, D11, l11, b11, rfl, hg11, hr11, hv11, rfl, hbc⟩ := hcut
      clear qs0 qs1 qs2 zs0 zs1 c30 c31 c90 c91 c92 z3 z9
      obtain ⟨x61, hx61⟩ : ∃ x, x = wc := ⟨_, rfl⟩
      rw [← hx61] at hr11 hv11 hbc ⊢
      clear hx61
      have o3_11 : w.heap.size < g11 := by have := hr3.lt; omega
      have o9_11 : g9 < g11 := by have := hr9.lt; omega
      have ob_11 : w.heap.size ≤ g11 := by have := BB.size; omega
      replace hr3 := hr3.keep hbc
      replace hr9 := hr9.keep hbc
      replace hv9 := hv9.below hbc
      replace htab := htab.below hbc
      replace BB : Below w.heap.size w x61 := BB.trans (hbc.mono BB.size)
      replace BQ : Below x2.heap.size x2 x61 := BQ.trans (hbc.mono BQ.size)
      clear hbc
      clear hp0 hr0 hui gi HII
      have u1 := HU.out.1
      have u2 := HU.out.2.1
      have u3 := HU.out.2.2
      have c30 : x61.cell? ⟨w.heap.size, 0, none⟩ = some (.slice PA pn pc) := hr3.cell 0
      have c31 : x61.cell? ⟨w.heap.size, 1, none⟩ = some (.slice RV rs.length vc) := hr3.cell 1
      have c90 : x61.cell? ⟨g9, 0, none⟩ = some (.bool (decide ((redP (f t) D) < 0))) := hr9.cell 0
      have c91 : x61.cell? ⟨g9, 1, none⟩ = some (.slice A9 k9 c9) := hr9.cell 1
      have c92 : x61.cell? ⟨g9, 2, none⟩ = some (.slice D9 l9 b9) := hr9.cell 2
      have c110 : x61.cell? ⟨g11, 0, none⟩ = some (.bool (decide ((redP (f k) D) < 0))) := hr11.cell 0
      have c111 : x61.cell? ⟨g11, 1, none⟩ = some (.slice A11 k11 c11) := hr11.cell 1
      have c112 : x61.cell? ⟨g11, 2, none⟩ = some (.slice D11 l11 b11) := hr11.cell 2
      have z3 := hr3.lt
      have z9 := hr9.lt
      have z11 := hr11.lt
      go_wp2_with fail
      go_cut [13, 14] (fun s7 s8 wx => s7 = .int .i64 (a : Int) ∧ s8 = .int .i64 (b : Int) ∧ Below x61.heap.size x61 wx)
      case first =>
        go_region
        all_goals go_wp2_with fail
        all_goals go_meet
        all_goals go_light
        all_goals refine ⟨?_, ?_, ?_⟩
        all_goals first | (refine congrArg (Value.int IntKind.i64) ?_; first | exact HAD.out | exact HBD.out | (have h1 := HAD.out; have h2 := HBD.out; (try split) <;> omega)) | exact (Below.refl _ _).drew | exact Below.refl _ _ | skip
      case rest =>
      obtain ⟨rfl, rfl, hbc⟩ := hcut
      clear c30 c31 c90 c91 c92 c110 c111 c112 z3 z9 z11 u1 u2 u3
      obtain ⟨x62, hx62⟩ : ∃ x, x = wc := ⟨_, rfl⟩
      rw [← hx62] at hbc ⊢
      clear hx62
      replace hr3 := hr3.keep hbc
      replace hr9 := hr9.keep hbc
      replace hv9 := hv9.below hbc
      replace htab := htab.below hbc
      replace hr11 := hr11.keep hbc
      replace hv11 := hv11.below hbc
      replace BB : Below w.heap.size w x62 := BB.trans (hbc.mono BB.size)
      replace BQ : Below x2.heap.size x2 x62 := BQ.trans (hbc.mono BQ.size)
      clear hbc
      have c30 : x62.cell? ⟨w.heap.size, 0, none⟩ = some (.slice PA pn pc) := hr3.cell 0
      have c31 : x62.cell? ⟨w.heap.size, 1, none⟩ = some (.slice RV rs.length vc) := hr3.cell 1
      have c90 : x62.cell? ⟨g9, 0, none⟩ = some (.bool (decide ((redP (f t) D) < 0))) := hr9.cell 0
      have c91 : x62.cell? ⟨g9, 1, none⟩ = some (.slice A9 k9 c9) := hr9.cell 1
      have c92 : x62.cell? ⟨g9, 2, none⟩ = some (.slice D9 l9 b9) := hr9.cell 2
      have c110 : x62.cell? ⟨g11, 0, none⟩ = some (.bool (decide ((redP (f k) D) < 0))) := hr11.cell 0
      have c111 : x62.cell? ⟨g11, 1, none⟩ = some (.slice A11 k11 c11) := hr11.cell 1
      have c112 : x62.cell? ⟨g11, 2, none⟩ = some (.slice D11 l11 b11) := hr11.cell 2
      have z3 := hr3.lt
      have z9 := hr9.lt
      have z11 := hr11.lt
      have gi : x62.cell? ⟨lb, lo + k, none⟩ = some (.slice (some ⟨mb, mo, none⟩) pn mc) := (BB.cell (p := ⟨lb, lo + k, none⟩) hbi).trans hci
      have ga := (BB.cell (p := ⟨mb, mo + a, none⟩) hmb).trans hca
      have gb := (BB.cell (p := ⟨mb, mo + b, none⟩) hmb).trans hcb
      have zi : lb < x62.heap.size := Nat.lt_of_lt_of_le hbi BB.size
      have zm : mb < x62.heap.size := Nat.lt_of_lt_of_le hmb BB.size
      have hua1 := hua.below BB
      have hub1 := hub.below BB
      have haI : (a : Int) < (pn : Int) := by omega
      have hbI : (b : Int) < (pn : Int) := by omega
      go_wp2_with fail
      go_cut [93] (fun s wx => s = .bool false ∧ Below x62.heap.size x62 wx)
      case first =>
        have HLE := Lib.hid (HMI.out.2.1.trans HMI.out.2.2.1.symm)
        have hQk := redQ_pos (p := f k) HDP.out
        by_cases hz : f k = 0
        · have HEQ : Hid (decide (ra = rb) = true) := decide_eq_true (HMI.out.2.2.2.2.1 hz)
          have HSG : Hid (sgnZ (redP (f k) D) = 0) := by unfold Hid; rw [sgn_red HMI.out.2.2.2.1 HDP.out, if_pos hz]
          clear hz
          go_region_held3 (fun w' => w'.cell? ⟨g11, 0, none⟩ = some (.bool (decide ((redP (f k) D) < 0))) ∧ w'.cell? ⟨g11, 1, none⟩ = some (.slice A11 k11 c11) ∧ w'.cell? ⟨g11, 2, none⟩ = some (.slice D11 l11 b11) ∧ w'.cell? ⟨lb, lo + k, none⟩ = some (.slice (some ⟨mb, mo, none⟩) pn mc) ∧ w'.cell? ⟨mb, mo + a, none⟩ = some (.slice UA ra.length uc) ∧ w'.cell? ⟨mb, mo + b, none⟩ = some (.slice UB rb.length uc'))
            ((refine keep6p z11 z11 z11 zi zm zm c110 c111 c112 gi ga gb ?_; (repeat (first | with_reducible exact Below.refl _ _ | with_reducible refine bl_call h7 ?_ | with_reducible refine bl_call h6 ?_ | with_reducible refine bl_call h5 ?_ | with_reducible refine bl_alloc ?_ _ | with_reducible refine bl_drew ?_)); done))
            (first
              | (have hagain := h5; go_at_call 17; ((with_reducible refine (qsign_any _ _ _ 330 _ ((hv11.ratA hQk).below ?_) (by decide)).mono ?_); (repeat (first | with_reducible exact Below.refl _ _ | with_reducible refine bl_call h7 ?_ | with_reducible refine bl_call h6 ?_ | with_reducible refine bl_call h5 ?_ | with_reducible refine bl_alloc ?_ _ | with_reducible refine bl_drew ?_)); rintro e w6 ⟨rfl, h6⟩; rw [HSG.out]))
              | (go_at_call 17; ((with_reducible refine (qsign_any _ _ _ 330 _ ((hv11.ratA hQk).below ?_) (by decide)).mono ?_); (repeat (first | with_reducible exact Below.refl _ _ | with_reducible refine bl_call h7 ?_ | with_reducible refine bl_call h6 ?_ | with_reducible refine bl_call h5 ?_ | with_reducible refine bl_alloc ?_ _ | with_reducible refine bl_drew ?_)); rintro e w5 ⟨rfl, h5⟩; rw [HSG.out]))
              | (go_at_call 18; ((with_reducible refine (leq_any _ _ ra rb _ (hua1.below ?_) (hub1.below ?_) HLE.out).mono ?_); (repeat (first | with_reducible exact Below.refl _ _ | with_reducible refine bl_call h7 ?_ | with_reducible refine bl_call h6 ?_ | with_reducible refine bl_call h5 ?_ | with_reducible refine bl_alloc ?_ _ | with_reducible refine bl_drew ?_)); (repeat (first | with_reducible exact Below.refl _ _ | with_reducible refine bl_call h7 ?_ | with_reducible refine bl_call h6 ?_ | with_reducible refine bl_call h5 ?_ | with_reducible refine bl_alloc ?_ _ | with_reducible refine bl_drew ?_)); rintro e w7 ⟨rfl, h7⟩; rw [HEQ.out])))
          all_goals go_wp2_with fail
          all_goals go_meet
          all_goals go_light
          all_goals exact ⟨rfl, by (repeat (first | with_reducible exact Below.refl _ _ | with_reducible refine bl_call h7 ?_ | with_reducible refine bl_call h6 ?_ | with_reducible refine bl_call h5 ?_ | with_reducible refine bl_alloc ?_ _ | with_reducible refine bl_drew ?_))⟩
        · have HEQ : Hid (decide (ra = rb) = false) := decide_eq_false (fun h => hz (HMI.out.2.2.2.2.2 h))
          have HSG : Hid (sgnZ (redP (f k) D) = 1) := by unfold Hid; rw [sgn_red HMI.out.2.2.2.1 HDP.out, if_neg hz]
          clear hz
          go_region_held3 (fun w' => w'.cell? ⟨g11, 0, none⟩ = some (.bool (decide ((redP (f k) D) < 0))) ∧ w'.cell? ⟨g11, 1, none⟩ = some (.slice A11 k11 c11) ∧ w'.cell? ⟨g11, 2, none⟩ = some (.slice D11 l11 b11) ∧ w'.cell? ⟨lb, lo + k, none⟩ = some (.slice (some ⟨mb, mo, none⟩) pn mc) ∧ w'.cell? ⟨mb, mo + a, none⟩ = some (.slice UA ra.length uc) ∧ w'.cell? ⟨mb, mo + b, none⟩ = some (.slice UB rb.length uc'))
            ((refine keep6p z11 z11 z11 zi zm zm c110 c111 c112 gi ga gb ?_; (repeat (first | with_reducible exact Below.refl _ _ | with_reducible refine bl_call h7 ?_ | with_reducible refine bl_call h6 ?_ | with_reducible refine bl_call h5 ?_ | with_reducible refine bl_alloc ?_ _ | with_reducible refine bl_drew ?_)); done))
            (first
              | (have hagain := h5; go_at_call 17; ((with_reducible refine (qsign_any _ _ _ 330 _ ((hv11.ratA hQk).below ?_) (by decide)).mono ?_); (repeat (first | with_reducible exact Below.refl _ _ | with_reducible refine bl_call h7 ?_ | with_reducible refine bl_call h6 ?_ | with_reducible refine bl_call h5 ?_ | with_reducible refine bl_alloc ?_ _ | with_reducible refine bl_drew ?_)); rintro e w6 ⟨rfl, h6⟩; rw [HSG.out]))
              | (go_at_call 17; ((with_reducible refine (qsign_any _ _ _ 330 _ ((hv11.ratA hQk).below ?_) (by decide)).mono ?_); (repeat (first | with_reducible exact Below.refl _ _ | with_reducible refine bl_call h7 ?_ | with_reducible refine bl_call h6 ?_ | with_reducible refine bl_call h5 ?_ | with_reducible refine bl_alloc ?_ _ | with_reducible refine bl_drew ?_)); rintro e w5 ⟨rfl, h5⟩; rw [HSG.out]))
              | (go_at_call 18; ((with_reducible refine (leq_any _ _ ra rb _ (hua1.below ?_) (hub1.below ?_) HLE.out).mono ?_); (repeat (first | with_reducible exact Below.refl _ _ | with_reducible refine bl_call h7 ?_ | with_reducible refine bl_call h6 ?_ | with_reducible refine bl_call h5 ?_ | with_reducible refine bl_alloc ?_ _ | with_reducible refine bl_drew ?_)); (repeat (first | with_reducible exact Below.refl _ _ | with_reducible refine bl_call h7 ?_ | with_reducible refine bl_call h6 ?_ | with_reducible refine bl_call h5 ?_ | with_reducible refine bl_alloc ?_ _ | with_reducible refine bl_drew ?_)); rintro e w7 ⟨rfl, h7⟩; rw [HEQ.out])))
          all_goals go_wp2_with fail
          all_goals go_meet
          all_goals go_light
          all_goals exact ⟨rfl, by (repeat (first | with_reducible exact Below.refl _ _ | with_reducible refine bl_call h7 ?_ | with_reducible refine bl_call h6 ?_ | with_reducible refine bl_call h5 ?_ | with_reducible refine bl_alloc ?_ _ | with_reducible refine bl_drew ?_))⟩
      case rest =>
      obtain ⟨rfl, hbc⟩ := hcut
      clear c30 c31 c90 c91 c92 c110 c111 c112 z3 z9 z11 gi ga gb zi zm hua1 hub1 haI hbI
      obtain ⟨x63, hx63⟩ : ∃ x, x = wc := ⟨_, rfl⟩
      rw [← hx63] at hbc ⊢
      clear hx63
      replace hr3 := hr3.keep hbc
      replace hr9 := hr9.keep hbc
      replace hv9 := hv9.below hbc
      replace htab := htab.below hbc
      replace hr11 := hr11.keep hbc
      replace hv11 := hv11.below hbc
      replace BB : Below w.heap.size w x63 := BB.trans (hbc.mono BB.size)
      replace BQ : Below x2.heap.size x2 x63 := BQ.trans (hbc.mono BQ.size)
      clear hbc
      have c30 : x63.cell? ⟨w.heap.size, 0, none⟩ = some (.slice PA pn pc) := hr3.cell 0
      have c31 : x63.cell? ⟨w.heap.size, 1, none⟩ = some (.slice RV rs.length vc) := hr3.cell 1
      have c90 : x63.cell? ⟨g9, 0, none⟩ = some (.bool (decide ((redP (f t) D) < 0))) := hr9.cell 0
      have c91 : x63.cell? ⟨g9, 1, none⟩ = some (.slice A9 k9 c9) := hr9.cell 1
      have c92 : x63.cell? ⟨g9, 2, none⟩ = some (.slice D9 l9 b9) := hr9.cell 2
      have c110 : x63.cell? ⟨g11, 0, none⟩ = some (.bool (decide ((redP (f k) D) < 0))) := hr11.cell 0
      have c111 : x63.cell? ⟨g11, 1, none⟩ = some (.slice A11 k11 c11) := hr11.cell 1
      have c112 : x63.cell? ⟨g11, 2, none⟩ = some (.slice D11 l11 b11) := hr11.cell 2
      have z3 := hr3.lt
      have z9 := hr9.lt
      have z11 := hr11.lt
      go_wp2_with fail
      clear c30 c31 c90 c91 c92 c110 c111 c112 z3 z9 z11
      refine (qcmp_any _ _ _ _ _ _ 330 _ (hv11.ratA (redQ_pos HDP.out)) (hv9.ratA (redQ_pos HDP.out)) (by decide) (by decide)).mono ?_
      rintro e x64 ⟨rfl, hb⟩
      replace hr3 := hr3.keep hb
      replace hr9 := hr9.keep hb
      replace hv9 := hv9.below hb
      replace htab := htab.below hb
      replace hr11 := hr11.keep hb
      replace hv11 := hv11.below hb
      replace BB : Below w.heap.size w x64 := BB.trans (hb.mono BB.size)
      replace BQ : Below x2.heap.size x2 x64 := BQ.trans (hb.mono BQ.size)
      clear hb
      rw [cmp_redI _ _ HDP.out]
      have hmx := HTOP.out k hlt
      obtain ⟨cm, hcm⟩ : ∃ x, cmpZ (f k) (f t) = x := ⟨_, rfl⟩
      rw [hcm]
      have hc1 : cm ≤ 0 := by rw [← hcm]; exact cmp_le0 hmx.1
      have d1 : decide (0 < cm) = false := decide_eq_false (by omega)
      by_cases hc0 : cm = 0
      · have hkt : ¬ k < t := fun h => by have := hmx.2 h; have h3 := cmp_ne0 this; omega
        subst hc0
        have d2 : decide ((k : Int) < (t : Int)) = false := decide_eq_false (by omega)
        have d2n : decide (k < t) = false := decide_eq_false hkt
        clear hcm hmx hc1
        have c30 : x64.cell? ⟨w.heap.size, 0, none⟩ = some (.slice PA pn pc) := hr3.cell 0
        have c31 : x64.cell? ⟨w.heap.size, 1, none⟩ = some (.slice RV rs.length vc) := hr3.cell 1
        have c90 : x64.cell? ⟨g9, 0, none⟩ = some (.bool (decide ((redP (f t) D) < 0))) := hr9.cell 0
        have c91 : x64.cell? ⟨g9, 1, none⟩ = some (.slice A9 k9 c9) := hr9.cell 1
        have c92 : x64.cell? ⟨g9, 2, none⟩ = some (.slice D9 l9 b9) := hr9.cell 2
        have c110 : x64.cell? ⟨g11, 0, none⟩ = some (.bool (decide ((redP (f k) D) < 0))) := hr11.cell 0
        have c111 : x64.cell? ⟨g11, 1, none⟩ = some (.slice A11 k11 c11) := hr11.cell 1
        have c112 : x64.cell? ⟨g11, 2, none⟩ = some (.slice D11 l11 b11) := hr11.cell 2
        have z3 := hr3.lt
        have z9 := hr9.lt
        have z11 := hr11.lt
        go_wp2_with fail
        clear c30 c31 c90 c91 c92 c110 c111 c112 z3 z9 z11
        go_roundw
        case rel => exact ⟨k + 1, by omega, by go_num, BQ⟩
        case measure => simp [intOf]; omega
      · have d2 : (cm == 0) = false := by rw [beq_eq_false_iff_ne]; exact hc0
        clear hcm hmx hc1
        have c30 : x64.cell? ⟨w.heap.size, 0, none⟩ = some (.slice PA pn pc) := hr3.cell 0
        have c31 : x64.cell? ⟨w.heap.size, 1, none⟩ = some (.slice RV rs.length vc) := hr3.cell 1
        have c90 : x64.cell? ⟨g9, 0, none⟩ = some (.bool (decide ((redP (f t) D) < 0))) := hr9.cell 0
        have c91 : x64.cell? ⟨g9, 1, none⟩ = some (.slice A9 k9 c9) := hr9.cell 1
        have c92 : x64.cell? ⟨g9, 2, none⟩ = some (.slice D9 l9 b9) := hr9.cell 2
        have c110 : x64.cell? ⟨g11, 0, none⟩ = some (.bool (decide ((redP (f k) D) < 0))) := hr11.cell 0
        have c111 : x64.cell? ⟨g11, 1, none⟩ = some (.slice A11 k11 c11) := hr11.cell 1
        have c112 : x64.cell? ⟨g11, 2, none⟩ = some (.slice D11 l11 b11) := hr11.cell 2
        have z3 := hr3.lt
        have z9 := hr9.lt
        have z11 := hr11.lt
        go_wp2_with fail
        clear c30 c31 c90 c91 c92 c110 c111 c112 z3 z9 z11
        go_roundw
        case rel => exact ⟨k + 1, by omega, by go_num, BQ⟩
        case measure => simp [intOf]; omega
    · obtain rfl : n = k := by omega
      clear hr9 hv9 phr3 phr9 phv9 phtab
      have c30 : wr.cell? ⟨w.heap.size, 0, none⟩ = some (.slice PA pn pc) := hr3.cell 0
      have c31 : wr.cell? ⟨w.heap.size, 1, none⟩ = some (.slice RV rs.length vc) := hr3.cell 1
      have z3 := hr3.lt
      go_wp2_with fail
      clear c30 c31 z3
      refine (awake_any _ htab).mono ?_
      rintro e x96 ⟨rfl, hb⟩
      replace hr3 := hr3.keep hb
      replace htab := htab.below hb
      replace BB : Below w.heap.size w x96 := BB.trans (hb.mono BB.size)
      replace BQ : Below x2.heap.size x2 x96 := BQ.trans (hb.mono BQ.size)
      clear hb
      have c30 : x96.cell? ⟨w.heap.size, 0, none⟩ = some (.slice PA pn pc) := hr3.cell 0
      have c31 : x96.cell? ⟨w.heap.size, 1, none⟩ = some (.slice RV rs.length vc) := hr3.cell 1
      have z3 := hr3.lt
      go_wp2_with fail
      clear c30 c31 z3
      go_ret
      exact ⟨rfl, BB⟩
theorem lpos_any (pv rv lv : Value) (ps rs : List Int) (ms : List Mdl) (q : Int) (w : World) (hp : Nums .i64 w pv ps) (hr : Nums .i64 w rv rs) (hm : ModL w lv ms) (htab : Pow10 w) :
    Calls Tryd.prog 5 #[.agg #[pv, rv], lv, .int .i64 q] w fun e w' => e = .returned (.bool true) ∧ Below w.heap.size w w' := by
  by_cases hE : bstE ps rs ms q = 0
  · obtain ⟨_, _, _, e3, e4⟩ := bstE_zero hE
    obtain ⟨q', rfl⟩ := Int.eq_ofNat_of_zero_le e3
    exact lpos_ok pv rv lv ps rs ms q' w hp hr hm htab hE
  · exact lpos_no pv rv lv ps rs ms q w hp hr hm htab hE
end Go.Proofs.YtompckomogmhiaaDoor
