/- Law InformStretch. -/
import Derived.Test.YtompckomogmhiaaDoorInW
import Derived.Test.YtompckomogmhiaaDoorInR
import Derived.Deep.RegionLaw
import Derived.Deep.RegionHeld3
import Derived.Deep.AppendLies
namespace Go.Proofs.YtompckomogmhiaaDoor
open Go.RowKit
set_option linter.unusedVariables false
set_option maxRecDepth 100000

theorem Row.grow {w w' : World} {g t base e n : Nat} {xs ys : List Value} {v : Value} {w0 : World} (h : Row w g t xs) (hg : w.grownBy w' v.ownBlock) (ho : w0.ownsRow base e 1 v n ys) (hb : g < base) : Row w' g t xs :=
  (hg.block g h.lt (fun hh => by have := (ho.lt g hh.symm).1; omega)).trans h
theorem num_own {w : World} {base e n : Nat} {v : Value} {zs : List Int} (h : w.ownsRow base e 1 v n (zs.map (Value.int .i64))) : Nums .i64 w v zs := Nums.of_own h
theorem mul_wrap {x c : Int} (a : -1000 ≤ x) (b : x ≤ 1000) (d : 1 ≤ c) (e : c ≤ 255) : IntKind.i64.wrap (x * c) = x * c := by
  have h1 : x * c ≤ 1000 * 255 := Int.le_trans (Int.mul_le_mul_of_nonneg_right b (by omega)) (by omega)
  have h2 : (-1000) * 255 ≤ x * c := Int.le_trans (by omega) (Int.mul_le_mul_of_nonneg_right a (show 0 ≤ c by omega))
  rw [IntKind.wrap_i64]; omega
theorem sq_bd {c : Int} (d : 1 ≤ c) (e : c ≤ 255) : 1 ≤ c * c ∧ c * c ≤ 65025 := by
  have h1 : c * c ≤ 255 * c := Int.mul_le_mul_of_nonneg_right e (by omega)
  have h2 : 1 * c ≤ c * c := Int.mul_le_mul_of_nonneg_right d (by omega)
  omega
theorem take_sc {n : Nat} {c : Int} (hc : c = (n : Int)) {ps : List Int} {k : Nat} (h : k < ps.length) : ((scP n ps).take (k + 1)).map (Value.int .i64) = ((scP n ps).take k).map (Value.int .i64) ++ [.int .i64 (ps.getD k 0 * c)] := by
  rw [List.take_succ_eq_append_getElem (by rw [scP_len]; exact h), List.map_append]
  have := scP_get n ps k
  rw [List.getD_eq_getElem?_getD, List.getElem?_eq_getElem (by rw [scP_len]; exact h)] at this
  simp only [Option.getD_some] at this
  rw [this, ← hc]
  rfl
theorem gridE_sc {ps rs : List Int} {n : Nat} (hn : 0 < n) (h : gridE ps rs = 0) : gridE (scP n ps) rs = 0 ∨ gridE (scP n ps) rs = 3 := by
  obtain ⟨a, b, c, d, e⟩ := gridE_zero h
  rcases hr : rngOk (scP n ps) rs with _ | _
  · exact .inr (gridE_rng (by rw [scP_len]; exact a) (by rw [scP_len]; exact b) (by rw [scP_len]; exact c) hr)
  · refine .inl (gridE_ok (by rw [scP_len]; exact a) (by rw [scP_len]; exact b) (by rw [scP_len]; exact c) hr (riseOk_yes fun j hj => ?_))
    rw [scP_get, scP_get]
    rw [scP_len] at hj
    exact Int.mul_lt_mul_of_pos_right (e j hj) (by omega)
theorem itemE_sc {ps rs : List Int} {m : List (List Int)} {q : Int} {n : Nat} (hn : 0 < n) (h : itemE ps rs m q = 0) : itemE (scP n ps) rs m q = 0 ∨ itemE (scP n ps) rs m q = 3 := by
  obtain ⟨a, b, c, d⟩ := itemE_zero h
  unfold itemE
  rw [scP_len]
  rcases gridE_sc hn a with h1 | h1
  · rw [if_neg (by simpa using h1), if_neg (by simpa using b), if_neg (by omega)]; exact .inl rfl
  · rw [if_pos (by rw [h1]; omega)]; exact .inr h1
theorem keep9s {W w' : World} {p1 p2 p3 p4 p5 p6 p7 p8 p9 : Addr} {x1 x2 x3 x4 x5 x6 x7 x8 x9 : Value} (l1 : p1.block < W.heap.size) (l2 : p2.block < W.heap.size) (l3 : p3.block < W.heap.size) (l4 : p4.block < W.heap.size) (l5 : p5.block < W.heap.size) (l6 : p6.block < W.heap.size) (l7 : p7.block < W.heap.size) (l8 : p8.block < W.heap.size) (l9 : p9.block < W.heap.size)
    (h1 : W.cell? p1 = some x1) (h2 : W.cell? p2 = some x2) (h3 : W.cell? p3 = some x3) (h4 : W.cell? p4 = some x4) (h5 : W.cell? p5 = some x5) (h6 : W.cell? p6 = some x6) (h7 : W.cell? p7 = some x7) (h8 : W.cell? p8 = some x8) (h9 : W.cell? p9 = some x9) (hb : Below W.heap.size W w') :
    w'.cell? p1 = some x1 ∧ w'.cell? p2 = some x2 ∧ w'.cell? p3 = some x3 ∧ w'.cell? p4 = some x4 ∧ w'.cell? p5 = some x5 ∧ w'.cell? p6 = some x6 ∧ w'.cell? p7 = some x7 ∧ w'.cell? p8 = some x8 ∧ w'.cell? p9 = some x9 :=
  ⟨(hb.cell l1).trans h1, (hb.cell l2).trans h2, (hb.cell l3).trans h3, (hb.cell l4).trans h4, (hb.cell l5).trans h5, (hb.cell l6).trans h6, (hb.cell l7).trans h7, (hb.cell l8).trans h8, (hb.cell l9).trans h9⟩
theorem qcmp_eq (v u : Value) (p : Int) (q L : Nat) (w : World) (ha : RatA w v p q L) (hb : RatA w u p q L) (hL : 2 ≤ L) (hM : L ≤ 35184372088800) :
    Calls Tryd.prog 13 #[v, u] w fun e w' => e = .returned (.int .i64 0) ∧ Below w.heap.size w w' :=
  (qcmp_any v u p p q q L w ha hb hL hM).mono fun e w' h => ⟨by rw [h.1]; unfold cmpZ; rw [if_neg (by omega), if_neg (by omega)], h.2⟩

set_option maxHeartbeats 16000000 in
theorem lstr_e (pv rv mv : Value) (ps rs : List Int) (m : List (List Int)) (q : Int) (c : Int) (w : World) (hp : Nums .i64 w pv ps) (hr : Nums .i64 w rv rs) (hm : IntsL w mv m) (htab : Pow10 w) (hE : itemE ps rs m q ≠ 0) :
    Calls Tryd.prog 4 #[.agg #[pv, rv], .agg #[mv], .int .i64 q, .int .u8 c] w fun e w' => e = .returned (.bool true) ∧ Below w.heap.size w w' := by
  have HI := Lib.hid (fun (W : World) (h : Below w.heap.size w W) => item_no pv rv mv ps rs m q W (hp.below h) (hr.below h) (hm.below h) hE)
  obtain ⟨E, hEE⟩ : ∃ x, itemE ps rs m q = x := ⟨_, rfl⟩
  rw [hEE] at HI hE
  have f : (E != 0) = true := by rw [bne_iff_ne]; exact hE
  clear hEE hE
  obtain ⟨PA, pc, rfl, _, _, hps⟩ := hp
  obtain ⟨RV, vc, rfl, _, _, _⟩ := hr
  obtain ⟨MA, mc, mus, rfl, _, _, _, _⟩ := hm
  obtain ⟨pn, hpn⟩ : ∃ x, ps.length = x := ⟨_, rfl⟩
  obtain ⟨rn, hrn⟩ : ∃ x, rs.length = x := ⟨_, rfl⟩
  obtain ⟨ml, hml⟩ : ∃ x, m.length = x := ⟨_, rfl⟩
  rw [hpn, hrn, hml] at HI
  clear hps
  rw [hpn, hrn, hml]
  clear hpn hrn hml
  obtain ⟨W0, hW0⟩ : ∃ W0 : World, W0 = (w.alloc (.cells #[.slice PA pn pc, .slice RV rn vc] 24)).alloc (.cells #[.slice MA ml mc] 40) := ⟨_, rfl⟩
  have r0 : Row W0 w.heap.size 24 [.slice PA pn pc, .slice RV rn vc] := by
    rw [hW0]
    have := Row.alloc (Row.new w 24 [.slice PA pn pc, .slice RV rn vc]) (.cells #[.slice MA ml mc] 40)
    simpa using this
  have r1 : Row W0 (w.heap.size + 1) 40 [.slice MA ml mc] := by
    rw [hW0]
    have := Row.new (w.alloc (.cells #[.slice PA pn pc, .slice RV rn vc] 24)) 40 [.slice MA ml mc]
    simpa using this
  have B0 : Below w.heap.size w W0 := by rw [hW0]; exact (((Below.refl _ _).alloc (Nat.le_refl _) _).alloc (by simp) _)
  go_enter Tryd.func4, Tryd.ntmps4
  go_wp2_with fail
  rw [← hW0]
  clear hW0
  replace htab := htab.below B0
  have BB := B0
  have hr4 := r0
  have hr5 := r1
  clear B0 r0 r1
  have c40 : W0.cell? ⟨w.heap.size, 0, none⟩ = some (.slice PA pn pc) := hr4.cell 0
  have c41 : W0.cell? ⟨w.heap.size, 1, none⟩ = some (.slice RV rn vc) := hr4.cell 1
  have c50 : W0.cell? ⟨w.heap.size + 1, 0, none⟩ = some (.slice MA ml mc) := hr5.cell 0
  have z4 := hr4.lt
  have z5 := hr5.lt
  go_wp2_with fail
  clear c40 c41 c50 z4 z5
  refine (HI.out _ BB).mono ?_
  rintro e x1 ⟨rfl, hb⟩
  replace hr4 := hr4.keep hb
  replace hr5 := hr5.keep hb
  replace htab := htab.below hb
  replace BB : Below w.heap.size w x1 := BB.trans (hb.mono BB.size)
  clear hb
  obtain ⟨g9, hg9⟩ : ∃ g, x1.heap.size = g := ⟨_, rfl⟩
  have hr9 : Row (x1.alloc (.cells #[.bool false, .slice none 0 0, .slice none 0 0] 31)) g9 31 [.bool false, .slice none 0 0, .slice none 0 0] := row_at hg9
  have hl := lit_below x1 (.cells #[.bool false, .slice none 0 0, .slice none 0 0] 31)
  have o4_9 : w.heap.size < g9 := by have := hr4.lt; omega
  have o5_9 : w.heap.size + 1 < g9 := by have := hr5.lt; omega
  have ob_9 : w.heap.size ≤ g9 := by have := BB.size; omega
  have c40 : x1.cell? ⟨w.heap.size, 0, none⟩ = some (.slice PA pn pc) := hr4.cell 0
  have c41 : x1.cell? ⟨w.heap.size, 1, none⟩ = some (.slice RV rn vc) := hr4.cell 1
  have c50 : x1.cell? ⟨w.heap.size + 1, 0, none⟩ = some (.slice MA ml mc) := hr5.cell 0
  have d40 : (x1.alloc (.cells #[.bool false, .slice none 0 0, .slice none 0 0] 31)).cell? ⟨w.heap.size, 0, none⟩ = some (.slice PA pn pc) := (hr4.alloc _).cell 0
  have d41 : (x1.alloc (.cells #[.bool false, .slice none 0 0, .slice none 0 0] 31)).cell? ⟨w.heap.size, 1, none⟩ = some (.slice RV rn vc) := (hr4.alloc _).cell 1
  have d50 : (x1.alloc (.cells #[.bool false, .slice none 0 0, .slice none 0 0] 31)).cell? ⟨w.heap.size + 1, 0, none⟩ = some (.slice MA ml mc) := (hr5.alloc _).cell 0
  have e0 : (x1.alloc (.cells #[.bool false, .slice none 0 0, .slice none 0 0] 31)).cell? ⟨g9, 0, none⟩ = some (.bool false) := hr9.cell 0
  have e1 : (x1.alloc (.cells #[.bool false, .slice none 0 0, .slice none 0 0] 31)).cell? ⟨g9, 1, none⟩ = some (.slice none 0 0) := hr9.cell 1
  have e2 : (x1.alloc (.cells #[.bool false, .slice none 0 0, .slice none 0 0] 31)).cell? ⟨g9, 2, none⟩ = some (.slice none 0 0) := hr9.cell 2
  go_wp2_with fail
  clear c40 c41 c50 d40 d41 d50 e0 e1 e2
  clear hg9
  generalize (x1.alloc (.cells #[.bool false, .slice none 0 0, .slice none 0 0] 31)) = x2 at *
  replace hr4 := hr4.keep hl
  replace hr5 := hr5.keep hl
  replace htab := htab.below hl
  replace BB : Below w.heap.size w x2 := BB.trans (hl.mono BB.size)
  clear hl
  have c40 : x2.cell? ⟨w.heap.size, 0, none⟩ = some (.slice PA pn pc) := hr4.cell 0
  have c41 : x2.cell? ⟨w.heap.size, 1, none⟩ = some (.slice RV rn vc) := hr4.cell 1
  have c50 : x2.cell? ⟨w.heap.size + 1, 0, none⟩ = some (.slice MA ml mc) := hr5.cell 0
  have c90 : x2.cell? ⟨g9, 0, none⟩ = some (.bool false) := hr9.cell 0
  have c91 : x2.cell? ⟨g9, 1, none⟩ = some (.slice none 0 0) := hr9.cell 1
  have c92 : x2.cell? ⟨g9, 2, none⟩ = some (.slice none 0 0) := hr9.cell 2
  have z4 := hr4.lt
  have z5 := hr5.lt
  have z9 := hr9.lt
  go_wp2_with fail
  clear c40 c41 c50 c90 c91 c92 z4 z5 z9
  refine (awake_any _ htab).mono ?_
  rintro e x3 ⟨rfl, hb⟩
  replace hr4 := hr4.keep hb
  replace hr5 := hr5.keep hb
  replace htab := htab.below hb
  replace hr9 := hr9.keep hb
  replace BB : Below w.heap.size w x3 := BB.trans (hb.mono BB.size)
  clear hb
  have c40 : x3.cell? ⟨w.heap.size, 0, none⟩ = some (.slice PA pn pc) := hr4.cell 0
  have c41 : x3.cell? ⟨w.heap.size, 1, none⟩ = some (.slice RV rn vc) := hr4.cell 1
  have c50 : x3.cell? ⟨w.heap.size + 1, 0, none⟩ = some (.slice MA ml mc) := hr5.cell 0
  have c90 : x3.cell? ⟨g9, 0, none⟩ = some (.bool false) := hr9.cell 0
  have c91 : x3.cell? ⟨g9, 1, none⟩ = some (.slice none 0 0) := hr9.cell 1
  have c92 : x3.cell? ⟨g9, 2, none⟩ = some (.slice none 0 0) := hr9.cell 2
  have z4 := hr4.lt
  have z5 := hr5.lt
  have z9 := hr9.lt
  go_wp2_with fail
  clear c40 c41 c50 c90 c91 c92 z4 z5 z9
  go_ret
  exact ⟨rfl, BB⟩
set_option maxHeartbeats 16000000 in
theorem lstr_z (pv rv mv : Value) (ps rs : List Int) (m : List (List Int)) (q : Nat) (c : Int) (w : World) (hp : Nums .i64 w pv ps) (hr : Nums .i64 w rv rs) (hm : IntsL w mv m) (htab : Pow10 w) (hE : itemE ps rs m (q : Int) = 0) (hc : c = 0) :
    Calls Tryd.prog 4 #[.agg #[pv, rv], .agg #[mv], .int .i64 (q : Int), .int .u8 c] w fun e w' => e = .returned (.bool true) ∧ Below w.heap.size w w' := by
  obtain ⟨Z, hZ⟩ := lam_ex
  have HI := Lib.hid (fun (W : World) (h : Below w.heap.size w W) => item_ok pv rv mv ps rs m q Z W (hp.below h) (hr.below h) (hm.below h) hZ hE)
  obtain ⟨P, hP⟩ : ∃ x, redP (inF Z m ps.length q) (ifD Z ps q) = x := ⟨_, rfl⟩
  rw [hP] at HI
  subst hc
  clear hE hP
  obtain ⟨PA, pc, rfl, _, _, hps⟩ := hp
  obtain ⟨RV, vc, rfl, _, _, _⟩ := hr
  obtain ⟨MA, mc, mus, rfl, _, _, _, _⟩ := hm
  obtain ⟨pn, hpn⟩ : ∃ x, ps.length = x := ⟨_, rfl⟩
  obtain ⟨rn, hrn⟩ : ∃ x, rs.length = x := ⟨_, rfl⟩
  obtain ⟨ml, hml⟩ : ∃ x, m.length = x := ⟨_, rfl⟩
  rw [hpn, hrn, hml] at HI
  clear hps
  rw [hpn, hrn, hml]
  clear hpn hrn hml
  obtain ⟨W0, hW0⟩ : ∃ W0 : World, W0 = (w.alloc (.cells #[.slice PA pn pc, .slice RV rn vc] 24)).alloc (.cells #[.slice MA ml mc] 40) := ⟨_, rfl⟩
  have r0 : Row W0 w.heap.size 24 [.slice PA pn pc, .slice RV rn vc] := by
    rw [hW0]
    have := Row.alloc (Row.new w 24 [.slice PA pn pc, .slice RV rn vc]) (.cells #[.slice MA ml mc] 40)
    simpa using this
  have r1 : Row W0 (w.heap.size + 1) 40 [.slice MA ml mc] := by
    rw [hW0]
    have := Row.new (w.alloc (.cells #[.slice PA pn pc, .slice RV rn vc] 24)) 40 [.slice MA ml mc]
    simpa using this
  have B0 : Below w.heap.size w W0 := by rw [hW0]; exact (((Below.refl _ _).alloc (Nat.le_refl _) _).alloc (by simp) _)
  go_enter Tryd.func4, Tryd.ntmps4
  go_wp2_with fail
  rw [← hW0]
  clear hW0
  replace htab := htab.below B0
  have BB := B0
  have hr4 := r0
  have hr5 := r1
  clear B0 r0 r1
  have c40 : W0.cell? ⟨w.heap.size, 0, none⟩ = some (.slice PA pn pc) := hr4.cell 0
  have c41 : W0.cell? ⟨w.heap.size, 1, none⟩ = some (.slice RV rn vc) := hr4.cell 1
  have c50 : W0.cell? ⟨w.heap.size + 1, 0, none⟩ = some (.slice MA ml mc) := hr5.cell 0
  have z4 := hr4.lt
  have z5 := hr5.lt
  go_wp2_with fail
  clear c40 c41 c50 z4 z5
  refine (HI.out _ BB).mono ?_
  rintro e x1 ⟨v9, rfl, hv9, hb⟩
  replace hr4 := hr4.keep hb
  replace hr5 := hr5.keep hb
  replace htab := htab.below hb
  replace BB : Below w.heap.size w x1 := BB.trans (hb.mono BB.size)
  clear hb
  have h9' := hv9
  obtain ⟨m9, d9, e9, hm9, hd9, _, _⟩ := h9'
  subst e9
  obtain ⟨A9, k9, c9, rfl⟩ := hm9.lim1.choose_spec.1.show_
  obtain ⟨D9, l9, b9, rfl⟩ := hd9.lim1.choose_spec.1.show_
  clear hm9 hd9
  obtain ⟨g9, hg9⟩ : ∃ g, x1.heap.size = g := ⟨_, rfl⟩
  have hr9 : Row (x1.alloc (.cells #[.bool (decide (P < 0)), .slice A9 k9 c9, .slice D9 l9 b9] 31)) g9 31 [.bool (decide (P < 0)), .slice A9 k9 c9, .slice D9 l9 b9] := row_at hg9
  have hl := lit_below x1 (.cells #[.bool (decide (P < 0)), .slice A9 k9 c9, .slice D9 l9 b9] 31)
  have o4_9 : w.heap.size < g9 := by have := hr4.lt; omega
  have o5_9 : w.heap.size + 1 < g9 := by have := hr5.lt; omega
  have ob_9 : w.heap.size ≤ g9 := by have := BB.size; omega
  have c40 : x1.cell? ⟨w.heap.size, 0, none⟩ = some (.slice PA pn pc) := hr4.cell 0
  have c41 : x1.cell? ⟨w.heap.size, 1, none⟩ = some (.slice RV rn vc) := hr4.cell 1
  have c50 : x1.cell? ⟨w.heap.size + 1, 0, none⟩ = some (.slice MA ml mc) := hr5.cell 0
  have d40 : (x1.alloc (.cells #[.bool (decide (P < 0)), .slice A9 k9 c9, .slice D9 l9 b9] 31)).cell? ⟨w.heap.size, 0, none⟩ = some (.slice PA pn pc) := (hr4.alloc _).cell 0
  have d41 : (x1.alloc (.cells #[.bool (decide (P < 0)), .slice A9 k9 c9, .slice D9 l9 b9] 31)).cell? ⟨w.heap.size, 1, none⟩ = some (.slice RV rn vc) := (hr4.alloc _).cell 1
  have d50 : (x1.alloc (.cells #[.bool (decide (P < 0)), .slice A9 k9 c9, .slice D9 l9 b9] 31)).cell? ⟨w.heap.size + 1, 0, none⟩ = some (.slice MA ml mc) := (hr5.alloc _).cell 0
  have e0 : (x1.alloc (.cells #[.bool (decide (P < 0)), .slice A9 k9 c9, .slice D9 l9 b9] 31)).cell? ⟨g9, 0, none⟩ = some (.bool (decide (P < 0))) := hr9.cell 0
  have e1 : (x1.alloc (.cells #[.bool (decide (P < 0)), .slice A9 k9 c9, .slice D9 l9 b9] 31)).cell? ⟨g9, 1, none⟩ = some (.slice A9 k9 c9) := hr9.cell 1
  have e2 : (x1.alloc (.cells #[.bool (decide (P < 0)), .slice A9 k9 c9, .slice D9 l9 b9] 31)).cell? ⟨g9, 2, none⟩ = some (.slice D9 l9 b9) := hr9.cell 2
  go_wp2_with fail
  clear c40 c41 c50 d40 d41 d50 e0 e1 e2
  clear hg9
  generalize (x1.alloc (.cells #[.bool (decide (P < 0)), .slice A9 k9 c9, .slice D9 l9 b9] 31)) = x2 at *
  replace hr4 := hr4.keep hl
  replace hr5 := hr5.keep hl
  replace htab := htab.below hl
  replace hv9 := hv9.below hl
  replace BB : Below w.heap.size w x2 := BB.trans (hl.mono BB.size)
  clear hl
  clear hv9
  have c40 : x2.cell? ⟨w.heap.size, 0, none⟩ = some (.slice PA pn pc) := hr4.cell 0
  have c41 : x2.cell? ⟨w.heap.size, 1, none⟩ = some (.slice RV rn vc) := hr4.cell 1
  have c50 : x2.cell? ⟨w.heap.size + 1, 0, none⟩ = some (.slice MA ml mc) := hr5.cell 0
  have c90 : x2.cell? ⟨g9, 0, none⟩ = some (.bool (decide (P < 0))) := hr9.cell 0
  have c91 : x2.cell? ⟨g9, 1, none⟩ = some (.slice A9 k9 c9) := hr9.cell 1
  have c92 : x2.cell? ⟨g9, 2, none⟩ = some (.slice D9 l9 b9) := hr9.cell 2
  have z4 := hr4.lt
  have z5 := hr5.lt
  have z9 := hr9.lt
  go_wp2_with fail
  clear c40 c41 c50 c90 c91 c92 z4 z5 z9
  refine (awake_any _ htab).mono ?_
  rintro e x3 ⟨rfl, hb⟩
  replace hr4 := hr4.keep hb
  replace hr5 := hr5.keep hb
  replace htab := htab.below hb
  replace hr9 := hr9.keep hb
  replace BB : Below w.heap.size w x3 := BB.trans (hb.mono BB.size)
  clear hb
  have c40 : x3.cell? ⟨w.heap.size, 0, none⟩ = some (.slice PA pn pc) := hr4.cell 0
  have c41 : x3.cell? ⟨w.heap.size, 1, none⟩ = some (.slice RV rn vc) := hr4.cell 1
  have c50 : x3.cell? ⟨w.heap.size + 1, 0, none⟩ = some (.slice MA ml mc) := hr5.cell 0
  have c90 : x3.cell? ⟨g9, 0, none⟩ = some (.bool (decide (P < 0))) := hr9.cell 0
  have c91 : x3.cell? ⟨g9, 1, none⟩ = some (.slice A9 k9 c9) := hr9.cell 1
  have c92 : x3.cell? ⟨g9, 2, none⟩ = some (.slice D9 l9 b9) := hr9.cell 2
  have z4 := hr4.lt
  have z5 := hr5.lt
  have z9 := hr9.lt
  go_wp2_with fail
  clear c40 c41 c50 c90 c91 c92 z4 z5 z9
  go_ret
  exact ⟨rfl, BB⟩
set_option maxHeartbeats 16000000 in
theorem lstr_no (pv rv mv : Value) (ps rs : List Int) (m : List (List Int)) (q : Nat) (c : Int) (w : World) (hp : Nums .i64 w pv ps) (hr : Nums .i64 w rv rs) (hm : IntsL w mv m) (htab : Pow10 w) (hE : itemE ps rs m (q : Int) = 0) (h1 : 1 ≤ c) (h2 : c ≤ 255) (hN : ∀ n : Nat, c = (n : Int) → itemE (scP n ps) rs m (q : Int) = 3) :
    Calls Tryd.prog 4 #[.agg #[pv, rv], .agg #[mv], .int .i64 (q : Int), .int .u8 c] w fun e w' => e = .returned (.bool true) ∧ Below w.heap.size w w' := by
  obtain ⟨Z, hZ⟩ := lam_ex
  obtain ⟨e1, e2, e3, e4⟩ := itemE_zero hE
  have hqn : q < ps.length := by omega
  obtain ⟨n, hcn⟩ := Int.eq_ofNat_of_zero_le (show 0 ≤ c by omega)
  have hn0 : 0 < n := by omega
  have HI := Lib.hid (fun (W : World) (h : Below w.heap.size w W) => item_ok pv rv mv ps rs m q Z W (hp.below h) (hr.below h) (hm.below h) hZ hE)
  have HN2 := Lib.hid (fun (W : World) (u : Value) (h : Below w.heap.size w W) (hu : Nums .i64 W u (scP n ps)) => item_no u rv mv (scP n ps) rs m q W hu (hr.below h) (hm.below h) (by rw [hN n hcn]; decide))
  have hx3 := hN n hcn
  rw [hx3] at HN2
  clear hx3 hN
  obtain ⟨P, hP⟩ : ∃ x, redP (inF Z m ps.length q) (ifD Z ps q) = x := ⟨_, rfl⟩
  rw [hP] at HI
  clear hP
  obtain ⟨z21, _, _, hz, _⟩ := gridE_zero e1
  have HZ := Lib.hid (fun k (hk : k < ps.length) => (show -1000 ≤ ps.getD k 0 ∧ ps.getD k 0 ≤ 1000 from ⟨(hz k hk).1, (hz k hk).2.1⟩))
  have HTAKE := Lib.hid (fun k (hk : k < ps.length) => take_sc hcn hk)
  have hcz : (c == 0) = false := by rw [beq_eq_false_iff_ne]; omega
  have hcnz : decide (c = 0) = false := decide_eq_false (by omega)
  clear hz e1 e2 e3 e4 hE hqn hcn
  obtain ⟨PA, pc, rfl, _, _, hps⟩ := hp
  obtain ⟨RV, vc, rfl, _, _, _⟩ := hr
  obtain ⟨MA, mc, mus, rfl, _, _, _, _⟩ := hm
  obtain ⟨pn, hpn⟩ : ∃ x, ps.length = x := ⟨_, rfl⟩
  obtain ⟨rn, hrn⟩ : ∃ x, rs.length = x := ⟨_, rfl⟩
  obtain ⟨ml, hml⟩ : ∃ x, m.length = x := ⟨_, rfl⟩
  rw [hpn, hrn, hml] at HI
  rw [hrn, hml] at HN2
  rw [hpn] at HZ HTAKE z21 hps
  have HPN := Lib.hid hpn
  rw [hpn, hrn, hml]
  clear hpn hrn hml
  obtain ⟨W0, hW0⟩ : ∃ W0 : World, W0 = (w.alloc (.cells #[.slice PA pn pc, .slice RV rn vc] 24)).alloc (.cells #[.slice MA ml mc] 40) := ⟨_, rfl⟩
  have r0 : Row W0 w.heap.size 24 [.slice PA pn pc, .slice RV rn vc] := by
    rw [hW0]
    have := Row.alloc (Row.new w 24 [.slice PA pn pc, .slice RV rn vc]) (.cells #[.slice MA ml mc] 40)
    simpa using this
  have r1 : Row W0 (w.heap.size + 1) 40 [.slice MA ml mc] := by
    rw [hW0]
    have := Row.new (w.alloc (.cells #[.slice PA pn pc, .slice RV rn vc] 24)) 40 [.slice MA ml mc]
    simpa using this
  have B0 : Below w.heap.size w W0 := by rw [hW0]; exact (((Below.refl _ _).alloc (Nat.le_refl _) _).alloc (by simp) _)
  go_enter Tryd.func4, Tryd.ntmps4
  go_wp2_with fail
  rw [← hW0]
  clear hW0
  replace htab := htab.below B0
  have BB := B0
  have hr4 := r0
  have hr5 := r1
  clear B0 r0 r1
  have c40 : W0.cell? ⟨w.heap.size, 0, none⟩ = some (.slice PA pn pc) := hr4.cell 0
  have c41 : W0.cell? ⟨w.heap.size, 1, none⟩ = some (.slice RV rn vc) := hr4.cell 1
  have c50 : W0.cell? ⟨w.heap.size + 1, 0, none⟩ = some (.slice MA ml mc) := hr5.cell 0
  have z4 := hr4.lt
  have z5 := hr5.lt
  go_wp2_with fail
  clear c40 c41 c50 z4 z5
  refine (HI.out _ BB).mono ?_
  rintro e x1 ⟨v9, rfl, hv9, hb⟩
  replace hr4 := hr4.keep hb
  replace hr5 := hr5.keep hb
  replace htab := htab.below hb
  replace BB : Below w.heap.size w x1 := BB.trans (hb.mono BB.size)
  clear hb
  have h9' := hv9
  obtain ⟨m9, d9, e9, hm9, hd9, _, _⟩ := h9'
  subst e9
  obtain ⟨A9, k9, c9, rfl⟩ := hm9.lim1.choose_spec.1.show_
  obtain ⟨D9, l9, b9, rfl⟩ := hd9.lim1.choose_spec.1.show_
  clear hm9 hd9
  have phr4 := hr4
  have phr5 := hr5
  have phtab := htab
  have phv9 := hv9
  have BBp := BB
  obtain ⟨g9, hg9⟩ : ∃ g, x1.heap.size = g := ⟨_, rfl⟩
  have hr9 : Row ((x1.alloc (.cells #[.bool (decide (P < 0)), .slice A9 k9 c9, .slice D9 l9 b9] 31)).alloc (.cells #[.slice none 0 0, .slice RV rn vc] 24)) (g9) 31 [.bool (decide (P < 0)), .slice A9 k9 c9, .slice D9 l9 b9] := Row.alloc (row_at (w := x1) (g := g9) (by simp [hg9])) (.cells #[.slice none 0 0, .slice RV rn vc] 24)
  have hr11 : Row ((x1.alloc (.cells #[.bool (decide (P < 0)), .slice A9 k9 c9, .slice D9 l9 b9] 31)).alloc (.cells #[.slice none 0 0, .slice RV rn vc] 24)) (g9 + 1) 24 [.slice none 0 0, .slice RV rn vc] := row_at (w := (x1.alloc (.cells #[.bool (decide (P < 0)), .slice A9 k9 c9, .slice D9 l9 b9] 31))) (g := g9 + 1) (by simp [hg9])
  have hl : Below x1.heap.size x1 ((x1.alloc (.cells #[.bool (decide (P < 0)), .slice A9 k9 c9, .slice D9 l9 b9] 31)).alloc (.cells #[.slice none 0 0, .slice RV rn vc] 24)) := lit_more (lit_below x1 _) _
  have o4_9 : w.heap.size < g9 := by have := hr4.lt; omega
  have o5_9 : w.heap.size + 1 < g9 := by have := hr5.lt; omega
  have ob_9 : w.heap.size ≤ g9 := by have := BB.size; omega
  have c40 : x1.cell? ⟨w.heap.size, 0, none⟩ = some (.slice PA pn pc) := hr4.cell 0
  have c41 : x1.cell? ⟨w.heap.size, 1, none⟩ = some (.slice RV rn vc) := hr4.cell 1
  have c50 : x1.cell? ⟨w.heap.size + 1, 0, none⟩ = some (.slice MA ml mc) := hr5.cell 0
  have d1_40 : (x1.alloc (.cells #[.bool (decide (P < 0)), .slice A9 k9 c9, .slice D9 l9 b9] 31)).cell? ⟨w.heap.size, 0, none⟩ = some (.slice PA pn pc) := (hr4.alloc _).cell 0
  have d1_41 : (x1.alloc (.cells #[.bool (decide (P < 0)), .slice A9 k9 c9, .slice D9 l9 b9] 31)).cell? ⟨w.heap.size, 1, none⟩ = some (.slice RV rn vc) := (hr4.alloc _).cell 1
  have d1_50 : (x1.alloc (.cells #[.bool (decide (P < 0)), .slice A9 k9 c9, .slice D9 l9 b9] 31)).cell? ⟨w.heap.size + 1, 0, none⟩ = some (.slice MA ml mc) := (hr5.alloc _).cell 0
  have d2_40 : ((x1.alloc (.cells #[.bool (decide (P < 0)), .slice A9 k9 c9, .slice D9 l9 b9] 31)).alloc (.cells #[.slice none 0 0, .slice RV rn vc] 24)).cell? ⟨w.heap.size, 0, none⟩ = some (.slice PA pn pc) := ((hr4.alloc _).alloc _).cell 0
  have d2_41 : ((x1.alloc (.cells #[.bool (decide (P < 0)), .slice A9 k9 c9, .slice D9 l9 b9] 31)).alloc (.cells #[.slice none 0 0, .slice RV rn vc] 24)).cell? ⟨w.heap.size, 1, none⟩ = some (.slice RV rn vc) := ((hr4.alloc _).alloc _).cell 1
  have d2_50 : ((x1.alloc (.cells #[.bool (decide (P < 0)), .slice A9 k9 c9, .slice D9 l9 b9] 31)).alloc (.cells #[.slice none 0 0, .slice RV rn vc] 24)).cell? ⟨w.heap.size + 1, 0, none⟩ = some (.slice MA ml mc) := ((hr5.alloc _).alloc _).cell 0
  have e0_0 : ((x1.alloc (.cells #[.bool (decide (P < 0)), .slice A9 k9 c9, .slice D9 l9 b9] 31)).alloc (.cells #[.slice none 0 0, .slice RV rn vc] 24)).cell? ⟨g9, 0, none⟩ = some (.bool (decide (P < 0))) := hr9.cell 0
  have e0_1 : ((x1.alloc (.cells #[.bool (decide (P < 0)), .slice A9 k9 c9, .slice D9 l9 b9] 31)).alloc (.cells #[.slice none 0 0, .slice RV rn vc] 24)).cell? ⟨g9, 1, none⟩ = some (.slice A9 k9 c9) := hr9.cell 1
  have e0_2 : ((x1.alloc (.cells #[.bool (decide (P < 0)), .slice A9 k9 c9, .slice D9 l9 b9] 31)).alloc (.cells #[.slice none 0 0, .slice RV rn vc] 24)).cell? ⟨g9, 2, none⟩ = some (.slice D9 l9 b9) := hr9.cell 2
  have e1_0 : ((x1.alloc (.cells #[.bool (decide (P < 0)), .slice A9 k9 c9, .slice D9 l9 b9] 31)).alloc (.cells #[.slice none 0 0, .slice RV rn vc] 24)).cell? ⟨g9 + 1, 0, none⟩ = some (.slice none 0 0) := hr11.cell 0
  have e1_1 : ((x1.alloc (.cells #[.bool (decide (P < 0)), .slice A9 k9 c9, .slice D9 l9 b9] 31)).alloc (.cells #[.slice none 0 0, .slice RV rn vc] 24)).cell? ⟨g9 + 1, 1, none⟩ = some (.slice RV rn vc) := hr11.cell 1
  go_wp2_with fail
  clear c40 c41 c50 e0_0 e0_1 e0_2 e1_0 e1_1 d1_40 d1_41 d1_50 d2_40 d2_41 d2_50
  have HQ := Lib.hid hg9
  clear hg9
  generalize ((x1.alloc (.cells #[.bool (decide (P < 0)), .slice A9 k9 c9, .slice D9 l9 b9] 31)).alloc (.cells #[.slice none 0 0, .slice RV rn vc] 24)) = x2 at *
  have BQ := hl
  replace hr4 := hr4.keep hl
  replace hr5 := hr5.keep hl
  replace htab := htab.below hl
  replace hv9 := hv9.below hl
  replace BB : Below w.heap.size w x2 := BB.trans (hl.mono BB.size)
  clear hl
  obtain ⟨i1, hj0, hj1, hj2, hj3⟩ := info_parts infoInt
  have gz11 := hr11.lt
  obtain ⟨g11, HG1⟩ : ∃ g, Hid (g9 + 1 = g) := ⟨_, rfl⟩
  rw [HG1.out] at hr11 gz11 ⊢
  have HG11 : Hid (x1.heap.size ≤ g9 ∧ g9 < g11) := (by have := HQ.out; have := HG1.out; exact ⟨by omega, by omega⟩)
  skip
  clear hr4 hr5 hv9 htab BB
  go_loopw [12] (fun iv wr => ∃ (k : Nat) (A7 : Option Addr) (c7 : Nat), k ≤ pn ∧ iv = .int .i64 (k : Int) ∧ Row wr g11 24 [.slice A7 k c7, .slice RV rn vc] ∧ wr.ownsRow (g11 + 1) 3 1 (.slice A7 k c7) k (((scP n ps).take k).map (Value.int .i64)) ∧ Row wr g9 31 [.bool (decide (P < 0)), .slice A9 k9 c9, .slice D9 l9 b9] ∧ Below x1.heap.size x1 wr) (fun iv _ => pn - (intOf iv).toNat)
  case atStart => exact ⟨0, none, 0, by omega, rfl, hr11, World.ownsRow_nil _ _ _ _, hr9, BQ⟩
  case round =>
    obtain ⟨k, A7, c7, hk, rfl, hrr, hown, hr9w, BQ⟩ := hrel
    have BW := BBp.trans (BQ.mono BBp.size)
    by_cases hlt : k < pn
    · obtain ⟨pb, po, rfl, hpb, hcell⟩ := hps.num hlt
      have g2 := (BW.cell (p := ⟨pb, po + k, none⟩) hpb).trans (hcell k hlt)
      have hx := HZ.out k hlt
      have HTK := HTAKE.out k hlt
      generalize ps.getD k 0 = x at g2 hx HTK
      have HTK := Lib.hid HTK
      have t4 := phr4.keep BQ
      have zpb : pb < wr.heap.size := Nat.lt_of_lt_of_le hpb BW.size
      have hkI : (k : Int) < (pn : Int) := by omega
      have wxx : IntKind.i64.wrap (x * c) = x * c := mul_wrap hx.1 hx.2 h1 h2
      have wc : IntKind.i64.wrap c = c := by rw [IntKind.wrap_i64]; omega
      have c40 : wr.cell? ⟨w.heap.size, 0, none⟩ = some (.slice (some ⟨pb, po, none⟩) pn pc) := t4.cell 0
      have c41 : wr.cell? ⟨w.heap.size, 1, none⟩ = some (.slice RV rn vc) := t4.cell 1
      have c110 : wr.cell? ⟨g11, 0, none⟩ = some (.slice A7 k c7) := hrr.cell 0
      have c111 : wr.cell? ⟨g11, 1, none⟩ = some (.slice RV rn vc) := hrr.cell 1
      have f110 : wr.frozen? ⟨g11, 0, none⟩ = false := hrr.frozen 0
      have f111 : wr.frozen? ⟨g11, 1, none⟩ = false := hrr.frozen 1
      have z4 := t4.lt
      have z11 := hrr.lt
      clear hcell hps
      go_wp2_with fail
      have hownN : ((wr.alloc (.cells #[.int .i64 (x * c)] 3)).drew).ownsRow (g11 + 1) 3 1 (.slice A7 k c7) k (((scP n ps).take k).map (Value.int .i64)) := hown.alloc _
      have hr9N : Row ((wr.alloc (.cells #[.int .i64 (x * c)] 3)).drew) g9 31 [.bool (decide (P < 0)), .slice A9 k9 c9, .slice D9 l9 b9] := hr9w.alloc _
      have hrN : Row ((wr.alloc (.cells #[.int .i64 (x * c)] 3)).drew) g11 24 [.slice A7 k c7, .slice RV rn vc] := hrr.alloc _
      have hnN : ∀ j u, [Value.int .i64 (x * c)][j]? = some u → ((wr.alloc (.cells #[.int .i64 (x * c)] 3)).drew).cell? ((⟨wr.heap.size, 0, none⟩ : Addr).add j) = some u := World.news_of_block (w := ((wr.alloc (.cells #[.int .i64 (x * c)] 3)).drew)) (cs := #[.int .i64 (x * c)]) (t := 3) (fr := (0, 0)) (heap_alloc_new wr _)
      have hzN : ((wr.alloc (.cells #[.int .i64 (x * c)] 3)).drew).heap.size = wr.heap.size + 1 := World.size_alloc _ _
      have hm1 : k + 1 ≤ maxLen := by unfold maxLen; omega
      go_region_law (refine step_append_lies _ (by rfl) (.tmp 41) (.tmp 50) 22 (by rfl) (g11 + 1) 3 i1 (.int .i64 0) 1 8 Tryd.underlying22 hj0 hj1 hj2 hj3 rfl (by decide) (.slice A7 k c7) k _ (by rfl) hownN ⟨wr.heap.size, 0, none⟩ 1 1 [.int .i64 (x * c)] (by rfl) (by rfl) hnN (by simp [Value.oneCell']) (by decide) hm1 (by omega) (by rw [hzN]; omega) _ hzN ?_; intro gg cap w7 hown7 hgrow hat hlt7; have R7 := hrN.grow hgrow hown (Nat.lt_succ_self _); have R9 := hr9N.grow hgrow hown (Nat.lt_succ_of_lt HG11.out.2); have R70 := R7.cell 0; have R7f := R7.frozen 0; have R7z := R7.lt; simp only [List.getElem?_cons_zero] at R70)
      all_goals
        go_wp2_with fail
        go_roundw
        case rel =>
          exact ⟨k + 1, some ⟨gg, 0, none⟩, cap, by omega, by go_num, R7.set_ 0 _, (by rw [HTK.out]; exact own_far hown7 (p := ⟨g11, 0, none⟩) (Nat.lt_succ_self _) _), R9.far (by show g9 ≠ g11; have := HG11.out; omega) _, (((BQ.trans (lit_below wr _ |>.mono BQ.size)).drew.grown hgrow (by rw [hzN]; have := BQ.size; omega) (fun q hq => by have := (hown.lt q hq).1; have := HG11.out; omega)).setCell (by show x1.heap.size ≤ g11; have := HG11.out; omega) _)⟩
        case measure => simp [intOf]; omega
    · obtain rfl : pn = k := by omega
      rw [List.take_of_length_le (by rw [scP_len, HPN.out]; exact Nat.le_refl _)] at hown
      have t4 := phr4.keep BQ
      have t5 := phr5.keep BQ
      have t9 := hr9w
      have hv9 := phv9.below BQ
      have htab := phtab.below BQ
      clear phr4 phr5 phv9 phtab hps
      have BB := BW
      have c40 : wr.cell? ⟨w.heap.size, 0, none⟩ = some (.slice PA pn pc) := t4.cell 0
      have c41 : wr.cell? ⟨w.heap.size, 1, none⟩ = some (.slice RV rn vc) := t4.cell 1
      have c50 : wr.cell? ⟨w.heap.size + 1, 0, none⟩ = some (.slice MA ml mc) := t5.cell 0
      have c90 : wr.cell? ⟨g9, 0, none⟩ = some (.bool (decide (P < 0))) := t9.cell 0
      have c91 : wr.cell? ⟨g9, 1, none⟩ = some (.slice A9 k9 c9) := t9.cell 1
      have c92 : wr.cell? ⟨g9, 2, none⟩ = some (.slice D9 l9 b9) := t9.cell 2
      have c110 : wr.cell? ⟨g11, 0, none⟩ = some (.slice A7 pn c7) := hrr.cell 0
      have c111 : wr.cell? ⟨g11, 1, none⟩ = some (.slice RV rn vc) := hrr.cell 1
      have z4 := t4.lt
      have z5 := t5.lt
      have z9 := t9.lt
      have z11 := hrr.lt
      go_wp2_with fail
      clear c40 c41 c50 c90 c91 c92 c110 c111 z4 z5 z9 z11
      refine (HN2.out _ _ BB (num_own hown)).mono ?_
      rintro e x91 ⟨rfl, hb⟩
      replace t4 := t4.keep hb
      replace t5 := t5.keep hb
      replace t9 := t9.keep hb
      replace hrr := hrr.keep hb
      replace hown := own_keep hown hb
      replace htab := htab.below hb
      replace hv9 := hv9.below hb
      replace BB : Below w.heap.size w x91 := BB.trans (hb.mono BB.size)
      clear hb
      obtain ⟨g13, hg13⟩ : ∃ g, x91.heap.size = g := ⟨_, rfl⟩
      have hr13 : Row (x91.alloc (.cells #[.bool false, .slice none 0 0, .slice none 0 0] 31)) g13 31 [.bool false, .slice none 0 0, .slice none 0 0] := row_at hg13
      have hl := lit_below x91 (.cells #[.bool false, .slice none 0 0, .slice none 0 0] 31)
      have o4_13 : w.heap.size < g13 := by have := t4.lt; omega
      have o5_13 : w.heap.size + 1 < g13 := by have := t5.lt; omega
      have o9_13 : g9 < g13 := by have := t9.lt; omega
      have o11_13 : g11 < g13 := by have := hrr.lt; omega
      have ob_13 : w.heap.size ≤ g13 := by have := BB.size; omega
      have c40 : x91.cell? ⟨w.heap.size, 0, none⟩ = some (.slice PA pn pc) := t4.cell 0
      have c41 : x91.cell? ⟨w.heap.size, 1, none⟩ = some (.slice RV rn vc) := t4.cell 1
      have c50 : x91.cell? ⟨w.heap.size + 1, 0, none⟩ = some (.slice MA ml mc) := t5.cell 0
      have c90 : x91.cell? ⟨g9, 0, none⟩ = some (.bool (decide (P < 0))) := t9.cell 0
      have c91 : x91.cell? ⟨g9, 1, none⟩ = some (.slice A9 k9 c9) := t9.cell 1
      have c92 : x91.cell? ⟨g9, 2, none⟩ = some (.slice D9 l9 b9) := t9.cell 2
      have c110 : x91.cell? ⟨g11, 0, none⟩ = some (.slice A7 pn c7) := hrr.cell 0
      have c111 : x91.cell? ⟨g11, 1, none⟩ = some (.slice RV rn vc) := hrr.cell 1
      have d40 : (x91.alloc (.cells #[.bool false, .slice none 0 0, .slice none 0 0] 31)).cell? ⟨w.heap.size, 0, none⟩ = some (.slice PA pn pc) := (t4.alloc _).cell 0
      have d41 : (x91.alloc (.cells #[.bool false, .slice none 0 0, .slice none 0 0] 31)).cell? ⟨w.heap.size, 1, none⟩ = some (.slice RV rn vc) := (t4.alloc _).cell 1
      have d50 : (x91.alloc (.cells #[.bool false, .slice none 0 0, .slice none 0 0] 31)).cell? ⟨w.heap.size + 1, 0, none⟩ = some (.slice MA ml mc) := (t5.alloc _).cell 0
      have d90 : (x91.alloc (.cells #[.bool false, .slice none 0 0, .slice none 0 0] 31)).cell? ⟨g9, 0, none⟩ = some (.bool (decide (P < 0))) := (t9.alloc _).cell 0
      have d91 : (x91.alloc (.cells #[.bool false, .slice none 0 0, .slice none 0 0] 31)).cell? ⟨g9, 1, none⟩ = some (.slice A9 k9 c9) := (t9.alloc _).cell 1
      have d92 : (x91.alloc (.cells #[.bool false, .slice none 0 0, .slice none 0 0] 31)).cell? ⟨g9, 2, none⟩ = some (.slice D9 l9 b9) := (t9.alloc _).cell 2
      have d110 : (x91.alloc (.cells #[.bool false, .slice none 0 0, .slice none 0 0] 31)).cell? ⟨g11, 0, none⟩ = some (.slice A7 pn c7) := (hrr.alloc _).cell 0
      have d111 : (x91.alloc (.cells #[.bool false, .slice none 0 0, .slice none 0 0] 31)).cell? ⟨g11, 1, none⟩ = some (.slice RV rn vc) := (hrr.alloc _).cell 1
      have e0 : (x91.alloc (.cells #[.bool false, .slice none 0 0, .slice none 0 0] 31)).cell? ⟨g13, 0, none⟩ = some (.bool false) := hr13.cell 0
      have e1 : (x91.alloc (.cells #[.bool false, .slice none 0 0, .slice none 0 0] 31)).cell? ⟨g13, 1, none⟩ = some (.slice none 0 0) := hr13.cell 1
      have e2 : (x91.alloc (.cells #[.bool false, .slice none 0 0, .slice none 0 0] 31)).cell? ⟨g13, 2, none⟩ = some (.slice none 0 0) := hr13.cell 2
      go_wp2_with fail
      clear c40 c41 c50 c90 c91 c92 c110 c111 d40 d41 d50 d90 d91 d92 d110 d111 e0 e1 e2
      clear hg13
      generalize (x91.alloc (.cells #[.bool false, .slice none 0 0, .slice none 0 0] 31)) = x92 at *
      replace t4 := t4.keep hl
      replace t5 := t5.keep hl
      replace t9 := t9.keep hl
      replace hrr := hrr.keep hl
      replace hown := own_keep hown hl
      replace htab := htab.below hl
      replace hv9 := hv9.below hl
      replace BB : Below w.heap.size w x92 := BB.trans (hl.mono BB.size)
      clear hl
      have c40 : x92.cell? ⟨w.heap.size, 0, none⟩ = some (.slice PA pn pc) := t4.cell 0
      have c41 : x92.cell? ⟨w.heap.size, 1, none⟩ = some (.slice RV rn vc) := t4.cell 1
      have c50 : x92.cell? ⟨w.heap.size + 1, 0, none⟩ = some (.slice MA ml mc) := t5.cell 0
      have c90 : x92.cell? ⟨g9, 0, none⟩ = some (.bool (decide (P < 0))) := t9.cell 0
      have c91 : x92.cell? ⟨g9, 1, none⟩ = some (.slice A9 k9 c9) := t9.cell 1
      have c92 : x92.cell? ⟨g9, 2, none⟩ = some (.slice D9 l9 b9) := t9.cell 2
      have c110 : x92.cell? ⟨g11, 0, none⟩ = some (.slice A7 pn c7) := hrr.cell 0
      have c111 : x92.cell? ⟨g11, 1, none⟩ = some (.slice RV rn vc) := hrr.cell 1
      have c130 : x92.cell? ⟨g13, 0, none⟩ = some (.bool false) := hr13.cell 0
      have c131 : x92.cell? ⟨g13, 1, none⟩ = some (.slice none 0 0) := hr13.cell 1
      have c132 : x92.cell? ⟨g13, 2, none⟩ = some (.slice none 0 0) := hr13.cell 2
      have z4 := t4.lt
      have z5 := t5.lt
      have z9 := t9.lt
      have z11 := hrr.lt
      have z13 := hr13.lt
      go_wp2_with fail
      clear c40 c41 c50 c90 c91 c92 c110 c111 c130 c131 c132 z4 z5 z9 z11 z13
      refine (awake_any _ htab).mono ?_
      rintro e x93 ⟨rfl, hb⟩
      replace t4 := t4.keep hb
      replace t5 := t5.keep hb
      replace t9 := t9.keep hb
      replace hrr := hrr.keep hb
      replace hown := own_keep hown hb
      replace htab := htab.below hb
      replace hv9 := hv9.below hb
      replace hr13 := hr13.keep hb
      replace BB : Below w.heap.size w x93 := BB.trans (hb.mono BB.size)
      clear hb
      have c40 : x93.cell? ⟨w.heap.size, 0, none⟩ = some (.slice PA pn pc) := t4.cell 0
      have c41 : x93.cell? ⟨w.heap.size, 1, none⟩ = some (.slice RV rn vc) := t4.cell 1
      have c50 : x93.cell? ⟨w.heap.size + 1, 0, none⟩ = some (.slice MA ml mc) := t5.cell 0
      have c90 : x93.cell? ⟨g9, 0, none⟩ = some (.bool (decide (P < 0))) := t9.cell 0
      have c91 : x93.cell? ⟨g9, 1, none⟩ = some (.slice A9 k9 c9) := t9.cell 1
      have c92 : x93.cell? ⟨g9, 2, none⟩ = some (.slice D9 l9 b9) := t9.cell 2
      have c110 : x93.cell? ⟨g11, 0, none⟩ = some (.slice A7 pn c7) := hrr.cell 0
      have c111 : x93.cell? ⟨g11, 1, none⟩ = some (.slice RV rn vc) := hrr.cell 1
      have c130 : x93.cell? ⟨g13, 0, none⟩ = some (.bool false) := hr13.cell 0
      have c131 : x93.cell? ⟨g13, 1, none⟩ = some (.slice none 0 0) := hr13.cell 1
      have c132 : x93.cell? ⟨g13, 2, none⟩ = some (.slice none 0 0) := hr13.cell 2
      have z4 := t4.lt
      have z5 := t5.lt
      have z9 := t9.lt
      have z11 := hrr.lt
      have z13 := hr13.lt
      go_wp2_with fail
      clear c40 c41 c50 c90 c91 c92 c110 c111 c130 c131 c132 z4 z5 z9 z11 z13
      go_ret
      exact ⟨rfl, BB⟩
set_option maxHeartbeats 16000000 in
theorem lstr_ok (pv rv mv : Value) (ps rs : List Int) (m : List (List Int)) (q : Nat) (c : Int) (w : World) (hp : Nums .i64 w pv ps) (hr : Nums .i64 w rv rs) (hm : IntsL w mv m) (htab : Pow10 w) (hE : itemE ps rs m (q : Int) = 0) (h1 : 1 ≤ c) (h2 : c ≤ 255) (hN : ∀ n : Nat, c = (n : Int) → itemE (scP n ps) rs m (q : Int) = 0) :
    Calls Tryd.prog 4 #[.agg #[pv, rv], .agg #[mv], .int .i64 (q : Int), .int .u8 c] w fun e w' => e = .returned (.bool true) ∧ Below w.heap.size w w' := by
  obtain ⟨Z, hZ⟩ := lam_ex
  obtain ⟨e1, e2, e3, e4⟩ := itemE_zero hE
  have hqn : q < ps.length := by omega
  obtain ⟨n, hcn⟩ := Int.eq_ofNat_of_zero_le (show 0 ≤ c by omega)
  have hn0 : 0 < n := by omega
  have HI := Lib.hid (fun (W : World) (h : Below w.heap.size w W) => item_ok pv rv mv ps rs m q Z W (hp.below h) (hr.below h) (hm.below h) hZ hE)
  have hE2 := hN n hcn
  have HI2 := Lib.hid (fun (W : World) (u : Value) (h : Below w.heap.size w W) (hu : Nums .i64 W u (scP n ps)) => item_ok u rv mv (scP n ps) rs m q Z W hu (hr.below h) (hm.below h) hZ hE2)
  obtain ⟨d1, d2⟩ := inD_bd hZ e1 hqn
  obtain ⟨x1, _, _, _⟩ := itemE_zero hE2
  obtain ⟨d3, d4⟩ := inD_bd (ps := scP n ps) hZ x1 (by rw [scP_len]; exact hqn)
  have hst : inF Z m ps.length q = 0 ∨ ifD Z (scP n ps) q = n * n * ifD Z ps q := by
    obtain ⟨y1, y2, y3⟩ := in_x e1 hqn
    by_cases h0 : inX ps q = 0
    · exact .inl (inF_one (y3.1 h0))
    · exact .inr (stretch_D hn0 y1 h0)
  have hs := stretch_red d1 d3 hst
  rw [scP_len] at HI2
  have hsq := sq_bd h1 h2
  have hcc : ((n * n : Nat) : Int) = c * c := by rw [hcn, Int.natCast_mul]
  rw [hcc] at hs
  obtain ⟨P2, hP2⟩ : ∃ x, redP (inF Z m ps.length q) (ifD Z (scP n ps) q) = x := ⟨_, rfl⟩
  obtain ⟨Q2, hQ2'⟩ : ∃ x, redQ (inF Z m ps.length q) (ifD Z (scP n ps) q) = x := ⟨_, rfl⟩
  obtain ⟨Q, hQ'⟩ : ∃ x, redQ (inF Z m ps.length q) (ifD Z ps q) = x := ⟨_, rfl⟩
  have hQ : 0 < Q := by rw [← hQ']; exact redQ_pos d1
  have hQ2 : 0 < Q2 := by rw [← hQ2']; exact redQ_pos d3
  rw [hP2, hQ2'] at HI2
  rw [hP2, hQ2', hQ'] at hs
  rw [hQ'] at HI
  have HS := Lib.hid hs
  have wcc : IntKind.i64.wrap (c * c) = c * c := by rw [IntKind.wrap_i64]; omega
  have hcc0 : ¬ c * c < 0 := by omega
  have wc : IntKind.i64.wrap c = c := by rw [IntKind.wrap_i64]; omega
  clear hcc hs hst hP2 hQ2' hQ' x1 d1 d2 d3 d4 hE2 hN
  obtain ⟨P, hP⟩ : ∃ x, redP (inF Z m ps.length q) (ifD Z ps q) = x := ⟨_, rfl⟩
  rw [hP] at HI HS
  clear hP
  obtain ⟨z21, _, _, hz, _⟩ := gridE_zero e1
  have HZ := Lib.hid (fun k (hk : k < ps.length) => (show -1000 ≤ ps.getD k 0 ∧ ps.getD k 0 ≤ 1000 from ⟨(hz k hk).1, (hz k hk).2.1⟩))
  have HTAKE := Lib.hid (fun k (hk : k < ps.length) => take_sc hcn hk)
  have hcz : (c == 0) = false := by rw [beq_eq_false_iff_ne]; omega
  have hcnz : decide (c = 0) = false := decide_eq_false (by omega)
  clear hz e1 e2 e3 e4 hE hqn hcn
  obtain ⟨PA, pc, rfl, _, _, hps⟩ := hp
  obtain ⟨RV, vc, rfl, _, _, _⟩ := hr
  obtain ⟨MA, mc, mus, rfl, _, _, _, _⟩ := hm
  obtain ⟨pn, hpn⟩ : ∃ x, ps.length = x := ⟨_, rfl⟩
  obtain ⟨rn, hrn⟩ : ∃ x, rs.length = x := ⟨_, rfl⟩
  obtain ⟨ml, hml⟩ : ∃ x, m.length = x := ⟨_, rfl⟩
  rw [hpn, hrn, hml] at HI
  rw [hrn, hml] at HI2
  rw [hpn] at HZ HTAKE z21 hps
  have HPN := Lib.hid hpn
  rw [hpn, hrn, hml]
  clear hpn hrn hml
  obtain ⟨W0, hW0⟩ : ∃ W0 : World, W0 = (w.alloc (.cells #[.slice PA pn pc, .slice RV rn vc] 24)).alloc (.cells #[.slice MA ml mc] 40) := ⟨_, rfl⟩
  have r0 : Row W0 w.heap.size 24 [.slice PA pn pc, .slice RV rn vc] := by
    rw [hW0]
    have := Row.alloc (Row.new w 24 [.slice PA pn pc, .slice RV rn vc]) (.cells #[.slice MA ml mc] 40)
    simpa using this
  have r1 : Row W0 (w.heap.size + 1) 40 [.slice MA ml mc] := by
    rw [hW0]
    have := Row.new (w.alloc (.cells #[.slice PA pn pc, .slice RV rn vc] 24)) 40 [.slice MA ml mc]
    simpa using this
  have B0 : Below w.heap.size w W0 := by rw [hW0]; exact (((Below.refl _ _).alloc (Nat.le_refl _) _).alloc (by simp) _)
  go_enter Tryd.func4, Tryd.ntmps4
  go_wp2_with fail
  rw [← hW0]
  clear hW0
  replace htab := htab.below B0
  have BB := B0
  have hr4 := r0
  have hr5 := r1
  clear B0 r0 r1
  have c40 : W0.cell? ⟨w.heap.size, 0, none⟩ = some (.slice PA pn pc) := hr4.cell 0
  have c41 : W0.cell? ⟨w.heap.size, 1, none⟩ = some (.slice RV rn vc) := hr4.cell 1
  have c50 : W0.cell? ⟨w.heap.size + 1, 0, none⟩ = some (.slice MA ml mc) := hr5.cell 0
  have z4 := hr4.lt
  have z5 := hr5.lt
  go_wp2_with fail
  clear c40 c41 c50 z4 z5
  refine (HI.out _ BB).mono ?_
  rintro e x1 ⟨v9, rfl, hv9, hb⟩
  replace hr4 := hr4.keep hb
  replace hr5 := hr5.keep hb
  replace htab := htab.below hb
  replace BB : Below w.heap.size w x1 := BB.trans (hb.mono BB.size)
  clear hb
  have h9' := hv9
  obtain ⟨m9, d9, e9, hm9, hd9, _, _⟩ := h9'
  subst e9
  obtain ⟨A9, k9, c9, rfl⟩ := hm9.lim1.choose_spec.1.show_
  obtain ⟨D9, l9, b9, rfl⟩ := hd9.lim1.choose_spec.1.show_
  clear hm9 hd9
  have phr4 := hr4
  have phr5 := hr5
  have phtab := htab
  have phv9 := hv9
  have BBp := BB
  obtain ⟨g9, hg9⟩ : ∃ g, x1.heap.size = g := ⟨_, rfl⟩
  have hr9 : Row ((x1.alloc (.cells #[.bool (decide (P < 0)), .slice A9 k9 c9, .slice D9 l9 b9] 31)).alloc (.cells #[.slice none 0 0, .slice RV rn vc] 24)) (g9) 31 [.bool (decide (P < 0)), .slice A9 k9 c9, .slice D9 l9 b9] := Row.alloc (row_at (w := x1) (g := g9) (by simp [hg9])) (.cells #[.slice none 0 0, .slice RV rn vc] 24)
  have hr11 : Row ((x1.alloc (.cells #[.bool (decide (P < 0)), .slice A9 k9 c9, .slice D9 l9 b9] 31)).alloc (.cells #[.slice none 0 0, .slice RV rn vc] 24)) (g9 + 1) 24 [.slice none 0 0, .slice RV rn vc] := row_at (w := (x1.alloc (.cells #[.bool (decide (P < 0)), .slice A9 k9 c9, .slice D9 l9 b9] 31))) (g := g9 + 1) (by simp [hg9])
  have hl : Below x1.heap.size x1 ((x1.alloc (.cells #[.bool (decide (P < 0)), .slice A9 k9 c9, .slice D9 l9 b9] 31)).alloc (.cells #[.slice none 0 0, .slice RV rn vc] 24)) := lit_more (lit_below x1 _) _
  have o4_9 : w.heap.size < g9 := by have := hr4.lt; omega
  have o5_9 : w.heap.size + 1 < g9 := by have := hr5.lt; omega
  have ob_9 : w.heap.size ≤ g9 := by have := BB.size; omega
  have c40 : x1.cell? ⟨w.heap.size, 0, none⟩ = some (.slice PA pn pc) := hr4.cell 0
  have c41 : x1.cell? ⟨w.heap.size, 1, none⟩ = some (.slice RV rn vc) := hr4.cell 1
  have c50 : x1.cell? ⟨w.heap.size + 1, 0, none⟩ = some (.slice MA ml mc) := hr5.cell 0
  have d1_40 : (x1.alloc (.cells #[.bool (decide (P < 0)), .slice A9 k9 c9, .slice D9 l9 b9] 31)).cell? ⟨w.heap.size, 0, none⟩ = some (.slice PA pn pc) := (hr4.alloc _).cell 0
  have d1_41 : (x1.alloc (.cells #[.bool (decide (P < 0)), .slice A9 k9 c9, .slice D9 l9 b9] 31)).cell? ⟨w.heap.size, 1, none⟩ = some (.slice RV rn vc) := (hr4.alloc _).cell 1
  have d1_50 : (x1.alloc (.cells #[.bool (decide (P < 0)), .slice A9 k9 c9, .slice D9 l9 b9] 31)).cell? ⟨w.heap.size + 1, 0, none⟩ = some (.slice MA ml mc) := (hr5.alloc _).cell 0
  have d2_40 : ((x1.alloc (.cells #[.bool (decide (P < 0)), .slice A9 k9 c9, .slice D9 l9 b9] 31)).alloc (.cells #[.slice none 0 0, .slice RV rn vc] 24)).cell? ⟨w.heap.size, 0, none⟩ = some (.slice PA pn pc) := ((hr4.alloc _).alloc _).cell 0
  have d2_41 : ((x1.alloc (.cells #[.bool (decide (P < 0)), .slice A9 k9 c9, .slice D9 l9 b9] 31)).alloc (.cells #[.slice none 0 0, .slice RV rn vc] 24)).cell? ⟨w.heap.size, 1, none⟩ = some (.slice RV rn vc) := ((hr4.alloc _).alloc _).cell 1
  have d2_50 : ((x1.alloc (.cells #[.bool (decide (P < 0)), .slice A9 k9 c9, .slice D9 l9 b9] 31)).alloc (.cells #[.slice none 0 0, .slice RV rn vc] 24)).cell? ⟨w.heap.size + 1, 0, none⟩ = some (.slice MA ml mc) := ((hr5.alloc _).alloc _).cell 0
  have e0_0 : ((x1.alloc (.cells #[.bool (decide (P < 0)), .slice A9 k9 c9, .slice D9 l9 b9] 31)).alloc (.cells #[.slice none 0 0, .slice RV rn vc] 24)).cell? ⟨g9, 0, none⟩ = some (.bool (decide (P < 0))) := hr9.cell 0
  have e0_1 : ((x1.alloc (.cells #[.bool (decide (P < 0)), .slice A9 k9 c9, .slice D9 l9 b9] 31)).alloc (.cells #[.slice none 0 0, .slice RV rn vc] 24)).cell? ⟨g9, 1, none⟩ = some (.slice A9 k9 c9) := hr9.cell 1
  have e0_2 : ((x1.alloc (.cells #[.bool (decide (P < 0)), .slice A9 k9 c9, .slice D9 l9 b9] 31)).alloc (.cells #[.slice none 0 0, .slice RV rn vc] 24)).cell? ⟨g9, 2, none⟩ = some (.slice D9 l9 b9) := hr9.cell 2
  have e1_0 : ((x1.alloc (.cells #[.bool (decide (P < 0)), .slice A9 k9 c9, .slice D9 l9 b9] 31)).alloc (.cells #[.slice none 0 0, .slice RV rn vc] 24)).cell? ⟨g9 + 1, 0, none⟩ = some (.slice none 0 0) := hr11.cell 0
  have e1_1 : ((x1.alloc (.cells #[.bool (decide (P < 0)), .slice A9 k9 c9, .slice D9 l9 b9] 31)).alloc (.cells #[.slice none 0 0, .slice RV rn vc] 24)).cell? ⟨g9 + 1, 1, none⟩ = some (.slice RV rn vc) := hr11.cell 1
  go_wp2_with fail
  clear c40 c41 c50 e0_0 e0_1 e0_2 e1_0 e1_1 d1_40 d1_41 d1_50 d2_40 d2_41 d2_50
  have HQ := Lib.hid hg9
  clear hg9
  generalize ((x1.alloc (.cells #[.bool (decide (P < 0)), .slice A9 k9 c9, .slice D9 l9 b9] 31)).alloc (.cells #[.slice none 0 0, .slice RV rn vc] 24)) = x2 at *
  have BQ := hl
  replace hr4 := hr4.keep hl
  replace hr5 := hr5.keep hl
  replace htab := htab.below hl
  replace hv9 := hv9.below hl
  replace BB : Below w.heap.size w x2 := BB.trans (hl.mono BB.size)
  clear hl
  obtain ⟨i1, hj0, hj1, hj2, hj3⟩ := info_parts infoInt
  have gz11 := hr11.lt
  obtain ⟨g11, HG1⟩ : ∃ g, Hid (g9 + 1 = g) := ⟨_, rfl⟩
  rw [HG1.out] at hr11 gz11 ⊢
  have HG11 : Hid (x1.heap.size ≤ g9 ∧ g9 < g11) := (by have := HQ.out; have := HG1.out; exact ⟨by omega, by omega⟩)
  skip
  clear hr4 hr5 hv9 htab BB
  go_loopw [12] (fun iv wr => ∃ (k : Nat) (A7 : Option Addr) (c7 : Nat), k ≤ pn ∧ iv = .int .i64 (k : Int) ∧ Row wr g11 24 [.slice A7 k c7, .slice RV rn vc] ∧ wr.ownsRow (g11 + 1) 3 1 (.slice A7 k c7) k (((scP n ps).take k).map (Value.int .i64)) ∧ Row wr g9 31 [.bool (decide (P < 0)), .slice A9 k9 c9, .slice D9 l9 b9] ∧ Below x1.heap.size x1 wr) (fun iv _ => pn - (intOf iv).toNat)
  case atStart => exact ⟨0, none, 0, by omega, rfl, hr11, World.ownsRow_nil _ _ _ _, hr9, BQ⟩
  case round =>
    obtain ⟨k, A7, c7, hk, rfl, hrr, hown, hr9w, BQ⟩ := hrel
    have BW := BBp.trans (BQ.mono BBp.size)
    by_cases hlt : k < pn
    · obtain ⟨pb, po, rfl, hpb, hcell⟩ := hps.num hlt
      have g2 := (BW.cell (p := ⟨pb, po + k, none⟩) hpb).trans (hcell k hlt)
      have hx := HZ.out k hlt
      have HTK := HTAKE.out k hlt
      generalize ps.getD k 0 = x at g2 hx HTK
      have HTK := Lib.hid HTK
      have t4 := phr4.keep BQ
      have zpb : pb < wr.heap.size := Nat.lt_of_lt_of_le hpb BW.size
      have hkI : (k : Int) < (pn : Int) := by omega
      have wxx : IntKind.i64.wrap (x * c) = x * c := mul_wrap hx.1 hx.2 h1 h2
      have wc : IntKind.i64.wrap c = c := by rw [IntKind.wrap_i64]; omega
      have c40 : wr.cell? ⟨w.heap.size, 0, none⟩ = some (.slice (some ⟨pb, po, none⟩) pn pc) := t4.cell 0
      have c41 : wr.cell? ⟨w.heap.size, 1, none⟩ = some (.slice RV rn vc) := t4.cell 1
      have c110 : wr.cell? ⟨g11, 0, none⟩ = some (.slice A7 k c7) := hrr.cell 0
      have c111 : wr.cell? ⟨g11, 1, none⟩ = some (.slice RV rn vc) := hrr.cell 1
      have f110 : wr.frozen? ⟨g11, 0, none⟩ = false := hrr.frozen 0
      have f111 : wr.frozen? ⟨g11, 1, none⟩ = false := hrr.frozen 1
      have z4 := t4.lt
      have z11 := hrr.lt
      clear hcell hps
      go_wp2_with fail
      have hownN : ((wr.alloc (.cells #[.int .i64 (x * c)] 3)).drew).ownsRow (g11 + 1) 3 1 (.slice A7 k c7) k (((scP n ps).take k).map (Value.int .i64)) := hown.alloc _
      have hr9N : Row ((wr.alloc (.cells #[.int .i64 (x * c)] 3)).drew) g9 31 [.bool (decide (P < 0)), .slice A9 k9 c9, .slice D9 l9 b9] := hr9w.alloc _
      have hrN : Row ((wr.alloc (.cells #[.int .i64 (x * c)] 3)).drew) g11 24 [.slice A7 k c7, .slice RV rn vc] := hrr.alloc _
      have hnN : ∀ j u, [Value.int .i64 (x * c)][j]? = some u → ((wr.alloc (.cells #[.int .i64 (x * c)] 3)).drew).cell? ((⟨wr.heap.size, 0, none⟩ : Addr).add j) = some u := World.news_of_block (w := ((wr.alloc (.cells #[.int .i64 (x * c)] 3)).drew)) (cs := #[.int .i64 (x * c)]) (t := 3) (fr := (0, 0)) (heap_alloc_new wr _)
      have hzN : ((wr.alloc (.cells #[.int .i64 (x * c)] 3)).drew).heap.size = wr.heap.size + 1 := World.size_alloc _ _
      have hm1 : k + 1 ≤ maxLen := by unfold maxLen; omega
      go_region_law (refine step_append_lies _ (by rfl) (.tmp 41) (.tmp 50) 22 (by rfl) (g11 + 1) 3 i1 (.int .i64 0) 1 8 Tryd.underlying22 hj0 hj1 hj2 hj3 rfl (by decide) (.slice A7 k c7) k _ (by rfl) hownN ⟨wr.heap.size, 0, none⟩ 1 1 [.int .i64 (x * c)] (by rfl) (by rfl) hnN (by simp [Value.oneCell']) (by decide) hm1 (by omega) (by rw [hzN]; omega) _ hzN ?_; intro gg cap w7 hown7 hgrow hat hlt7; have R7 := hrN.grow hgrow hown (Nat.lt_succ_self _); have R9 := hr9N.grow hgrow hown (Nat.lt_succ_of_lt HG11.out.2); have R70 := R7.cell 0; have R7f := R7.frozen 0; have R7z := R7.lt; simp only [List.getElem?_cons_zero] at R70)
      all_goals
        go_wp2_with fail
        go_roundw
        case rel =>
          exact ⟨k + 1, some ⟨gg, 0, none⟩, cap, by omega, by go_num, R7.set_ 0 _, (by rw [HTK.out]; exact own_far hown7 (p := ⟨g11, 0, none⟩) (Nat.lt_succ_self _) _), R9.far (by show g9 ≠ g11; have := HG11.out; omega) _, (((BQ.trans (lit_below wr _ |>.mono BQ.size)).drew.grown hgrow (by rw [hzN]; have := BQ.size; omega) (fun q hq => by have := (hown.lt q hq).1; have := HG11.out; omega)).setCell (by show x1.heap.size ≤ g11; have := HG11.out; omega) _)⟩
        case measure => simp [intOf]; omega
    · obtain rfl : pn = k := by omega
      rw [List.take_of_length_le (by rw [scP_len, HPN.out]; exact Nat.le_refl _)] at hown
      have t4 := phr4.keep BQ
      have t5 := phr5.keep BQ
      have t9 := hr9w
      have hv9 := phv9.below BQ
      have htab := phtab.below BQ
      clear phr4 phr5 phv9 phtab hps
      have BB := BW
      have c40 : wr.cell? ⟨w.heap.size, 0, none⟩ = some (.slice PA pn pc) := t4.cell 0
      have c41 : wr.cell? ⟨w.heap.size, 1, none⟩ = some (.slice RV rn vc) := t4.cell 1
      have c50 : wr.cell? ⟨w.heap.size + 1, 0, none⟩ = some (.slice MA ml mc) := t5.cell 0
      have c90 : wr.cell? ⟨g9, 0, none⟩ = some (.bool (decide (P < 0))) := t9.cell 0
      have c91 : wr.cell? ⟨g9, 1, none⟩ = some (.slice A9 k9 c9) := t9.cell 1
      have c92 : wr.cell? ⟨g9, 2, none⟩ = some (.slice D9 l9 b9) := t9.cell 2
      have c110 : wr.cell? ⟨g11, 0, none⟩ = some (.slice A7 pn c7) := hrr.cell 0
      have c111 : wr.cell? ⟨g11, 1, none⟩ = some (.slice RV rn vc) := hrr.cell 1
      have z4 := t4.lt
      have z5 := t5.lt
      have z9 := t9.lt
      have z11 := hrr.lt
      go_wp2_with fail
      clear c40 c41 c50 c90 c91 c92 c110 c111 z4 z5 z9 z11
      refine (HI2.out _ _ BB (num_own hown)).mono ?_
      rintro e x91 ⟨v13, rfl, hv13, hb⟩
      replace t4 := t4.keep hb
      replace t5 := t5.keep hb
      replace t9 := t9.keep hb
      replace hrr := hrr.keep hb
      replace hown := own_keep hown hb
      replace htab := htab.below hb
      replace hv9 := hv9.below hb
      replace BB : Below w.heap.size w x91 := BB.trans (hb.mono BB.size)
      clear hb
      have h13' := hv13
      obtain ⟨m13, d13, e13, hm13, hd13, _, _⟩ := h13'
      subst e13
      obtain ⟨A13, k13, c13, rfl⟩ := hm13.lim1.choose_spec.1.show_
      obtain ⟨D13, l13, b13, rfl⟩ := hd13.lim1.choose_spec.1.show_
      clear hm13 hd13
      obtain ⟨g13, hg13⟩ : ∃ g, x91.heap.size = g := ⟨_, rfl⟩
      have hr13 : Row (x91.alloc (.cells #[.bool (decide (P2 < 0)), .slice A13 k13 c13, .slice D13 l13 b13] 31)) g13 31 [.bool (decide (P2 < 0)), .slice A13 k13 c13, .slice D13 l13 b13] := row_at hg13
      have hl := lit_below x91 (.cells #[.bool (decide (P2 < 0)), .slice A13 k13 c13, .slice D13 l13 b13] 31)
      have o4_13 : w.heap.size < g13 := by have := t4.lt; omega
      have o5_13 : w.heap.size + 1 < g13 := by have := t5.lt; omega
      have o9_13 : g9 < g13 := by have := t9.lt; omega
      have o11_13 : g11 < g13 := by have := hrr.lt; omega
      have ob_13 : w.heap.size ≤ g13 := by have := BB.size; omega
      have c40 : x91.cell? ⟨w.heap.size, 0, none⟩ = some (.slice PA pn pc) := t4.cell 0
      have c41 : x91.cell? ⟨w.heap.size, 1, none⟩ = some (.slice RV rn vc) := t4.cell 1
      have c50 : x91.cell? ⟨w.heap.size + 1, 0, none⟩ = some (.slice MA ml mc) := t5.cell 0
      have c90 : x91.cell? ⟨g9, 0, none⟩ = some (.bool (decide (P < 0))) := t9.cell 0
      have c91 : x91.cell? ⟨g9, 1, none⟩ = some (.slice A9 k9 c9) := t9.cell 1
      have c92 : x91.cell? ⟨g9, 2, none⟩ = some (.slice D9 l9 b9) := t9.cell 2
      have c110 : x91.cell? ⟨g11, 0, none⟩ = some (.slice A7 pn c7) := hrr.cell 0
      have c111 : x91.cell? ⟨g11, 1, none⟩ = some (.slice RV rn vc) := hrr.cell 1
      have d40 : (x91.alloc (.cells #[.bool (decide (P2 < 0)), .slice A13 k13 c13, .slice D13 l13 b13] 31)).cell? ⟨w.heap.size, 0, none⟩ = some (.slice PA pn pc) := (t4.alloc _).cell 0
      have d41 : (x91.alloc (.cells #[.bool (decide (P2 < 0)), .slice A13 k13 c13, .slice D13 l13 b13] 31)).cell? ⟨w.heap.size, 1, none⟩ = some (.slice RV rn vc) := (t4.alloc _).cell 1
      have d50 : (x91.alloc (.cells #[.bool (decide (P2 < 0)), .slice A13 k13 c13, .slice D13 l13 b13] 31)).cell? ⟨w.heap.size + 1, 0, none⟩ = some (.slice MA ml mc) := (t5.alloc _).cell 0
      have d90 : (x91.alloc (.cells #[.bool (decide (P2 < 0)), .slice A13 k13 c13, .slice D13 l13 b13] 31)).cell? ⟨g9, 0, none⟩ = some (.bool (decide (P < 0))) := (t9.alloc _).cell 0
      have d91 : (x91.alloc (.cells #[.bool (decide (P2 < 0)), .slice A13 k13 c13, .slice D13 l13 b13] 31)).cell? ⟨g9, 1, none⟩ = some (.slice A9 k9 c9) := (t9.alloc _).cell 1
      have d92 : (x91.alloc (.cells #[.bool (decide (P2 < 0)), .slice A13 k13 c13, .slice D13 l13 b13] 31)).cell? ⟨g9, 2, none⟩ = some (.slice D9 l9 b9) := (t9.alloc _).cell 2
      have d110 : (x91.alloc (.cells #[.bool (decide (P2 < 0)), .slice A13 k13 c13, .slice D13 l13 b13] 31)).cell? ⟨g11, 0, none⟩ = some (.slice A7 pn c7) := (hrr.alloc _).cell 0
      have d111 : (x91.alloc (.cells #[.bool (decide (P2 < 0)), .slice A13 k13 c13, .slice D13 l13 b13] 31)).cell? ⟨g11, 1, none⟩ = some (.slice RV rn vc) := (hrr.alloc _).cell 1
      have e0 : (x91.alloc (.cells #[.bool (decide (P2 < 0)), .slice A13 k13 c13, .slice D13 l13 b13] 31)).cell? ⟨g13, 0, none⟩ = some (.bool (decide (P2 < 0))) := hr13.cell 0
      have e1 : (x91.alloc (.cells #[.bool (decide (P2 < 0)), .slice A13 k13 c13, .slice D13 l13 b13] 31)).cell? ⟨g13, 1, none⟩ = some (.slice A13 k13 c13) := hr13.cell 1
      have e2 : (x91.alloc (.cells #[.bool (decide (P2 < 0)), .slice A13 k13 c13, .slice D13 l13 b13] 31)).cell? ⟨g13, 2, none⟩ = some (.slice D13 l13 b13) := hr13.cell 2
      go_wp2_with fail
      clear c40 c41 c50 c90 c91 c92 c110 c111 d40 d41 d50 d90 d91 d92 d110 d111 e0 e1 e2
      clear hg13
      generalize (x91.alloc (.cells #[.bool (decide (P2 < 0)), .slice A13 k13 c13, .slice D13 l13 b13] 31)) = x92 at *
      replace t4 := t4.keep hl
      replace t5 := t5.keep hl
      replace t9 := t9.keep hl
      replace hrr := hrr.keep hl
      replace hown := own_keep hown hl
      replace htab := htab.below hl
      replace hv9 := hv9.below hl
      replace hv13 := hv13.below hl
      replace BB : Below w.heap.size w x92 := BB.trans (hl.mono BB.size)
      clear hl
      have c40 : x92.cell? ⟨w.heap.size, 0, none⟩ = some (.slice PA pn pc) := t4.cell 0
      have c41 : x92.cell? ⟨w.heap.size, 1, none⟩ = some (.slice RV rn vc) := t4.cell 1
      have c50 : x92.cell? ⟨w.heap.size + 1, 0, none⟩ = some (.slice MA ml mc) := t5.cell 0
      have c90 : x92.cell? ⟨g9, 0, none⟩ = some (.bool (decide (P < 0))) := t9.cell 0
      have c91 : x92.cell? ⟨g9, 1, none⟩ = some (.slice A9 k9 c9) := t9.cell 1
      have c92 : x92.cell? ⟨g9, 2, none⟩ = some (.slice D9 l9 b9) := t9.cell 2
      have c110 : x92.cell? ⟨g11, 0, none⟩ = some (.slice A7 pn c7) := hrr.cell 0
      have c111 : x92.cell? ⟨g11, 1, none⟩ = some (.slice RV rn vc) := hrr.cell 1
      have c130 : x92.cell? ⟨g13, 0, none⟩ = some (.bool (decide (P2 < 0))) := hr13.cell 0
      have c131 : x92.cell? ⟨g13, 1, none⟩ = some (.slice A13 k13 c13) := hr13.cell 1
      have c132 : x92.cell? ⟨g13, 2, none⟩ = some (.slice D13 l13 b13) := hr13.cell 2
      have z4 := t4.lt
      have z5 := t5.lt
      have z9 := t9.lt
      have z11 := hrr.lt
      have z13 := hr13.lt
      go_wp2_with fail
      clear c40 c41 c50 c90 c91 c92 c110 c111 c130 c131 c132 z4 z5 z9 z11 z13
      refine (qof_any (c * c) 1 _ (by omega) (by omega) (by decide) (by decide)).mono ?_
      rintro e x93 ⟨v14, rfl, hv14, hb⟩
      replace t4 := t4.keep hb
      replace t5 := t5.keep hb
      replace t9 := t9.keep hb
      replace hrr := hrr.keep hb
      replace hown := own_keep hown hb
      replace htab := htab.below hb
      replace hv9 := hv9.below hb
      replace hv13 := hv13.below hb
      replace hr13 := hr13.keep hb
      replace BB : Below w.heap.size w x93 := BB.trans (hb.mono BB.size)
      clear hb
      rw [show (1 : Int).toNat = 1 from rfl, (redQ_one (c * c)).1, (redQ_one (c * c)).2] at hv14
      have h14' := hv14
      obtain ⟨m14, d14, e14, hm14, hd14, _, _⟩ := h14'
      subst e14
      obtain ⟨A14, k14, c14, rfl⟩ := hm14.lim1.choose_spec.1.show_
      obtain ⟨D14, l14, b14, rfl⟩ := hd14.lim1.choose_spec.1.show_
      clear hm14 hd14
      obtain ⟨g14, hg14⟩ : ∃ g, x93.heap.size = g := ⟨_, rfl⟩
      have hr14 : Row (x93.alloc (.cells #[.bool (decide (c * c < 0)), .slice A14 k14 c14, .slice D14 l14 b14] 31)) g14 31 [.bool (decide (c * c < 0)), .slice A14 k14 c14, .slice D14 l14 b14] := row_at hg14
      have hl := lit_below x93 (.cells #[.bool (decide (c * c < 0)), .slice A14 k14 c14, .slice D14 l14 b14] 31)
      have o4_14 : w.heap.size < g14 := by have := t4.lt; omega
      have o5_14 : w.heap.size + 1 < g14 := by have := t5.lt; omega
      have o9_14 : g9 < g14 := by have := t9.lt; omega
      have o11_14 : g11 < g14 := by have := hrr.lt; omega
      have o13_14 : g13 < g14 := by have := hr13.lt; omega
      have ob_14 : w.heap.size ≤ g14 := by have := BB.size; omega
      have c40 : x93.cell? ⟨w.heap.size, 0, none⟩ = some (.slice PA pn pc) := t4.cell 0
      have c41 : x93.cell? ⟨w.heap.size, 1, none⟩ = some (.slice RV rn vc) := t4.cell 1
      have c50 : x93.cell? ⟨w.heap.size + 1, 0, none⟩ = some (.slice MA ml mc) := t5.cell 0
      have c90 : x93.cell? ⟨g9, 0, none⟩ = some (.bool (decide (P < 0))) := t9.cell 0
      have c91 : x93.cell? ⟨g9, 1, none⟩ = some (.slice A9 k9 c9) := t9.cell 1
      have c92 : x93.cell? ⟨g9, 2, none⟩ = some (.slice D9 l9 b9) := t9.cell 2
      have c110 : x93.cell? ⟨g11, 0, none⟩ = some (.slice A7 pn c7) := hrr.cell 0
      have c111 : x93.cell? ⟨g11, 1, none⟩ = some (.slice RV rn vc) := hrr.cell 1
      have c130 : x93.cell? ⟨g13, 0, none⟩ = some (.bool (decide (P2 < 0))) := hr13.cell 0
      have c131 : x93.cell? ⟨g13, 1, none⟩ = some (.slice A13 k13 c13) := hr13.cell 1
      have c132 : x93.cell? ⟨g13, 2, none⟩ = some (.slice D13 l13 b13) := hr13.cell 2
      have d40 : (x93.alloc (.cells #[.bool (decide (c * c < 0)), .slice A14 k14 c14, .slice D14 l14 b14] 31)).cell? ⟨w.heap.size, 0, none⟩ = some (.slice PA pn pc) := (t4.alloc _).cell 0
      have d41 : (x93.alloc (.cells #[.bool (decide (c * c < 0)), .slice A14 k14 c14, .slice D14 l14 b14] 31)).cell? ⟨w.heap.size, 1, none⟩ = some (.slice RV rn vc) := (t4.alloc _).cell 1
      have d50 : (x93.alloc (.cells #[.bool (decide (c * c < 0)), .slice A14 k14 c14, .slice D14 l14 b14] 31)).cell? ⟨w.heap.size + 1, 0, none⟩ = some (.slice MA ml mc) := (t5.alloc _).cell 0
      have d90 : (x93.alloc (.cells #[.bool (decide (c * c < 0)), .slice A14 k14 c14, .slice D14 l14 b14] 31)).cell? ⟨g9, 0, none⟩ = some (.bool (decide (P < 0))) := (t9.alloc _).cell 0
      have d91 : (x93.alloc (.cells #[.bool (decide (c * c < 0)), .slice A14 k14 c14, .slice D14 l14 b14] 31)).cell? ⟨g9, 1, none⟩ = some (.slice A9 k9 c9) := (t9.alloc _).cell 1
      have d92 : (x93.alloc (.cells #[.bool (decide (c * c < 0)), .slice A14 k14 c14, .slice D14 l14 b14] 31)).cell? ⟨g9, 2, none⟩ = some (.slice D9 l9 b9) := (t9.alloc _).cell 2
      have d110 : (x93.alloc (.cells #[.bool (decide (c * c < 0)), .slice A14 k14 c14, .slice D14 l14 b14] 31)).cell? ⟨g11, 0, none⟩ = some (.slice A7 pn c7) := (hrr.alloc _).cell 0
      have d111 : (x93.alloc (.cells #[.bool (decide (c * c < 0)), .slice A14 k14 c14, .slice D14 l14 b14] 31)).cell? ⟨g11, 1, none⟩ = some (.slice RV rn vc) := (hrr.alloc _).cell 1
      have d130 : (x93.alloc (.cells #[.bool (decide (c * c < 0)), .slice A14 k14 c14, .slice D14 l14 b14] 31)).cell? ⟨g13, 0, none⟩ = some (.bool (decide (P2 < 0))) := (hr13.alloc _).cell 0
      have d131 : (x93.alloc (.cells #[.bool (decide (c * c < 0)), .slice A14 k14 c14, .slice D14 l14 b14] 31)).cell? ⟨g13, 1, none⟩ = some (.slice A13 k13 c13) := (hr13.alloc _).cell 1
      have d132 : (x93.alloc (.cells #[.bool (decide (c * c < 0)), .slice A14 k14 c14, .slice D14 l14 b14] 31)).cell? ⟨g13, 2, none⟩ = some (.slice D13 l13 b13) := (hr13.alloc _).cell 2
      have e0 : (x93.alloc (.cells #[.bool (decide (c * c < 0)), .slice A14 k14 c14, .slice D14 l14 b14] 31)).cell? ⟨g14, 0, none⟩ = some (.bool (decide (c * c < 0))) := hr14.cell 0
      have e1 : (x93.alloc (.cells #[.bool (decide (c * c < 0)), .slice A14 k14 c14, .slice D14 l14 b14] 31)).cell? ⟨g14, 1, none⟩ = some (.slice A14 k14 c14) := hr14.cell 1
      have e2 : (x93.alloc (.cells #[.bool (decide (c * c < 0)), .slice A14 k14 c14, .slice D14 l14 b14] 31)).cell? ⟨g14, 2, none⟩ = some (.slice D14 l14 b14) := hr14.cell 2
      go_wp2_with fail
      clear c40 c41 c50 c90 c91 c92 c110 c111 c130 c131 c132 d40 d41 d50 d90 d91 d92 d110 d111 d130 d131 d132 e0 e1 e2
      clear hg14
      generalize (x93.alloc (.cells #[.bool (decide (c * c < 0)), .slice A14 k14 c14, .slice D14 l14 b14] 31)) = x94 at *
      replace t4 := t4.keep hl
      replace t5 := t5.keep hl
      replace t9 := t9.keep hl
      replace hrr := hrr.keep hl
      replace hown := own_keep hown hl
      replace htab := htab.below hl
      replace hv9 := hv9.below hl
      replace hv13 := hv13.below hl
      replace hr13 := hr13.keep hl
      replace hv14 := hv14.below hl
      replace BB : Below w.heap.size w x94 := BB.trans (hl.mono BB.size)
      clear hl
      have z4 := t4.lt
      have z5 := t5.lt
      have z9 := t9.lt
      have z11 := hrr.lt
      have z13 := hr13.lt
      have z14 := hr14.lt
      have qs0 : x94.cell? ⟨g13, 0, none⟩ = some (.bool (decide (P2 < 0))) := hr13.cell 0
      have qs1 : x94.cell? ⟨g13, 1, none⟩ = some (.slice A13 k13 c13) := hr13.cell 1
      have qs2 : x94.cell? ⟨g13, 2, none⟩ = some (.slice D13 l13 b13) := hr13.cell 2
      have qs3 : x94.cell? ⟨g14, 0, none⟩ = some (.bool (decide (c * c < 0))) := hr14.cell 0
      have qs4 : x94.cell? ⟨g14, 1, none⟩ = some (.slice A14 k14 c14) := hr14.cell 1
      have qs5 : x94.cell? ⟨g14, 2, none⟩ = some (.slice D14 l14 b14) := hr14.cell 2
      have qs6 : x94.cell? ⟨g9, 0, none⟩ = some (.bool (decide (P < 0))) := t9.cell 0
      have qs7 : x94.cell? ⟨g9, 1, none⟩ = some (.slice A9 k9 c9) := t9.cell 1
      have qs8 : x94.cell? ⟨g9, 2, none⟩ = some (.slice D9 l9 b9) := t9.cell 2
      go_wp2_with fail
      go_region_held3 (fun w' => w'.cell? ⟨g13, 0, none⟩ = some (.bool (decide (P2 < 0))) ∧ w'.cell? ⟨g13, 1, none⟩ = some (.slice A13 k13 c13) ∧ w'.cell? ⟨g13, 2, none⟩ = some (.slice D13 l13 b13) ∧ w'.cell? ⟨g14, 0, none⟩ = some (.bool (decide (c * c < 0))) ∧ w'.cell? ⟨g14, 1, none⟩ = some (.slice A14 k14 c14) ∧ w'.cell? ⟨g14, 2, none⟩ = some (.slice D14 l14 b14) ∧ w'.cell? ⟨g9, 0, none⟩ = some (.bool (decide (P < 0))) ∧ w'.cell? ⟨g9, 1, none⟩ = some (.slice A9 k9 c9) ∧ w'.cell? ⟨g9, 2, none⟩ = some (.slice D9 l9 b9))
        ((refine keep9s z13 z13 z13 z14 z14 z14 z9 z9 z9 qs0 qs1 qs2 qs3 qs4 qs5 qs6 qs7 qs8 ?_; (repeat (first | with_reducible exact Below.refl _ _ | with_reducible refine bl_call h7 ?_ | with_reducible refine bl_call h6 ?_ | with_reducible refine bl_call h5 ?_ | with_reducible refine bl_alloc ?_ _ | with_reducible refine bl_drew ?_)); done))
        (first
          | (go_at_call 15; ((with_reducible refine (qmul_any _ _ P2 (c * c) Q2 1 330 _ ((hv13.ratA hQ2).below ?_) (((hv14.ratA (by decide)).mono (by decide)).below ?_) (by decide) (by decide)).mono ?_); (repeat (first | with_reducible exact Below.refl _ _ | with_reducible refine bl_call h7 ?_ | with_reducible refine bl_call h6 ?_ | with_reducible refine bl_call h5 ?_ | with_reducible refine bl_alloc ?_ _ | with_reducible refine bl_drew ?_)); (repeat (first | with_reducible exact Below.refl _ _ | with_reducible refine bl_call h7 ?_ | with_reducible refine bl_call h6 ?_ | with_reducible refine bl_call h5 ?_ | with_reducible refine bl_alloc ?_ _ | with_reducible refine bl_drew ?_)); rintro e w5 ⟨v5, rfl, hR5, h5⟩; rw [HS.out.1, HS.out.2] at hR5))
          | (go_at_call 13; ((with_reducible refine (qcmp_eq _ _ P Q 660 _ ((hR5.ratA hQ).below ?_) (((hv9.ratA hQ).mono (by decide)).below ?_) (by decide) (by decide)).mono ?_); (repeat (first | with_reducible exact Below.refl _ _ | with_reducible refine bl_call h7 ?_ | with_reducible refine bl_call h6 ?_ | with_reducible refine bl_call h5 ?_ | with_reducible refine bl_alloc ?_ _ | with_reducible refine bl_drew ?_)); (repeat (first | with_reducible exact Below.refl _ _ | with_reducible refine bl_call h7 ?_ | with_reducible refine bl_call h6 ?_ | with_reducible refine bl_call h5 ?_ | with_reducible refine bl_alloc ?_ _ | with_reducible refine bl_drew ?_)); rintro e w6 ⟨rfl, h6⟩))
          | (go_at_call 8; ((with_reducible refine (awake_any _ (htab.below ?_)).mono ?_); (repeat (first | with_reducible exact Below.refl _ _ | with_reducible refine bl_call h7 ?_ | with_reducible refine bl_call h6 ?_ | with_reducible refine bl_call h5 ?_ | with_reducible refine bl_alloc ?_ _ | with_reducible refine bl_drew ?_)); rintro e w7 ⟨rfl, h7⟩)))
      all_goals
        have hb : Below x94.heap.size x94 w7 := bl_call h7 (bl_call h6 (bl_call h5 (bl_drew (Below.refl _ _))))
        replace BB := BB.trans (hb.mono BB.size)
        go_wp2_with fail
        go_ret
        exact ⟨rfl, BB⟩
theorem lstr_any (pv rv mv : Value) (ps rs : List Int) (m : List (List Int)) (q : Int) (c : Nat) (w : World) (hp : Nums .i64 w pv ps) (hr : Nums .i64 w rv rs) (hm : IntsL w mv m) (hc : c ≤ 255) (htab : Pow10 w) :
    Calls Tryd.prog 4 #[.agg #[pv, rv], .agg #[mv], .int .i64 q, .int .u8 (c : Int)] w fun e w' => e = .returned (.bool true) ∧ Below w.heap.size w w' := by
  by_cases hE : itemE ps rs m q = 0
  · obtain ⟨e1, e2, e3, e4⟩ := itemE_zero hE
    obtain ⟨q', rfl⟩ := Int.eq_ofNat_of_zero_le e3
    by_cases h0 : c = 0
    · exact lstr_z pv rv mv ps rs m q' _ w hp hr hm htab hE (by rw [h0]; rfl)
    · have hn : ∀ n : Nat, (c : Int) = (n : Int) → n = c := fun n h => by omega
      rcases itemE_sc (n := c) (by omega) hE with h | h
      · exact lstr_ok pv rv mv ps rs m q' _ w hp hr hm htab hE (by omega) (by omega) (fun n h' => by rw [hn n h']; exact h)
      · exact lstr_no pv rv mv ps rs m q' _ w hp hr hm htab hE (by omega) (by omega) (fun n h' => by rw [hn n h']; exact h)
  · exact lstr_e pv rv mv ps rs m q _ w hp hr hm htab hE
end Go.Proofs.YtompckomogmhiaaDoor
