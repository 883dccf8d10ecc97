/- The walks of the reference's integers: Sign, Cmp, Of (package examboardref02). -/
import Derived.Test.YtfoleamcaflfeaaGreatDoorRf4
import Derived.Test.YtfoleamcaflfeaaGreatDoorBx
namespace Go.Proofs.YtfoleamcaflfeaaGreatDoor
open Go.RowKit
set_option linter.unusedVariables false

set_option maxHeartbeats 4000000 in
theorem r2sign_any (v : Value) (p : Int) (L : Nat) (w : World) (h : IntA w v p L) (hL : L ≤ 70368744177664) :
    Calls Tryz.prog 39 #[v] w fun e w' => e = .returned (.int .i64 (sgnZ p)) ∧ Below w.heap.size w w' := by
  have HN := Lib.hid (fun (W : World) (hw : Below w.heap.size w W) => r2norm_any v p L W (h.below hw) hL)
  obtain ⟨neg, mv, ls, rfl, hls, _, _⟩ := h
  obtain ⟨⟨A, c, rfl, _, _, _⟩, _⟩ := hls
  obtain ⟨n, hn⟩ : ∃ n, ls.length = n := ⟨_, rfl⟩
  rw [hn] at HN ⊢
  clear hn
  obtain ⟨W0, hW0⟩ : ∃ W0 : World, W0 = w.alloc (.cells #[.bool neg, .slice A n c] 26) := ⟨_, rfl⟩
  have r0 : Row W0 w.heap.size 26 [.bool neg, .slice A n c] := by
    rw [hW0]
    have := Row.new w 26 [.bool neg, .slice A n c]
    simpa using this
  have B0 : Below w.heap.size w W0 := by rw [hW0]; exact ((Below.refl _ _).alloc (Nat.le_refl _) _)
  go_enter Tryz.func39, Tryz.ntmps39
  go_wp2_with fail
  rw [← hW0]
  clear hW0
  have BB := B0
  rcases Int.lt_trichotomy p 0 with hp | hp | hp
  · have HS : Hid (sgnZ p = -1) := by unfold Hid sgnZ; rw [if_pos hp]
    have hr1 := r0
    clear B0 r0
    have c10 : W0.cell? ⟨w.heap.size, 0, none⟩ = some (.bool neg) := hr1.cell 0
    have c11 : W0.cell? ⟨w.heap.size, 1, none⟩ = some (.slice A n c) := hr1.cell 1
    have z1 := hr1.lt
    go_wp2_with fail
    clear c10 c11 z1
    refine (HN.out _ BB).mono ?_
    rintro e x1 ⟨v3, rfl, hv3, hb⟩
    replace hr1 := hr1.keep hb
    replace BB : Below w.heap.size w x1 := BB.trans (hb.mono BB.size)
    clear hb
    obtain ⟨m3, rfl, hn3, _⟩ := hv3
    obtain ⟨A3, k3, c3, rfl, hk3, hk32⟩ := natAt_pos hn3
    have t0 : ((k3 : Int) == 0) = false := by rw [beq_eq_false_iff_ne]; omega
    have t00 : (k3 == 0) = false := by rw [beq_eq_false_iff_ne]; omega
    have hd : decide (p < 0) = true := decide_eq_true (by omega)
    rw [hd]
    clear hk3 hn3 hd
    obtain ⟨g3, hg3⟩ : ∃ g, x1.heap.size = g := ⟨_, rfl⟩
    have hr3 : Row (x1.alloc (.cells #[.bool true, .slice A3 k3 c3] 26)) g3 26 [.bool true, .slice A3 k3 c3] := row_at hg3
    have hl := lit_below x1 (.cells #[.bool true, .slice A3 k3 c3] 26)
    have o1_3 : w.heap.size < g3 := by have := hr1.lt; omega
    have ob_3 : w.heap.size ≤ g3 := by have := BB.size; omega
    have c10 : x1.cell? ⟨w.heap.size, 0, none⟩ = some (.bool neg) := hr1.cell 0
    have c11 : x1.cell? ⟨w.heap.size, 1, none⟩ = some (.slice A n c) := hr1.cell 1
    have d10 : (x1.alloc (.cells #[.bool true, .slice A3 k3 c3] 26)).cell? ⟨w.heap.size, 0, none⟩ = some (.bool neg) := (hr1.alloc _).cell 0
    have d11 : (x1.alloc (.cells #[.bool true, .slice A3 k3 c3] 26)).cell? ⟨w.heap.size, 1, none⟩ = some (.slice A n c) := (hr1.alloc _).cell 1
    have e0 : (x1.alloc (.cells #[.bool true, .slice A3 k3 c3] 26)).cell? ⟨g3, 0, none⟩ = some (.bool true) := hr3.cell 0
    have e1 : (x1.alloc (.cells #[.bool true, .slice A3 k3 c3] 26)).cell? ⟨g3, 1, none⟩ = some (.slice A3 k3 c3) := hr3.cell 1
    go_wp2_with fail
    clear c10 c11 d10 d11 e0 e1
    clear hg3
    generalize (x1.alloc (.cells #[.bool true, .slice A3 k3 c3] 26)) = x2 at *
    replace hr1 := hr1.keep hl
    replace BB : Below w.heap.size w x2 := BB.trans (hl.mono BB.size)
    clear hl
    go_ret
    exact ⟨by rw [HS.out]; rfl, BB⟩
  · have HS : Hid (sgnZ p = 0) := by unfold Hid sgnZ; rw [if_neg (by omega), if_pos hp]
    have hr1 := r0
    clear B0 r0
    have c10 : W0.cell? ⟨w.heap.size, 0, none⟩ = some (.bool neg) := hr1.cell 0
    have c11 : W0.cell? ⟨w.heap.size, 1, none⟩ = some (.slice A n c) := hr1.cell 1
    have z1 := hr1.lt
    go_wp2_with fail
    clear c10 c11 z1
    refine (HN.out _ BB).mono ?_
    rintro e x1 ⟨v3, rfl, hv3, hb⟩
    replace hr1 := hr1.keep hb
    replace BB : Below w.heap.size w x1 := BB.trans (hb.mono BB.size)
    clear hb
    obtain ⟨m3, rfl, hn3, _⟩ := hv3
    obtain ⟨A3, k3, c3, rfl, hk3, hk32⟩ := natAt_pos hn3
    obtain rfl : k3 = 0 := by omega
    have hd : decide (p < 0) = false := decide_eq_false (by omega)
    rw [hd]
    clear hk3 hn3 hd
    obtain ⟨g3, hg3⟩ : ∃ g, x1.heap.size = g := ⟨_, rfl⟩
    have hr3 : Row (x1.alloc (.cells #[.bool false, .slice A3 0 c3] 26)) g3 26 [.bool false, .slice A3 0 c3] := row_at hg3
    have hl := lit_below x1 (.cells #[.bool false, .slice A3 0 c3] 26)
    have o1_3 : w.heap.size < g3 := by have := hr1.lt; omega
    have ob_3 : w.heap.size ≤ g3 := by have := BB.size; omega
    have c10 : x1.cell? ⟨w.heap.size, 0, none⟩ = some (.bool neg) := hr1.cell 0
    have c11 : x1.cell? ⟨w.heap.size, 1, none⟩ = some (.slice A n c) := hr1.cell 1
    have d10 : (x1.alloc (.cells #[.bool false, .slice A3 0 c3] 26)).cell? ⟨w.heap.size, 0, none⟩ = some (.bool neg) := (hr1.alloc _).cell 0
    have d11 : (x1.alloc (.cells #[.bool false, .slice A3 0 c3] 26)).cell? ⟨w.heap.size, 1, none⟩ = some (.slice A n c) := (hr1.alloc _).cell 1
    have e0 : (x1.alloc (.cells #[.bool false, .slice A3 0 c3] 26)).cell? ⟨g3, 0, none⟩ = some (.bool false) := hr3.cell 0
    have e1 : (x1.alloc (.cells #[.bool false, .slice A3 0 c3] 26)).cell? ⟨g3, 1, none⟩ = some (.slice A3 0 c3) := hr3.cell 1
    go_wp2_with fail
    clear c10 c11 d10 d11 e0 e1
    clear hg3
    generalize (x1.alloc (.cells #[.bool false, .slice A3 0 c3] 26)) = x2 at *
    replace hr1 := hr1.keep hl
    replace BB : Below w.heap.size w x2 := BB.trans (hl.mono BB.size)
    clear hl
    go_ret
    exact ⟨by rw [HS.out]; rfl, BB⟩
  · have HS : Hid (sgnZ p = 1) := by unfold Hid sgnZ; rw [if_neg (by omega), if_neg (by omega)]
    have hr1 := r0
    clear B0 r0
    have c10 : W0.cell? ⟨w.heap.size, 0, none⟩ = some (.bool neg) := hr1.cell 0
    have c11 : W0.cell? ⟨w.heap.size, 1, none⟩ = some (.slice A n c) := hr1.cell 1
    have z1 := hr1.lt
    go_wp2_with fail
    clear c10 c11 z1
    refine (HN.out _ BB).mono ?_
    rintro e x1 ⟨v3, rfl, hv3, hb⟩
    replace hr1 := hr1.keep hb
    replace BB : Below w.heap.size w x1 := BB.trans (hb.mono BB.size)
    clear hb
    obtain ⟨m3, rfl, hn3, _⟩ := hv3
    obtain ⟨A3, k3, c3, rfl, hk3, hk32⟩ := natAt_pos hn3
    have t0 : ((k3 : Int) == 0) = false := by rw [beq_eq_false_iff_ne]; omega
    have t00 : (k3 == 0) = false := by rw [beq_eq_false_iff_ne]; omega
    have hd : decide (p < 0) = false := decide_eq_false (by omega)
    rw [hd]
    clear hk3 hn3 hd
    obtain ⟨g3, hg3⟩ : ∃ g, x1.heap.size = g := ⟨_, rfl⟩
    have hr3 : Row (x1.alloc (.cells #[.bool false, .slice A3 k3 c3] 26)) g3 26 [.bool false, .slice A3 k3 c3] := row_at hg3
    have hl := lit_below x1 (.cells #[.bool false, .slice A3 k3 c3] 26)
    have o1_3 : w.heap.size < g3 := by have := hr1.lt; omega
    have ob_3 : w.heap.size ≤ g3 := by have := BB.size; omega
    have c10 : x1.cell? ⟨w.heap.size, 0, none⟩ = some (.bool neg) := hr1.cell 0
    have c11 : x1.cell? ⟨w.heap.size, 1, none⟩ = some (.slice A n c) := hr1.cell 1
    have d10 : (x1.alloc (.cells #[.bool false, .slice A3 k3 c3] 26)).cell? ⟨w.heap.size, 0, none⟩ = some (.bool neg) := (hr1.alloc _).cell 0
    have d11 : (x1.alloc (.cells #[.bool false, .slice A3 k3 c3] 26)).cell? ⟨w.heap.size, 1, none⟩ = some (.slice A n c) := (hr1.alloc _).cell 1
    have e0 : (x1.alloc (.cells #[.bool false, .slice A3 k3 c3] 26)).cell? ⟨g3, 0, none⟩ = some (.bool false) := hr3.cell 0
    have e1 : (x1.alloc (.cells #[.bool false, .slice A3 k3 c3] 26)).cell? ⟨g3, 1, none⟩ = some (.slice A3 k3 c3) := hr3.cell 1
    go_wp2_with fail
    clear c10 c11 d10 d11 e0 e1
    clear hg3
    generalize (x1.alloc (.cells #[.bool false, .slice A3 k3 c3] 26)) = x2 at *
    replace hr1 := hr1.keep hl
    replace BB : Below w.heap.size w x2 := BB.trans (hl.mono BB.size)
    clear hl
    go_ret
    exact ⟨by rw [HS.out]; rfl, BB⟩
theorem cmp_negN {p q : Int} {a b : Nat} (hp : p = -(a : Int)) (hq : q = -(b : Int)) : cmpN b a = cmpZ p q := by
  unfold cmpN cmpZ; subst hp hq
  repeat' split
  all_goals omega
theorem cmp_posN {p q : Int} {a b : Nat} (hp : p = (a : Int)) (hq : q = (b : Int)) : cmpN a b = cmpZ p q := by
  unfold cmpN cmpZ; subst hp hq
  repeat' split
  all_goals omega
theorem rcmp_B (v u : Value) (la lb : List Nat) (w : World) (ha : Lim w v la) (hb : Lim w u lb) (h1 : la.length ≤ 70368744177664) (h2 : lb.length ≤ 70368744177664) :
    Calls Tryz.prog 20 #[v, u] w fun e w' => e = .returned (.int .i64 (cmpN (val la) (val lb))) ∧ Below w.heap.size w w' :=
  (rcmp_any v u la lb w ha hb h1 h2).mono fun e w' h => ⟨h.1, by rw [← h.2]; exact Below.refl _ _⟩
theorem sgn_neg {p : Int} (h : sgnZ p < 0) : p < 0 := by unfold sgnZ at h; split at h; assumption; split at h <;> omega
theorem sgn_nn {p : Int} (h : 0 ≤ sgnZ p) : 0 ≤ p := by unfold sgnZ at h; split at h; omega; omega
set_option maxHeartbeats 8000000 in
theorem r2cmp_any (v u : Value) (p q : Int) (L M : Nat) (w : World) (ha : IntA w v p L) (hb : IntA w u q M) (hL : L ≤ 70368744177664) (hM : M ≤ 70368744177664) :
    Calls Tryz.prog 44 #[v, u] w fun e w' => e = .returned (.int .i64 (cmpZ p q)) ∧ Below w.heap.size w w' := by
  have HA := Lib.hid (fun (W : World) (hw : Below w.heap.size w W) => r2sign_any v p L W (ha.below hw) hL)
  have HB := Lib.hid (fun (W : World) (hw : Below w.heap.size w W) => r2sign_any u q M W (hb.below hw) hM)
  obtain ⟨na, mv, la, rfl, hla, kla, ea⟩ := ha
  obtain ⟨nb, mu, lb, rfl, hlb, klb, eb⟩ := hb
  have HC1 := Lib.hid (fun (W : World) (hw : Below w.heap.size w W) => rcmp_B mv mu la lb W (hla.below hw) (hlb.below hw) (by omega) (by omega))
  have HC2 := Lib.hid (fun (W : World) (hw : Below w.heap.size w W) => rcmp_B mu mv lb la W (hlb.below hw) (hla.below hw) (by omega) (by omega))
  have ca : p = (val la : Int) ∨ p = -(val la : Int) := by rw [ea]; cases na <;> simp [sg]
  have cb : q = (val lb : Int) ∨ q = -(val lb : Int) := by rw [eb]; cases nb <;> simp [sg]
  have HS := Lib.hid (cmp_sgn (p := p) (q := q))
  have HNG := Lib.hid (fun (h : sgnZ p < 0) => sgn_neg h)
  have HNQ := Lib.hid (fun (h : sgnZ q < 0) => sgn_neg h)
  have HPP := Lib.hid (fun (h : 0 ≤ sgnZ p) => sgn_nn h)
  have HPQ := Lib.hid (fun (h : 0 ≤ sgnZ q) => sgn_nn h)
  obtain ⟨⟨A, c, rfl, _, _, _⟩, _⟩ := hla
  obtain ⟨⟨B, d, rfl, _, _, _⟩, _⟩ := hlb
  obtain ⟨sa, hsa⟩ : ∃ s, sgnZ p = s := ⟨_, rfl⟩
  obtain ⟨sb, hsb⟩ : ∃ s, sgnZ q = s := ⟨_, rfl⟩
  rw [hsa] at HA HS HNG HPP
  rw [hsb] at HB HS HNQ HPQ
  obtain ⟨n, hn⟩ : ∃ n, la.length = n := ⟨_, rfl⟩
  obtain ⟨m, hm⟩ : ∃ n, lb.length = n := ⟨_, rfl⟩
  rw [hn, hm] at HC1 HC2 ⊢
  rw [hn] at HA
  rw [hm] at HB
  clear hn hm hsa hsb ea eb kla klb
  obtain ⟨W0, hW0⟩ : ∃ W0 : World, W0 = (w.alloc (.cells #[.bool na, .slice A n c] 26)).alloc (.cells #[.bool nb, .slice B m d] 26) := ⟨_, rfl⟩
  have r0 : Row W0 w.heap.size 26 [.bool na, .slice A n c] := by
    rw [hW0]
    have := Row.alloc (Row.new w 26 [.bool na, .slice A n c]) (.cells #[.bool nb, .slice B m d] 26)
    simpa using this
  have r1 : Row W0 (w.heap.size + 1) 26 [.bool nb, .slice B m d] := by
    rw [hW0]
    have := Row.new (w.alloc (.cells #[.bool na, .slice A n c] 26)) 26 [.bool nb, .slice B m d]
    simpa using this
  have B0 : Below w.heap.size w W0 := by rw [hW0]; exact (((Below.refl _ _).alloc (Nat.le_refl _) _).alloc (by simp) _)
  rcases (show sa < sb ∨ sb < sa ∨ sa = sb by omega) with hcase | hcase | hcase
  · have HR := Lib.hid (HS.out.1 hcase)
    clear HC1 HC2 ca cb HNG HNQ HPP HPQ
    go_enter Tryz.func44, Tryz.ntmps44
    go_wp2_with fail
    rw [← hW0]
    clear hW0
    have BB := B0
    have hr2 := r0
    have hr3 := r1
    clear B0 r0 r1
    have c20 : W0.cell? ⟨w.heap.size, 0, none⟩ = some (.bool na) := hr2.cell 0
    have c21 : W0.cell? ⟨w.heap.size, 1, none⟩ = some (.slice A n c) := hr2.cell 1
    have c30 : W0.cell? ⟨w.heap.size + 1, 0, none⟩ = some (.bool nb) := hr3.cell 0
    have c31 : W0.cell? ⟨w.heap.size + 1, 1, none⟩ = some (.slice B m d) := hr3.cell 1
    have z2 := hr2.lt
    have z3 := hr3.lt
    go_wp2_with fail
    clear c20 c21 c30 c31 z2 z3
    refine (HA.out _ BB).mono ?_
    rintro e x1 ⟨rfl, hb⟩
    replace hr2 := hr2.keep hb
    replace hr3 := hr3.keep hb
    replace BB : Below w.heap.size w x1 := BB.trans (hb.mono BB.size)
    clear hb
    have c20 : x1.cell? ⟨w.heap.size, 0, none⟩ = some (.bool na) := hr2.cell 0
    have c21 : x1.cell? ⟨w.heap.size, 1, none⟩ = some (.slice A n c) := hr2.cell 1
    have c30 : x1.cell? ⟨w.heap.size + 1, 0, none⟩ = some (.bool nb) := hr3.cell 0
    have c31 : x1.cell? ⟨w.heap.size + 1, 1, none⟩ = some (.slice B m d) := hr3.cell 1
    have z2 := hr2.lt
    have z3 := hr3.lt
    go_wp2_with fail
    clear c20 c21 c30 c31 z2 z3
    refine (HB.out _ BB).mono ?_
    rintro e x2 ⟨rfl, hb⟩
    replace hr2 := hr2.keep hb
    replace hr3 := hr3.keep hb
    replace BB : Below w.heap.size w x2 := BB.trans (hb.mono BB.size)
    clear hb
    have t1 : decide (sa < sb) = true := decide_eq_true hcase
    have c20 : x2.cell? ⟨w.heap.size, 0, none⟩ = some (.bool na) := hr2.cell 0
    have c21 : x2.cell? ⟨w.heap.size, 1, none⟩ = some (.slice A n c) := hr2.cell 1
    have c30 : x2.cell? ⟨w.heap.size + 1, 0, none⟩ = some (.bool nb) := hr3.cell 0
    have c31 : x2.cell? ⟨w.heap.size + 1, 1, none⟩ = some (.slice B m d) := hr3.cell 1
    have z2 := hr2.lt
    have z3 := hr3.lt
    go_wp2_with fail
    clear c20 c21 c30 c31 z2 z3
    go_ret
    exact ⟨by rw [HR.out]; rfl, BB⟩
  · have HR := Lib.hid (HS.out.2 hcase)
    clear HC1 HC2 ca cb HNG HNQ HPP HPQ
    go_enter Tryz.func44, Tryz.ntmps44
    go_wp2_with fail
    rw [← hW0]
    clear hW0
    have BB := B0
    have hr2 := r0
    have hr3 := r1
    clear B0 r0 r1
    have c20 : W0.cell? ⟨w.heap.size, 0, none⟩ = some (.bool na) := hr2.cell 0
    have c21 : W0.cell? ⟨w.heap.size, 1, none⟩ = some (.slice A n c) := hr2.cell 1
    have c30 : W0.cell? ⟨w.heap.size + 1, 0, none⟩ = some (.bool nb) := hr3.cell 0
    have c31 : W0.cell? ⟨w.heap.size + 1, 1, none⟩ = some (.slice B m d) := hr3.cell 1
    have z2 := hr2.lt
    have z3 := hr3.lt
    go_wp2_with fail
    clear c20 c21 c30 c31 z2 z3
    refine (HA.out _ BB).mono ?_
    rintro e x1 ⟨rfl, hb⟩
    replace hr2 := hr2.keep hb
    replace hr3 := hr3.keep hb
    replace BB : Below w.heap.size w x1 := BB.trans (hb.mono BB.size)
    clear hb
    have c20 : x1.cell? ⟨w.heap.size, 0, none⟩ = some (.bool na) := hr2.cell 0
    have c21 : x1.cell? ⟨w.heap.size, 1, none⟩ = some (.slice A n c) := hr2.cell 1
    have c30 : x1.cell? ⟨w.heap.size + 1, 0, none⟩ = some (.bool nb) := hr3.cell 0
    have c31 : x1.cell? ⟨w.heap.size + 1, 1, none⟩ = some (.slice B m d) := hr3.cell 1
    have z2 := hr2.lt
    have z3 := hr3.lt
    go_wp2_with fail
    clear c20 c21 c30 c31 z2 z3
    refine (HB.out _ BB).mono ?_
    rintro e x2 ⟨rfl, hb⟩
    replace hr2 := hr2.keep hb
    replace hr3 := hr3.keep hb
    replace BB : Below w.heap.size w x2 := BB.trans (hb.mono BB.size)
    clear hb
    have t1 : decide (sa < sb) = false := decide_eq_false (by omega)
    have t2 : decide (sb < sa) = true := decide_eq_true hcase
    have c20 : x2.cell? ⟨w.heap.size, 0, none⟩ = some (.bool na) := hr2.cell 0
    have c21 : x2.cell? ⟨w.heap.size, 1, none⟩ = some (.slice A n c) := hr2.cell 1
    have c30 : x2.cell? ⟨w.heap.size + 1, 0, none⟩ = some (.bool nb) := hr3.cell 0
    have c31 : x2.cell? ⟨w.heap.size + 1, 1, none⟩ = some (.slice B m d) := hr3.cell 1
    have z2 := hr2.lt
    have z3 := hr3.lt
    go_wp2_with fail
    clear c20 c21 c30 c31 z2 z3
    go_ret
    exact ⟨by rw [HR.out]; rfl, BB⟩
  · subst hcase
    by_cases h0 : sa < 0
    · have HR : Hid (cmpZ p q = cmpN (val lb) (val la)) := by
        have h1 := HNG.out h0
        have h2 := HNQ.out h0
        exact (cmp_negN (by omega) (by omega)).symm
      have HC := HC2
      clear HC1 HC2 ca cb HNG HNQ HPP HPQ HS
      generalize cmpN (val lb) (val la) = cm at *
      go_enter Tryz.func44, Tryz.ntmps44
      go_wp2_with fail
      rw [← hW0]
      clear hW0
      have BB := B0
      have hr2 := r0
      have hr3 := r1
      clear B0 r0 r1
      have c20 : W0.cell? ⟨w.heap.size, 0, none⟩ = some (.bool na) := hr2.cell 0
      have c21 : W0.cell? ⟨w.heap.size, 1, none⟩ = some (.slice A n c) := hr2.cell 1
      have c30 : W0.cell? ⟨w.heap.size + 1, 0, none⟩ = some (.bool nb) := hr3.cell 0
      have c31 : W0.cell? ⟨w.heap.size + 1, 1, none⟩ = some (.slice B m d) := hr3.cell 1
      have z2 := hr2.lt
      have z3 := hr3.lt
      go_wp2_with fail
      clear c20 c21 c30 c31 z2 z3
      refine (HA.out _ BB).mono ?_
      rintro e x1 ⟨rfl, hb⟩
      replace hr2 := hr2.keep hb
      replace hr3 := hr3.keep hb
      replace BB : Below w.heap.size w x1 := BB.trans (hb.mono BB.size)
      clear hb
      have c20 : x1.cell? ⟨w.heap.size, 0, none⟩ = some (.bool na) := hr2.cell 0
      have c21 : x1.cell? ⟨w.heap.size, 1, none⟩ = some (.slice A n c) := hr2.cell 1
      have c30 : x1.cell? ⟨w.heap.size + 1, 0, none⟩ = some (.bool nb) := hr3.cell 0
      have c31 : x1.cell? ⟨w.heap.size + 1, 1, none⟩ = some (.slice B m d) := hr3.cell 1
      have z2 := hr2.lt
      have z3 := hr3.lt
      go_wp2_with fail
      clear c20 c21 c30 c31 z2 z3
      refine (HB.out _ BB).mono ?_
      rintro e x2 ⟨rfl, hb⟩
      replace hr2 := hr2.keep hb
      replace hr3 := hr3.keep hb
      replace BB : Below w.heap.size w x2 := BB.trans (hb.mono BB.size)
      clear hb
      have t1 : decide (sa < sa) = false := decide_eq_false (by omega)
      have t3 : decide (sa < 0) = true := decide_eq_true (by omega)
      have c20 : x2.cell? ⟨w.heap.size, 0, none⟩ = some (.bool na) := hr2.cell 0
      have c21 : x2.cell? ⟨w.heap.size, 1, none⟩ = some (.slice A n c) := hr2.cell 1
      have c30 : x2.cell? ⟨w.heap.size + 1, 0, none⟩ = some (.bool nb) := hr3.cell 0
      have c31 : x2.cell? ⟨w.heap.size + 1, 1, none⟩ = some (.slice B m d) := hr3.cell 1
      have z2 := hr2.lt
      have z3 := hr3.lt
      go_wp2_with fail
      clear c20 c21 c30 c31 z2 z3
      refine (HC.out _ BB).mono ?_
      rintro e x3 ⟨rfl, hb⟩
      replace hr2 := hr2.keep hb
      replace hr3 := hr3.keep hb
      replace BB : Below w.heap.size w x3 := BB.trans (hb.mono BB.size)
      clear hb
      have c20 : x3.cell? ⟨w.heap.size, 0, none⟩ = some (.bool na) := hr2.cell 0
      have c21 : x3.cell? ⟨w.heap.size, 1, none⟩ = some (.slice A n c) := hr2.cell 1
      have c30 : x3.cell? ⟨w.heap.size + 1, 0, none⟩ = some (.bool nb) := hr3.cell 0
      have c31 : x3.cell? ⟨w.heap.size + 1, 1, none⟩ = some (.slice B m d) := hr3.cell 1
      have z2 := hr2.lt
      have z3 := hr3.lt
      go_wp2_with fail
      clear c20 c21 c30 c31 z2 z3
      go_ret
      exact ⟨by rw [HR.out]; rfl, BB⟩
    · have HR : Hid (cmpZ p q = cmpN (val la) (val lb)) := by
        have h1 := HPP.out (by omega)
        have h2 := HPQ.out (by omega)
        exact (cmp_posN (by omega) (by omega)).symm
      have HC := HC1
      clear HC1 HC2 ca cb HNG HNQ HPP HPQ HS
      generalize cmpN (val la) (val lb) = cm at *
      go_enter Tryz.func44, Tryz.ntmps44
      go_wp2_with fail
      rw [← hW0]
      clear hW0
      have BB := B0
      have hr2 := r0
      have hr3 := r1
      clear B0 r0 r1
      have c20 : W0.cell? ⟨w.heap.size, 0, none⟩ = some (.bool na) := hr2.cell 0
      have c21 : W0.cell? ⟨w.heap.size, 1, none⟩ = some (.slice A n c) := hr2.cell 1
      have c30 : W0.cell? ⟨w.heap.size + 1, 0, none⟩ = some (.bool nb) := hr3.cell 0
      have c31 : W0.cell? ⟨w.heap.size + 1, 1, none⟩ = some (.slice B m d) := hr3.cell 1
      have z2 := hr2.lt
      have z3 := hr3.lt
      go_wp2_with fail
      clear c20 c21 c30 c31 z2 z3
      refine (HA.out _ BB).mono ?_
      rintro e x1 ⟨rfl, hb⟩
      replace hr2 := hr2.keep hb
      replace hr3 := hr3.keep hb
      replace BB : Below w.heap.size w x1 := BB.trans (hb.mono BB.size)
      clear hb
      have c20 : x1.cell? ⟨w.heap.size, 0, none⟩ = some (.bool na) := hr2.cell 0
      have c21 : x1.cell? ⟨w.heap.size, 1, none⟩ = some (.slice A n c) := hr2.cell 1
      have c30 : x1.cell? ⟨w.heap.size + 1, 0, none⟩ = some (.bool nb) := hr3.cell 0
      have c31 : x1.cell? ⟨w.heap.size + 1, 1, none⟩ = some (.slice B m d) := hr3.cell 1
      have z2 := hr2.lt
      have z3 := hr3.lt
      go_wp2_with fail
      clear c20 c21 c30 c31 z2 z3
      refine (HB.out _ BB).mono ?_
      rintro e x2 ⟨rfl, hb⟩
      replace hr2 := hr2.keep hb
      replace hr3 := hr3.keep hb
      replace BB : Below w.heap.size w x2 := BB.trans (hb.mono BB.size)
      clear hb
      have t1 : decide (sa < sa) = false := decide_eq_false (by omega)
      have t3 : decide (sa < 0) = false := decide_eq_false (by omega)
      have c20 : x2.cell? ⟨w.heap.size, 0, none⟩ = some (.bool na) := hr2.cell 0
      have c21 : x2.cell? ⟨w.heap.size, 1, none⟩ = some (.slice A n c) := hr2.cell 1
      have c30 : x2.cell? ⟨w.heap.size + 1, 0, none⟩ = some (.bool nb) := hr3.cell 0
      have c31 : x2.cell? ⟨w.heap.size + 1, 1, none⟩ = some (.slice B m d) := hr3.cell 1
      have z2 := hr2.lt
      have z3 := hr3.lt
      go_wp2_with fail
      clear c20 c21 c30 c31 z2 z3
      refine (HC.out _ BB).mono ?_
      rintro e x3 ⟨rfl, hb⟩
      replace hr2 := hr2.keep hb
      replace hr3 := hr3.keep hb
      replace BB : Below w.heap.size w x3 := BB.trans (hb.mono BB.size)
      clear hb
      have c20 : x3.cell? ⟨w.heap.size, 0, none⟩ = some (.bool na) := hr2.cell 0
      have c21 : x3.cell? ⟨w.heap.size, 1, none⟩ = some (.slice A n c) := hr2.cell 1
      have c30 : x3.cell? ⟨w.heap.size + 1, 0, none⟩ = some (.bool nb) := hr3.cell 0
      have c31 : x3.cell? ⟨w.heap.size + 1, 1, none⟩ = some (.slice B m d) := hr3.cell 1
      have z2 := hr2.lt
      have z3 := hr3.lt
      go_wp2_with fail
      clear c20 c21 c30 c31 z2 z3
      go_ret
      exact ⟨by rw [HR.out]; rfl, BB⟩
theorem rof_next (m : Nat) (w : World) (hm : m < 9223372036854775808) :
    Calls Tryz.prog 46 #[.int .u64 ((m : Int) + 1)] w fun e w' => ∃ v, e = .returned v ∧ NRes w w' v (m + 1) 2 := by
  rw [show (m : Int) + 1 = ((m + 1 : Nat) : Int) by omega]
  exact rof_any (m + 1) w (by omega)
set_option maxHeartbeats 4000000 in
theorem r2of_any (n : Int) (w : World) (h1 : -9223372036854775808 ≤ n) (h2 : n ≤ 9223372036854775807) :
    Calls Tryz.prog 66 #[.int .i64 n] w fun e w' => ∃ u, e = .returned u ∧ IntF w.heap.size w' u n 2 ∧ Below w.heap.size w w' := by
  have hgb := Row.new w 26 [.bool false, .slice none 0 0]
  have B0 : Below w.heap.size w (w.alloc (.cells #[.bool false, .slice none 0 0] 26)) := lit_below _ _
  have hsz : (w.alloc (.cells #[.bool false, .slice none 0 0] 26)).heap.size = w.heap.size + 1 := by simp
  have HSZ := Lib.hid hsz
  clear hsz
  by_cases hneg : n < 0
  · obtain ⟨m, hm⟩ : ∃ m : Nat, n = -((m : Int) + 1) := ⟨(-(n + 1)).toNat, by omega⟩
    have HM := Lib.hid hm
    have e1 : n + 1 = -(m : Int) := by omega
    have hm2 : m < 9223372036854775808 := by omega
    have HSG : Hid (sg true (m + 1) = n) := by
      unfold Hid sg
      rw [if_pos rfl, hm]; omega
    have t1 : decide (n < 0) = true := decide_eq_true hneg
    have w1 : IntKind.i64.wrap (-(m : Int)) = -(m : Int) := by rw [IntKind.wrap_i64]; omega
    clear hm
    go_enter Tryz.func66, Tryz.ntmps66
    go_wp2_with fail
    refine (rof_next m _ hm2).mono ?_
    rintro e w1 ⟨v1, rfl, hN⟩
    obtain ⟨l1, hl1, _, hv1, hk1⟩ := hN.nat
    have hb := hN.bel
    replace hgb := hgb.keep hb
    have BB := B0.trans (hb.mono B0.size)
    have hsz1 := hb.size
    clear hb hN
    go_wp2_with fail
    refine (r2make_any true _ l1 _ hl1 (by omega)).mono ?_
    rintro e w2 ⟨u, rfl, hu, hb⟩
    replace hgb := hgb.keep hb
    have B2 := BB.trans (hb.mono BB.size)
    rw [hv1, HSG.out] at hu
    obtain ⟨mu, rfl, hn, hf⟩ := hu
    obtain ⟨A, k, c, rfl, _, _⟩ := natAt_pos hn
    have c0 := hgb.cell 0
    have c1 := hgb.cell 1
    have f0 := hgb.frozen 0
    have f1 := hgb.frozen 1
    have z := hgb.lt
    simp only [List.getElem?_cons_zero, List.getElem?_cons_succ] at c0 c1
    have hf1 : Fresh (w.heap.size + 1) (.slice A k c) := hf.mono (by rw [← HSZ.out]; exact Nat.le_trans (Nat.le_refl _) hsz1)
    clear hf
    go_wp2_with fail
    refine bodyPost_ret (v := .agg #[.bool (decide (n < 0)), .slice A k c]) (by simp [results, Tryz.results66, go_sem, c0, c1, hneg]) rfl ⟨_, rfl, ⟨_, rfl, ?_, hf1.mono (by omega)⟩, (B2.setCell (Nat.le_refl _) _).setCell (Nat.le_refl _) _⟩
    exact ((hn.mono (by omega)).set_ hf1 (by simp) _).set_ hf1 (by simp) _
  · obtain ⟨m, hm⟩ := Int.eq_ofNat_of_zero_le (show 0 ≤ n by omega)
    subst hm
    have HSG : Hid (sg false m = (m : Int)) := rfl
    have t1 : decide ((m : Int) < 0) = false := decide_eq_false hneg
    go_enter Tryz.func66, Tryz.ntmps66
    go_wp2_with fail
    refine (rof_any m _ (by omega)).mono ?_
    rintro e w1 ⟨v1, rfl, hN⟩
    obtain ⟨l1, hl1, _, hv1, hk1⟩ := hN.nat
    have hb := hN.bel
    replace hgb := hgb.keep hb
    have BB := B0.trans (hb.mono B0.size)
    have hsz1 := hb.size
    clear hb hN
    go_wp2_with fail
    refine (r2make_any false _ l1 _ hl1 (by omega)).mono ?_
    rintro e w2 ⟨u, rfl, hu, hb⟩
    replace hgb := hgb.keep hb
    have B2 := BB.trans (hb.mono BB.size)
    rw [hv1, HSG.out] at hu
    obtain ⟨mu, rfl, hn, hf⟩ := hu
    obtain ⟨A, k, c, rfl, _, _⟩ := natAt_pos hn
    have c0 := hgb.cell 0
    have c1 := hgb.cell 1
    have f0 := hgb.frozen 0
    have f1 := hgb.frozen 1
    have z := hgb.lt
    simp only [List.getElem?_cons_zero, List.getElem?_cons_succ] at c0 c1
    have hf1 : Fresh (w.heap.size + 1) (.slice A k c) := hf.mono (by rw [← HSZ.out]; exact Nat.le_trans (Nat.le_refl _) hsz1)
    clear hf
    go_wp2_with fail
    refine bodyPost_ret (v := .agg #[.bool (decide ((m : Int) < 0)), .slice A k c]) (by simp [results, Tryz.results66, go_sem, c0, c1]) rfl ⟨_, rfl, ⟨_, rfl, ?_, hf1.mono (by omega)⟩, (B2.setCell (Nat.le_refl _) _).setCell (Nat.le_refl _) _⟩
    exact ((hn.mono (by omega)).set_ hf1 (by simp) _).set_ hf1 (by simp) _
end Go.Proofs.YtfoleamcaflfeaaGreatDoor
