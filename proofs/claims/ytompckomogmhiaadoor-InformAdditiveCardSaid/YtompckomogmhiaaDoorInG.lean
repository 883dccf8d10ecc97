/- nat.Uint and integer.Int64 at one limb. integer.DivMod at two numbers that are not negative (under way). ratio.Floor at a positive fraction (under way). inform.Units where the answer is a small positive number. -/
import Derived.Test.YtompckomogmhiaaDoorInC
import Derived.Test.YtompckomogmhiaaDoorRatW
namespace Go.Proofs.YtompckomogmhiaaDoor
open Go.RowKit
set_option linter.unusedVariables false

set_option maxHeartbeats 4000000 in
theorem uint_one (v : Value) (x : Nat) (w : World) (h : Lim w v [x]) (h0 : 0 < x) :
    Calls Tryd.prog 56 #[v] w fun e w' => e = .returned (.tuple #[.int .u64 (x : Int), .bool true]) ∧ Below w.heap.size w w' := by
  obtain ⟨⟨A, c, rfl, hc, hm, hs⟩, hall⟩ := h
  have hx : x < 4294967296 := hall x (by simp)
  have HT := Lib.hid (trim_any A 1 c [x] w hs hc hm)
  rw [strip_one (lb := [x]) hall (by simpa [val] using h0) (by simpa [val] using hx)] at HT
  obtain ⟨b, o, rfl, hb, hcell⟩ := hs.lim (i := 0) (by simp)
  have g0 := hcell 0 (by simp)
  rw [show ([x] : List Nat).getD 0 0 = x from rfl] at g0
  clear hcell hs hall
  have hc1 : 1 ≤ c := hc
  have hor : bits .or .u64 0 (x : Int) = (x : Int) := by
    have := or_limb 0 x (by decide) hx
    simpa using this
  unfold maxLen at hm
  have u1 : IntKind.u64.wrap (x : Int) = (x : Int) := by rw [IntKind.wrap_u64]; omega
  go_enter Tryd.func56, Tryd.ntmps56
  go_wp2_with fail
  refine HT.out.mono ?_
  rintro e w1 ⟨rfl, rfl⟩
  clear HT
  go_wp2_with fail
  go_loopw [4, 14] (fun av iv wr => ∃ (k : Nat), k ≤ 1 ∧ iv = .int .i64 (k : Int) ∧ av = .int .u64 (if k = 0 then 0 else (x : Int)) ∧ Below w.heap.size w wr) (fun _ iv _ => 1 - (intOf iv).toNat)
  case atStart => exact ⟨0, by omega, rfl, rfl, Below.refl _ _⟩
  case round =>
    obtain ⟨k, hk, rfl, rfl, BB⟩ := hrel
    by_cases hlt : k < 1
    · obtain rfl : k = 0 := by omega
      have g1 := (BB.cell (p := ⟨b, o + 0, none⟩) hb).trans g0
      have g2 : wr.cell? ⟨b, o, none⟩ = some (.int .u32 (x : Int)) := g1
      go_wp2_with fail
      refine ⟨⟨1, by omega, rfl, ?_, BB⟩, by decide⟩
      rfl
    · obtain rfl : k = 1 := by omega
      go_wp2_with fail
      go_ret2
      exact ⟨rfl, BB⟩

set_option maxHeartbeats 4000000 in
theorem int64_one (v : Value) (x : Nat) (w : World) (h : Lim w v [x]) (h0 : 0 < x) :
    Calls Tryd.prog 42 #[.agg #[.bool false, v]] w fun e w' => e = .returned (.tuple #[.int .i64 (x : Int), .bool true]) ∧ Below w.heap.size w w' := by
  have hx : x < 4294967296 := h.2 x (by simp)
  have HU := Lib.hid (fun (W : World) (hb : Below w.heap.size w W) => uint_one v x W (h.below hb) h0)
  obtain ⟨⟨A, c, rfl, _, _, _⟩, _⟩ := h
  rw [show ([x] : List Nat).length = 1 from rfl] at HU ⊢
  obtain ⟨W0, hW0⟩ : ∃ W0 : World, W0 = w.alloc (.cells #[.bool false, .slice A 1 c] 29) := ⟨_, rfl⟩
  have r0 : Row W0 w.heap.size 29 [.bool false, .slice A 1 c] := by rw [hW0]; exact Row.new w 29 [.bool false, .slice A 1 c]
  have B0 : Below w.heap.size w W0 := by rw [hW0]; exact lit_below w _
  have c0 : W0.cell? ⟨w.heap.size, 0, none⟩ = some (.bool false) := r0.cell 0
  have c1 : W0.cell? ⟨w.heap.size, 1, none⟩ = some (.slice A [x].length c) := r0.cell 1
  have t1 : decide ((9223372036854775807 : Int) < (x : Int)) = false := decide_eq_false (by omega)
  have t2 : decide (9223372036854775807 < x) = false := decide_eq_false (by omega)
  have u1 : IntKind.i64.wrap (x : Int) = (x : Int) := by rw [IntKind.wrap_i64]; omega
  go_enter Tryd.func42, Tryd.ntmps42
  go_wp2_with fail
  rw [← hW0]
  clear hW0
  go_wp2_with fail
  refine (HU.out _ B0).mono ?_
  rintro e w1 ⟨rfl, hb⟩
  have q0 := r0.keep hb
  have d0 : w1.cell? ⟨w.heap.size, 0, none⟩ = some (.bool false) := q0.cell 0
  have d1 : w1.cell? ⟨w.heap.size, 1, none⟩ = some (.slice A [x].length c) := q0.cell 1
  go_wp2_with fail
  go_ret2
  exact ⟨rfl, B0.trans (hb.mono B0.size)⟩
end Go.Proofs.YtompckomogmhiaaDoor
namespace Go.Proofs.YtompckomogmhiaaDoor
open Go.RowKit
set_option linter.unusedVariables false
set_option maxRecDepth 100000

theorem keep2w {K : Nat} {W w' : World} {p1 p2 : Addr} {x1 x2 : Value} (l1 : p1.block < K) (l2 : p2.block < K) (h1 : W.cell? p1 = some x1) (h2 : W.cell? p2 = some x2) (hb : Below K W w') : w'.cell? p1 = some x1 ∧ w'.cell? p2 = some x2 := ⟨(hb.cell l1).trans h1, (hb.cell l2).trans h2⟩
theorem bw_call {K : Nat} {a W w1 : World} (ha : K ≤ a.heap.size) (h : Below W.heap.size W w1) (h0 : Below K a W) : Below K a w1 := h0.trans (h.mono (Nat.le_trans ha h0.size))
theorem bw_set {K : Nat} {a w : World} (h0 : Below K a w) {p : Addr} (hp : K ≤ p.block) (x : Value) : Below K a (w.setCell p x) := h0.setCell hp x
theorem bw_drew {K : Nat} {a w : World} (h0 : Below K a w) : Below K a w.drew := h0.drew
/-- The blocks from B up to the old size are as they were. -/
def Mid (B : Nat) (a w : World) : Prop := a.heap.size ≤ w.heap.size ∧ ∀ p : Addr, B ≤ p.block → p.block < a.heap.size → w.cell? p = a.cell? p
theorem Mid.refl (B : Nat) (a : World) : Mid B a a := ⟨Nat.le_refl _, fun _ _ _ => rfl⟩
theorem mid_call {B : Nat} {a W w1 : World} (h : Below W.heap.size W w1) (h0 : Mid B a W) : Mid B a w1 :=
  ⟨Nat.le_trans h0.1 h.size, fun p h1 h2 => (h.cell (p := p) (Nat.lt_of_lt_of_le h2 h0.1)).trans (h0.2 p h1 h2)⟩
theorem mid_drew {B : Nat} {a w : World} (h0 : Mid B a w) : Mid B a w.drew := ⟨h0.1, h0.2⟩
theorem mid_set {B : Nat} {a w : World} (h0 : Mid B a w) {p : Addr} (hp : p.block < B) (x : Value) : Mid B a (w.setCell p x) :=
  ⟨by simpa using h0.1, fun q h1 h2 => by rw [World.cell?_setCell_other w p q x (fun e => by subst e; omega)]; exact h0.2 q h1 h2⟩
theorem lim_mid {B : Nat} {a w : World} {v : Value} {ls : List Nat} (h : Lim a v ls) (hf : Fresh B v) (hm : Mid B a w) : Lim w v ls := by
  obtain ⟨⟨A, c, rfl, h1, h2, hs⟩, hall⟩ := h
  refine ⟨⟨A, c, rfl, h1, h2, hs.1, fun hn => ?_⟩, hall⟩
  obtain ⟨bb, o, e, hc⟩ := hs.2 hn
  refine ⟨bb, o, e, fun j u hu => ?_⟩
  have hlt := hs.lt hn e
  have hB : B ≤ bb := by
    subst e
    exact hf
  rw [hm.2 _ hB hlt]
  exact hc j u hu

set_option maxHeartbeats 16000000 in
theorem idivmod_nn (v u : Value) (la lb : List Nat) (w : World) (ha : Lim w v la) (hb : Lim w u lb) (h1 : la.length ≤ 70368744177600) (h2 : lb.length ≤ 70368744177600) (h0 : 0 < val lb) :
    Calls Tryd.prog 57 #[.agg #[.bool false, v], .agg #[.bool false, u]] w fun e w' => ∃ x nb Ar kr cr, e = .returned (.tuple #[x, .agg #[.bool nb, .slice Ar kr cr], .bool true]) ∧ IntF w.heap.size w' x ((val la / val lb : Nat) : Int) la.length ∧ Below w.heap.size w w' := by
  have HD := Lib.hid (fun (W : World) (h : Below w.heap.size w W) => divmod_all v u la lb W (ha.below h) (hb.below h) h1 h2 h0)
  obtain ⟨⟨A, cA, rfl, _, _, _⟩, _⟩ := ha
  obtain ⟨⟨B, cB, rfl, _, _, _⟩, _⟩ := hb
  obtain ⟨n, hn⟩ : ∃ n, la.length = n := ⟨_, rfl⟩
  obtain ⟨m, hm⟩ : ∃ n, lb.length = n := ⟨_, rfl⟩
  rw [hn] at HD h1 ⊢
  rw [hm] at HD h2 ⊢
  clear hn hm
  obtain ⟨W0, hW0⟩ : ∃ W0 : World, W0 = (((w.alloc (.cells #[.bool false, .slice A n cA] 29)).alloc (.cells #[.bool false, .slice B m cB] 29)).alloc (.cells #[.bool false, .slice none 0 0] 29)).alloc (.cells #[.bool false, .slice none 0 0] 29) := ⟨_, rfl⟩
  have r0 : Row W0 w.heap.size 29 [.bool false, .slice A n cA] := by
    rw [hW0]
    have := Row.alloc (Row.alloc (Row.alloc (Row.new w 29 [.bool false, .slice A n cA]) (.cells #[.bool false, .slice B m cB] 29)) (.cells #[.bool false, .slice none 0 0] 29)) (.cells #[.bool false, .slice none 0 0] 29)
    simpa using this
  have r1 : Row W0 (w.heap.size + 1) 29 [.bool false, .slice B m cB] := by
    rw [hW0]
    have := Row.alloc (Row.alloc (Row.new (w.alloc (.cells #[.bool false, .slice A n cA] 29)) 29 [.bool false, .slice B m cB]) (.cells #[.bool false, .slice none 0 0] 29)) (.cells #[.bool false, .slice none 0 0] 29)
    simpa using this
  have r2 : Row W0 (w.heap.size + 2) 29 [.bool false, .slice none 0 0] := by
    rw [hW0]
    have := Row.alloc (Row.new ((w.alloc (.cells #[.bool false, .slice A n cA] 29)).alloc (.cells #[.bool false, .slice B m cB] 29)) 29 [.bool false, .slice none 0 0]) (.cells #[.bool false, .slice none 0 0] 29)
    simpa using this
  have r3 : Row W0 (w.heap.size + 3) 29 [.bool false, .slice none 0 0] := by
    rw [hW0]
    have := Row.new (((w.alloc (.cells #[.bool false, .slice A n cA] 29)).alloc (.cells #[.bool false, .slice B m cB] 29)).alloc (.cells #[.bool false, .slice none 0 0] 29)) 29 [.bool false, .slice none 0 0]
    simpa using this
  have B0 : Below w.heap.size w W0 := by rw [hW0]; exact (((((Below.refl _ _).alloc (Nat.le_refl _) _).alloc (by simp) _).alloc (by simp; omega) _).alloc (by simp; omega) _)
  go_enter Tryd.func57, Tryd.ntmps57
  go_wp2_with fail
  rw [← hW0]
  clear hW0
  have BB := B0
  have hr2 := r0
  have hr3 := r1
  have hr4 : Row W0 (w.heap.size + 1 + 1) 29 [.bool false, .slice none 0 0] := r2
  have hr5 : Row W0 (w.heap.size + 1 + 1 + 1) 29 [.bool false, .slice none 0 0] := r3
  clear B0 r0 r1 r2 r3
  have c20 : W0.cell? ⟨w.heap.size, 0, none⟩ = some (.bool false) := hr2.cell 0
  have c21 : W0.cell? ⟨w.heap.size, 1, none⟩ = some (.slice A n cA) := hr2.cell 1
  have c30 : W0.cell? ⟨w.heap.size + 1, 0, none⟩ = some (.bool false) := hr3.cell 0
  have c31 : W0.cell? ⟨w.heap.size + 1, 1, none⟩ = some (.slice B m cB) := hr3.cell 1
  have c40 : W0.cell? ⟨w.heap.size + 1 + 1, 0, none⟩ = some (.bool false) := hr4.cell 0
  have c41 : W0.cell? ⟨w.heap.size + 1 + 1, 1, none⟩ = some (.slice none 0 0) := hr4.cell 1
  have c50 : W0.cell? ⟨w.heap.size + 1 + 1 + 1, 0, none⟩ = some (.bool false) := hr5.cell 0
  have c51 : W0.cell? ⟨w.heap.size + 1 + 1 + 1, 1, none⟩ = some (.slice none 0 0) := hr5.cell 1
  have z2 := hr2.lt
  have z3 := hr3.lt
  have z4 := hr4.lt
  have z5 := hr5.lt
  go_wp2_with fail
  clear c20 c21 c30 c31 c40 c41 c50 c51 z2 z3 z4 z5
  refine (HD.out _ BB).mono ?_
  have zB := hr5.lt
  rintro e x1 ⟨q, r, rfl, ⟨hq, hfq⟩, ⟨hr, hfr⟩, hb⟩
  replace hr2 := hr2.keep hb
  replace hr3 := hr3.keep hb
  replace hr4 := hr4.keep hb
  replace hr5 := hr5.keep hb
  replace BB : Below w.heap.size w x1 := BB.trans (hb.mono BB.size)
  clear hb
  obtain ⟨lq, hlq, _, hvq, hkq⟩ := hq
  obtain ⟨lr, hlr, _, hvr, hkr⟩ := hr
  obtain ⟨⟨QA, qc, rfl, _, _, _⟩, _⟩ := id hlq
  obtain ⟨⟨RA, rc, rfl, _, _, _⟩, _⟩ := id hlr
  have c20 : x1.cell? ⟨w.heap.size, 0, none⟩ = some (.bool false) := hr2.cell 0
  have c21 : x1.cell? ⟨w.heap.size, 1, none⟩ = some (.slice A n cA) := hr2.cell 1
  have c30 : x1.cell? ⟨w.heap.size + 1, 0, none⟩ = some (.bool false) := hr3.cell 0
  have c31 : x1.cell? ⟨w.heap.size + 1, 1, none⟩ = some (.slice B m cB) := hr3.cell 1
  have c40 : x1.cell? ⟨w.heap.size + 1 + 1, 0, none⟩ = some (.bool false) := hr4.cell 0
  have c41 : x1.cell? ⟨w.heap.size + 1 + 1, 1, none⟩ = some (.slice none 0 0) := hr4.cell 1
  have c50 : x1.cell? ⟨w.heap.size + 1 + 1 + 1, 0, none⟩ = some (.bool false) := hr5.cell 0
  have c51 : x1.cell? ⟨w.heap.size + 1 + 1 + 1, 1, none⟩ = some (.slice none 0 0) := hr5.cell 1
  have f40 : x1.frozen? ⟨w.heap.size + 1 + 1, 0, none⟩ = false := hr4.frozen 0
  have f41 : x1.frozen? ⟨w.heap.size + 1 + 1, 1, none⟩ = false := hr4.frozen 1
  have f50 : x1.frozen? ⟨w.heap.size + 1 + 1 + 1, 0, none⟩ = false := hr5.frozen 0
  have f51 : x1.frozen? ⟨w.heap.size + 1 + 1 + 1, 1, none⟩ = false := hr5.frozen 1
  have z2 := hr2.lt
  have z3 := hr3.lt
  have z4 := hr4.lt
  have z5 := hr5.lt
  have HK : w.heap.size + 1 + 1 ≤ x1.heap.size := by omega
  have hkq2 : lq.length ≤ 70368744177650 := by omega
  have hkr2 : lr.length ≤ 70368744177650 := by omega
  go_wp2_with fail
  go_region_held3 (fun w' => w'.cell? ⟨w.heap.size, 0, none⟩ = some (.bool false) ∧ w'.cell? ⟨w.heap.size + 1, 0, none⟩ = some (.bool false))
    ((refine keep2w (K := w.heap.size + 1 + 1) (by show w.heap.size < w.heap.size + 1 + 1; omega) (by show w.heap.size + 1 < w.heap.size + 1 + 1; omega) c20 c30 ?_; (repeat (first | with_reducible exact Below.refl _ _ | with_reducible refine bw_call HK h6 ?_ | with_reducible refine bw_call HK h5 ?_ | ((with_reducible refine bw_set ?_ ?_ _); rotate_left; (first | (show w.heap.size + 1 + 1 ≤ w.heap.size + 1 + 1; omega) | (show w.heap.size + 1 + 1 ≤ w.heap.size + 1 + 1 + 1; omega))) | with_reducible refine bw_drew ?_)); done))
    (first
      | (go_at_call 49; ((with_reducible refine (imake_any false (.slice QA lq.length qc) lq _ (lim_mid hlq hfq ?_) hkq2).mono ?_); (repeat (first | with_reducible exact Mid.refl _ _ | with_reducible refine mid_call h6 ?_ | with_reducible refine mid_call h5 ?_ | ((with_reducible refine mid_set ?_ ?_ _); rotate_left; (first | (show w.heap.size + 1 + 1 < W0.heap.size; omega) | (show w.heap.size + 1 + 1 + 1 < W0.heap.size; omega))) | with_reducible refine mid_drew ?_)); rintro e w5 ⟨v5, rfl, hv5, h5⟩; have gz5 : x1.heap.size ≤ w5.heap.size := (show Below (w.heap.size + 1 + 1) x1 w5 from (by first | exact bw_call HK h5 (by (repeat (first | with_reducible exact Below.refl _ _ | with_reducible refine bw_call HK h6 ?_ | with_reducible refine bw_call HK h5 ?_ | ((with_reducible refine bw_set ?_ ?_ _); rotate_left; (first | (show w.heap.size + 1 + 1 ≤ w.heap.size + 1 + 1; omega) | (show w.heap.size + 1 + 1 ≤ w.heap.size + 1 + 1 + 1; omega))) | with_reducible refine bw_drew ?_))))).size; obtain ⟨m5, e5, hn5, hf5⟩ := id hv5; subst e5; obtain ⟨A5, k5, c5, rfl⟩ := hn5.lim1.choose_spec.1.show_; have k450 := h5.cell (p := ⟨w.heap.size + 1 + 1, 0, none⟩) (by first | assumption | (simp; omega)); have k451 := h5.cell (p := ⟨w.heap.size + 1 + 1, 1, none⟩) (by first | assumption | (simp; omega)); have k550 := h5.cell (p := ⟨w.heap.size + 1 + 1 + 1, 0, none⟩) (by first | assumption | (simp; omega)); have k551 := h5.cell (p := ⟨w.heap.size + 1 + 1 + 1, 1, none⟩) (by first | assumption | (simp; omega)); have n450 := h5.frozen (p := ⟨w.heap.size + 1 + 1, 0, none⟩) (by first | assumption | (simp; omega)); have n451 := h5.frozen (p := ⟨w.heap.size + 1 + 1, 1, none⟩) (by first | assumption | (simp; omega)); have n550 := h5.frozen (p := ⟨w.heap.size + 1 + 1 + 1, 0, none⟩) (by first | assumption | (simp; omega)); have n551 := h5.frozen (p := ⟨w.heap.size + 1 + 1 + 1, 1, none⟩) (by first | assumption | (simp; omega))))
      | (go_at_call 49; ((with_reducible refine (imake_any false (.slice RA lr.length rc) lr _ (lim_mid hlr hfr ?_) hkr2).mono ?_); (repeat (first | with_reducible exact Mid.refl _ _ | with_reducible refine mid_call h6 ?_ | with_reducible refine mid_call h5 ?_ | ((with_reducible refine mid_set ?_ ?_ _); rotate_left; (first | (show w.heap.size + 1 + 1 < W0.heap.size; omega) | (show w.heap.size + 1 + 1 + 1 < W0.heap.size; omega))) | with_reducible refine mid_drew ?_)); rintro e w6 ⟨v6, rfl, hv6, h6⟩; have gz6 : x1.heap.size ≤ w6.heap.size := (show Below (w.heap.size + 1 + 1) x1 w6 from (by first | exact bw_call HK h6 (by (repeat (first | with_reducible exact Below.refl _ _ | with_reducible refine bw_call HK h6 ?_ | with_reducible refine bw_call HK h5 ?_ | ((with_reducible refine bw_set ?_ ?_ _); rotate_left; (first | (show w.heap.size + 1 + 1 ≤ w.heap.size + 1 + 1; omega) | (show w.heap.size + 1 + 1 ≤ w.heap.size + 1 + 1 + 1; omega))) | with_reducible refine bw_drew ?_))))).size; obtain ⟨m6, e6, hn6, hf6⟩ := id hv6; subst e6; obtain ⟨A6, k6, c6, rfl⟩ := hn6.lim1.choose_spec.1.show_; have k460 := h6.cell (p := ⟨w.heap.size + 1 + 1, 0, none⟩) (by first | assumption | (simp; omega)); have k461 := h6.cell (p := ⟨w.heap.size + 1 + 1, 1, none⟩) (by first | assumption | (simp; omega)); have k560 := h6.cell (p := ⟨w.heap.size + 1 + 1 + 1, 0, none⟩) (by first | assumption | (simp; omega)); have k561 := h6.cell (p := ⟨w.heap.size + 1 + 1 + 1, 1, none⟩) (by first | assumption | (simp; omega)); have n460 := h6.frozen (p := ⟨w.heap.size + 1 + 1, 0, none⟩) (by first | assumption | (simp; omega)); have n461 := h6.frozen (p := ⟨w.heap.size + 1 + 1, 1, none⟩) (by first | assumption | (simp; omega)); have n560 := h6.frozen (p := ⟨w.heap.size + 1 + 1 + 1, 0, none⟩) (by first | assumption | (simp; omega)); have n561 := h6.frozen (p := ⟨w.heap.size + 1 + 1 + 1, 1, none⟩) (by first | assumption | (simp; omega)))))
  go_wp2_with fail
  have d40 := (k460.trans k450).trans c40
  have d41 := (k461.trans k451).trans c41
  have d50 := (k560.trans k550).trans c50
  have d51 := (k561.trans k551).trans c51
  rw [hvq] at hv5
  refine bodyPost_ret (v := .tuple #[.agg #[.bool (decide (sg false (val la / val lb) < 0)), .slice A5 k5 c5], .agg #[.bool (decide (sg false (val la % val lb) < 0)), .slice A6 k6 c6], .bool true]) (by simp [results, Tryd.results57, go_sem, d40, d41, d50, d51]) rfl ⟨_, _, _, _, _, rfl, ?_, ?_⟩
  · have hs : sg false (val la / val lb) = ((val la / val lb : Nat) : Int) := by unfold sg; simp
    have h9 := ((((hv5.below h6).set_ (q := ⟨w.heap.size + 1 + 1, 0, none⟩) z4 (.bool (decide (sg false (val la / val lb) < 0)))).set_ (q := ⟨w.heap.size + 1 + 1, 1, none⟩) z4 (.slice A5 k5 c5)).set_ (q := ⟨w.heap.size + 1 + 1 + 1, 0, none⟩) z5 (.bool (decide (sg false (val la % val lb) < 0)))).set_ (q := ⟨w.heap.size + 1 + 1 + 1, 1, none⟩) z5 (.slice A6 k6 c6)
    rw [hs] at h9 ⊢
    obtain ⟨mv, e1, e2, e3⟩ := h9
    exact ⟨mv, e1, e2.mono hkq, e3.mono (by show w.heap.size ≤ x1.heap.size; omega)⟩
  · exact (((((BB.trans (Below.mono (bl_call h6 (bl_call h5 (bl_drew (Below.refl _ _)))) BB.size)).setCell (p := ⟨w.heap.size + 1 + 1, 0, none⟩) (by show w.heap.size ≤ w.heap.size + 1 + 1; omega) _).setCell (p := ⟨w.heap.size + 1 + 1, 1, none⟩) (by show w.heap.size ≤ w.heap.size + 1 + 1; omega) _).setCell (p := ⟨w.heap.size + 1 + 1 + 1, 0, none⟩) (by show w.heap.size ≤ w.heap.size + 1 + 1 + 1; omega) _).setCell (p := ⟨w.heap.size + 1 + 1 + 1, 1, none⟩) (by show w.heap.size ≤ w.heap.size + 1 + 1 + 1; omega) _)

end Go.Proofs.YtompckomogmhiaaDoor
namespace Go.Proofs.YtompckomogmhiaaDoor
open Go.RowKit
set_option linter.unusedVariables false
set_option maxRecDepth 100000

theorem lt_one (w : World) (o : Obj) : w.heap.size < (w.alloc o).heap.size := by simp
theorem lt_two (w : World) (o o' : Obj) : w.heap.size < ((w.alloc o).alloc o').heap.size := by simp; omega
theorem lt_two' (w : World) (o o' : Obj) : w.heap.size + 1 < ((w.alloc o).alloc o').heap.size := by simp
theorem Row.put2 {w : World} {g t : Nat} {a b : Value} (h : Row w g t [a, b]) (x y : Value) : Row ((w.setCell ⟨g, 0, none⟩ x).setCell ⟨g, 1, none⟩ y) g t [x, y] := (h.set_ 0 x).set_ 1 y
set_option maxHeartbeats 16000000 in
theorem floor_pos (v : Value) (p : Int) (q L : Nat) (w : World) (h : RatA w v p q L) (hp : 0 < p) (hL : 2 ≤ L) (hM : L ≤ 70368744177600) :
    Calls Tryd.prog 43 #[v] w fun e w' => ∃ x, e = .returned x ∧ IntF w.heap.size w' x ((p.toNat / q : Nat) : Int) L ∧ Below w.heap.size w w' := by
  have h0 := h
  have hq1 := h.pos
  obtain ⟨ng, A, n, c, B, m, d, rfl⟩ := h.show_
  clear h
  obtain ⟨W0, hW0⟩ : ∃ W0 : World, W0 = (w.alloc (.cells #[.bool ng, .slice A n c, .slice B m d] 31)).alloc (.cells #[.bool false, .slice none 0 0] 29) := ⟨_, rfl⟩
  have r0 : Row W0 w.heap.size 31 [.bool ng, .slice A n c, .slice B m d] := by
    rw [hW0]
    have := Row.alloc (Row.new w 31 [.bool ng, .slice A n c, .slice B m d]) (.cells #[.bool false, .slice none 0 0] 29)
    simpa using this
  have r1 : Row W0 (w.heap.size + 1) 29 [.bool false, .slice none 0 0] := by
    rw [hW0]
    have := Row.new (w.alloc (.cells #[.bool ng, .slice A n c, .slice B m d] 31)) 29 [.bool false, .slice none 0 0]
    simpa using this
  have B0 : Below w.heap.size w W0 := by rw [hW0]; exact (((Below.refl _ _).alloc (Nat.le_refl _) _).alloc (by simp) _)
  go_enter Tryd.func43, Tryd.ntmps43
  go_wp2_with fail
  rw [← hW0]
  clear hW0
  have BB := B0
  have hr1 := r0
  have hr2 := r1
  clear B0 r0 r1
  have c10 : W0.cell? ⟨w.heap.size, 0, none⟩ = some (.bool ng) := hr1.cell 0
  have c11 : W0.cell? ⟨w.heap.size, 1, none⟩ = some (.slice A n c) := hr1.cell 1
  have c12 : W0.cell? ⟨w.heap.size, 2, none⟩ = some (.slice B m d) := hr1.cell 2
  have c20 : W0.cell? ⟨w.heap.size + 1, 0, none⟩ = some (.bool false) := hr2.cell 0
  have c21 : W0.cell? ⟨w.heap.size + 1, 1, none⟩ = some (.slice none 0 0) := hr2.cell 1
  have z1 := hr1.lt
  have z2 := hr2.lt
  go_wp2_with fail
  clear c10 c11 c12 c20 c21 z1 z2
  refine (parts_any _ p q L _ (h0.below BB) hL).mono ?_
  rintro e x1 ⟨x3, y4, lq, rfl, hX, hY, hvq, hkq, hb⟩
  replace hr1 := hr1.keep hb
  replace hr2 := hr2.keep hb
  replace BB : Below w.heap.size w x1 := BB.trans (hb.mono BB.size)
  clear hb
  obtain ⟨ng3, m3, l3, rfl, hl3, hk3, hpe⟩ := hX
  obtain ⟨⟨A3, c3, rfl, _, _, _⟩, _⟩ := id hl3
  obtain ⟨⟨A4, c4, rfl, _, _, _⟩, _⟩ := id hY
  obtain rfl : ng3 = false := by rcases ng3 with _ | _; rfl; (exfalso; simp [sg] at hpe; omega)
  have hv3 : val l3 = p.toNat := by simp [sg] at hpe; omega
  clear hpe
  obtain ⟨g3, hg3⟩ : ∃ g, x1.heap.size = g := ⟨_, rfl⟩
  have hr3 : Row (x1.alloc (.cells #[.bool false, .slice A3 l3.length c3] 29)) g3 29 [.bool false, .slice A3 l3.length c3] := row_at hg3
  have hl := lit_below x1 (.cells #[.bool false, .slice A3 l3.length c3] 29)
  have o1_3 : w.heap.size < g3 := by have := hr1.lt; omega
  have o2_3 : w.heap.size + 1 < g3 := by have := hr2.lt; omega
  have ob_3 : w.heap.size ≤ g3 := by have := BB.size; omega
  have c10 : x1.cell? ⟨w.heap.size, 0, none⟩ = some (.bool ng) := hr1.cell 0
  have c11 : x1.cell? ⟨w.heap.size, 1, none⟩ = some (.slice A n c) := hr1.cell 1
  have c12 : x1.cell? ⟨w.heap.size, 2, none⟩ = some (.slice B m d) := hr1.cell 2
  have c20 : x1.cell? ⟨w.heap.size + 1, 0, none⟩ = some (.bool false) := hr2.cell 0
  have c21 : x1.cell? ⟨w.heap.size + 1, 1, none⟩ = some (.slice none 0 0) := hr2.cell 1
  have d10 : (x1.alloc (.cells #[.bool false, .slice A3 l3.length c3] 29)).cell? ⟨w.heap.size, 0, none⟩ = some (.bool ng) := (hr1.alloc _).cell 0
  have d11 : (x1.alloc (.cells #[.bool false, .slice A3 l3.length c3] 29)).cell? ⟨w.heap.size, 1, none⟩ = some (.slice A n c) := (hr1.alloc _).cell 1
  have d12 : (x1.alloc (.cells #[.bool false, .slice A3 l3.length c3] 29)).cell? ⟨w.heap.size, 2, none⟩ = some (.slice B m d) := (hr1.alloc _).cell 2
  have d20 : (x1.alloc (.cells #[.bool false, .slice A3 l3.length c3] 29)).cell? ⟨w.heap.size + 1, 0, none⟩ = some (.bool false) := (hr2.alloc _).cell 0
  have d21 : (x1.alloc (.cells #[.bool false, .slice A3 l3.length c3] 29)).cell? ⟨w.heap.size + 1, 1, none⟩ = some (.slice none 0 0) := (hr2.alloc _).cell 1
  have e0 : (x1.alloc (.cells #[.bool false, .slice A3 l3.length c3] 29)).cell? ⟨g3, 0, none⟩ = some (.bool false) := hr3.cell 0
  have e1 : (x1.alloc (.cells #[.bool false, .slice A3 l3.length c3] 29)).cell? ⟨g3, 1, none⟩ = some (.slice A3 l3.length c3) := hr3.cell 1
  go_wp2_with fail
  clear c10 c11 c12 c20 c21 d10 d11 d12 d20 d21 e0 e1
  clear hg3
  generalize (x1.alloc (.cells #[.bool false, .slice A3 l3.length c3] 29)) = x2 at *
  replace hr1 := hr1.keep hl
  replace hr2 := hr2.keep hl
  replace hl3 := hl3.below hl
  replace hY := hY.below hl
  replace BB : Below w.heap.size w x2 := BB.trans (hl.mono BB.size)
  clear hl
  have c10 : x2.cell? ⟨w.heap.size, 0, none⟩ = some (.bool ng) := hr1.cell 0
  have c11 : x2.cell? ⟨w.heap.size, 1, none⟩ = some (.slice A n c) := hr1.cell 1
  have c12 : x2.cell? ⟨w.heap.size, 2, none⟩ = some (.slice B m d) := hr1.cell 2
  have c20 : x2.cell? ⟨w.heap.size + 1, 0, none⟩ = some (.bool false) := hr2.cell 0
  have c21 : x2.cell? ⟨w.heap.size + 1, 1, none⟩ = some (.slice none 0 0) := hr2.cell 1
  have c30 : x2.cell? ⟨g3, 0, none⟩ = some (.bool false) := hr3.cell 0
  have c31 : x2.cell? ⟨g3, 1, none⟩ = some (.slice A3 l3.length c3) := hr3.cell 1
  have f20 : x2.frozen? ⟨w.heap.size + 1, 0, none⟩ = false := hr2.frozen 0
  have f21 : x2.frozen? ⟨w.heap.size + 1, 1, none⟩ = false := hr2.frozen 1
  have z1 := hr1.lt
  have z2 := hr2.lt
  have z3 := hr3.lt
  have hz2 := hr2.lt
  have hq0 : 0 < val lq := by omega
  have hd0 : decide ((val lq : Int) < 0) = false := decide_eq_false (by omega)
  have hl3b : l3.length ≤ 70368744177600 := by omega
  have hqb : lq.length ≤ 70368744177650 := by omega
  have hqb2 : lq.length ≤ 70368744177600 := by omega
  go_wp2_with fail
  go_cut [5] (fun s5 wx => ∃ (g : Nat) (Av : Option Addr) (kv cv : Nat), s5 = .pointer (some ⟨g, 0, none⟩) ∧ x2.heap.size ≤ g ∧ Row wx g 29 [.bool false, .slice Av kv cv] ∧ IntF x2.heap.size wx (.agg #[.bool (decide (((p.toNat / q : Nat) : Int) < 0)), .slice Av kv cv]) ((p.toNat / q : Nat) : Int) L ∧ Below x2.heap.size x2 wx)
  case first =>
    go_region_held3 (fun w' => w'.cell? ⟨g3, 0, none⟩ = some (.bool false) ∧ w'.cell? ⟨g3, 1, none⟩ = some (.slice A3 l3.length c3))
      ((refine keep2c z3 z3 c30 c31 ?_; (repeat (first | with_reducible exact Below.refl _ _ | ((with_reducible refine bl_set ?_ ?_ _); rotate_left; (first | exact Nat.le_refl _ | exact gz5 | exact gz6 | exact Nat.le_succ _ | exact Nat.le_succ_of_le gz5 | exact Nat.le_succ_of_le gz6 | (simp; omega))) | with_reducible refine bl_call h6 ?_ | with_reducible refine bl_call h5 ?_ | with_reducible refine bl_alloc ?_ _ | with_reducible refine bl_drew ?_)); done))
      (first
        | (go_at_call 30; ((with_reducible refine (whole_any (.slice A4 lq.length c4) lq _ (hY.below ?_) hqb).mono ?_); (repeat (first | with_reducible exact Below.refl _ _ | ((with_reducible refine bl_set ?_ ?_ _); rotate_left; (first | exact Nat.le_refl _ | exact gz5 | exact gz6 | exact Nat.le_succ _ | exact Nat.le_succ_of_le gz5 | exact Nat.le_succ_of_le gz6 | (simp; omega))) | with_reducible refine bl_call h6 ?_ | with_reducible refine bl_call h5 ?_ | with_reducible refine bl_alloc ?_ _ | with_reducible refine bl_drew ?_)); rintro e w5 ⟨v5, rfl, hv5, h5⟩; have gz5 : x2.heap.size ≤ w5.heap.size := (bl_call h5 (by (repeat (first | with_reducible exact Below.refl _ _ | ((with_reducible refine bl_set ?_ ?_ _); rotate_left; (first | exact Nat.le_refl _ | exact gz5 | exact gz6 | exact Nat.le_succ _ | exact Nat.le_succ_of_le gz5 | exact Nat.le_succ_of_le gz6 | (simp; omega))) | with_reducible refine bl_call h6 ?_ | with_reducible refine bl_call h5 ?_ | with_reducible refine bl_alloc ?_ _ | with_reducible refine bl_drew ?_))) : Below x2.heap.size x2 w5).size; obtain ⟨m5, e5, hn5, hf5⟩ := id hv5; subst e5; rw [hd0]; obtain ⟨l5, hl5, hv5b, hk5⟩ := hn5.lim1; obtain ⟨⟨A5, c5, rfl, _, _, _⟩, _⟩ := id hl5; have hv5c : 0 < val l5 := (by rw [hv5b]; simpa using hq0); (first | (have RA := (Row.alloc (Row.new x2 29 [.bool false, .slice none 0 0]) (.cells #[.bool false, .slice none 0 0] 29)).keep h5; have RB := (row_at (w := x2.alloc (.cells #[.bool false, .slice none 0 0] 29)) (g := x2.heap.size + 1) (t := 29) (xs := [.bool false, .slice none 0 0]) (by simp)).keep h5) | (have RA := (Row.drew (Row.alloc (Row.new x2 29 [.bool false, .slice none 0 0]) (.cells #[.bool false, .slice none 0 0] 29))).keep h5; have RB := (Row.drew (row_at (w := x2.alloc (.cells #[.bool false, .slice none 0 0] 29)) (g := x2.heap.size + 1) (t := 29) (xs := [.bool false, .slice none 0 0]) (by simp))).keep h5) | (have RA := (Row.new x2 29 [.bool false, .slice none 0 0]).keep h5) | (have RA := (Row.drew (Row.new x2 29 [.bool false, .slice none 0 0])).keep h5) | skip)))
        | (go_at_call 57; ((with_reducible refine (idivmod_nn (.slice A3 l3.length c3) (.slice A5 l5.length c5) l3 l5 _ (hl3.below ?_) (hl5.below ?_) hl3b (Nat.le_trans hk5 hqb2) hv5c).mono ?_); (repeat (first | with_reducible exact Below.refl _ _ | ((with_reducible refine bl_set ?_ ?_ _); rotate_left; (first | exact Nat.le_refl _ | exact gz5 | exact gz6 | exact Nat.le_succ _ | exact Nat.le_succ_of_le gz5 | exact Nat.le_succ_of_le gz6 | (simp; omega))) | with_reducible refine bl_call h6 ?_ | with_reducible refine bl_call h5 ?_ | with_reducible refine bl_alloc ?_ _ | with_reducible refine bl_drew ?_)); (repeat (first | with_reducible exact Below.refl _ _ | ((with_reducible refine bl_set ?_ ?_ _); rotate_left; (first | exact Nat.le_refl _ | exact gz5 | exact gz6 | exact Nat.le_succ _ | exact Nat.le_succ_of_le gz5 | exact Nat.le_succ_of_le gz6 | (simp; omega))) | with_reducible refine bl_call h6 ?_ | with_reducible refine bl_call h5 ?_ | with_reducible refine bl_alloc ?_ _ | with_reducible refine bl_drew ?_)); rintro e w6 ⟨v6, nb6, Ar6, kr6, cr6, rfl, hv6, h6⟩; have gz6 : x2.heap.size ≤ w6.heap.size := (bl_call h6 (by (repeat (first | with_reducible exact Below.refl _ _ | ((with_reducible refine bl_set ?_ ?_ _); rotate_left; (first | exact Nat.le_refl _ | exact gz5 | exact gz6 | exact Nat.le_succ _ | exact Nat.le_succ_of_le gz5 | exact Nat.le_succ_of_le gz6 | (simp; omega))) | with_reducible refine bl_call h6 ?_ | with_reducible refine bl_call h5 ?_ | with_reducible refine bl_alloc ?_ _ | with_reducible refine bl_drew ?_))) : Below x2.heap.size x2 w6).size; obtain ⟨m6, e6, hn6, hf6⟩ := id hv6; subst e6; rw [show (decide (((val l3 / val l5 : Nat) : Int) < 0)) = false from decide_eq_false (Int.not_lt.2 (Int.natCast_nonneg _))]; obtain ⟨A6, k6, c6, rfl⟩ := hn6.lim1.choose_spec.1.show_; (try have jA : x2.heap.size < w5.heap.size := RA.lt); (try have jB : x2.heap.size + 1 < w5.heap.size := RB.lt); (try have LTRAQA := RA.lt); (first | replace RA := RA.keep h6 | replace RA := (RA.alloc _).keep h6 | skip); (first | replace RB := RB.keep h6 | skip); (first | (have QA := (Row.alloc (Row.new w5 29 [.bool false, .slice none 0 0]) (.cells #[.bool false, .slice none 0 0] 29)).keep h6; have QB := (row_at (w := w5.alloc (.cells #[.bool false, .slice none 0 0] 29)) (g := w5.heap.size + 1) (t := 29) (xs := [.bool false, .slice none 0 0]) (by simp)).keep h6) | (have QA := (Row.drew (Row.alloc (Row.new w5 29 [.bool false, .slice none 0 0]) (.cells #[.bool false, .slice none 0 0] 29))).keep h6; have QB := (Row.drew (row_at (w := w5.alloc (.cells #[.bool false, .slice none 0 0] 29)) (g := w5.heap.size + 1) (t := 29) (xs := [.bool false, .slice none 0 0]) (by simp))).keep h6) | (have QA := (Row.new w5 29 [.bool false, .slice none 0 0]).keep h6) | (have QA := (Row.drew (Row.new w5 29 [.bool false, .slice none 0 0])).keep h6) | skip); (try have LTRARB : x2.heap.size < x2.heap.size + 1 := Nat.lt_succ_self _); (try have LTQAQB : w5.heap.size < w5.heap.size + 1 := Nat.lt_succ_self _); (try (have NEQARA := Nat.ne_of_lt LTRAQA; have NERAQA := (Nat.ne_of_lt LTRAQA).symm; (try (have yQARA := (QA.far (p := ⟨x2.heap.size, 0, none⟩) (NERAQA) (.bool false)).far (p := ⟨x2.heap.size, 1, none⟩) (NERAQA) (.slice A6 k6 c6); have uQARA0 := yQARA.cell 0; have uQARA1 := yQARA.cell 1; have xQARA0 := yQARA.frozen 0; have xQARA1 := yQARA.frozen 1; simp only [List.getElem?_cons_zero, List.getElem?_cons_succ] at uQARA0 uQARA1)); (try (have yRAQA := (RA.far (p := ⟨w5.heap.size, 0, none⟩) (NEQARA) (.bool false)).far (p := ⟨w5.heap.size, 1, none⟩) (NEQARA) (.slice A6 k6 c6); have uRAQA0 := yRAQA.cell 0; have uRAQA1 := yRAQA.cell 1; have xRAQA0 := yRAQA.frozen 0; have xRAQA1 := yRAQA.frozen 1; simp only [List.getElem?_cons_zero, List.getElem?_cons_succ] at uRAQA0 uRAQA1)); clear NEQARA NERAQA)); (try (have NERBRA := Nat.ne_of_lt LTRARB; have NERARB := (Nat.ne_of_lt LTRARB).symm; (try (have yRBRA := (RB.far (p := ⟨x2.heap.size, 0, none⟩) (NERARB) (.bool false)).far (p := ⟨x2.heap.size, 1, none⟩) (NERARB) (.slice A6 k6 c6); have uRBRA0 := yRBRA.cell 0; have uRBRA1 := yRBRA.cell 1; have xRBRA0 := yRBRA.frozen 0; have xRBRA1 := yRBRA.frozen 1; simp only [List.getElem?_cons_zero, List.getElem?_cons_succ] at uRBRA0 uRBRA1)); (try (have yRARB := (RA.far (p := ⟨x2.heap.size + 1, 0, none⟩) (NERBRA) (.bool false)).far (p := ⟨x2.heap.size + 1, 1, none⟩) (NERBRA) (.slice A6 k6 c6); have uRARB0 := yRARB.cell 0; have uRARB1 := yRARB.cell 1; have xRARB0 := yRARB.frozen 0; have xRARB1 := yRARB.frozen 1; simp only [List.getElem?_cons_zero, List.getElem?_cons_succ] at uRARB0 uRARB1)); clear NERBRA NERARB)); (try (have NEQBQA := Nat.ne_of_lt LTQAQB; have NEQAQB := (Nat.ne_of_lt LTQAQB).symm; (try (have yQBQA := (QB.far (p := ⟨w5.heap.size, 0, none⟩) (NEQAQB) (.bool false)).far (p := ⟨w5.heap.size, 1, none⟩) (NEQAQB) (.slice A6 k6 c6); have uQBQA0 := yQBQA.cell 0; have uQBQA1 := yQBQA.cell 1; have xQBQA0 := yQBQA.frozen 0; have xQBQA1 := yQBQA.frozen 1; simp only [List.getElem?_cons_zero, List.getElem?_cons_succ] at uQBQA0 uQBQA1)); (try (have yQAQB := (QA.far (p := ⟨w5.heap.size + 1, 0, none⟩) (NEQBQA) (.bool false)).far (p := ⟨w5.heap.size + 1, 1, none⟩) (NEQBQA) (.slice A6 k6 c6); have uQAQB0 := yQAQB.cell 0; have uQAQB1 := yQAQB.cell 1; have xQAQB0 := yQAQB.frozen 0; have xQAQB1 := yQAQB.frozen 1; simp only [List.getElem?_cons_zero, List.getElem?_cons_succ] at uQAQB0 uQAQB1)); clear NEQBQA NEQAQB)); (try clear LTRAQA); (try clear LTRARB); (try clear LTQAQB); (try (have cRA0 := RA.cell 0; have cRA1 := RA.cell 1; have fRA0 := RA.frozen 0; have fRA1 := RA.frozen 1; have zRA := RA.lt; simp only [List.getElem?_cons_zero, List.getElem?_cons_succ] at cRA0 cRA1)); (try (have cRB0 := RB.cell 0; have cRB1 := RB.cell 1; have fRB0 := RB.frozen 0; have fRB1 := RB.frozen 1; have zRB := RB.lt; simp only [List.getElem?_cons_zero, List.getElem?_cons_succ] at cRB0 cRB1)); (try (have cQA0 := QA.cell 0; have cQA1 := QA.cell 1; have fQA0 := QA.frozen 0; have fQA1 := QA.frozen 1; have zQA := QA.lt; simp only [List.getElem?_cons_zero, List.getElem?_cons_succ] at cQA0 cQA1)); (try (have cQB0 := QB.cell 0; have cQB1 := QB.cell 1; have fQB0 := QB.frozen 0; have fQB1 := QB.frozen 1; have zQB := QB.lt; simp only [List.getElem?_cons_zero, List.getElem?_cons_succ] at cQB0 cQB1)))))
    all_goals go_wp2_with fail
    all_goals go_meet
    all_goals go_light
    all_goals
      have he : val l3 / val l5 = p.toNat / q := by rw [hv3, hv5b, hvq]; simp
      rw [he] at hv6
      refine ⟨_, A6, k6, c6, rfl, ?_, ?_, ?_, ?_⟩
      · (first | exact Nat.le_refl _ | exact gz5 | exact gz6 | exact Nat.le_succ _ | exact Nat.le_succ_of_le gz5 | exact Nat.le_succ_of_le gz6)
      · (first | (with_reducible exact Row.new _ _ _) | (with_reducible exact (Row.new _ _ _).alloc _) | ((with_reducible refine row_at ?_); simp) | (with_reducible exact (RA.put2 _ _).alloc _) | (with_reducible exact (RB.put2 _ _).alloc _) | (with_reducible exact (QA.put2 _ _).alloc _) | (with_reducible exact (QB.put2 _ _).alloc _) | ((with_reducible refine ((RA.put2 _ _).far ?_ _).far ?_ _); ((try dsimp only); with_reducible first | exact Nat.ne_of_lt jA | exact (Nat.ne_of_lt jA).symm | exact Nat.ne_of_lt (Nat.lt_succ_self _) | exact (Nat.ne_of_lt (Nat.lt_succ_self _)).symm); ((try dsimp only); with_reducible first | exact Nat.ne_of_lt jA | exact (Nat.ne_of_lt jA).symm | exact Nat.ne_of_lt (Nat.lt_succ_self _) | exact (Nat.ne_of_lt (Nat.lt_succ_self _)).symm)) | ((with_reducible refine ((RB.put2 _ _).far ?_ _).far ?_ _); ((try dsimp only); with_reducible first | exact Nat.ne_of_lt jA | exact (Nat.ne_of_lt jA).symm | exact Nat.ne_of_lt (Nat.lt_succ_self _) | exact (Nat.ne_of_lt (Nat.lt_succ_self _)).symm); ((try dsimp only); with_reducible first | exact Nat.ne_of_lt jA | exact (Nat.ne_of_lt jA).symm | exact Nat.ne_of_lt (Nat.lt_succ_self _) | exact (Nat.ne_of_lt (Nat.lt_succ_self _)).symm)) | ((with_reducible refine ((QA.put2 _ _).far ?_ _).far ?_ _); ((try dsimp only); with_reducible first | exact Nat.ne_of_lt jA | exact (Nat.ne_of_lt jA).symm | exact Nat.ne_of_lt (Nat.lt_succ_self _) | exact (Nat.ne_of_lt (Nat.lt_succ_self _)).symm); ((try dsimp only); with_reducible first | exact Nat.ne_of_lt jA | exact (Nat.ne_of_lt jA).symm | exact Nat.ne_of_lt (Nat.lt_succ_self _) | exact (Nat.ne_of_lt (Nat.lt_succ_self _)).symm)) | ((with_reducible refine ((QB.put2 _ _).far ?_ _).far ?_ _); ((try dsimp only); with_reducible first | exact Nat.ne_of_lt jA | exact (Nat.ne_of_lt jA).symm | exact Nat.ne_of_lt (Nat.lt_succ_self _) | exact (Nat.ne_of_lt (Nat.lt_succ_self _)).symm); ((try dsimp only); with_reducible first | exact Nat.ne_of_lt jA | exact (Nat.ne_of_lt jA).symm | exact Nat.ne_of_lt (Nat.lt_succ_self _) | exact (Nat.ne_of_lt (Nat.lt_succ_self _)).symm)))
      · (first | ((with_reducible refine (((hv6.below (lit_below _ _)).below (lit_below _ _)).base ?_).mono hk3); ((try dsimp only); with_reducible first | exact gz5 | exact Nat.le_trans gz5 (Nat.le_of_lt (lt_one _ _)) | exact Nat.le_trans gz5 (Nat.le_of_lt (lt_two _ _ _)))) | ((with_reducible refine ((((hv6.set_ ?_ _).set_ ?_ _).below (lit_below _ _)).base ?_).mono hk3); ((try dsimp only); with_reducible first | exact jA | exact jB | exact lt_one _ _ | exact lt_two _ _ _ | exact lt_two' _ _ _ | exact Nat.lt_trans jA (lt_one _ _) | exact Nat.lt_trans jA (lt_two _ _ _)); ((try dsimp only); with_reducible first | exact jA | exact jB | exact lt_one _ _ | exact lt_two _ _ _ | exact lt_two' _ _ _ | exact Nat.lt_trans jA (lt_one _ _) | exact Nat.lt_trans jA (lt_two _ _ _)); ((try dsimp only); with_reducible first | exact gz5 | exact Nat.le_trans gz5 (Nat.le_of_lt (lt_one _ _)) | exact Nat.le_trans gz5 (Nat.le_of_lt (lt_two _ _ _)))) | ((with_reducible refine (((((hv6.set_ ?_ _).set_ ?_ _).set_ ?_ _).set_ ?_ _).base ?_).mono hk3); ((try dsimp only); with_reducible first | exact jA | exact jB | exact lt_one _ _ | exact lt_two _ _ _ | exact lt_two' _ _ _ | exact Nat.lt_trans jA (lt_one _ _) | exact Nat.lt_trans jA (lt_two _ _ _)); ((try dsimp only); with_reducible first | exact jA | exact jB | exact lt_one _ _ | exact lt_two _ _ _ | exact lt_two' _ _ _ | exact Nat.lt_trans jA (lt_one _ _) | exact Nat.lt_trans jA (lt_two _ _ _)); ((try dsimp only); with_reducible first | exact jA | exact jB | exact lt_one _ _ | exact lt_two _ _ _ | exact lt_two' _ _ _ | exact Nat.lt_trans jA (lt_one _ _) | exact Nat.lt_trans jA (lt_two _ _ _)); ((try dsimp only); with_reducible first | exact jA | exact jB | exact lt_one _ _ | exact lt_two _ _ _ | exact lt_two' _ _ _ | exact Nat.lt_trans jA (lt_one _ _) | exact Nat.lt_trans jA (lt_two _ _ _)); ((try dsimp only); with_reducible first | exact gz5 | exact Nat.le_trans gz5 (Nat.le_of_lt (lt_one _ _)) | exact Nat.le_trans gz5 (Nat.le_of_lt (lt_two _ _ _)))))
      · (repeat (first | with_reducible exact Below.refl _ _ | ((with_reducible refine bl_set ?_ ?_ _); rotate_left; (first | exact Nat.le_refl _ | exact gz5 | exact gz6 | exact Nat.le_succ _ | exact Nat.le_succ_of_le gz5 | exact Nat.le_succ_of_le gz6 | (simp; omega))) | with_reducible refine bl_call h6 ?_ | with_reducible refine bl_call h5 ?_ | with_reducible refine bl_alloc ?_ _ | with_reducible refine bl_drew ?_))
  case rest =>
  obtain ⟨g, Av, kv, cv, rfl, hg, hrg, hvg, hbc⟩ := hcut
  obtain ⟨x5, hx5⟩ : ∃ x, x = wc := ⟨_, rfl⟩
  rw [← hx5] at hrg hvg hbc ⊢
  clear hx5
  clear c10 c11 c12 c20 c21 c30 c31 f20 f21 z1 z2 z3
  replace hr2 := hr2.keep hbc
  replace BB : Below w.heap.size w x5 := BB.trans (hbc.mono BB.size)
  have z2 := hr2.lt
  have zg := hrg.lt
  have z4 : w.heap.size + 1 < x2.heap.size := hz2
  have z5 : w.heap.size + 1 < g := Nat.lt_of_lt_of_le z4 hg
  have c20 : x5.cell? ⟨w.heap.size + 1, 0, none⟩ = some (.bool false) := hr2.cell 0
  have c21 : x5.cell? ⟨w.heap.size + 1, 1, none⟩ = some (.slice none 0 0) := hr2.cell 1
  have f20 : x5.frozen? ⟨w.heap.size + 1, 0, none⟩ = false := hr2.frozen 0
  have f21 : x5.frozen? ⟨w.heap.size + 1, 1, none⟩ = false := hr2.frozen 1
  have e0 : x5.cell? ⟨g, 0, none⟩ = some (.bool false) := hrg.cell 0
  have e1 : x5.cell? ⟨g, 1, none⟩ = some (.slice Av kv cv) := hrg.cell 1
  have hd1 : decide (((p.toNat / q : Nat) : Int) < 0) = false := decide_eq_false (Int.not_lt.2 (Int.natCast_nonneg _))
  rw [hd1] at hvg
  clear hd1 hr1
  go_wp2_with fail
  refine bodyPost_ret (v := .agg #[.bool false, .slice Av kv cv]) (by simp [results, Tryd.results43, go_sem, c20, c21]) rfl ⟨_, rfl, ?_, (BB.setCell (by simp) _).setCell (by simp) _⟩
  exact ((hvg.set_ (q := ⟨w.heap.size + 1, 0, none⟩) z4 _).set_ (q := ⟨w.heap.size + 1, 1, none⟩) z4 _).base (by omega)
end Go.Proofs.YtompckomogmhiaaDoor
namespace Go.Proofs.YtompckomogmhiaaDoor
open Go.RowKit
set_option linter.unusedVariables false
set_option maxRecDepth 100000

theorem NatAt.one {w : World} {v : Value} {n L : Nat} (h : NatAt w v n L) (h0 : 0 < n) (h1 : n < 4294967296) : Lim w v [n] := by
  obtain ⟨ls, hl, nt, hv, _⟩ := h
  have := norm_inj hl.2 (AllB.cons h1 AllB.nil) nt (noTop_snoc [] h0) (by rw [hv]; simp [val])
  rw [← this]; exact hl
set_option maxHeartbeats 16000000 in
theorem units_ok (pv rv mv : Value) (ps rs : List Int) (m : List (List Int)) (q Z : Nat) (P p1 : Int) (Q q1 n : Nat) (w : World) (hp : Nums .i64 w pv ps) (hr : Nums .i64 w rv rs) (hm : IntsL w mv m) (hZ : IsLam Z) (hE : itemE ps rs m (q : Int) = 0)
    (hP : redP (inF Z m ps.length q) (ifD Z ps q) = P) (hQ : redQ (inF Z m ps.length q) (ifD Z ps q) = Q) (hQ0 : 0 < Q) (hp1' : redP (P * 100000000) (Q * 1) = p1) (hq1' : redQ (P * 100000000) (Q * 1) = q1) (hp1 : 0 < p1) (hn : p1.toNat / q1 = n) (n0 : 0 < n) (n1 : n ≤ 1000000) :
    Calls Tryd.prog 23 #[.agg #[pv, rv], .agg #[mv], .int .i64 (q : Int)] w fun e w' => e = .returned (.tuple #[.int .i64 (n : Int), .int .i64 0]) ∧ Below w.heap.size w w' := by
  have HI := Lib.hid (fun (W : World) (h : Below w.heap.size w W) => item_ok pv rv mv ps rs m q Z W (hp.below h) (hr.below h) (hm.below h) hZ hE)
  have hq1 : 0 < q1 := by rw [← hq1']; exact redQ_pos (by omega)
  have HP := Lib.hid hP
  have HQ := Lib.hid hQ
  have HP1 := Lib.hid hp1'
  have HQ1 := Lib.hid hq1'
  have HN := Lib.hid hn
  clear hP hQ hp1' hq1' hn
  obtain ⟨PA, pc, rfl, _, _, hps⟩ := hp
  obtain ⟨RV, vc, rfl, _, _, _⟩ := hr
  obtain ⟨MA, mc, mus, rfl, _, _, _, _⟩ := hm
  clear hps
  obtain ⟨pn, hpn⟩ : ∃ x, ps.length = x := ⟨_, rfl⟩
  obtain ⟨rn, hrn⟩ : ∃ x, rs.length = x := ⟨_, rfl⟩
  obtain ⟨ml, hml⟩ : ∃ x, m.length = x := ⟨_, rfl⟩
  rw [hpn, hrn, hml] at HI
  rw [hpn] at HP HQ
  rw [hpn, hrn, hml]
  clear hpn hrn hml
  obtain ⟨W0, hW0⟩ : ∃ W0 : World, W0 = (w.alloc (.cells #[.slice PA pn pc, .slice RV rn vc] 24)).alloc (.cells #[.slice MA ml mc] 40) := ⟨_, rfl⟩
  have r0 : Row W0 w.heap.size 24 [.slice PA pn pc, .slice RV rn vc] := by
    rw [hW0]
    have := Row.alloc (Row.new w 24 [.slice PA pn pc, .slice RV rn vc]) (.cells #[.slice MA ml mc] 40)
    simpa using this
  have r1 : Row W0 (w.heap.size + 1) 40 [.slice MA ml mc] := by
    rw [hW0]
    have := Row.new (w.alloc (.cells #[.slice PA pn pc, .slice RV rn vc] 24)) 40 [.slice MA ml mc]
    simpa using this
  have B0 : Below w.heap.size w W0 := by rw [hW0]; exact (((Below.refl _ _).alloc (Nat.le_refl _) _).alloc (by simp) _)
  go_enter Tryd.func23, Tryd.ntmps23
  go_wp2_with fail
  rw [← hW0]
  clear hW0
  have BB := B0
  have hr3 := r0
  have hr4 := r1
  clear B0 r0 r1
  have c30 : W0.cell? ⟨w.heap.size, 0, none⟩ = some (.slice PA pn pc) := hr3.cell 0
  have c31 : W0.cell? ⟨w.heap.size, 1, none⟩ = some (.slice RV rn vc) := hr3.cell 1
  have c40 : W0.cell? ⟨w.heap.size + 1, 0, none⟩ = some (.slice MA ml mc) := hr4.cell 0
  have z3 := hr3.lt
  have z4 := hr4.lt
  go_wp2_with fail
  clear c30 c31 c40 z3 z4
  refine (HI.out _ BB).mono ?_
  rintro e x1 ⟨v8, rfl, hv8, hb⟩
  replace hr3 := hr3.keep hb
  replace hr4 := hr4.keep hb
  replace BB : Below w.heap.size w x1 := BB.trans (hb.mono BB.size)
  clear hb
  rw [HP.out, HQ.out] at hv8
  have h8' := hv8
  obtain ⟨m8, d8, e8, hm8, hd8, _, _⟩ := h8'
  subst e8
  obtain ⟨A8, k8, c8, rfl⟩ := hm8.lim1.choose_spec.1.show_
  obtain ⟨D8, l8, b8, rfl⟩ := hd8.lim1.choose_spec.1.show_
  clear hm8 hd8
  obtain ⟨g8, hg8⟩ : ∃ g, x1.heap.size = g := ⟨_, rfl⟩
  have hr8 : Row (x1.alloc (.cells #[.bool (decide (P < 0)), .slice A8 k8 c8, .slice D8 l8 b8] 31)) g8 31 [.bool (decide (P < 0)), .slice A8 k8 c8, .slice D8 l8 b8] := row_at hg8
  have hl := lit_below x1 (.cells #[.bool (decide (P < 0)), .slice A8 k8 c8, .slice D8 l8 b8] 31)
  have o3_8 : w.heap.size < g8 := by have := hr3.lt; omega
  have o4_8 : w.heap.size + 1 < g8 := by have := hr4.lt; omega
  have ob_8 : w.heap.size ≤ g8 := by have := BB.size; omega
  have c30 : x1.cell? ⟨w.heap.size, 0, none⟩ = some (.slice PA pn pc) := hr3.cell 0
  have c31 : x1.cell? ⟨w.heap.size, 1, none⟩ = some (.slice RV rn vc) := hr3.cell 1
  have c40 : x1.cell? ⟨w.heap.size + 1, 0, none⟩ = some (.slice MA ml mc) := hr4.cell 0
  have d30 : (x1.alloc (.cells #[.bool (decide (P < 0)), .slice A8 k8 c8, .slice D8 l8 b8] 31)).cell? ⟨w.heap.size, 0, none⟩ = some (.slice PA pn pc) := (hr3.alloc _).cell 0
  have d31 : (x1.alloc (.cells #[.bool (decide (P < 0)), .slice A8 k8 c8, .slice D8 l8 b8] 31)).cell? ⟨w.heap.size, 1, none⟩ = some (.slice RV rn vc) := (hr3.alloc _).cell 1
  have d40 : (x1.alloc (.cells #[.bool (decide (P < 0)), .slice A8 k8 c8, .slice D8 l8 b8] 31)).cell? ⟨w.heap.size + 1, 0, none⟩ = some (.slice MA ml mc) := (hr4.alloc _).cell 0
  have e0 : (x1.alloc (.cells #[.bool (decide (P < 0)), .slice A8 k8 c8, .slice D8 l8 b8] 31)).cell? ⟨g8, 0, none⟩ = some (.bool (decide (P < 0))) := hr8.cell 0
  have e1 : (x1.alloc (.cells #[.bool (decide (P < 0)), .slice A8 k8 c8, .slice D8 l8 b8] 31)).cell? ⟨g8, 1, none⟩ = some (.slice A8 k8 c8) := hr8.cell 1
  have e2 : (x1.alloc (.cells #[.bool (decide (P < 0)), .slice A8 k8 c8, .slice D8 l8 b8] 31)).cell? ⟨g8, 2, none⟩ = some (.slice D8 l8 b8) := hr8.cell 2
  go_wp2_with fail
  clear c30 c31 c40 d30 d31 d40 e0 e1 e2
  clear hg8
  generalize (x1.alloc (.cells #[.bool (decide (P < 0)), .slice A8 k8 c8, .slice D8 l8 b8] 31)) = x2 at *
  replace hr3 := hr3.keep hl
  replace hr4 := hr4.keep hl
  replace hv8 := hv8.below hl
  replace BB : Below w.heap.size w x2 := BB.trans (hl.mono BB.size)
  clear hl
  have c30 : x2.cell? ⟨w.heap.size, 0, none⟩ = some (.slice PA pn pc) := hr3.cell 0
  have c31 : x2.cell? ⟨w.heap.size, 1, none⟩ = some (.slice RV rn vc) := hr3.cell 1
  have c40 : x2.cell? ⟨w.heap.size + 1, 0, none⟩ = some (.slice MA ml mc) := hr4.cell 0
  have c80 : x2.cell? ⟨g8, 0, none⟩ = some (.bool (decide (P < 0))) := hr8.cell 0
  have c81 : x2.cell? ⟨g8, 1, none⟩ = some (.slice A8 k8 c8) := hr8.cell 1
  have c82 : x2.cell? ⟨g8, 2, none⟩ = some (.slice D8 l8 b8) := hr8.cell 2
  have z3 := hr3.lt
  have z4 := hr4.lt
  have z8 := hr8.lt
  go_wp2_with fail
  clear c30 c31 c40 c80 c81 c82 z3 z4 z8
  refine (qof_any 100000000 1 _ (by decide) (by decide) (by decide) (by decide)).mono ?_
  rintro e x3 ⟨v10, rfl, hv10, hb⟩
  replace hr3 := hr3.keep hb
  replace hr4 := hr4.keep hb
  replace hv8 := hv8.below hb
  replace hr8 := hr8.keep hb
  replace BB : Below w.heap.size w x3 := BB.trans (hb.mono BB.size)
  clear hb
  rw [show redP 100000000 (1 : Int).toNat = 100000000 by decide +kernel, show redQ 100000000 (1 : Int).toNat = 1 by decide +kernel] at hv10
  have h10' := hv10
  obtain ⟨m10, d10, e10, hm10, hd10, _, _⟩ := h10'
  subst e10
  obtain ⟨A10, k10, c10, rfl⟩ := hm10.lim1.choose_spec.1.show_
  obtain ⟨D10, l10, b10, rfl⟩ := hd10.lim1.choose_spec.1.show_
  clear hm10 hd10
  simp only [show decide ((100000000 : Int) < 0) = false from rfl] at hv10 ⊢
  obtain ⟨g10, hg10⟩ : ∃ g, x3.heap.size = g := ⟨_, rfl⟩
  have hr10 : Row (x3.alloc (.cells #[.bool false, .slice A10 k10 c10, .slice D10 l10 b10] 31)) g10 31 [.bool false, .slice A10 k10 c10, .slice D10 l10 b10] := row_at hg10
  have hl := lit_below x3 (.cells #[.bool false, .slice A10 k10 c10, .slice D10 l10 b10] 31)
  have o3_10 : w.heap.size < g10 := by have := hr3.lt; omega
  have o4_10 : w.heap.size + 1 < g10 := by have := hr4.lt; omega
  have o8_10 : g8 < g10 := by have := hr8.lt; omega
  have ob_10 : w.heap.size ≤ g10 := by have := BB.size; omega
  have c30 : x3.cell? ⟨w.heap.size, 0, none⟩ = some (.slice PA pn pc) := hr3.cell 0
  have c31 : x3.cell? ⟨w.heap.size, 1, none⟩ = some (.slice RV rn vc) := hr3.cell 1
  have c40 : x3.cell? ⟨w.heap.size + 1, 0, none⟩ = some (.slice MA ml mc) := hr4.cell 0
  have c80 : x3.cell? ⟨g8, 0, none⟩ = some (.bool (decide (P < 0))) := hr8.cell 0
  have c81 : x3.cell? ⟨g8, 1, none⟩ = some (.slice A8 k8 c8) := hr8.cell 1
  have c82 : x3.cell? ⟨g8, 2, none⟩ = some (.slice D8 l8 b8) := hr8.cell 2
  have d30 : (x3.alloc (.cells #[.bool false, .slice A10 k10 c10, .slice D10 l10 b10] 31)).cell? ⟨w.heap.size, 0, none⟩ = some (.slice PA pn pc) := (hr3.alloc _).cell 0
  have d31 : (x3.alloc (.cells #[.bool false, .slice A10 k10 c10, .slice D10 l10 b10] 31)).cell? ⟨w.heap.size, 1, none⟩ = some (.slice RV rn vc) := (hr3.alloc _).cell 1
  have d40 : (x3.alloc (.cells #[.bool false, .slice A10 k10 c10, .slice D10 l10 b10] 31)).cell? ⟨w.heap.size + 1, 0, none⟩ = some (.slice MA ml mc) := (hr4.alloc _).cell 0
  have d80 : (x3.alloc (.cells #[.bool false, .slice A10 k10 c10, .slice D10 l10 b10] 31)).cell? ⟨g8, 0, none⟩ = some (.bool (decide (P < 0))) := (hr8.alloc _).cell 0
  have d81 : (x3.alloc (.cells #[.bool false, .slice A10 k10 c10, .slice D10 l10 b10] 31)).cell? ⟨g8, 1, none⟩ = some (.slice A8 k8 c8) := (hr8.alloc _).cell 1
  have d82 : (x3.alloc (.cells #[.bool false, .slice A10 k10 c10, .slice D10 l10 b10] 31)).cell? ⟨g8, 2, none⟩ = some (.slice D8 l8 b8) := (hr8.alloc _).cell 2
  have e0 : (x3.alloc (.cells #[.bool false, .slice A10 k10 c10, .slice D10 l10 b10] 31)).cell? ⟨g10, 0, none⟩ = some (.bool false) := hr10.cell 0
  have e1 : (x3.alloc (.cells #[.bool false, .slice A10 k10 c10, .slice D10 l10 b10] 31)).cell? ⟨g10, 1, none⟩ = some (.slice A10 k10 c10) := hr10.cell 1
  have e2 : (x3.alloc (.cells #[.bool false, .slice A10 k10 c10, .slice D10 l10 b10] 31)).cell? ⟨g10, 2, none⟩ = some (.slice D10 l10 b10) := hr10.cell 2
  go_wp2_with fail
  clear c30 c31 c40 c80 c81 c82 d30 d31 d40 d80 d81 d82 e0 e1 e2
  clear hg10
  generalize (x3.alloc (.cells #[.bool false, .slice A10 k10 c10, .slice D10 l10 b10] 31)) = x4 at *
  replace hr3 := hr3.keep hl
  replace hr4 := hr4.keep hl
  replace hv8 := hv8.below hl
  replace hr8 := hr8.keep hl
  replace hv10 := hv10.below hl
  replace BB : Below w.heap.size w x4 := BB.trans (hl.mono BB.size)
  clear hl
  have c30 : x4.cell? ⟨w.heap.size, 0, none⟩ = some (.slice PA pn pc) := hr3.cell 0
  have c31 : x4.cell? ⟨w.heap.size, 1, none⟩ = some (.slice RV rn vc) := hr3.cell 1
  have c40 : x4.cell? ⟨w.heap.size + 1, 0, none⟩ = some (.slice MA ml mc) := hr4.cell 0
  have c80 : x4.cell? ⟨g8, 0, none⟩ = some (.bool (decide (P < 0))) := hr8.cell 0
  have c81 : x4.cell? ⟨g8, 1, none⟩ = some (.slice A8 k8 c8) := hr8.cell 1
  have c82 : x4.cell? ⟨g8, 2, none⟩ = some (.slice D8 l8 b8) := hr8.cell 2
  have c100 : x4.cell? ⟨g10, 0, none⟩ = some (.bool false) := hr10.cell 0
  have c101 : x4.cell? ⟨g10, 1, none⟩ = some (.slice A10 k10 c10) := hr10.cell 1
  have c102 : x4.cell? ⟨g10, 2, none⟩ = some (.slice D10 l10 b10) := hr10.cell 2
  have z3 := hr3.lt
  have z4 := hr4.lt
  have z8 := hr8.lt
  have z10 := hr10.lt
  go_wp2_with fail
  clear c30 c31 c40 c80 c81 c82 c100 c101 c102 z3 z4 z8 z10
  refine (qmul_any _ _ P 100000000 Q 1 330 _ (hv8.ratA hQ0) ((hv10.ratA (by decide)).mono (by decide)) (by decide) (by decide)).mono ?_
  rintro e x5 ⟨v11, rfl, hv11, hb⟩
  replace hr3 := hr3.keep hb
  replace hr4 := hr4.keep hb
  replace hv8 := hv8.below hb
  replace hr8 := hr8.keep hb
  replace hv10 := hv10.below hb
  replace hr10 := hr10.keep hb
  replace BB : Below w.heap.size w x5 := BB.trans (hb.mono BB.size)
  clear hb
  rw [HP1.out, HQ1.out] at hv11
  have h11' := hv11
  obtain ⟨m11, d11, e11, hm11, hd11, _, _⟩ := h11'
  subst e11
  obtain ⟨A11, k11, c11, rfl⟩ := hm11.lim1.choose_spec.1.show_
  obtain ⟨D11, l11, b11, rfl⟩ := hd11.lim1.choose_spec.1.show_
  clear hm11 hd11
  have c30 : x5.cell? ⟨w.heap.size, 0, none⟩ = some (.slice PA pn pc) := hr3.cell 0
  have c31 : x5.cell? ⟨w.heap.size, 1, none⟩ = some (.slice RV rn vc) := hr3.cell 1
  have c40 : x5.cell? ⟨w.heap.size + 1, 0, none⟩ = some (.slice MA ml mc) := hr4.cell 0
  have c80 : x5.cell? ⟨g8, 0, none⟩ = some (.bool (decide (P < 0))) := hr8.cell 0
  have c81 : x5.cell? ⟨g8, 1, none⟩ = some (.slice A8 k8 c8) := hr8.cell 1
  have c82 : x5.cell? ⟨g8, 2, none⟩ = some (.slice D8 l8 b8) := hr8.cell 2
  have c100 : x5.cell? ⟨g10, 0, none⟩ = some (.bool false) := hr10.cell 0
  have c101 : x5.cell? ⟨g10, 1, none⟩ = some (.slice A10 k10 c10) := hr10.cell 1
  have c102 : x5.cell? ⟨g10, 2, none⟩ = some (.slice D10 l10 b10) := hr10.cell 2
  have z3 := hr3.lt
  have z4 := hr4.lt
  have z8 := hr8.lt
  have z10 := hr10.lt
  go_wp2_with fail
  clear c30 c31 c40 c80 c81 c82 c100 c101 c102 z3 z4 z8 z10
  refine (floor_pos _ p1 q1 660 _ (hv11.ratA hq1) hp1 (by decide) (by decide)).mono ?_
  rintro e x6 ⟨v12, rfl, hv12, hb⟩
  replace hr3 := hr3.keep hb
  replace hr4 := hr4.keep hb
  replace hv8 := hv8.below hb
  replace hr8 := hr8.keep hb
  replace hv10 := hv10.below hb
  replace hr10 := hr10.keep hb
  replace hv11 := hv11.below hb
  replace BB : Below w.heap.size w x6 := BB.trans (hb.mono BB.size)
  clear hb
  rw [HN.out] at hv12
  obtain ⟨mv12, rfl, hv12, _⟩ := hv12
  simp only [show decide ((n : Int) < 0) = false from decide_eq_false (by omega)]
  have hv12 := hv12.one n0 (by omega)
  obtain ⟨⟨A12, c12, rfl, _, _, _⟩, _⟩ := id hv12
  have c30 : x6.cell? ⟨w.heap.size, 0, none⟩ = some (.slice PA pn pc) := hr3.cell 0
  have c31 : x6.cell? ⟨w.heap.size, 1, none⟩ = some (.slice RV rn vc) := hr3.cell 1
  have c40 : x6.cell? ⟨w.heap.size + 1, 0, none⟩ = some (.slice MA ml mc) := hr4.cell 0
  have c80 : x6.cell? ⟨g8, 0, none⟩ = some (.bool (decide (P < 0))) := hr8.cell 0
  have c81 : x6.cell? ⟨g8, 1, none⟩ = some (.slice A8 k8 c8) := hr8.cell 1
  have c82 : x6.cell? ⟨g8, 2, none⟩ = some (.slice D8 l8 b8) := hr8.cell 2
  have c100 : x6.cell? ⟨g10, 0, none⟩ = some (.bool false) := hr10.cell 0
  have c101 : x6.cell? ⟨g10, 1, none⟩ = some (.slice A10 k10 c10) := hr10.cell 1
  have c102 : x6.cell? ⟨g10, 2, none⟩ = some (.slice D10 l10 b10) := hr10.cell 2
  have z3 := hr3.lt
  have z4 := hr4.lt
  have z8 := hr8.lt
  have z10 := hr10.lt
  go_wp2_with fail
  clear c30 c31 c40 c80 c81 c82 c100 c101 c102 z3 z4 z8 z10
  refine (int64_one _ n _ hv12 n0).mono ?_
  rintro e x7 ⟨rfl, hb⟩
  replace hr3 := hr3.keep hb
  replace hr4 := hr4.keep hb
  replace hv8 := hv8.below hb
  replace hr8 := hr8.keep hb
  replace hv10 := hv10.below hb
  replace hr10 := hr10.keep hb
  replace hv11 := hv11.below hb
  replace hv12 := hv12.below hb
  replace BB : Below w.heap.size w x7 := BB.trans (hb.mono BB.size)
  clear hb
  have t1 : decide ((1000000 : Int) < (n : Int)) = false := decide_eq_false (by omega)
  have t1n : decide (1000000 < n) = false := decide_eq_false (by omega)
  have t2 : ¬ (1000000 : Int) < (n : Int) := by omega
  go_wp2_with fail
  go_ret2
  exact ⟨rfl, BB⟩
end Go.Proofs.YtompckomogmhiaaDoor
