/- The walk of GridNearest. -/
import Derived.Test.YtdmjgildgjpmcaaDoorGrN
import Derived.Test.YtdmjgildgjpmcaaDoorQPrn
namespace Go.Proofs.YtdmjgildgjpmcaaDoor
open Go.RowKit
set_option linter.unusedVariables false

theorem keep9c {W w' : World} {p1 p2 p3 p4 p5 p6 p7 p8 p9 : Addr} {x1 x2 x3 x4 x5 x6 x7 x8 x9 : Value} (l1 : p1.block < W.heap.size) (l2 : p2.block < W.heap.size) (l3 : p3.block < W.heap.size) (l4 : p4.block < W.heap.size) (l5 : p5.block < W.heap.size) (l6 : p6.block < W.heap.size) (l7 : p7.block < W.heap.size) (l8 : p8.block < W.heap.size) (l9 : p9.block < W.heap.size) (h1 : W.cell? p1 = some x1) (h2 : W.cell? p2 = some x2) (h3 : W.cell? p3 = some x3) (h4 : W.cell? p4 = some x4) (h5 : W.cell? p5 = some x5) (h6 : W.cell? p6 = some x6) (h7 : W.cell? p7 = some x7) (h8 : W.cell? p8 = some x8) (h9 : W.cell? p9 = some x9) (hb : Below W.heap.size W w') :
    w'.cell? p1 = some x1 ∧ w'.cell? p2 = some x2 ∧ w'.cell? p3 = some x3 ∧ w'.cell? p4 = some x4 ∧ w'.cell? p5 = some x5 ∧ w'.cell? p6 = some x6 ∧ w'.cell? p7 = some x7 ∧ w'.cell? p8 = some x8 ∧ w'.cell? p9 = some x9 := ⟨(hb.cell l1).trans h1, (hb.cell l2).trans h2, (hb.cell l3).trans h3, (hb.cell l4).trans h4, (hb.cell l5).trans h5, (hb.cell l6).trans h6, (hb.cell l7).trans h7, (hb.cell l8).trans h8, (hb.cell l9).trans h9⟩

set_option maxHeartbeats 4000000 in
theorem lwhole_any (x : Int) (w : World) (hx1 : -100000 ≤ x) (hx2 : x ≤ 100000) :
    Calls Tryd.prog 9 #[.int .i64 x] w fun e w' => ∃ y, e = .returned y ∧ RatF w.heap.size w' y x 1 2 ∧ Below w.heap.size w w' := by
  obtain ⟨W0, hW0⟩ : ∃ W0 : World, W0 = w.alloc (.cells #[.bool false, .slice none 0 0, .slice none 0 0] 30) := ⟨_, rfl⟩
  have r0 : Row W0 w.heap.size 30 [.bool false, .slice none 0 0, .slice none 0 0] := by
    rw [hW0]
    have := Row.new w 30 [.bool false, .slice none 0 0, .slice none 0 0]
    simpa using this
  have B0 : Below w.heap.size w W0 := by rw [hW0]; exact ((Below.refl _ _).alloc (Nat.le_refl _) _)
  go_enter Tryd.func9, Tryd.ntmps9
  go_wp2_with fail
  rw [← hW0]
  clear hW0
  go_wp2_with fail
  refine (qof_any x 1 _ (by omega) (by omega) (by omega) (by omega)).mono ?_
  rintro e w1 ⟨y, rfl, hx, hb⟩
  rw [show (1 : Int).toNat = 1 from rfl, (redQ_one x).1, (redQ_one x).2] at hx
  have B1 := B0.trans (hb.mono B0.size)
  have hz : w.heap.size + 1 ≤ W0.heap.size := r0.lt
  have q0 := r0.keep hb
  replace hx := hx.base hz
  obtain ⟨mv, dv, rfl, hm, hd, fm, fd⟩ := hx
  obtain ⟨A6, n6, c6, rfl⟩ := hm.lim1.choose_spec.1.show_
  obtain ⟨A7, n7, c7, rfl⟩ := hd.lim1.choose_spec.1.show_
  have hl := lit_below w1 (.cells #[.bool (decide (x < 0)), .slice A6 n6 c6, .slice A7 n7 c7] 30)
  have q1 := q0.keep hl
  have c0 : (w1.alloc (.cells #[.bool (decide (x < 0)), .slice A6 n6 c6, .slice A7 n7 c7] 30)).cell? ⟨w.heap.size, 0, none⟩ = some (.bool false) := q1.cell 0
  have c1 : (w1.alloc (.cells #[.bool (decide (x < 0)), .slice A6 n6 c6, .slice A7 n7 c7] 30)).cell? ⟨w.heap.size, 1, none⟩ = some (.slice none 0 0) := q1.cell 1
  have c2 : (w1.alloc (.cells #[.bool (decide (x < 0)), .slice A6 n6 c6, .slice A7 n7 c7] 30)).cell? ⟨w.heap.size, 2, none⟩ = some (.slice none 0 0) := q1.cell 2
  have f0 := q1.frozen 0
  have f1 := q1.frozen 1
  have f2 := q1.frozen 2
  have z1 := q1.lt
  have hm1 := hm.below hl
  have hd1 := hd.below hl
  have BB := B1.trans (hl.mono B1.size)
  clear q0 q1 hl
  go_wp2_with fail
  refine bodyPost_ret (v := .agg #[.bool (decide (x < 0)), .slice A6 n6 c6, .slice A7 n7 c7]) (by simp [results, Tryd.results9, go_sem, c0, c1, c2]) rfl ⟨_, rfl, ⟨_, _, rfl, ?_, ?_, fm.mono (by omega), fd.mono (by omega)⟩, ((BB.setCell (by simp) _).setCell (by simp) _).setCell (by simp) _⟩
  · exact ((hm1.set_ fm (by simp) _).set_ fm (by simp) _).set_ fm (by simp) _
  · exact ((hd1.set_ fd (by simp) _).set_ fd (by simp) _).set_ fd (by simp) _

set_option maxRecDepth 100000 in
set_option maxHeartbeats 16000000 in
theorem nst_ok (pv rv : Value) (ng : Bool) (mv dv : Value) (ps rs : List Int) (la lb : List Nat) (w : World) (hp : Nums .i64 w pv ps) (hr : Nums .i64 w rv rs) (ha : Lim w mv la) (hb : Lim w dv lb) (h1 : la.length ≤ 20) (h2 : lb.length ≤ 20) (hE : gridE ps rs = 0) :
    Calls Tryd.prog 3 #[.agg #[pv, rv], .agg #[.bool ng, mv, dv]] w fun e w' => e = .returned (.bool true) ∧ Below w.heap.size w w' := by
  obtain ⟨z1, z2, z3, z4, _⟩ := gridE_zero hE
  obtain ⟨P, Q, hq⟩ : ∃ P Q, RatA w (.agg #[.bool ng, mv, dv]) P Q 20 := ⟨_, _, ng, mv, la, dv, lb, rfl, ha, hb, h1, h2, rfl, rfl⟩
  have hQ := hq.pos
  obtain ⟨L, hLe⟩ : ∃ L, L = 20 := ⟨_, rfl⟩
  rw [← hLe] at hq
  have hL : 2 ≤ L := by omega
  have hM : L ≤ 20000000 := by omega
  have hL2 : 2 ≤ (L + L + (L + L) + 1) := by omega
  have hM2 : (L + L + (L + L) + 1) ≤ 100000000 := by omega
  have hM3 : (L + L + (L + L) + 1) ≤ 40000000 := by omega
  have HN := Lib.hid (fun (W : World) (h : Below w.heap.size w W) => near_ok pv rv (.agg #[.bool ng, mv, dv]) ps rs P Q L W (hp.below h) (hr.below h) (hq.below h) hL (by omega) hE)
  have HZ : Hid (∀ j, j < ps.length → -100000 ≤ ps.getD j 0 ∧ ps.getD j 0 ≤ 100000) := fun j hj => by have := z4 j hj; omega
  obtain ⟨PA, pc, rfl, hpc, hpm, hps⟩ := hp
  obtain ⟨RV, vc, rfl, hvc, hvm, hvs⟩ := hr
  obtain ⟨⟨RA, rc, rfl, _, _, _⟩, _⟩ := id ha
  obtain ⟨⟨RB, sc, rfl, _, _, _⟩, _⟩ := id hb
  obtain ⟨pb, po, rfl, hpb, hcell⟩ := hps.num z2
  unfold maxLen at hpm
  obtain ⟨n, hnn⟩ : ∃ n, ps.length = n := ⟨_, rfl⟩
  obtain ⟨rk, hrk⟩ : ∃ n, la.length = n := ⟨_, rfl⟩
  obtain ⟨sk, hsk⟩ : ∃ n, lb.length = n := ⟨_, rfl⟩
  have n0 : 0 < n := by omega
  have HNN := Lib.hid hnn
  rw [hnn] at hps hpc z1 z2 HZ HN hcell ⊢
  rw [hrk] at HN hq h1 ⊢
  rw [hsk] at HN hq h2 ⊢
  have g1 : decide (20 < (rk : Int)) = false := decide_eq_false (by omega)
  have g2 : decide (20 < (sk : Int)) = false := decide_eq_false (by omega)
  clear hE z3 z4 hnn hvs hvc hps hrk hsk ha hb hLe
  obtain ⟨W0, hW0⟩ : ∃ W0 : World, W0 = (w.alloc (.cells #[.slice (some ⟨pb, po, none⟩) n pc, .slice RV rs.length vc] 24)).alloc (.cells #[.bool ng, .slice RA rk rc, .slice RB sk sc] 30) := ⟨_, rfl⟩
  have r0 : Row W0 w.heap.size 24 [.slice (some ⟨pb, po, none⟩) n pc, .slice RV rs.length vc] := by
    rw [hW0]
    have := Row.alloc (Row.new w 24 [.slice (some ⟨pb, po, none⟩) n pc, .slice RV rs.length vc]) (.cells #[.bool ng, .slice RA rk rc, .slice RB sk sc] 30)
    simpa using this
  have r1 : Row W0 (w.heap.size + 1) 30 [.bool ng, .slice RA rk rc, .slice RB sk sc] := by
    rw [hW0]
    have := Row.new (w.alloc (.cells #[.slice (some ⟨pb, po, none⟩) n pc, .slice RV rs.length vc] 24)) 30 [.bool ng, .slice RA rk rc, .slice RB sk sc]
    simpa using this
  have B0 : Below w.heap.size w W0 := by rw [hW0]; exact (((Below.refl _ _).alloc (Nat.le_refl _) _).alloc (by simp) _)
  have a0 : W0.cell? ⟨w.heap.size, 0, none⟩ = some (.slice (some ⟨pb, po, none⟩) n pc) := r0.cell 0
  have a1 : W0.cell? ⟨w.heap.size, 1, none⟩ = some (.slice RV rs.length vc) := r0.cell 1
  have b0 : W0.cell? ⟨w.heap.size + 1, 0, none⟩ = some (.bool ng) := r1.cell 0
  have b1 : W0.cell? ⟨w.heap.size + 1, 1, none⟩ = some (.slice RA rk rc) := r1.cell 1
  have b2 : W0.cell? ⟨w.heap.size + 1, 2, none⟩ = some (.slice RB sk sc) := r1.cell 2
  go_enter Tryd.func3, Tryd.ntmps3
  go_wp2_with fail
  rw [← hW0]
  clear hW0 a0 a1 b0 b1 b2
  have BB := B0
  have hr2 := r0
  have hr3 := r1
  clear B0 r0 r1
  have c20 : W0.cell? ⟨w.heap.size, 0, none⟩ = some (.slice (some ⟨pb, po, none⟩) n pc) := hr2.cell 0
  have c21 : W0.cell? ⟨w.heap.size, 1, none⟩ = some (.slice RV rs.length vc) := hr2.cell 1
  have c30 : W0.cell? ⟨w.heap.size + 1, 0, none⟩ = some (.bool ng) := hr3.cell 0
  have c31 : W0.cell? ⟨w.heap.size + 1, 1, none⟩ = some (.slice RA rk rc) := hr3.cell 1
  have c32 : W0.cell? ⟨w.heap.size + 1, 2, none⟩ = some (.slice RB sk sc) := hr3.cell 2
  have z2 := hr2.lt
  have z3 := hr3.lt
  go_wp2_with fail
  clear c20 c21 c30 c31 c32 z2 z3
  refine (HN.out _ BB).mono ?_
  rintro e x1 ⟨rfl, hb⟩
  replace hr2 := hr2.keep hb
  replace hr3 := hr3.keep hb
  replace BB : Below w.heap.size w x1 := BB.trans (hb.mono BB.size)
  clear hb
  have h0n : (0 : Int) < (n : Int) := by omega
  obtain ⟨iq, hiq⟩ : ∃ i, nearI (near ps P Q) (n - 1) = i := ⟨_, rfl⟩
  have HIQ := Lib.hid hiq
  rw [hiq]
  have hqn : iq < n := by have := nearI_le (near ps P Q) (n - 1); omega
  have HIL : Hid (∀ i, i < n → near ps P Q iq ≤ near ps P Q i ∧ (i < iq → near ps P Q iq < near ps P Q i)) := fun i hi => by have := nearI_least (near ps P Q) (n - 1) i (by omega); rw [hiq] at this; exact this
  clear hiq
  have hqI : (iq : Int) < (n : Int) := by omega
  have hqnn : 0 ≤ (iq : Int) := by omega
  have hx := HZ.out (iq) (by omega)
  obtain ⟨x, hxe⟩ : ∃ x, ps.getD (iq) 0 = x := ⟨_, rfl⟩
  have HNX : Hid ((x * (Q : Int) - P).natAbs = near ps P Q (iq)) := by unfold Hid near; rw [hxe]
  have hxc := hcell (iq) (by omega)
  rw [hxe] at hx hxc
  clear hxe
  have HDR := Lib.hid (dist_red x P Q hQ)
  have hQ1 := redQ_pos (p := x * (Q : Int) - P * ((1 : Nat) : Int)) (q := 1 * Q) (by omega)
  have hq0 := hq.below BB
  have hzz := BB.size
  have c20 : x1.cell? ⟨w.heap.size, 0, none⟩ = some (.slice (some ⟨pb, po, none⟩) n pc) := hr2.cell 0
  have c21 : x1.cell? ⟨w.heap.size, 1, none⟩ = some (.slice RV rs.length vc) := hr2.cell 1
  have c30 : x1.cell? ⟨w.heap.size + 1, 0, none⟩ = some (.bool ng) := hr3.cell 0
  have c31 : x1.cell? ⟨w.heap.size + 1, 1, none⟩ = some (.slice RA rk rc) := hr3.cell 1
  have c32 : x1.cell? ⟨w.heap.size + 1, 2, none⟩ = some (.slice RB sk sc) := hr3.cell 2
  have z2 := hr2.lt
  have z3 := hr3.lt
  go_wp2_with fail
  have qs0 : x1.cell? ⟨w.heap.size, 0, none⟩ = some (.slice (some ⟨pb, po, none⟩) n pc) := hr2.cell 0
  have qs1 : x1.cell? ⟨w.heap.size, 1, none⟩ = some (.slice RV rs.length vc) := hr2.cell 1
  have qs2 : x1.cell? ⟨w.heap.size + 1, 0, none⟩ = some (.bool ng) := hr3.cell 0
  have qs3 : x1.cell? ⟨w.heap.size + 1, 1, none⟩ = some (.slice RA rk rc) := hr3.cell 1
  have qs4 : x1.cell? ⟨w.heap.size + 1, 2, none⟩ = some (.slice RB sk sc) := hr3.cell 2
  have zs0 := hr2.lt
  have zs1 := hr3.lt
  have qs5 : x1.cell? ⟨pb, po + iq, none⟩ = some (.int .i64 x) := (BB.cell (p := ⟨pb, _, none⟩) hpb).trans hxc
  have zs2 := Nat.lt_of_lt_of_le hpb BB.size
  go_cut [7] (fun s0 wx => ∃ (g : Nat) (A7 : Option Addr) (k7 c7 : Nat) (D7 : Option Addr) (l7 b7 : Nat), s0 = .pointer (some ⟨g, 0, none⟩) ∧ x1.heap.size ≤ g ∧ Row wx g 30 [.bool (decide (redP ((near ps P Q (iq) : Nat) : Int) Q < 0)), .slice A7 k7 c7, .slice D7 l7 b7] ∧ RatF x1.heap.size wx (.agg #[.bool (decide (redP ((near ps P Q (iq) : Nat) : Int) Q < 0)), .slice A7 k7 c7, .slice D7 l7 b7]) (redP ((near ps P Q (iq) : Nat) : Int) Q) (redQ ((near ps P Q (iq) : Nat) : Int) Q) (L + L + (L + L) + 1) ∧ Below x1.heap.size x1 wx)
  case first =>
    go_region_held3 (fun w' => w'.cell? ⟨w.heap.size, 0, none⟩ = some (.slice (some ⟨pb, po, none⟩) n pc) ∧ w'.cell? ⟨w.heap.size, 1, none⟩ = some (.slice RV rs.length vc) ∧ w'.cell? ⟨w.heap.size + 1, 0, none⟩ = some (.bool ng) ∧ w'.cell? ⟨w.heap.size + 1, 1, none⟩ = some (.slice RA rk rc) ∧ w'.cell? ⟨w.heap.size + 1, 2, none⟩ = some (.slice RB sk sc) ∧ w'.cell? ⟨pb, po + iq, none⟩ = some (.int .i64 x))
      ((refine keep6c zs0 zs0 zs1 zs1 zs1 zs2 qs0 qs1 qs2 qs3 qs4 qs5 ?_; (repeat (first | with_reducible exact Below.refl _ _ | ((with_reducible refine bl_set ?_ ?_ _); rotate_left; (first | exact Nat.le_refl _ | exact gz4 | exact gz5 | exact gz6)) | with_reducible refine bl_call h6 ?_ | with_reducible refine bl_call h5 ?_ | with_reducible refine bl_call h4 ?_ | with_reducible refine bl_alloc ?_ _ | with_reducible refine bl_drew ?_)); done))
      (first
        | (go_at_call 9; ((with_reducible refine (lwhole_any x _ hx.1 hx.2).mono ?_);  rintro e w4 ⟨v4, rfl, hR4, h4⟩; have gz4 : x1.heap.size ≤ w4.heap.size := (bl_call h4 (by (repeat (first | with_reducible exact Below.refl _ _ | ((with_reducible refine bl_set ?_ ?_ _); rotate_left; (first | exact Nat.le_refl _ | exact gz4 | exact gz5 | exact gz6)) | with_reducible refine bl_call h6 ?_ | with_reducible refine bl_call h5 ?_ | with_reducible refine bl_call h4 ?_ | with_reducible refine bl_alloc ?_ _ | with_reducible refine bl_drew ?_))) : Below x1.heap.size x1 w4).size; (first | (replace RR := RR.keep h4) | (have R0 := Row.drew (Row.new x1 30 [.bool false, .slice none 0 0, .slice none 0 0]); have RR := R0.keep h4; clear R0) | (have R0 := Row.new x1.drew 30 [.bool false, .slice none 0 0, .slice none 0 0]; have RR := R0.keep h4; clear R0) | (have R0 := Row.new x1 30 [.bool false, .slice none 0 0, .slice none 0 0]; have RR := R0.keep h4; clear R0) | (have R0 := Row.new w5 30 [.bool false, .slice none 0 0, .slice none 0 0]; have RR := R0.keep h4; clear R0) | (have R0 := Row.new w6 30 [.bool false, .slice none 0 0, .slice none 0 0]; have RR := R0.keep h4; clear R0) | skip)))
        | (go_at_call 8; ((with_reducible refine (qsub_any _ (.agg #[.bool ng, .slice RA rk rc, .slice RB sk sc]) x P 1 Q L _ (((hR4.ratA (by decide)).mono hL).below ?_) (hq0.below ?_) hL hM).mono ?_); (repeat (first | with_reducible exact Below.refl _ _ | ((with_reducible refine bl_set ?_ ?_ _); rotate_left; (first | exact Nat.le_refl _ | exact gz4 | exact gz5 | exact gz6)) | with_reducible refine bl_call h6 ?_ | with_reducible refine bl_call h5 ?_ | with_reducible refine bl_call h4 ?_ | with_reducible refine bl_alloc ?_ _ | with_reducible refine bl_drew ?_)); (repeat (first | with_reducible exact Below.refl _ _ | ((with_reducible refine bl_set ?_ ?_ _); rotate_left; (first | exact Nat.le_refl _ | exact gz4 | exact gz5 | exact gz6)) | with_reducible refine bl_call h6 ?_ | with_reducible refine bl_call h5 ?_ | with_reducible refine bl_call h4 ?_ | with_reducible refine bl_alloc ?_ _ | with_reducible refine bl_drew ?_)); rintro e w5 ⟨v5, rfl, hR5, h5⟩; have gz5 : x1.heap.size ≤ w5.heap.size := (bl_call h5 (by (repeat (first | with_reducible exact Below.refl _ _ | ((with_reducible refine bl_set ?_ ?_ _); rotate_left; (first | exact Nat.le_refl _ | exact gz4 | exact gz5 | exact gz6)) | with_reducible refine bl_call h6 ?_ | with_reducible refine bl_call h5 ?_ | with_reducible refine bl_call h4 ?_ | with_reducible refine bl_alloc ?_ _ | with_reducible refine bl_drew ?_))) : Below x1.heap.size x1 w5).size; (first | (replace RR := RR.keep h5) | (have R0 := Row.drew (Row.new x1 30 [.bool false, .slice none 0 0, .slice none 0 0]); have RR := R0.keep h5; clear R0) | (have R0 := Row.new x1.drew 30 [.bool false, .slice none 0 0, .slice none 0 0]; have RR := R0.keep h5; clear R0) | (have R0 := Row.new x1 30 [.bool false, .slice none 0 0, .slice none 0 0]; have RR := R0.keep h5; clear R0) | (have R0 := Row.new w4 30 [.bool false, .slice none 0 0, .slice none 0 0]; have RR := R0.keep h5; clear R0) | (have R0 := Row.new w6 30 [.bool false, .slice none 0 0, .slice none 0 0]; have RR := R0.keep h5; clear R0) | skip)))
        | (go_at_call 7; ((with_reducible refine (qabs_any _ _ _ (L + L + (L + L) + 1) _ ((hR5.ratA hQ1).below ?_) hL2 hM2).mono ?_); (repeat (first | with_reducible exact Below.refl _ _ | ((with_reducible refine bl_set ?_ ?_ _); rotate_left; (first | exact Nat.le_refl _ | exact gz4 | exact gz5 | exact gz6)) | with_reducible refine bl_call h6 ?_ | with_reducible refine bl_call h5 ?_ | with_reducible refine bl_call h4 ?_ | with_reducible refine bl_alloc ?_ _ | with_reducible refine bl_drew ?_)); rintro e w6 ⟨v6, rfl, hR6, h6⟩; have gz6 : x1.heap.size ≤ w6.heap.size := (bl_call h6 (by (repeat (first | with_reducible exact Below.refl _ _ | ((with_reducible refine bl_set ?_ ?_ _); rotate_left; (first | exact Nat.le_refl _ | exact gz4 | exact gz5 | exact gz6)) | with_reducible refine bl_call h6 ?_ | with_reducible refine bl_call h5 ?_ | with_reducible refine bl_call h4 ?_ | with_reducible refine bl_alloc ?_ _ | with_reducible refine bl_drew ?_))) : Below x1.heap.size x1 w6).size; (first | (have zg := RR.lt; replace RR := RR.keep h6) | (have R0 := Row.drew (Row.new x1 30 [.bool false, .slice none 0 0, .slice none 0 0]); have zg := R0.lt; have RR := R0.keep h6) | (have R0 := Row.new x1.drew 30 [.bool false, .slice none 0 0, .slice none 0 0]; have zg := R0.lt; have RR := R0.keep h6) | (have R0 := Row.new x1 30 [.bool false, .slice none 0 0, .slice none 0 0]; have zg := R0.lt; have RR := R0.keep h6) | (have R0 := Row.new w4 30 [.bool false, .slice none 0 0, .slice none 0 0]; have zg := R0.lt; have RR := R0.keep h6) | (have R0 := Row.new w5 30 [.bool false, .slice none 0 0, .slice none 0 0]; have zg := R0.lt; have RR := R0.keep h6) | skip); rw [HDR.out.1, HDR.out.2, HNX.out] at hR6; have hR6' := hR6; obtain ⟨m6, d6, e6, hm6, hd6, _, _⟩ := hR6'; subst e6; obtain ⟨A7, k7, c7, rfl⟩ := hm6.lim1.choose_spec.1.show_; obtain ⟨D7, l7, b7, rfl⟩ := hd6.lim1.choose_spec.1.show_; clear hm6 hd6; (try (have e0 := RR.cell 0; have e1 := RR.cell 1; have e2 := RR.cell 2; simp only [List.getElem?_cons_zero, List.getElem?_cons_succ] at e0 e1 e2; have f0 := RR.frozen 0; have f1 := RR.frozen 1; have f2 := RR.frozen 2)))))
    all_goals go_wp2_with fail
    all_goals go_meet
    all_goals go_light
    all_goals
      refine ⟨_, A7, k7, c7, D7, l7, b7, rfl, ?_, ?_, ?_, ?_⟩
      · (first | exact Nat.le_refl _ | exact gz4 | exact gz5 | exact gz6)
      · (first | exact Row.new _ _ _ | exact (((RR.set_ 0 _).set_ 1 _).set_ 2 _))
      · (first | exact (hR6.below (lit_below _ _)).base (bl_sz (by (repeat (first | with_reducible exact Below.refl _ _ | ((with_reducible refine bl_set ?_ ?_ _); rotate_left; (first | exact Nat.le_refl _ | exact gz4 | exact gz5 | exact gz6)) | with_reducible refine bl_call h6 ?_ | with_reducible refine bl_call h5 ?_ | with_reducible refine bl_call h4 ?_ | with_reducible refine bl_alloc ?_ _ | with_reducible refine bl_drew ?_)))) | exact ((((hR6.set_ zg _).set_ zg _).set_ zg _)).base (bl_sz (by (repeat (first | with_reducible exact Below.refl _ _ | ((with_reducible refine bl_set ?_ ?_ _); rotate_left; (first | exact Nat.le_refl _ | exact gz4 | exact gz5 | exact gz6)) | with_reducible refine bl_call h6 ?_ | with_reducible refine bl_call h5 ?_ | with_reducible refine bl_call h4 ?_ | with_reducible refine bl_alloc ?_ _ | with_reducible refine bl_drew ?_)))))
      · (repeat (first | with_reducible exact Below.refl _ _ | ((with_reducible refine bl_set ?_ ?_ _); rotate_left; (first | exact Nat.le_refl _ | exact gz4 | exact gz5 | exact gz6)) | with_reducible refine bl_call h6 ?_ | with_reducible refine bl_call h5 ?_ | with_reducible refine bl_call h4 ?_ | with_reducible refine bl_alloc ?_ _ | with_reducible refine bl_drew ?_))
  case rest =>
  obtain ⟨g7, A7, k7, c7, D7, l7, b7, rfl, hg7, hr7, hv7, hbc⟩ := hcut
  clear qs0 qs1 qs2 qs3 qs4 qs5 zs0 zs1 zs2 c20 c21 c30 c31 c32 z2 z3
  obtain ⟨x2, hx2⟩ : ∃ x, x = wc := ⟨_, rfl⟩
  rw [← hx2] at hr7 hv7 hbc ⊢
  clear hx2
  have o2_7 : w.heap.size < g7 := by have := hr2.lt; omega
  have o3_7 : w.heap.size + 1 < g7 := by have := hr3.lt; omega
  have ob_7 : w.heap.size ≤ g7 := by have := BB.size; omega
  replace hr2 := hr2.keep hbc
  replace hr3 := hr3.keep hbc
  replace BB : Below w.heap.size w x2 := BB.trans (hbc.mono BB.size)
  clear hbc
  clear hq0 hx hxc HDR hQ1 HNX
  go_wp2_with fail
  go_loopw [8] (fun i wr => ∃ (k : Nat), k ≤ n ∧ i = .int .i64 (k : Int) ∧ Row wr w.heap.size 24 [.slice (some ⟨pb, po, none⟩) n pc, .slice RV rs.length vc] ∧ Row wr (w.heap.size + 1) 30 [.bool ng, .slice RA rk rc, .slice RB sk sc] ∧ Row wr g7 30 [.bool (decide (redP ((near ps P Q (iq) : Nat) : Int) Q < 0)), .slice A7 k7 c7, .slice D7 l7 b7] ∧ RatF w.heap.size wr (.agg #[.bool (decide (redP ((near ps P Q (iq) : Nat) : Int) Q < 0)), .slice A7 k7 c7, .slice D7 l7 b7]) (redP ((near ps P Q (iq) : Nat) : Int) Q) (redQ ((near ps P Q (iq) : Nat) : Int) Q) (L + L + (L + L) + 1) ∧ Below w.heap.size w wr) (fun i _ => n - (intOf i).toNat)
  case atStart => exact ⟨0, by omega, rfl, hr2, hr3, hr7, hv7.base hzz, BB⟩
  case round =>
    clear hr2 hr3 hr7 hv7 BB
    obtain ⟨k, hk, rfl, hr2, hr3, hr7, hv7, BB⟩ := hrel
    by_cases hlt : k < n
    · 
      have hkI : (k : Int) < (n : Int) := by omega
      have hkn : 0 ≤ (k : Int) := by omega
      have hx := HZ.out (k) (by omega)
      obtain ⟨x, hxe⟩ : ∃ x, ps.getD (k) 0 = x := ⟨_, rfl⟩
      have HNX : Hid ((x * (Q : Int) - P).natAbs = near ps P Q (k)) := by unfold Hid near; rw [hxe]
      have hxc := hcell (k) (by omega)
      rw [hxe] at hx hxc
      clear hxe
      have HDR := Lib.hid (dist_red x P Q hQ)
      have hQ1 := redQ_pos (p := x * (Q : Int) - P * ((1 : Nat) : Int)) (q := 1 * Q) (by omega)
      have hq0 := hq.below BB
      have c20 : wr.cell? ⟨w.heap.size, 0, none⟩ = some (.slice (some ⟨pb, po, none⟩) n pc) := hr2.cell 0
      have c21 : wr.cell? ⟨w.heap.size, 1, none⟩ = some (.slice RV rs.length vc) := hr2.cell 1
      have c30 : wr.cell? ⟨w.heap.size + 1, 0, none⟩ = some (.bool ng) := hr3.cell 0
      have c31 : wr.cell? ⟨w.heap.size + 1, 1, none⟩ = some (.slice RA rk rc) := hr3.cell 1
      have c32 : wr.cell? ⟨w.heap.size + 1, 2, none⟩ = some (.slice RB sk sc) := hr3.cell 2
      have c70 : wr.cell? ⟨g7, 0, none⟩ = some (.bool (decide (redP ((near ps P Q (iq) : Nat) : Int) Q < 0))) := hr7.cell 0
      have c71 : wr.cell? ⟨g7, 1, none⟩ = some (.slice A7 k7 c7) := hr7.cell 1
      have c72 : wr.cell? ⟨g7, 2, none⟩ = some (.slice D7 l7 b7) := hr7.cell 2
      have z2 := hr2.lt
      have z3 := hr3.lt
      have z7 := hr7.lt
      go_wp2_with fail
      have qs0 : wr.cell? ⟨w.heap.size, 0, none⟩ = some (.slice (some ⟨pb, po, none⟩) n pc) := hr2.cell 0
      have qs1 : wr.cell? ⟨w.heap.size, 1, none⟩ = some (.slice RV rs.length vc) := hr2.cell 1
      have qs2 : wr.cell? ⟨w.heap.size + 1, 0, none⟩ = some (.bool ng) := hr3.cell 0
      have qs3 : wr.cell? ⟨w.heap.size + 1, 1, none⟩ = some (.slice RA rk rc) := hr3.cell 1
      have qs4 : wr.cell? ⟨w.heap.size + 1, 2, none⟩ = some (.slice RB sk sc) := hr3.cell 2
      have qs5 : wr.cell? ⟨g7, 0, none⟩ = some (.bool (decide (redP ((near ps P Q (iq) : Nat) : Int) Q < 0))) := hr7.cell 0
      have qs6 : wr.cell? ⟨g7, 1, none⟩ = some (.slice A7 k7 c7) := hr7.cell 1
      have qs7 : wr.cell? ⟨g7, 2, none⟩ = some (.slice D7 l7 b7) := hr7.cell 2
      have qs8 : wr.cell? ⟨pb, po + k, none⟩ = some (.int .i64 x) := (BB.cell (p := ⟨pb, _, none⟩) hpb).trans hxc
      have zs8 := Nat.lt_of_lt_of_le hpb BB.size
      go_region_held3 (fun w' => w'.cell? ⟨w.heap.size, 0, none⟩ = some (.slice (some ⟨pb, po, none⟩) n pc) ∧ w'.cell? ⟨w.heap.size, 1, none⟩ = some (.slice RV rs.length vc) ∧ w'.cell? ⟨w.heap.size + 1, 0, none⟩ = some (.bool ng) ∧ w'.cell? ⟨w.heap.size + 1, 1, none⟩ = some (.slice RA rk rc) ∧ w'.cell? ⟨w.heap.size + 1, 2, none⟩ = some (.slice RB sk sc) ∧ w'.cell? ⟨g7, 0, none⟩ = some (.bool (decide (redP ((near ps P Q (iq) : Nat) : Int) Q < 0))) ∧ w'.cell? ⟨g7, 1, none⟩ = some (.slice A7 k7 c7) ∧ w'.cell? ⟨g7, 2, none⟩ = some (.slice D7 l7 b7) ∧ w'.cell? ⟨pb, po + k, none⟩ = some (.int .i64 x))
        ((refine keep9c z2 z2 z3 z3 z3 z7 z7 z7 zs8 qs0 qs1 qs2 qs3 qs4 qs5 qs6 qs7 qs8 ?_; (repeat (first | with_reducible exact Below.refl _ _ | with_reducible refine bl_call h7 ?_ | with_reducible refine bl_call h6 ?_ | with_reducible refine bl_call h5 ?_ | with_reducible refine bl_call h4 ?_ | with_reducible refine bl_drew ?_)); done))
        (first
          | (go_at_call 9; ((with_reducible refine (lwhole_any x _ hx.1 hx.2).mono ?_);  rintro e w4 ⟨v4, rfl, hR4, h4⟩))
          | (go_at_call 8; ((with_reducible refine (qsub_any _ (.agg #[.bool ng, .slice RA rk rc, .slice RB sk sc]) x P 1 Q L _ (((hR4.ratA (by decide)).mono hL).below ?_) (hq0.below ?_) hL hM).mono ?_); (repeat (first | with_reducible exact Below.refl _ _ | with_reducible refine bl_call h7 ?_ | with_reducible refine bl_call h6 ?_ | with_reducible refine bl_call h5 ?_ | with_reducible refine bl_call h4 ?_ | with_reducible refine bl_drew ?_)); (repeat (first | with_reducible exact Below.refl _ _ | with_reducible refine bl_call h7 ?_ | with_reducible refine bl_call h6 ?_ | with_reducible refine bl_call h5 ?_ | with_reducible refine bl_call h4 ?_ | with_reducible refine bl_drew ?_)); rintro e w5 ⟨v5, rfl, hR5, h5⟩))
          | (go_at_call 7; ((with_reducible refine (qabs_any _ _ _ (L + L + (L + L) + 1) _ ((hR5.ratA hQ1).below ?_) hL2 hM2).mono ?_); (repeat (first | with_reducible exact Below.refl _ _ | with_reducible refine bl_call h7 ?_ | with_reducible refine bl_call h6 ?_ | with_reducible refine bl_call h5 ?_ | with_reducible refine bl_call h4 ?_ | with_reducible refine bl_drew ?_)); rintro e w6 ⟨v6, rfl, hR6, h6⟩; rw [HDR.out.1, HDR.out.2, HNX.out] at hR6; have hR6' := hR6; obtain ⟨m6, d6, e6, hm6, hd6, _, _⟩ := hR6'; subst e6; obtain ⟨A6, k6, c6, rfl⟩ := hm6.lim1.choose_spec.1.show_; obtain ⟨D6, l6, b6, rfl⟩ := hd6.lim1.choose_spec.1.show_; clear hm6 hd6))
          | (go_at_call 10; ((with_reducible refine (qcmp_any _ (.agg #[.bool (decide (redP ((near ps P Q (iq) : Nat) : Int) Q < 0)), .slice A7 k7 c7, .slice D7 l7 b7]) _ _ _ _ (L + L + (L + L) + 1) _ ((hR6.ratA (redQ_pos hQ)).below ?_) ((hv7.ratA (redQ_pos hQ)).below ?_) hL2 hM3).mono ?_); (repeat (first | with_reducible exact Below.refl _ _ | with_reducible refine bl_call h7 ?_ | with_reducible refine bl_call h6 ?_ | with_reducible refine bl_call h5 ?_ | with_reducible refine bl_call h4 ?_ | with_reducible refine bl_drew ?_)); (repeat (first | with_reducible exact Below.refl _ _ | with_reducible refine bl_call h7 ?_ | with_reducible refine bl_call h6 ?_ | with_reducible refine bl_call h5 ?_ | with_reducible refine bl_call h4 ?_ | with_reducible refine bl_drew ?_)); rintro e w7 ⟨rfl, h7⟩)))
      have hb : Below wr.heap.size wr w7 := bl_call h7 (bl_call h6 (bl_call h5 (bl_call h4 (bl_drew (Below.refl _ _)))))
      rw [cmp_red _ _ hQ]
      clear qs0 qs1 qs2 qs3 qs4 qs5 qs6 qs7 qs8 zs8 c20 c21 c30 c31 c32 c70 c71 c72 z2 z3 z7 h4 h5 h6 h7 hR4 hR5 hR6
      replace hr2 := hr2.keep hb
      replace hr3 := hr3.keep hb
      replace hr7 := hr7.keep hb
      replace hv7 := hv7.below hb
      replace BB : Below w.heap.size w w7 := BB.trans (hb.mono BB.size)
      clear hb hq0
      have hil := HIL.out k hlt
      have t1 : decide (cmpZ ((near ps P Q (k) : Nat) : Int) ((near ps P Q (iq) : Nat) : Int) < 0) = false := by
        refine decide_eq_false ?_
        unfold cmpZ; rw [if_neg (by omega)]; split <;> omega
      by_cases hki : k < iq
      · have t2 : (cmpZ ((near ps P Q (k) : Nat) : Int) ((near ps P Q (iq) : Nat) : Int) == 0) = false := by
          rw [beq_eq_false_iff_ne]
          unfold cmpZ; rw [if_neg (by omega), if_pos (by have := hil.2 hki; omega)]; omega
        have t3 : decide ((k : Int) < (iq : Int)) = true := decide_eq_true (by omega)
        generalize cmpZ ((near ps P Q (k) : Nat) : Int) ((near ps P Q (iq) : Nat) : Int) = cz at *
        clear hil
        have c20 : w7.cell? ⟨w.heap.size, 0, none⟩ = some (.slice (some ⟨pb, po, none⟩) n pc) := hr2.cell 0
        have c21 : w7.cell? ⟨w.heap.size, 1, none⟩ = some (.slice RV rs.length vc) := hr2.cell 1
        have c30 : w7.cell? ⟨w.heap.size + 1, 0, none⟩ = some (.bool ng) := hr3.cell 0
        have c31 : w7.cell? ⟨w.heap.size + 1, 1, none⟩ = some (.slice RA rk rc) := hr3.cell 1
        have c32 : w7.cell? ⟨w.heap.size + 1, 2, none⟩ = some (.slice RB sk sc) := hr3.cell 2
        have c70 : w7.cell? ⟨g7, 0, none⟩ = some (.bool (decide (redP ((near ps P Q (iq) : Nat) : Int) Q < 0))) := hr7.cell 0
        have c71 : w7.cell? ⟨g7, 1, none⟩ = some (.slice A7 k7 c7) := hr7.cell 1
        have c72 : w7.cell? ⟨g7, 2, none⟩ = some (.slice D7 l7 b7) := hr7.cell 2
        have z2 := hr2.lt
        have z3 := hr3.lt
        have z7 := hr7.lt
        go_wp2_with fail
        go_roundw
        case rel => exact ⟨k + 1, by omega, by go_num, hr2, hr3, hr7, hv7, BB⟩
        case measure => simp [intOf]; omega
      · have t3 : decide ((k : Int) < (iq : Int)) = false := decide_eq_false (by omega)
        generalize cmpZ ((near ps P Q (k) : Nat) : Int) ((near ps P Q (iq) : Nat) : Int) = cz at *
        clear hil
        have c20 : w7.cell? ⟨w.heap.size, 0, none⟩ = some (.slice (some ⟨pb, po, none⟩) n pc) := hr2.cell 0
        have c21 : w7.cell? ⟨w.heap.size, 1, none⟩ = some (.slice RV rs.length vc) := hr2.cell 1
        have c30 : w7.cell? ⟨w.heap.size + 1, 0, none⟩ = some (.bool ng) := hr3.cell 0
        have c31 : w7.cell? ⟨w.heap.size + 1, 1, none⟩ = some (.slice RA rk rc) := hr3.cell 1
        have c32 : w7.cell? ⟨w.heap.size + 1, 2, none⟩ = some (.slice RB sk sc) := hr3.cell 2
        have c70 : w7.cell? ⟨g7, 0, none⟩ = some (.bool (decide (redP ((near ps P Q (iq) : Nat) : Int) Q < 0))) := hr7.cell 0
        have c71 : w7.cell? ⟨g7, 1, none⟩ = some (.slice A7 k7 c7) := hr7.cell 1
        have c72 : w7.cell? ⟨g7, 2, none⟩ = some (.slice D7 l7 b7) := hr7.cell 2
        have z2 := hr2.lt
        have z3 := hr3.lt
        have z7 := hr7.lt
        go_wp2_with fail
        go_roundw
        case rel => exact ⟨k + 1, by omega, by go_num, hr2, hr3, hr7, hv7, BB⟩
        case measure => simp [intOf]; omega
    · obtain rfl : k = n := by omega
      have c20 : wr.cell? ⟨w.heap.size, 0, none⟩ = some (.slice (some ⟨pb, po, none⟩) k pc) := hr2.cell 0
      have c21 : wr.cell? ⟨w.heap.size, 1, none⟩ = some (.slice RV rs.length vc) := hr2.cell 1
      have c30 : wr.cell? ⟨w.heap.size + 1, 0, none⟩ = some (.bool ng) := hr3.cell 0
      have c31 : wr.cell? ⟨w.heap.size + 1, 1, none⟩ = some (.slice RA rk rc) := hr3.cell 1
      have c32 : wr.cell? ⟨w.heap.size + 1, 2, none⟩ = some (.slice RB sk sc) := hr3.cell 2
      have c70 : wr.cell? ⟨g7, 0, none⟩ = some (.bool (decide (redP ((near ps P Q (iq) : Nat) : Int) Q < 0))) := hr7.cell 0
      have c71 : wr.cell? ⟨g7, 1, none⟩ = some (.slice A7 k7 c7) := hr7.cell 1
      have c72 : wr.cell? ⟨g7, 2, none⟩ = some (.slice D7 l7 b7) := hr7.cell 2
      have z2 := hr2.lt
      have z3 := hr3.lt
      have z7 := hr7.lt
      go_wp2_with fail
      clear c20 c21 c30 c31 c32 c70 c71 c72 z2 z3 z7
      refine (lwhole_any 1 _ (by omega) (by omega)).mono ?_
      rintro e x81 ⟨vz, rfl, hvz, hb⟩
      replace BB : Below w.heap.size w x81 := BB.trans (hb.mono BB.size)
      clear hb
      have hz' := hvz
      obtain ⟨mz, dz, ez, hmz, hdz, _, _⟩ := hz'
      subst ez
      obtain ⟨Az, kz, cz, rfl⟩ := hmz.lim1.choose_spec.1.show_
      obtain ⟨Dz, lz, bz, rfl⟩ := hdz.lim1.choose_spec.1.show_
      clear hmz hdz
      go_wp2_with fail
      refine (qprint_any _ 1 1 1 1 2 _ (hvz.ratA (by decide)) (by decide) (by decide) (by decide +kernel) (by decide +kernel) (by decide) (by decide) (by decide)).mono ?_
      rintro e x82 ⟨rfl, hb⟩
      replace BB : Below w.heap.size w x82 := BB.trans (hb.mono BB.size)
      clear hb
      rw [show fracText 1 1 = [49] by decide +kernel]
      go_wp2_with fail
      go_ret
      exact ⟨rfl, BB⟩

set_option maxHeartbeats 8000000 in
theorem nst_err (pv rv : Value) (ng : Bool) (mv dv : Value) (ps rs : List Int) (la lb : List Nat) (w : World) (hp : Nums .i64 w pv ps) (hr : Nums .i64 w rv rs) (ha : Lim w mv la) (hb : Lim w dv lb) (h1 : la.length ≤ 20) (h2 : lb.length ≤ 20) (hE : gridE ps rs ≠ 0) :
    Calls Tryd.prog 3 #[.agg #[pv, rv], .agg #[.bool ng, mv, dv]] w fun e w' => e = .returned (.bool true) ∧ Below w.heap.size w w' := by
  obtain ⟨P, Q, hq⟩ : ∃ P Q, RatA w (.agg #[.bool ng, mv, dv]) P Q 20 := ⟨_, _, ng, mv, la, dv, lb, rfl, ha, hb, h1, h2, rfl, rfl⟩
  have HN := Lib.hid (fun (W : World) (h : Below w.heap.size w W) => near_no pv rv (.agg #[.bool ng, mv, dv]) ps rs P Q 20 W (hp.below h) (hr.below h) (hq.below h) hE)
  have HV := Lib.hid (fun (W : World) (h : Below w.heap.size w W) => gvalid_any pv rv ps rs W (hp.below h) (hr.below h))
  have hne : (gridE ps rs != 0) = true := by rw [bne_iff_ne]; exact hE
  have heq : (gridE ps rs == gridE ps rs) = true := by simp
  obtain ⟨PA, pc, rfl, hpc, hpm, hps⟩ := hp
  obtain ⟨RV, vc, rfl, hvc, hvm, hvs⟩ := hr
  obtain ⟨⟨RA, rc, rfl, _, _, _⟩, _⟩ := id ha
  obtain ⟨⟨RB, sc, rfl, _, _, _⟩, _⟩ := id hb
  obtain ⟨rk, hrk⟩ : ∃ n, la.length = n := ⟨_, rfl⟩
  obtain ⟨sk, hsk⟩ : ∃ n, lb.length = n := ⟨_, rfl⟩
  rw [hrk] at HN h1 ⊢
  rw [hsk] at HN h2 ⊢
  generalize gridE ps rs = E at *
  have g1 : decide (20 < (rk : Int)) = false := decide_eq_false (by omega)
  have g2 : decide (20 < (sk : Int)) = false := decide_eq_false (by omega)
  clear hE hps hvs hq hrk hsk ha hb
  obtain ⟨W0, hW0⟩ : ∃ W0 : World, W0 = (w.alloc (.cells #[.slice PA ps.length pc, .slice RV rs.length vc] 24)).alloc (.cells #[.bool ng, .slice RA rk rc, .slice RB sk sc] 30) := ⟨_, rfl⟩
  have r0 : Row W0 w.heap.size 24 [.slice PA ps.length pc, .slice RV rs.length vc] := by
    rw [hW0]
    have := Row.alloc (Row.new w 24 [.slice PA ps.length pc, .slice RV rs.length vc]) (.cells #[.bool ng, .slice RA rk rc, .slice RB sk sc] 30)
    simpa using this
  have r1 : Row W0 (w.heap.size + 1) 30 [.bool ng, .slice RA rk rc, .slice RB sk sc] := by
    rw [hW0]
    have := Row.new (w.alloc (.cells #[.slice PA ps.length pc, .slice RV rs.length vc] 24)) 30 [.bool ng, .slice RA rk rc, .slice RB sk sc]
    simpa using this
  have B0 : Below w.heap.size w W0 := by rw [hW0]; exact (((Below.refl _ _).alloc (Nat.le_refl _) _).alloc (by simp) _)
  have a0 : W0.cell? ⟨w.heap.size, 0, none⟩ = some (.slice PA ps.length pc) := r0.cell 0
  have a1 : W0.cell? ⟨w.heap.size, 1, none⟩ = some (.slice RV rs.length vc) := r0.cell 1
  have b0 : W0.cell? ⟨w.heap.size + 1, 0, none⟩ = some (.bool ng) := r1.cell 0
  have b1 : W0.cell? ⟨w.heap.size + 1, 1, none⟩ = some (.slice RA rk rc) := r1.cell 1
  have b2 : W0.cell? ⟨w.heap.size + 1, 2, none⟩ = some (.slice RB sk sc) := r1.cell 2
  go_enter Tryd.func3, Tryd.ntmps3
  go_wp2_with fail
  rw [← hW0]
  clear hW0
  go_wp2_with fail
  refine (HN.out _ B0).mono ?_
  rintro e w1 ⟨rfl, hb⟩
  have B1 := B0.trans (hb.mono B0.size)
  have q0 := r0.keep hb
  have c0 : w1.cell? ⟨w.heap.size, 0, none⟩ = some (.slice PA ps.length pc) := q0.cell 0
  have c1 : w1.cell? ⟨w.heap.size, 1, none⟩ = some (.slice RV rs.length vc) := q0.cell 1
  clear hb
  go_wp2_with fail
  refine (HV.out _ B1).mono ?_
  rintro e w2 ⟨rfl, hb⟩
  go_wp2_with fail
  go_ret
  exact ⟨rfl, B1.trans (hb.mono B1.size)⟩

set_option maxHeartbeats 8000000 in
theorem nst_long (pv rv : Value) (ng : Bool) (mv dv : Value) (ps rs : List Int) (la lb : List Nat) (w : World) (hp : Nums .i64 w pv ps) (hr : Nums .i64 w rv rs) (ha : Lim w mv la) (hb : Lim w dv lb) (h : 20 < la.length ∨ 20 < lb.length) :
    Calls Tryd.prog 3 #[.agg #[pv, rv], .agg #[.bool ng, mv, dv]] w fun e w' => e = .returned (.bool true) ∧ Below w.heap.size w w' := by
  obtain ⟨PA, pc, rfl, hpc, hpm, hps⟩ := hp
  obtain ⟨RV, vc, rfl, hvc, hvm, hvs⟩ := hr
  obtain ⟨⟨RA, rc, rfl, _, _, _⟩, _⟩ := ha
  obtain ⟨⟨RB, sc, rfl, _, _, _⟩, _⟩ := hb
  obtain ⟨rk, hrk⟩ : ∃ n, la.length = n := ⟨_, rfl⟩
  obtain ⟨sk, hsk⟩ : ∃ n, lb.length = n := ⟨_, rfl⟩
  rw [hrk, hsk] at h ⊢
  clear hps hvs hrk hsk
  obtain ⟨W0, hW0⟩ : ∃ W0 : World, W0 = (w.alloc (.cells #[.slice PA ps.length pc, .slice RV rs.length vc] 24)).alloc (.cells #[.bool ng, .slice RA rk rc, .slice RB sk sc] 30) := ⟨_, rfl⟩
  have r0 : Row W0 w.heap.size 24 [.slice PA ps.length pc, .slice RV rs.length vc] := by
    rw [hW0]
    have := Row.alloc (Row.new w 24 [.slice PA ps.length pc, .slice RV rs.length vc]) (.cells #[.bool ng, .slice RA rk rc, .slice RB sk sc] 30)
    simpa using this
  have r1 : Row W0 (w.heap.size + 1) 30 [.bool ng, .slice RA rk rc, .slice RB sk sc] := by
    rw [hW0]
    have := Row.new (w.alloc (.cells #[.slice PA ps.length pc, .slice RV rs.length vc] 24)) 30 [.bool ng, .slice RA rk rc, .slice RB sk sc]
    simpa using this
  have B0 : Below w.heap.size w W0 := by rw [hW0]; exact (((Below.refl _ _).alloc (Nat.le_refl _) _).alloc (by simp) _)
  have b0 : W0.cell? ⟨w.heap.size + 1, 0, none⟩ = some (.bool ng) := r1.cell 0
  have b1 : W0.cell? ⟨w.heap.size + 1, 1, none⟩ = some (.slice RA rk rc) := r1.cell 1
  have b2 : W0.cell? ⟨w.heap.size + 1, 2, none⟩ = some (.slice RB sk sc) := r1.cell 2
  by_cases h1 : 20 < rk
  · have g1 : decide (20 < (rk : Int)) = true := decide_eq_true (by omega)
    clear h
    go_enter Tryd.func3, Tryd.ntmps3
    go_wp2_with fail
    rw [← hW0]
    clear hW0
    go_wp2_with fail
    go_ret
    exact ⟨rfl, B0⟩
  · have g1 : decide (20 < (rk : Int)) = false := decide_eq_false (by omega)
    have g2 : decide (20 < (sk : Int)) = true := decide_eq_true (by omega)
    clear h
    go_enter Tryd.func3, Tryd.ntmps3
    go_wp2_with fail
    rw [← hW0]
    clear hW0
    go_wp2_with fail
    go_ret
    exact ⟨rfl, B0⟩

theorem nst_all (pv rv : Value) (ng : Bool) (mv dv : Value) (ps rs : List Int) (la lb : List Nat) (w : World) (hp : Nums .i64 w pv ps) (hr : Nums .i64 w rv rs) (ha : Lim w mv la) (hb : Lim w dv lb) :
    Calls Tryd.prog 3 #[.agg #[pv, rv], .agg #[.bool ng, mv, dv]] w fun e w' => e = .returned (.bool true) ∧ Below w.heap.size w w' := by
  by_cases h1 : la.length ≤ 20
  · by_cases h2 : lb.length ≤ 20
    · by_cases hE : gridE ps rs = 0
      · exact nst_ok pv rv ng mv dv ps rs la lb w hp hr ha hb h1 h2 hE
      · exact nst_err pv rv ng mv dv ps rs la lb w hp hr ha hb h1 h2 hE
    · exact nst_long pv rv ng mv dv ps rs la lb w hp hr ha hb (.inr (by omega))
  · exact nst_long pv rv ng mv dv ps rs la lb w hp hr ha hb (.inl (by omega))
end Go.Proofs.YtdmjgildgjpmcaaDoor
