/- The walk of Near (package examboardref18). -/
import Derived.Test.YtdmjgildgjpmcaaRg1
import Derived.Test.YtdmjgildgjpmcaaGrN
namespace Go.Proofs.Ytdmjgildgjpmcaa
open Go.RowKit
set_option linter.unusedVariables false
set_option maxRecDepth 100000

set_option maxHeartbeats 16000000 in
theorem rnear_ok (pv rv v : Value) (ps rs : List Int) (P : Int) (Q L : Nat) (w : World) (hp : Nums .i64 w pv ps) (hr : Nums .i64 w rv rs) (hq : RatA w v P Q L) (hL : 2 ≤ L) (hM : L ≤ 1000000) (hE : gridE ps rs = 0) :
    Calls Try.prog 25 #[.agg #[pv, rv], v] w fun e w' => e = .returned (.tuple #[.int .i64 ((nearI (near ps P Q) (ps.length - 1) : Nat) : Int), .int .i64 0]) ∧ Below w.heap.size w w' := by
  obtain ⟨z1, z2, z3, z4, _⟩ := gridE_zero hE
  have hQ := hq.pos
  have hQ0 := hQ
  have HZ : Hid (∀ j, j < ps.length → -100000 ≤ ps.getD j 0 ∧ ps.getD j 0 ≤ 100000) := fun j hj => by have := z4 j hj; omega
  have HV := Lib.hid (fun (W : World) (h : Below w.heap.size w W) => rgvalid_any pv rv ps rs W (hp.below h) (hr.below h))
  have HE := Lib.hid hE
  obtain ⟨PA, pc, rfl, hpc, hpm, hps⟩ := hp
  obtain ⟨RV, vc, rfl, hvc, hvm, hvs⟩ := hr
  obtain ⟨ng, RA, rk, rc, RB, sk, sc, rfl⟩ := hq.show_
  obtain ⟨pb, po, rfl, hpb, hcell⟩ := hps.num z2
  unfold maxLen at hpm
  obtain ⟨n, hnn⟩ : ∃ n, ps.length = n := ⟨_, rfl⟩
  have n0 : 0 < n := by omega
  have HN := Lib.hid hnn
  rw [hnn] at hps hpc z1 z2 HZ HV hcell ⊢
  clear hE z3 z4 hnn hvs hvc hps
  obtain ⟨W0, hW0⟩ : ∃ W0 : World, W0 = (w.alloc (.cells #[.slice (some ⟨pb, po, none⟩) n pc, .slice RV rs.length vc] 24)).alloc (.cells #[.bool ng, .slice RA rk rc, .slice RB sk sc] 42) := ⟨_, rfl⟩
  have r0 : Row W0 w.heap.size 24 [.slice (some ⟨pb, po, none⟩) n pc, .slice RV rs.length vc] := by
    rw [hW0]
    have := Row.alloc (Row.new w 24 [.slice (some ⟨pb, po, none⟩) n pc, .slice RV rs.length vc]) (.cells #[.bool ng, .slice RA rk rc, .slice RB sk sc] 42)
    simpa using this
  have r1 : Row W0 (w.heap.size + 1) 42 [.bool ng, .slice RA rk rc, .slice RB sk sc] := by
    rw [hW0]
    have := Row.new (w.alloc (.cells #[.slice (some ⟨pb, po, none⟩) n pc, .slice RV rs.length vc] 24)) 42 [.bool ng, .slice RA rk rc, .slice RB sk sc]
    simpa using this
  have B0 : Below w.heap.size w W0 := by rw [hW0]; exact (((Below.refl _ _).alloc (Nat.le_refl _) _).alloc (by simp) _)
  go_enter Try.func25, Try.ntmps25
  go_wp2_with fail
  rw [← hW0]
  clear hW0
  have BB := B0
  have hr2 := r0
  have hr3 := r1
  clear B0 r0 r1
  have c20 : W0.cell? ⟨w.heap.size, 0, none⟩ = some (.slice (some ⟨pb, po, none⟩) n pc) := hr2.cell 0
  have c21 : W0.cell? ⟨w.heap.size, 1, none⟩ = some (.slice RV rs.length vc) := hr2.cell 1
  have c30 : W0.cell? ⟨w.heap.size + 1, 0, none⟩ = some (.bool ng) := hr3.cell 0
  have c31 : W0.cell? ⟨w.heap.size + 1, 1, none⟩ = some (.slice RA rk rc) := hr3.cell 1
  have c32 : W0.cell? ⟨w.heap.size + 1, 2, none⟩ = some (.slice RB sk sc) := hr3.cell 2
  have z2 := hr2.lt
  have z3 := hr3.lt
  go_wp2_with fail
  clear c20 c21 c30 c31 c32 z2 z3
  refine (HV.out _ BB).mono ?_
  rintro e x1 ⟨rfl, hb⟩
  replace hr2 := hr2.keep hb
  replace hr3 := hr3.keep hb
  replace BB : Below w.heap.size w x1 := BB.trans (hb.mono BB.size)
  clear hb
  rw [HE.out]
  have h0n : (0 : Int) < (n : Int) := by omega
  have h0m : 0 < n := n0
  have hx := HZ.out 0 n0
  have hq0 := hq.below BB
  have hzz := BB.size
  obtain ⟨x, hxe⟩ : ∃ x, ps.getD (0) 0 = x := ⟨_, rfl⟩
  have HNX : Hid ((x * (Q : Int) - P).natAbs = near ps P Q (0)) := by unfold Hid near; rw [hxe]
  have hxc := hcell (0) (by omega)
  rw [hxe] at hx hxc
  clear hxe
  have c20 : x1.cell? ⟨w.heap.size, 0, none⟩ = some (.slice (some ⟨pb, po, none⟩) n pc) := hr2.cell 0
  have c21 : x1.cell? ⟨w.heap.size, 1, none⟩ = some (.slice RV rs.length vc) := hr2.cell 1
  have c30 : x1.cell? ⟨w.heap.size + 1, 0, none⟩ = some (.bool ng) := hr3.cell 0
  have c31 : x1.cell? ⟨w.heap.size + 1, 1, none⟩ = some (.slice RA rk rc) := hr3.cell 1
  have c32 : x1.cell? ⟨w.heap.size + 1, 2, none⟩ = some (.slice RB sk sc) := hr3.cell 2
  have z2 := hr2.lt
  have z3 := hr3.lt
  go_wp2_with fail
  have qs0 : x1.cell? ⟨w.heap.size, 0, none⟩ = some (.slice (some ⟨pb, po, none⟩) n pc) := hr2.cell 0
  have qs1 : x1.cell? ⟨w.heap.size, 1, none⟩ = some (.slice RV rs.length vc) := hr2.cell 1
  have qs2 : x1.cell? ⟨w.heap.size + 1, 0, none⟩ = some (.bool ng) := hr3.cell 0
  have qs3 : x1.cell? ⟨w.heap.size + 1, 1, none⟩ = some (.slice RA rk rc) := hr3.cell 1
  have qs4 : x1.cell? ⟨w.heap.size + 1, 2, none⟩ = some (.slice RB sk sc) := hr3.cell 2
  have zs0 := hr2.lt
  have zs1 := hr3.lt
  have qs5 : x1.cell? ⟨pb, po, none⟩ = some (.int .i64 x) := (BB.cell (p := ⟨pb, _, none⟩) hpb).trans hxc
  have zs2 := Nat.lt_of_lt_of_le hpb BB.size
  go_cut [8] (fun s0 wx => ∃ (g : Nat) (A8 : Option Addr) (k8 c8 : Nat) (D8 : Option Addr) (l8 b8 : Nat), s0 = .pointer (some ⟨g, 0, none⟩) ∧ x1.heap.size ≤ g ∧ Row wx g 42 [.bool (decide (redP ((near ps P Q (0) : Nat) : Int) Q < 0)), .slice A8 k8 c8, .slice D8 l8 b8] ∧ RatF x1.heap.size wx (.agg #[.bool (decide (redP ((near ps P Q (0) : Nat) : Int) Q < 0)), .slice A8 k8 c8, .slice D8 l8 b8]) (redP ((near ps P Q (0) : Nat) : Int) Q) (redQ ((near ps P Q (0) : Nat) : Int) Q) (L + L + (L + L) + 1) ∧ Below x1.heap.size x1 wx)
  case first =>
    go_region_held3 (fun w' => w'.cell? ⟨w.heap.size, 0, none⟩ = some (.slice (some ⟨pb, po, none⟩) n pc) ∧ w'.cell? ⟨w.heap.size, 1, none⟩ = some (.slice RV rs.length vc) ∧ w'.cell? ⟨w.heap.size + 1, 0, none⟩ = some (.bool ng) ∧ w'.cell? ⟨w.heap.size + 1, 1, none⟩ = some (.slice RA rk rc) ∧ w'.cell? ⟨w.heap.size + 1, 2, none⟩ = some (.slice RB sk sc) ∧ w'.cell? ⟨pb, po, none⟩ = some (.int .i64 x))
      ((refine keep6c zs0 zs0 zs1 zs1 zs1 zs2 qs0 qs1 qs2 qs3 qs4 qs5 ?_; (repeat (first | with_reducible exact Below.refl _ _ | ((with_reducible refine bl_set ?_ ?_ _); rotate_left; (first | exact Nat.le_refl _ | exact gz3 | exact gz4 | exact gz5)) | with_reducible refine bl_call h5 ?_ | with_reducible refine bl_call h4 ?_ | with_reducible refine bl_call h3 ?_ | with_reducible refine bl_alloc ?_ _ | with_reducible refine bl_drew ?_)); done))
      (first
        | (go_at_call 35; ((with_reducible refine (rwhole_any x _ (by omega) (by omega)).mono ?_);  rintro e w3 ⟨v3, rfl, hv3, h3⟩; have gz3 : x1.heap.size ≤ w3.heap.size := (bl_call h3 (by (repeat (first | with_reducible exact Below.refl _ _ | ((with_reducible refine bl_set ?_ ?_ _); rotate_left; (first | exact Nat.le_refl _ | exact gz3 | exact gz4 | exact gz5)) | with_reducible refine bl_call h5 ?_ | with_reducible refine bl_call h4 ?_ | with_reducible refine bl_call h3 ?_ | with_reducible refine bl_alloc ?_ _ | with_reducible refine bl_drew ?_))) : Below x1.heap.size x1 w3).size; (first | (replace RR := RR.keep h3) | (have R0 := Row.drew (Row.new x1 42 [.bool false, .slice none 0 0, .slice none 0 0]); have RR := R0.keep h3; clear R0) | (have R0 := Row.new x1.drew 42 [.bool false, .slice none 0 0, .slice none 0 0]; have RR := R0.keep h3; clear R0) | (have R0 := Row.new x1 42 [.bool false, .slice none 0 0, .slice none 0 0]; have RR := R0.keep h3; clear R0) | (have R0 := Row.new w4 42 [.bool false, .slice none 0 0, .slice none 0 0]; have RR := R0.keep h3; clear R0) | (have R0 := Row.new w5 42 [.bool false, .slice none 0 0, .slice none 0 0]; have RR := R0.keep h3; clear R0) | skip)))
        | (go_at_call 40; ((with_reducible refine (r3sub_any _ _ x P 1 Q L _ (((hv3.ratA (by decide)).mono hL).below ?_) (hq0.below ?_) hL (by omega)).mono ?_); (repeat (first | with_reducible exact Below.refl _ _ | ((with_reducible refine bl_set ?_ ?_ _); rotate_left; (first | exact Nat.le_refl _ | exact gz3 | exact gz4 | exact gz5)) | with_reducible refine bl_call h5 ?_ | with_reducible refine bl_call h4 ?_ | with_reducible refine bl_call h3 ?_ | with_reducible refine bl_alloc ?_ _ | with_reducible refine bl_drew ?_)); (repeat (first | with_reducible exact Below.refl _ _ | ((with_reducible refine bl_set ?_ ?_ _); rotate_left; (first | exact Nat.le_refl _ | exact gz3 | exact gz4 | exact gz5)) | with_reducible refine bl_call h5 ?_ | with_reducible refine bl_call h4 ?_ | with_reducible refine bl_call h3 ?_ | with_reducible refine bl_alloc ?_ _ | with_reducible refine bl_drew ?_)); rintro e w4 ⟨v4, rfl, hv4, h4⟩; have gz4 : x1.heap.size ≤ w4.heap.size := (bl_call h4 (by (repeat (first | with_reducible exact Below.refl _ _ | ((with_reducible refine bl_set ?_ ?_ _); rotate_left; (first | exact Nat.le_refl _ | exact gz3 | exact gz4 | exact gz5)) | with_reducible refine bl_call h5 ?_ | with_reducible refine bl_call h4 ?_ | with_reducible refine bl_call h3 ?_ | with_reducible refine bl_alloc ?_ _ | with_reducible refine bl_drew ?_))) : Below x1.heap.size x1 w4).size; (first | (replace RR := RR.keep h4) | (have R0 := Row.drew (Row.new x1 42 [.bool false, .slice none 0 0, .slice none 0 0]); have RR := R0.keep h4; clear R0) | (have R0 := Row.new x1.drew 42 [.bool false, .slice none 0 0, .slice none 0 0]; have RR := R0.keep h4; clear R0) | (have R0 := Row.new x1 42 [.bool false, .slice none 0 0, .slice none 0 0]; have RR := R0.keep h4; clear R0) | (have R0 := Row.new w3 42 [.bool false, .slice none 0 0, .slice none 0 0]; have RR := R0.keep h4; clear R0) | (have R0 := Row.new w5 42 [.bool false, .slice none 0 0, .slice none 0 0]; have RR := R0.keep h4; clear R0) | skip)))
        | (go_at_call 44; ((with_reducible refine (r3abs_any _ _ _ (L + L + (L + L) + 1) _ ((hv4.ratA (redQ_pos (by omega))).below ?_) (by omega) (by omega)).mono ?_); (repeat (first | with_reducible exact Below.refl _ _ | ((with_reducible refine bl_set ?_ ?_ _); rotate_left; (first | exact Nat.le_refl _ | exact gz3 | exact gz4 | exact gz5)) | with_reducible refine bl_call h5 ?_ | with_reducible refine bl_call h4 ?_ | with_reducible refine bl_call h3 ?_ | with_reducible refine bl_alloc ?_ _ | with_reducible refine bl_drew ?_)); rintro e w5 ⟨v5, rfl, hR5, h5⟩; have gz5 : x1.heap.size ≤ w5.heap.size := (bl_call h5 (by (repeat (first | with_reducible exact Below.refl _ _ | ((with_reducible refine bl_set ?_ ?_ _); rotate_left; (first | exact Nat.le_refl _ | exact gz3 | exact gz4 | exact gz5)) | with_reducible refine bl_call h5 ?_ | with_reducible refine bl_call h4 ?_ | with_reducible refine bl_call h3 ?_ | with_reducible refine bl_alloc ?_ _ | with_reducible refine bl_drew ?_))) : Below x1.heap.size x1 w5).size; (first | (have zg := RR.lt; replace RR := RR.keep h5) | (have R0 := Row.drew (Row.new x1 42 [.bool false, .slice none 0 0, .slice none 0 0]); have zg := R0.lt; have RR := R0.keep h5) | (have R0 := Row.new x1.drew 42 [.bool false, .slice none 0 0, .slice none 0 0]; have zg := R0.lt; have RR := R0.keep h5) | (have R0 := Row.new x1 42 [.bool false, .slice none 0 0, .slice none 0 0]; have zg := R0.lt; have RR := R0.keep h5) | (have R0 := Row.new w3 42 [.bool false, .slice none 0 0, .slice none 0 0]; have zg := R0.lt; have RR := R0.keep h5) | (have R0 := Row.new w4 42 [.bool false, .slice none 0 0, .slice none 0 0]; have zg := R0.lt; have RR := R0.keep h5) | skip); rw [(dist_red x P Q hQ0).1, (dist_red x P Q hQ0).2, HNX.out] at hR5; have hR5' := hR5; obtain ⟨m5, d5, e5, hm5, hd5, _, _⟩ := hR5'; subst e5; obtain ⟨A8, k8, c8, rfl⟩ := hm5.lim1.choose_spec.1.show_; obtain ⟨D8, l8, b8, rfl⟩ := hd5.lim1.choose_spec.1.show_; clear hm5 hd5; (try (have e0 := RR.cell 0; have e1 := RR.cell 1; have e2 := RR.cell 2; simp only [List.getElem?_cons_zero, List.getElem?_cons_succ] at e0 e1 e2; have f0 := RR.frozen 0; have f1 := RR.frozen 1; have f2 := RR.frozen 2)))))
    all_goals go_wp2_with fail
    all_goals go_meet
    all_goals go_light
    all_goals
      refine ⟨_, A8, k8, c8, D8, l8, b8, rfl, ?_, ?_, ?_, ?_⟩
      · (first | exact Nat.le_refl _ | exact gz3 | exact gz4 | exact gz5)
      · (first | exact Row.new _ _ _ | exact (((RR.set_ 0 _).set_ 1 _).set_ 2 _))
      · (first | exact (hR5.below (lit_below _ _)).base (bl_sz (by (repeat (first | with_reducible exact Below.refl _ _ | ((with_reducible refine bl_set ?_ ?_ _); rotate_left; (first | exact Nat.le_refl _ | exact gz3 | exact gz4 | exact gz5)) | with_reducible refine bl_call h5 ?_ | with_reducible refine bl_call h4 ?_ | with_reducible refine bl_call h3 ?_ | with_reducible refine bl_alloc ?_ _ | with_reducible refine bl_drew ?_)))) | exact ((((hR5.set_ zg _).set_ zg _).set_ zg _)).base (bl_sz (by (repeat (first | with_reducible exact Below.refl _ _ | ((with_reducible refine bl_set ?_ ?_ _); rotate_left; (first | exact Nat.le_refl _ | exact gz3 | exact gz4 | exact gz5)) | with_reducible refine bl_call h5 ?_ | with_reducible refine bl_call h4 ?_ | with_reducible refine bl_call h3 ?_ | with_reducible refine bl_alloc ?_ _ | with_reducible refine bl_drew ?_)))))
      · (repeat (first | with_reducible exact Below.refl _ _ | ((with_reducible refine bl_set ?_ ?_ _); rotate_left; (first | exact Nat.le_refl _ | exact gz3 | exact gz4 | exact gz5)) | with_reducible refine bl_call h5 ?_ | with_reducible refine bl_call h4 ?_ | with_reducible refine bl_call h3 ?_ | with_reducible refine bl_alloc ?_ _ | with_reducible refine bl_drew ?_))
  case rest =>
  obtain ⟨g8, A8, k8, c8, D8, l8, b8, rfl, hg8, hr8, hv8, hbc⟩ := hcut
  clear qs0 qs1 qs2 qs3 qs4 qs5 zs0 zs1 zs2 c20 c21 c30 c31 c32 z2 z3
  obtain ⟨x2, hx2⟩ : ∃ x, x = wc := ⟨_, rfl⟩
  rw [← hx2] at hr8 hv8 hbc ⊢
  clear hx2
  have o2_8 : w.heap.size < g8 := by have := hr2.lt; omega
  have o3_8 : w.heap.size + 1 < g8 := by have := hr3.lt; omega
  have ob_8 : w.heap.size ≤ g8 := by have := BB.size; omega
  replace hr2 := hr2.keep hbc
  replace hr3 := hr3.keep hbc
  replace BB : Below w.heap.size w x2 := BB.trans (hbc.mono BB.size)
  clear hbc
  clear hq0 hx hxc
  go_wp2_with fail
  go_loopw [7, 9] (fun bi i wr => ∃ (k : Nat) (A8 : Option Addr) (k8 c8 : Nat) (D8 : Option Addr) (l8 b8 : Nat), 1 ≤ k ∧ k ≤ n ∧ i = .int .i64 (k : Int) ∧ bi = .int .i64 ((nearI (near ps P Q) (k - 1) : Nat) : Int) ∧ Row wr w.heap.size 24 [.slice (some ⟨pb, po, none⟩) n pc, .slice RV rs.length vc] ∧ Row wr (w.heap.size + 1) 42 [.bool ng, .slice RA rk rc, .slice RB sk sc] ∧ Row wr g8 42 [.bool (decide (redP ((near ps P Q (nearI (near ps P Q) (k - 1)) : Nat) : Int) Q < 0)), .slice A8 k8 c8, .slice D8 l8 b8] ∧ RatF w.heap.size wr (.agg #[.bool (decide (redP ((near ps P Q (nearI (near ps P Q) (k - 1)) : Nat) : Int) Q < 0)), .slice A8 k8 c8, .slice D8 l8 b8]) (redP ((near ps P Q (nearI (near ps P Q) (k - 1)) : Nat) : Int) Q) (redQ ((near ps P Q (nearI (near ps P Q) (k - 1)) : Nat) : Int) Q) (L + L + (L + L) + 1) ∧ Below w.heap.size w wr) (fun _ i _ => n - (intOf i).toNat)
  case atStart => exact ⟨1, A8, k8, c8, D8, l8, b8, by omega, by omega, rfl, rfl, hr2, hr3, hr8, hv8.base hzz, BB⟩
  case round =>
    clear hr2 hr3 hr8 hv8 BB
    obtain ⟨k, A8, k8, c8, D8, l8, b8, hk1, hk, rfl, rfl, hr2, hr3, hr8, hv8, BB⟩ := hrel
    by_cases hlt : k < n
    · obtain ⟨d8, hd8⟩ : ∃ d, ((near ps P Q (nearI (near ps P Q) (k - 1)) : Nat) : Int) = d := ⟨_, rfl⟩
      have HD8 := Lib.hid hd8
      rw [hd8] at hr8 hv8
      clear hd8
      have BB0 := BB
      have hz8 := hr8.lt
      have hkI : (k : Int) < (n : Int) := by omega
      have hx := HZ.out k hlt
      have hq0 := hq.below BB
      obtain ⟨x, hxe⟩ : ∃ x, ps.getD (k) 0 = x := ⟨_, rfl⟩
      have HNX : Hid ((x * (Q : Int) - P).natAbs = near ps P Q (k)) := by unfold Hid near; rw [hxe]
      have hxc := hcell (k) (by omega)
      rw [hxe] at hx hxc
      clear hxe
      have c20 : wr.cell? ⟨w.heap.size, 0, none⟩ = some (.slice (some ⟨pb, po, none⟩) n pc) := hr2.cell 0
      have c21 : wr.cell? ⟨w.heap.size, 1, none⟩ = some (.slice RV rs.length vc) := hr2.cell 1
      have c30 : wr.cell? ⟨w.heap.size + 1, 0, none⟩ = some (.bool ng) := hr3.cell 0
      have c31 : wr.cell? ⟨w.heap.size + 1, 1, none⟩ = some (.slice RA rk rc) := hr3.cell 1
      have c32 : wr.cell? ⟨w.heap.size + 1, 2, none⟩ = some (.slice RB sk sc) := hr3.cell 2
      have c80 : wr.cell? ⟨g8, 0, none⟩ = some (.bool (decide (redP d8 Q < 0))) := hr8.cell 0
      have c81 : wr.cell? ⟨g8, 1, none⟩ = some (.slice A8 k8 c8) := hr8.cell 1
      have c82 : wr.cell? ⟨g8, 2, none⟩ = some (.slice D8 l8 b8) := hr8.cell 2
      have f80 : wr.frozen? ⟨g8, 0, none⟩ = false := hr8.frozen 0
      have f81 : wr.frozen? ⟨g8, 1, none⟩ = false := hr8.frozen 1
      have f82 : wr.frozen? ⟨g8, 2, none⟩ = false := hr8.frozen 2
      have z2 := hr2.lt
      have z3 := hr3.lt
      have z8 := hr8.lt
      go_wp2_with fail
      have qs0 : wr.cell? ⟨w.heap.size, 0, none⟩ = some (.slice (some ⟨pb, po, none⟩) n pc) := hr2.cell 0
      have qs1 : wr.cell? ⟨w.heap.size, 1, none⟩ = some (.slice RV rs.length vc) := hr2.cell 1
      have qs2 : wr.cell? ⟨w.heap.size + 1, 0, none⟩ = some (.bool ng) := hr3.cell 0
      have qs3 : wr.cell? ⟨w.heap.size + 1, 1, none⟩ = some (.slice RA rk rc) := hr3.cell 1
      have qs4 : wr.cell? ⟨w.heap.size + 1, 2, none⟩ = some (.slice RB sk sc) := hr3.cell 2
      have zs0 := hr2.lt
      have zs1 := hr3.lt
      have qs5 : wr.cell? ⟨pb, po + k, none⟩ = some (.int .i64 x) := (BB.cell (p := ⟨pb, _, none⟩) hpb).trans hxc
      have zs2 := Nat.lt_of_lt_of_le hpb BB.size
      go_cut [10] (fun s0 wx => ∃ (g : Nat) (A10 : Option Addr) (k10 c10 : Nat) (D10 : Option Addr) (l10 b10 : Nat), s0 = .pointer (some ⟨g, 0, none⟩) ∧ wr.heap.size ≤ g ∧ Row wx g 42 [.bool (decide (redP ((near ps P Q (k) : Nat) : Int) Q < 0)), .slice A10 k10 c10, .slice D10 l10 b10] ∧ RatF wr.heap.size wx (.agg #[.bool (decide (redP ((near ps P Q (k) : Nat) : Int) Q < 0)), .slice A10 k10 c10, .slice D10 l10 b10]) (redP ((near ps P Q (k) : Nat) : Int) Q) (redQ ((near ps P Q (k) : Nat) : Int) Q) (L + L + (L + L) + 1) ∧ Below wr.heap.size wr wx)
      case first =>
        go_region_held3 (fun w' => w'.cell? ⟨w.heap.size, 0, none⟩ = some (.slice (some ⟨pb, po, none⟩) n pc) ∧ w'.cell? ⟨w.heap.size, 1, none⟩ = some (.slice RV rs.length vc) ∧ w'.cell? ⟨w.heap.size + 1, 0, none⟩ = some (.bool ng) ∧ w'.cell? ⟨w.heap.size + 1, 1, none⟩ = some (.slice RA rk rc) ∧ w'.cell? ⟨w.heap.size + 1, 2, none⟩ = some (.slice RB sk sc) ∧ w'.cell? ⟨pb, po + k, none⟩ = some (.int .i64 x))
          ((refine keep6c zs0 zs0 zs1 zs1 zs1 zs2 qs0 qs1 qs2 qs3 qs4 qs5 ?_; (repeat (first | with_reducible exact Below.refl _ _ | ((with_reducible refine bl_set ?_ ?_ _); rotate_left; (first | exact Nat.le_refl _ | exact gz3 | exact gz4 | exact gz5)) | with_reducible refine bl_call h5 ?_ | with_reducible refine bl_call h4 ?_ | with_reducible refine bl_call h3 ?_ | with_reducible refine bl_alloc ?_ _ | with_reducible refine bl_drew ?_)); done))
          (first
            | (go_at_call 35; ((with_reducible refine (rwhole_any x _ (by omega) (by omega)).mono ?_);  rintro e w3 ⟨v3, rfl, hv3, h3⟩; have gz3 : wr.heap.size ≤ w3.heap.size := (bl_call h3 (by (repeat (first | with_reducible exact Below.refl _ _ | ((with_reducible refine bl_set ?_ ?_ _); rotate_left; (first | exact Nat.le_refl _ | exact gz3 | exact gz4 | exact gz5)) | with_reducible refine bl_call h5 ?_ | with_reducible refine bl_call h4 ?_ | with_reducible refine bl_call h3 ?_ | with_reducible refine bl_alloc ?_ _ | with_reducible refine bl_drew ?_))) : Below wr.heap.size wr w3).size; (first | (replace RR := RR.keep h3) | (have R0 := Row.drew (Row.new wr 42 [.bool false, .slice none 0 0, .slice none 0 0]); have RR := R0.keep h3; clear R0) | (have R0 := Row.new wr.drew 42 [.bool false, .slice none 0 0, .slice none 0 0]; have RR := R0.keep h3; clear R0) | (have R0 := Row.new wr 42 [.bool false, .slice none 0 0, .slice none 0 0]; have RR := R0.keep h3; clear R0) | (have R0 := Row.new w4 42 [.bool false, .slice none 0 0, .slice none 0 0]; have RR := R0.keep h3; clear R0) | (have R0 := Row.new w5 42 [.bool false, .slice none 0 0, .slice none 0 0]; have RR := R0.keep h3; clear R0) | skip)))
            | (go_at_call 40; ((with_reducible refine (r3sub_any _ _ x P 1 Q L _ (((hv3.ratA (by decide)).mono hL).below ?_) (hq0.below ?_) hL (by omega)).mono ?_); (repeat (first | with_reducible exact Below.refl _ _ | ((with_reducible refine bl_set ?_ ?_ _); rotate_left; (first | exact Nat.le_refl _ | exact gz3 | exact gz4 | exact gz5)) | with_reducible refine bl_call h5 ?_ | with_reducible refine bl_call h4 ?_ | with_reducible refine bl_call h3 ?_ | with_reducible refine bl_alloc ?_ _ | with_reducible refine bl_drew ?_)); (repeat (first | with_reducible exact Below.refl _ _ | ((with_reducible refine bl_set ?_ ?_ _); rotate_left; (first | exact Nat.le_refl _ | exact gz3 | exact gz4 | exact gz5)) | with_reducible refine bl_call h5 ?_ | with_reducible refine bl_call h4 ?_ | with_reducible refine bl_call h3 ?_ | with_reducible refine bl_alloc ?_ _ | with_reducible refine bl_drew ?_)); rintro e w4 ⟨v4, rfl, hv4, h4⟩; have gz4 : wr.heap.size ≤ w4.heap.size := (bl_call h4 (by (repeat (first | with_reducible exact Below.refl _ _ | ((with_reducible refine bl_set ?_ ?_ _); rotate_left; (first | exact Nat.le_refl _ | exact gz3 | exact gz4 | exact gz5)) | with_reducible refine bl_call h5 ?_ | with_reducible refine bl_call h4 ?_ | with_reducible refine bl_call h3 ?_ | with_reducible refine bl_alloc ?_ _ | with_reducible refine bl_drew ?_))) : Below wr.heap.size wr w4).size; (first | (replace RR := RR.keep h4) | (have R0 := Row.drew (Row.new wr 42 [.bool false, .slice none 0 0, .slice none 0 0]); have RR := R0.keep h4; clear R0) | (have R0 := Row.new wr.drew 42 [.bool false, .slice none 0 0, .slice none 0 0]; have RR := R0.keep h4; clear R0) | (have R0 := Row.new wr 42 [.bool false, .slice none 0 0, .slice none 0 0]; have RR := R0.keep h4; clear R0) | (have R0 := Row.new w3 42 [.bool false, .slice none 0 0, .slice none 0 0]; have RR := R0.keep h4; clear R0) | (have R0 := Row.new w5 42 [.bool false, .slice none 0 0, .slice none 0 0]; have RR := R0.keep h4; clear R0) | skip)))
            | (go_at_call 44; ((with_reducible refine (r3abs_any _ _ _ (L + L + (L + L) + 1) _ ((hv4.ratA (redQ_pos (by omega))).below ?_) (by omega) (by omega)).mono ?_); (repeat (first | with_reducible exact Below.refl _ _ | ((with_reducible refine bl_set ?_ ?_ _); rotate_left; (first | exact Nat.le_refl _ | exact gz3 | exact gz4 | exact gz5)) | with_reducible refine bl_call h5 ?_ | with_reducible refine bl_call h4 ?_ | with_reducible refine bl_call h3 ?_ | with_reducible refine bl_alloc ?_ _ | with_reducible refine bl_drew ?_)); rintro e w5 ⟨v5, rfl, hR5, h5⟩; have gz5 : wr.heap.size ≤ w5.heap.size := (bl_call h5 (by (repeat (first | with_reducible exact Below.refl _ _ | ((with_reducible refine bl_set ?_ ?_ _); rotate_left; (first | exact Nat.le_refl _ | exact gz3 | exact gz4 | exact gz5)) | with_reducible refine bl_call h5 ?_ | with_reducible refine bl_call h4 ?_ | with_reducible refine bl_call h3 ?_ | with_reducible refine bl_alloc ?_ _ | with_reducible refine bl_drew ?_))) : Below wr.heap.size wr w5).size; (first | (have zg := RR.lt; replace RR := RR.keep h5) | (have R0 := Row.drew (Row.new wr 42 [.bool false, .slice none 0 0, .slice none 0 0]); have zg := R0.lt; have RR := R0.keep h5) | (have R0 := Row.new wr.drew 42 [.bool false, .slice none 0 0, .slice none 0 0]; have zg := R0.lt; have RR := R0.keep h5) | (have R0 := Row.new wr 42 [.bool false, .slice none 0 0, .slice none 0 0]; have zg := R0.lt; have RR := R0.keep h5) | (have R0 := Row.new w3 42 [.bool false, .slice none 0 0, .slice none 0 0]; have zg := R0.lt; have RR := R0.keep h5) | (have R0 := Row.new w4 42 [.bool false, .slice none 0 0, .slice none 0 0]; have zg := R0.lt; have RR := R0.keep h5) | skip); rw [(dist_red x P Q hQ0).1, (dist_red x P Q hQ0).2, HNX.out] at hR5; have hR5' := hR5; obtain ⟨m5, d5, e5, hm5, hd5, _, _⟩ := hR5'; subst e5; obtain ⟨A10, k10, c10, rfl⟩ := hm5.lim1.choose_spec.1.show_; obtain ⟨D10, l10, b10, rfl⟩ := hd5.lim1.choose_spec.1.show_; clear hm5 hd5; (try (have e0 := RR.cell 0; have e1 := RR.cell 1; have e2 := RR.cell 2; simp only [List.getElem?_cons_zero, List.getElem?_cons_succ] at e0 e1 e2; have f0 := RR.frozen 0; have f1 := RR.frozen 1; have f2 := RR.frozen 2)))))
        all_goals go_wp2_with fail
        all_goals go_meet
        all_goals go_light
        all_goals
          refine ⟨_, A10, k10, c10, D10, l10, b10, rfl, ?_, ?_, ?_, ?_⟩
          · (first | exact Nat.le_refl _ | exact gz3 | exact gz4 | exact gz5)
          · (first | exact Row.new _ _ _ | exact (((RR.set_ 0 _).set_ 1 _).set_ 2 _))
          · (first | exact (hR5.below (lit_below _ _)).base (bl_sz (by (repeat (first | with_reducible exact Below.refl _ _ | ((with_reducible refine bl_set ?_ ?_ _); rotate_left; (first | exact Nat.le_refl _ | exact gz3 | exact gz4 | exact gz5)) | with_reducible refine bl_call h5 ?_ | with_reducible refine bl_call h4 ?_ | with_reducible refine bl_call h3 ?_ | with_reducible refine bl_alloc ?_ _ | with_reducible refine bl_drew ?_)))) | exact ((((hR5.set_ zg _).set_ zg _).set_ zg _)).base (bl_sz (by (repeat (first | with_reducible exact Below.refl _ _ | ((with_reducible refine bl_set ?_ ?_ _); rotate_left; (first | exact Nat.le_refl _ | exact gz3 | exact gz4 | exact gz5)) | with_reducible refine bl_call h5 ?_ | with_reducible refine bl_call h4 ?_ | with_reducible refine bl_call h3 ?_ | with_reducible refine bl_alloc ?_ _ | with_reducible refine bl_drew ?_)))))
          · (repeat (first | with_reducible exact Below.refl _ _ | ((with_reducible refine bl_set ?_ ?_ _); rotate_left; (first | exact Nat.le_refl _ | exact gz3 | exact gz4 | exact gz5)) | with_reducible refine bl_call h5 ?_ | with_reducible refine bl_call h4 ?_ | with_reducible refine bl_call h3 ?_ | with_reducible refine bl_alloc ?_ _ | with_reducible refine bl_drew ?_))
      case rest =>
      obtain ⟨g10, A10, k10, c10, D10, l10, b10, rfl, hg10, hr10, hv10, hbc⟩ := hcut
      clear qs0 qs1 qs2 qs3 qs4 qs5 zs0 zs1 zs2 c20 c21 c30 c31 c32 c80 c81 c82 f80 f81 f82 z2 z3 z8
      obtain ⟨x51, hx51⟩ : ∃ x, x = wc := ⟨_, rfl⟩
      rw [← hx51] at hr10 hv10 hbc ⊢
      clear hx51
      have o2_10 : w.heap.size < g10 := by have := hr2.lt; omega
      have o3_10 : w.heap.size + 1 < g10 := by have := hr3.lt; omega
      have o8_10 : g8 < g10 := by have := hr8.lt; omega
      have ob_10 : w.heap.size ≤ g10 := by have := BB.size; omega
      replace hr2 := hr2.keep hbc
      replace hr3 := hr3.keep hbc
      replace hr8 := hr8.keep hbc
      replace hv8 := hv8.below hbc
      replace BB : Below w.heap.size w x51 := BB.trans (hbc.mono BB.size)
      clear hbc
      clear hq0 hxc
      have c20 : x51.cell? ⟨w.heap.size, 0, none⟩ = some (.slice (some ⟨pb, po, none⟩) n pc) := hr2.cell 0
      have c21 : x51.cell? ⟨w.heap.size, 1, none⟩ = some (.slice RV rs.length vc) := hr2.cell 1
      have c30 : x51.cell? ⟨w.heap.size + 1, 0, none⟩ = some (.bool ng) := hr3.cell 0
      have c31 : x51.cell? ⟨w.heap.size + 1, 1, none⟩ = some (.slice RA rk rc) := hr3.cell 1
      have c32 : x51.cell? ⟨w.heap.size + 1, 2, none⟩ = some (.slice RB sk sc) := hr3.cell 2
      have c80 : x51.cell? ⟨g8, 0, none⟩ = some (.bool (decide (redP d8 Q < 0))) := hr8.cell 0
      have c81 : x51.cell? ⟨g8, 1, none⟩ = some (.slice A8 k8 c8) := hr8.cell 1
      have c82 : x51.cell? ⟨g8, 2, none⟩ = some (.slice D8 l8 b8) := hr8.cell 2
      have c100 : x51.cell? ⟨g10, 0, none⟩ = some (.bool (decide (redP ((near ps P Q (k) : Nat) : Int) Q < 0))) := hr10.cell 0
      have c101 : x51.cell? ⟨g10, 1, none⟩ = some (.slice A10 k10 c10) := hr10.cell 1
      have c102 : x51.cell? ⟨g10, 2, none⟩ = some (.slice D10 l10 b10) := hr10.cell 2
      have f80 : x51.frozen? ⟨g8, 0, none⟩ = false := hr8.frozen 0
      have f81 : x51.frozen? ⟨g8, 1, none⟩ = false := hr8.frozen 1
      have f82 : x51.frozen? ⟨g8, 2, none⟩ = false := hr8.frozen 2
      have z2 := hr2.lt
      have z3 := hr3.lt
      have z8 := hr8.lt
      have z10 := hr10.lt
      go_wp2_with fail
      clear c20 c21 c30 c31 c32 c80 c81 c82 c100 c101 c102 f80 f81 f82 z2 z3 z8 z10
      refine (r3cmp_any _ _ _ _ _ _ (L + L + (L + L) + 1) _ (hv10.ratA (redQ_pos hQ)) (hv8.ratA (redQ_pos hQ)) (by omega) (by omega)).mono ?_
      rintro e x52 ⟨rfl, hb⟩
      replace hr2 := hr2.keep hb
      replace hr3 := hr3.keep hb
      replace hr8 := hr8.keep hb
      replace hv8 := hv8.below hb
      replace hr10 := hr10.keep hb
      replace hv10 := hv10.below hb
      replace BB : Below w.heap.size w x52 := BB.trans (hb.mono BB.size)
      clear hb
      rw [← HD8.out, cmp_red _ _ hQ]
      have hzr := BB0.size
      have hz8' : g8 ≤ x52.heap.size := Nat.le_of_lt hr8.lt
      by_cases hab : near ps P Q k < near ps P Q (nearI (near ps P Q) (k - 1))
      · have tt : decide (cmpZ ((near ps P Q (k) : Nat) : Int) ((near ps P Q (nearI (near ps P Q) (k - 1)) : Nat) : Int) < 0) = true := decide_eq_true (by unfold cmpZ; rw [if_pos (by omega)]; omega)
        have HNI : Hid (nearI (near ps P Q) k = k) := by
          unfold Hid
          obtain ⟨j, rfl⟩ : ∃ j, k = j + 1 := ⟨k - 1, by omega⟩
          rw [Nat.add_sub_cancel] at hab
          exact if_pos hab
        generalize cmpZ ((near ps P Q (k) : Nat) : Int) ((near ps P Q (nearI (near ps P Q) (k - 1)) : Nat) : Int) = cz at *
        clear hab
        have c20 : x52.cell? ⟨w.heap.size, 0, none⟩ = some (.slice (some ⟨pb, po, none⟩) n pc) := hr2.cell 0
        have c21 : x52.cell? ⟨w.heap.size, 1, none⟩ = some (.slice RV rs.length vc) := hr2.cell 1
        have c30 : x52.cell? ⟨w.heap.size + 1, 0, none⟩ = some (.bool ng) := hr3.cell 0
        have c31 : x52.cell? ⟨w.heap.size + 1, 1, none⟩ = some (.slice RA rk rc) := hr3.cell 1
        have c32 : x52.cell? ⟨w.heap.size + 1, 2, none⟩ = some (.slice RB sk sc) := hr3.cell 2
        have c80 : x52.cell? ⟨g8, 0, none⟩ = some (.bool (decide (redP d8 Q < 0))) := hr8.cell 0
        have c81 : x52.cell? ⟨g8, 1, none⟩ = some (.slice A8 k8 c8) := hr8.cell 1
        have c82 : x52.cell? ⟨g8, 2, none⟩ = some (.slice D8 l8 b8) := hr8.cell 2
        have c100 : x52.cell? ⟨g10, 0, none⟩ = some (.bool (decide (redP ((near ps P Q (k) : Nat) : Int) Q < 0))) := hr10.cell 0
        have c101 : x52.cell? ⟨g10, 1, none⟩ = some (.slice A10 k10 c10) := hr10.cell 1
        have c102 : x52.cell? ⟨g10, 2, none⟩ = some (.slice D10 l10 b10) := hr10.cell 2
        have f80 : x52.frozen? ⟨g8, 0, none⟩ = false := hr8.frozen 0
        have f81 : x52.frozen? ⟨g8, 1, none⟩ = false := hr8.frozen 1
        have f82 : x52.frozen? ⟨g8, 2, none⟩ = false := hr8.frozen 2
        have z2 := hr2.lt
        have z3 := hr3.lt
        have z8 := hr8.lt
        have z10 := hr10.lt
        go_wp2_with fail
        go_region
        all_goals
          go_wp2_with fail
          go_roundw
          case rel =>
            refine ⟨k + 1, A10, k10, c10, D10, l10, b10, by omega, by omega, by go_num, ?_, (((hr2.far (by show w.heap.size ≠ g8; omega) _).far (by show w.heap.size ≠ g8; omega) _).far (by show w.heap.size ≠ g8; omega) _).drew, (((hr3.far (by show w.heap.size + 1 ≠ g8; omega) _).far (by show w.heap.size + 1 ≠ g8; omega) _).far (by show w.heap.size + 1 ≠ g8; omega) _).drew, ?_, ?_, (((BB.setCell (by show w.heap.size ≤ g8; omega) _).setCell (by show w.heap.size ≤ g8; omega) _).setCell (by show w.heap.size ≤ g8; omega) _).drew⟩
            · rw [Nat.add_sub_cancel, HNI.out]
            · rw [Nat.add_sub_cancel, HNI.out]
              exact (((hr8.set_ 0 (.bool (decide (redP ((near ps P Q (k) : Nat) : Int) Q < 0)))).set_ 1 (.slice A10 k10 c10)).set_ 2 (.slice D10 l10 b10)).drew
            · rw [Nat.add_sub_cancel, HNI.out]
              exact ratF_drew ((((hv10.set_ (a := ⟨g8, 0, none⟩) hz8 _).set_ (a := ⟨g8, 1, none⟩) hz8 _).set_ (a := ⟨g8, 2, none⟩) hz8 _).base hzr)
          case measure => simp [intOf]; omega
      · have tt : decide (cmpZ ((near ps P Q (k) : Nat) : Int) ((near ps P Q (nearI (near ps P Q) (k - 1)) : Nat) : Int) < 0) = false := by
          refine decide_eq_false ?_
          unfold cmpZ; rw [if_neg (by omega)]; split <;> omega
        have HNI : Hid (nearI (near ps P Q) k = nearI (near ps P Q) (k - 1)) := by
          unfold Hid
          obtain ⟨j, rfl⟩ : ∃ j, k = j + 1 := ⟨k - 1, by omega⟩
          rw [Nat.add_sub_cancel] at hab ⊢
          exact if_neg hab
        generalize cmpZ ((near ps P Q (k) : Nat) : Int) ((near ps P Q (nearI (near ps P Q) (k - 1)) : Nat) : Int) = cz at *
        clear hab
        have c20 : x52.cell? ⟨w.heap.size, 0, none⟩ = some (.slice (some ⟨pb, po, none⟩) n pc) := hr2.cell 0
        have c21 : x52.cell? ⟨w.heap.size, 1, none⟩ = some (.slice RV rs.length vc) := hr2.cell 1
        have c30 : x52.cell? ⟨w.heap.size + 1, 0, none⟩ = some (.bool ng) := hr3.cell 0
        have c31 : x52.cell? ⟨w.heap.size + 1, 1, none⟩ = some (.slice RA rk rc) := hr3.cell 1
        have c32 : x52.cell? ⟨w.heap.size + 1, 2, none⟩ = some (.slice RB sk sc) := hr3.cell 2
        have c80 : x52.cell? ⟨g8, 0, none⟩ = some (.bool (decide (redP d8 Q < 0))) := hr8.cell 0
        have c81 : x52.cell? ⟨g8, 1, none⟩ = some (.slice A8 k8 c8) := hr8.cell 1
        have c82 : x52.cell? ⟨g8, 2, none⟩ = some (.slice D8 l8 b8) := hr8.cell 2
        have c100 : x52.cell? ⟨g10, 0, none⟩ = some (.bool (decide (redP ((near ps P Q (k) : Nat) : Int) Q < 0))) := hr10.cell 0
        have c101 : x52.cell? ⟨g10, 1, none⟩ = some (.slice A10 k10 c10) := hr10.cell 1
        have c102 : x52.cell? ⟨g10, 2, none⟩ = some (.slice D10 l10 b10) := hr10.cell 2
        have f80 : x52.frozen? ⟨g8, 0, none⟩ = false := hr8.frozen 0
        have f81 : x52.frozen? ⟨g8, 1, none⟩ = false := hr8.frozen 1
        have f82 : x52.frozen? ⟨g8, 2, none⟩ = false := hr8.frozen 2
        have z2 := hr2.lt
        have z3 := hr3.lt
        have z8 := hr8.lt
        have z10 := hr10.lt
        go_wp2_with fail
        go_roundw
        case rel =>
          exact ⟨k + 1, A8, k8, c8, D8, l8, b8, by omega, by omega, by go_num, by rw [Nat.add_sub_cancel, HNI.out], hr2, hr3, by rw [Nat.add_sub_cancel, HNI.out, HD8.out]; exact hr8, by rw [Nat.add_sub_cancel, HNI.out, HD8.out]; exact hv8, BB⟩
        case measure => simp [intOf]; omega
    · obtain rfl : k = n := by omega
      have c20 : wr.cell? ⟨w.heap.size, 0, none⟩ = some (.slice (some ⟨pb, po, none⟩) k pc) := hr2.cell 0
      have c21 : wr.cell? ⟨w.heap.size, 1, none⟩ = some (.slice RV rs.length vc) := hr2.cell 1
      have c30 : wr.cell? ⟨w.heap.size + 1, 0, none⟩ = some (.bool ng) := hr3.cell 0
      have c31 : wr.cell? ⟨w.heap.size + 1, 1, none⟩ = some (.slice RA rk rc) := hr3.cell 1
      have c32 : wr.cell? ⟨w.heap.size + 1, 2, none⟩ = some (.slice RB sk sc) := hr3.cell 2
      have z2 := hr2.lt
      have z3 := hr3.lt
      go_wp2_with fail
      go_ret2
      exact ⟨rfl, BB⟩

set_option maxHeartbeats 8000000 in
theorem rnear_no (pv rv v : Value) (ps rs : List Int) (P : Int) (Q L : Nat) (w : World) (hp : Nums .i64 w pv ps) (hr : Nums .i64 w rv rs) (hq : RatA w v P Q L) (hE : gridE ps rs ≠ 0) :
    Calls Try.prog 25 #[.agg #[pv, rv], v] w fun e w' => e = .returned (.tuple #[.int .i64 0, .int .i64 (gridE ps rs)]) ∧ Below w.heap.size w w' := by
  have HV := Lib.hid (fun (W : World) (h : Below w.heap.size w W) => rgvalid_any pv rv ps rs W (hp.below h) (hr.below h))
  have hne : (gridE ps rs != 0) = true := by rw [bne_iff_ne]; exact hE
  obtain ⟨PA, pc, rfl, hpc, hpm, hps⟩ := hp
  obtain ⟨RV, vc, rfl, hvc, hvm, hvs⟩ := hr
  obtain ⟨ng, RA, rk, rc, RB, sk, sc, rfl⟩ := hq.show_
  generalize gridE ps rs = E at *
  clear hE hps hvs
  obtain ⟨W0, hW0⟩ : ∃ W0 : World, W0 = (w.alloc (.cells #[.slice PA ps.length pc, .slice RV rs.length vc] 24)).alloc (.cells #[.bool ng, .slice RA rk rc, .slice RB sk sc] 42) := ⟨_, rfl⟩
  have r0 : Row W0 w.heap.size 24 [.slice PA ps.length pc, .slice RV rs.length vc] := by
    rw [hW0]
    have := Row.alloc (Row.new w 24 [.slice PA ps.length pc, .slice RV rs.length vc]) (.cells #[.bool ng, .slice RA rk rc, .slice RB sk sc] 42)
    simpa using this
  have r1 : Row W0 (w.heap.size + 1) 42 [.bool ng, .slice RA rk rc, .slice RB sk sc] := by
    rw [hW0]
    have := Row.new (w.alloc (.cells #[.slice PA ps.length pc, .slice RV rs.length vc] 24)) 42 [.bool ng, .slice RA rk rc, .slice RB sk sc]
    simpa using this
  have B0 : Below w.heap.size w W0 := by rw [hW0]; exact (((Below.refl _ _).alloc (Nat.le_refl _) _).alloc (by simp) _)
  have a0 : W0.cell? ⟨w.heap.size, 0, none⟩ = some (.slice PA ps.length pc) := r0.cell 0
  have a1 : W0.cell? ⟨w.heap.size, 1, none⟩ = some (.slice RV rs.length vc) := r0.cell 1
  go_enter Try.func25, Try.ntmps25
  go_wp2_with fail
  rw [← hW0]
  clear hW0
  go_wp2_with fail
  refine (HV.out _ B0).mono ?_
  rintro e w1 ⟨rfl, hb⟩
  go_wp2_with fail
  go_ret2
  exact ⟨rfl, B0.trans (hb.mono B0.size)⟩
end Go.Proofs.Ytdmjgildgjpmcaa
