/- The walk of merged: the sum of the probabilities of the categories that become one. -/
import Derived.Test.YtokpembimalhmaaDoorMoAd
namespace Go.Proofs.YtokpembimalhmaaDoor
open Go.RowKit
set_option linter.unusedVariables false

/-- A fraction whose parts lie from block base on. -/
def RatB (base : Nat) (w : World) (v : Value) (p : Int) (q L : Nat) : Prop :=
  ∃ N A n c B k d, v = .agg #[.bool N, .slice A n c, .slice B k d] ∧ RatA w (.agg #[.bool N, .slice A n c, .slice B k d]) p q L ∧ Fresh base (.slice A n c) ∧ Fresh base (.slice B k d)
theorem RatB.ratA {base : Nat} {w : World} {v : Value} {p : Int} {q L : Nat} (h : RatB base w v p q L) : RatA w v p q L := by
  obtain ⟨N, A, n, c, B, k, d, rfl, h, _, _⟩ := h
  exact h
theorem RatB.below {base : Nat} {w w' : World} {v : Value} {p : Int} {q L : Nat} (h : RatB base w v p q L) (hb : Below w.heap.size w w') : RatB base w' v p q L := by
  obtain ⟨N, A, n, c, B, k, d, rfl, h, h1, h2⟩ := h
  exact ⟨N, A, n, c, B, k, d, rfl, h.below hb, h1, h2⟩
theorem RatB.set_ {base : Nat} {w : World} {v : Value} {p : Int} {q L : Nat} (h : RatB base w v p q L) {a : Addr} (ha : a.block < base) (x : Value) : RatB base (w.setCell a x) v p q L := by
  obtain ⟨N, A, n, c, B, k, d, rfl, ⟨neg, mv, ls, dv, ld, e, h1, h2, h3, h4, h5, h6⟩, f1, f2⟩ := h
  simp only [Value.agg.injEq, Array.mk.injEq, List.cons.injEq, and_true] at e
  obtain ⟨_, rfl, rfl⟩ := e
  exact ⟨N, A, n, c, B, k, d, rfl, ⟨neg, _, ls, _, ld, by simp_all, h1.set_ f1 ha x, h2.set_ f2 ha x, h3, h4, h5, h6⟩, f1, f2⟩
theorem RatB.of_F {base b : Nat} {w : World} {v : Value} {p : Int} {q L : Nat} (h : RatF base w v p q L) (hb : b ≤ base) (hq : 0 < q) : RatB b w v p q L := by
  have hA := h.ratA hq
  obtain ⟨N, A, n, c, B, k, d, rfl⟩ := hA.show_
  obtain ⟨mv, dv, e, h1, h2, f1, f2⟩ := h
  simp only [Value.agg.injEq, Array.mk.injEq, List.cons.injEq, and_true] at e
  obtain ⟨_, rfl, rfl⟩ := e
  exact ⟨N, A, n, c, B, k, d, rfl, hA, f1.mono hb, f2.mono hb⟩

set_option maxRecDepth 100000 in
set_option maxHeartbeats 8000000 in
theorem merged_any (rv tv : Value) (rows : List (List Int)) (tg : List Int) (q j : Nat) (w : World) (hm : IntsL w rv rows) (ht : Nums .i64 w tv tg) (hv : modE rows (rows.length : Int) = 0) (hq : q < rows.length) (hlen : tg.length = catsOf rows) :
    Calls Tryd.prog 26 #[.agg #[rv], tv, .int .i64 (q : Int), .int .i64 (j : Int)] w fun e w' => ∃ v, e = .returned v ∧ RatA w' v (redP (mrg tg (rows.getD q []) (j : Int) tg.length) 1000) (redQ (mrg tg (rows.getD q []) (j : Int) tg.length) 1000) 2 ∧ Below w.heap.size w w' := by
  have h10 := hv
  obtain ⟨_, m2, _, m4, m5, m6⟩ := modE_zero h10
  obtain ⟨hrl, hrx, _⟩ := m6 _ (mem_getD [] hq)
  have H1 := Lib.hid hv
  have HRX := Lib.hid hrx
  have hc9 : rows.length ≤ 21 := by omega
  rw [← hlen] at hrl m4 m5
  have HLEN := Lib.hid hlen
  clear hv h10 m6 m2 hrx hlen
  obtain ⟨r, hrr⟩ : ∃ r, rows.getD q [] = r := ⟨_, rfl⟩
  have HRR := Lib.hid hrr
  rw [hrr] at hrl HRX ⊢
  clear hrr
  have HRL := Lib.hid hrl
  clear hrl
  have hm0 := hm
  obtain ⟨A, c, _, rfl, hc, hmx, _, _⟩ := hm0
  have ht0 := ht
  obtain ⟨D, cD, rfl, hDc, hDm, hDs⟩ := ht0
  unfold maxLen at hmx hDm
  obtain ⟨W0, hW0⟩ : ∃ W0 : World, W0 = ((((w.alloc (.cells #[.slice A rows.length c] 24)).alloc (.cells #[.bool false, .slice none 0 0, .slice none 0 0] 48)).alloc (.cells #[.int .u32 1] 55)).alloc (.cells #[.bool false, .slice none 0 0, .slice (some ⟨w.heap.size + 2, 0, none⟩) 1 1] 48)) := ⟨_, rfl⟩
  have hl : Below w.heap.size w W0 := by rw [hW0]; exact lit_more (lit_more (lit_more (lit_below _ _) _) _) _
  have hr4 : Row W0 w.heap.size 24 [.slice A rows.length c] := by rw [hW0]; exact (((row_at rfl).alloc _).alloc _).alloc _
  have hr8 : Row W0 (w.heap.size + 1) 48 [.bool false, .slice none 0 0, .slice none 0 0] := by rw [hW0]; exact ((row_at (by simp)).alloc _).alloc _
  have hr9 : Row W0 (w.heap.size + 3) 48 [.bool false, .slice none 0 0, .slice (some ⟨w.heap.size + 2, 0, none⟩) 1 1] := by rw [hW0]; exact row_at (by simp)
  have hS : RatB (w.heap.size + 2) W0 (.agg #[.bool false, .slice none 0 0, .slice (some ⟨w.heap.size + 2, 0, none⟩) 1 1]) (redP (mrg tg r (j : Int) 0) 1000) (redQ (mrg tg r (j : Int) 0) 1000) 2 := by
    rw [hW0]
    exact ⟨_, _, _, _, _, _, _, rfl, (ratA_one (row_at (by simp))).below (lit_below _ _), trivial, Nat.le_refl _⟩
  go_enter Tryd.func26, Tryd.ntmps26
  go_wp2_with fail
  rw [← hW0]
  clear hW0
  go_loopw [10] (fun i wr => ∃ (k : Nat) (N : Bool) (A' : Option Addr) (n' c' : Nat) (B' : Option Addr) (k' d' : Nat), k ≤ tg.length ∧ i = .int .i64 (k : Int) ∧ Row wr w.heap.size 24 [.slice A rows.length c] ∧ Row wr (w.heap.size + 1) 48 [.bool false, .slice none 0 0, .slice none 0 0] ∧ Row wr (w.heap.size + 3) 48 [.bool N, .slice A' n' c', .slice B' k' d'] ∧ RatB (w.heap.size + 2) wr (.agg #[.bool N, .slice A' n' c', .slice B' k' d']) (redP (mrg tg r (j : Int) k) 1000) (redQ (mrg tg r (j : Int) k) 1000) 2 ∧ Below w.heap.size w wr) (fun i _ => tg.length - (intOf i).toNat)
  case atStart => exact ⟨0, _, _, _, _, _, _, _, by omega, rfl, hr4, hr8, hr9, hS, hl⟩
  case round =>
    clear hl hr4 hr8 hr9 hS
    obtain ⟨k, N, A', n', c', B', k', d', hk, rfl, hr4, hr8, hr9, hS, BB⟩ := hrel
    obtain ⟨wo, rfl⟩ : ∃ wo : World, wo = wr := ⟨_, rfl⟩
    have hmo := hm.below BB
    have hto := ht.below BB
    by_cases hlt : k < tg.length
    case pos =>
      obtain ⟨bD, oD, rfl, hbD, hDc0⟩ := hDs.num hlt
      have gd := (BB.cell (p := ⟨bD, oD + k, none⟩) hbD).trans (hDc0 k hlt)
      clear hDc0
      have hx := HRX.out _ (mem_getD 0 (show k < r.length by rw [HRL.out]; exact hlt))
      have hsb := mrg_bd (tg := tg) HRX.out (j : Int) k (by rw [HRL.out]; omega)
      have HST : Hid (mrg tg r (j : Int) (k + 1) = if tg.getD k 0 = (j : Int) then mrg tg r (j : Int) k + r.getD k 0 else mrg tg r (j : Int) k) := rfl
      generalize tg.getD k 0 = t at *
      by_cases htj : t = (j : Int)
      case neg =>
        have f : (t == (j : Int)) = false := by rw [beq_eq_false_iff_ne]; exact htj
        have HS2 : Hid (mrg tg r (j : Int) (k + 1) = mrg tg r (j : Int) k) := by unfold Hid; rw [HST.out, if_neg htj]
        clear htj HST
        go_wp2_with fail
        go_roundw
        case rel => exact ⟨k + 1, N, A', n', c', B', k', d', by omega, by go_num, hr4, hr8, hr9, by rw [HS2.out]; exact hS, BB⟩
        case measure => simp [intOf]; omega
      case pos =>
        have f : (t == (j : Int)) = true := by rw [beq_iff_eq]; exact htj
        have HS2 : Hid (mrg tg r (j : Int) (k + 1) = mrg tg r (j : Int) k + r.getD k 0) := by unfold Hid; rw [HST.out, if_pos htj]
        clear htj HST
        have q00 : wo.cell? ⟨w.heap.size, 0, none⟩ = some (.slice A rows.length c) := hr4.cell 0
        have z0 := hr4.lt
        have q10 : wo.cell? ⟨w.heap.size + 1, 0, none⟩ = some (.bool false) := hr8.cell 0
        have q11 : wo.cell? ⟨w.heap.size + 1, 1, none⟩ = some (.slice none 0 0) := hr8.cell 1
        have q12 : wo.cell? ⟨w.heap.size + 1, 2, none⟩ = some (.slice none 0 0) := hr8.cell 2
        have z1 := hr8.lt
        have q20 : wo.cell? ⟨w.heap.size + 3, 0, none⟩ = some (.bool N) := hr9.cell 0
        have q21 : wo.cell? ⟨w.heap.size + 3, 1, none⟩ = some (.slice A' n' c') := hr9.cell 1
        have q22 : wo.cell? ⟨w.heap.size + 3, 2, none⟩ = some (.slice B' k' d') := hr9.cell 2
        have z2 := hr9.lt
        go_wp2_with fail
        clear q00 q10 q11 q12 q20 q21 q22 z0 z1 z2
        have hl : Below wo.heap.size wo wo := Below.refl _ _
        refine (prob_ok _ rows q k (r.getD k 0) _ (hmo.below hl) H1.out hq (by rw [← HLEN.out]; exact hlt) (by rw [HRR.out])).mono ?_
        rintro e w1 ⟨vp, rfl, hP, hb⟩
        replace hb : Below wo.heap.size wo w1 := hl.trans (hb.mono hl.size)
        clear hl
        replace hmo := hmo.below hb
        replace hto := hto.below hb
        replace hr4 := hr4.keep hb
        replace hr8 := hr8.keep hb
        replace hr9 := hr9.keep hb
        replace hS := hS.below hb
        replace BB : Below w.heap.size w w1 := BB.trans (hb.mono BB.size)
        clear hb
        have hPA := hP.ratA (redQ_pos (by decide))
        clear hP
        obtain ⟨pN, pA, pn, pc, pB, pk, pd, rfl⟩ := hPA.show_
        obtain ⟨x, hxx⟩ : ∃ x, r.getD k 0 = x := ⟨_, rfl⟩
        rw [hxx] at hx hPA HS2
        clear hxx
        have zg9 := hr9.lt
        have q00 : w1.cell? ⟨w.heap.size, 0, none⟩ = some (.slice A rows.length c) := hr4.cell 0
        have z0 := hr4.lt
        have q10 : w1.cell? ⟨w.heap.size + 1, 0, none⟩ = some (.bool false) := hr8.cell 0
        have q11 : w1.cell? ⟨w.heap.size + 1, 1, none⟩ = some (.slice none 0 0) := hr8.cell 1
        have q12 : w1.cell? ⟨w.heap.size + 1, 2, none⟩ = some (.slice none 0 0) := hr8.cell 2
        have z1 := hr8.lt
        have q20 : w1.cell? ⟨w.heap.size + 3, 0, none⟩ = some (.bool N) := hr9.cell 0
        have q21 : w1.cell? ⟨w.heap.size + 3, 1, none⟩ = some (.slice A' n' c') := hr9.cell 1
        have q22 : w1.cell? ⟨w.heap.size + 3, 2, none⟩ = some (.slice B' k' d') := hr9.cell 2
        have z2 := hr9.lt
        go_wp2_with fail
        clear q00 q10 q11 q12 q20 q21 q22 z0 z1 z2
        have hl : Below w1.heap.size w1 (w1.alloc (.cells #[.bool pN, .slice pA pn pc, .slice pB pk pd] 48)) := lit_below _ _
        have hr11 : Row (w1.alloc (.cells #[.bool pN, .slice pA pn pc, .slice pB pk pd] 48)) (w1.heap.size) 48 [.bool pN, .slice pA pn pc, .slice pB pk pd] := row_at (by simp)
        refine (add1000 _ _ (mrg tg r (j : Int) k) x _ (hS.ratA.below hl) (hPA.below hl) (by omega) (by omega)).mono ?_
        rintro e w2 ⟨vs, rfl, hF, hb⟩
        replace hr11 := hr11.keep hb
        replace hb : Below w1.heap.size w1 w2 := hl.trans (hb.mono hl.size)
        clear hl
        replace hmo := hmo.below hb
        replace hto := hto.below hb
        replace hr4 := hr4.keep hb
        replace hr8 := hr8.keep hb
        replace hr9 := hr9.keep hb
        replace hS := hS.below hb
        replace hPA := hPA.below hb
        replace BB : Below w.heap.size w w2 := BB.trans (hb.mono BB.size)
        clear hb
        have hFA := hF.ratA (redQ_pos (by decide))
        obtain ⟨sN, sA, sn, scc, sB, sk, sd, rfl⟩ := hFA.show_
        rw [← HS2.out] at hF
        clear hFA
        have q00 : w2.cell? ⟨w.heap.size, 0, none⟩ = some (.slice A rows.length c) := hr4.cell 0
        have z0 := hr4.lt
        have q10 : w2.cell? ⟨w.heap.size + 1, 0, none⟩ = some (.bool false) := hr8.cell 0
        have q11 : w2.cell? ⟨w.heap.size + 1, 1, none⟩ = some (.slice none 0 0) := hr8.cell 1
        have q12 : w2.cell? ⟨w.heap.size + 1, 2, none⟩ = some (.slice none 0 0) := hr8.cell 2
        have z1 := hr8.lt
        have q20 : w2.cell? ⟨w.heap.size + 3, 0, none⟩ = some (.bool N) := hr9.cell 0
        have q21 : w2.cell? ⟨w.heap.size + 3, 1, none⟩ = some (.slice A' n' c') := hr9.cell 1
        have q22 : w2.cell? ⟨w.heap.size + 3, 2, none⟩ = some (.slice B' k' d') := hr9.cell 2
        have z2 := hr9.lt
        have q30 : w2.cell? ⟨w1.heap.size, 0, none⟩ = some (.bool pN) := hr11.cell 0
        have q31 : w2.cell? ⟨w1.heap.size, 1, none⟩ = some (.slice pA pn pc) := hr11.cell 1
        have q32 : w2.cell? ⟨w1.heap.size, 2, none⟩ = some (.slice pB pk pd) := hr11.cell 2
        have z3 := hr11.lt
        have s0 := hr9.frozen 0
        have s1 := hr9.frozen 1
        have s2 := hr9.frozen 2
        go_wp2_with fail
        go_roundw
        case rel =>
          exact ⟨k + 1, _, _, _, _, _, _, _, by omega, by go_num, ((hr4.far (by simp; omega) _).far (by simp; omega) _).far (by simp; omega) _, ((hr8.far (by simp) _).far (by simp) _).far (by simp) _, ((hr9.set_ 0 _).set_ 1 _).set_ 2 _, RatB.of_F (((hF.set_ (by simp; omega) _).set_ (by simp; omega) _).set_ (by simp; omega) _) (by simp; omega) (redQ_pos (by decide)), ((BB.setCell (by simp; omega) _).setCell (by simp; omega) _).setCell (by simp; omega) _⟩
        case measure => simp [intOf]; omega
    case neg =>
      have hkm : k = tg.length := by omega
      rw [hkm] at hS
      have hge : tg.length ≤ k := by omega
      clear hkm
      have q00 : wo.cell? ⟨w.heap.size, 0, none⟩ = some (.slice A rows.length c) := hr4.cell 0
      have z0 := hr4.lt
      have q10 : wo.cell? ⟨w.heap.size + 1, 0, none⟩ = some (.bool false) := hr8.cell 0
      have q11 : wo.cell? ⟨w.heap.size + 1, 1, none⟩ = some (.slice none 0 0) := hr8.cell 1
      have q12 : wo.cell? ⟨w.heap.size + 1, 2, none⟩ = some (.slice none 0 0) := hr8.cell 2
      have z1 := hr8.lt
      have q20 : wo.cell? ⟨w.heap.size + 3, 0, none⟩ = some (.bool N) := hr9.cell 0
      have q21 : wo.cell? ⟨w.heap.size + 3, 1, none⟩ = some (.slice A' n' c') := hr9.cell 1
      have q22 : wo.cell? ⟨w.heap.size + 3, 2, none⟩ = some (.slice B' k' d') := hr9.cell 2
      have z2 := hr9.lt
      have s0 := hr8.frozen 0
      have s1 := hr8.frozen 1
      have s2 := hr8.frozen 2
      go_wp2_with fail
      refine bodyPost_ret (v := .agg #[.bool N, .slice A' n' c', .slice B' k' d']) (by simp [results, Tryd.results26, go_sem, q10, q11, q12]) rfl ⟨_, rfl, (((hS.set_ (by simp) _).set_ (by simp) _).set_ (by simp) _).ratA, ((BB.setCell (by simp) _).setCell (by simp) _).setCell (by simp) _⟩
end Go.Proofs.YtokpembimalhmaaDoor
