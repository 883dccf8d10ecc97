/- The walks of integer's Of and Cmp. -/
import Derived.Test.YtoihjclkocffhaaDoorIntB
namespace Go.Proofs.YtoihjclkocffhaaDoor
open Go.RowKit
set_option linter.unusedVariables false

theorem keep4d {W w' : World} {p1 p2 p3 p4 : Addr} {x1 x2 x3 x4 : Value} (l1 : p1.block < W.heap.size) (l2 : p2.block < W.heap.size) (l3 : p3.block < W.heap.size) (l4 : p4.block < W.heap.size) (h1 : W.cell? p1 = some x1) (h2 : W.cell? p2 = some x2) (h3 : W.cell? p3 = some x3) (h4 : W.cell? p4 = some x4) (hb : Below W.heap.size W w') :
    w'.cell? p1 = some x1 ∧ w'.cell? p2 = some x2 ∧ w'.cell? p3 = some x3 ∧ w'.cell? p4 = some x4 ∧ Below W.heap.size W w' := ⟨(hb.cell l1).trans h1, (hb.cell l2).trans h2, (hb.cell l3).trans h3, (hb.cell l4).trans h4, hb⟩
theorem cmp_abs {p q : Int} (h : sgnZ p = sgnZ q) : sgnZ p * cmpN p.natAbs q.natAbs = cmpZ p q := by
  unfold sgnZ at *
  unfold cmpN cmpZ
  repeat' split at h
  all_goals (try omega)
  all_goals (repeat' split)
  all_goals omega
theorem cmp_sgn {p q : Int} : (sgnZ p < sgnZ q → cmpZ p q = -1) ∧ (sgnZ q < sgnZ p → cmpZ p q = 1) := by
  unfold sgnZ cmpZ
  constructor <;> intro h <;> (repeat' split at h) <;> (try omega) <;> (repeat' split) <;> omega
theorem sgnZ_bd (p : Int) : -1 ≤ sgnZ p ∧ sgnZ p ≤ 1 := by
  unfold sgnZ
  repeat' split
  all_goals omega
theorem cmpN_bd (a b : Nat) : -1 ≤ cmpN a b ∧ cmpN a b ≤ 1 := by
  unfold cmpN
  repeat' split
  all_goals omega
theorem retI {a b : Int} (h : a = b) : Ending.returned (.int .i64 a) = .returned (.int .i64 b) := by rw [h]

set_option maxHeartbeats 4000000 in
theorem icmp_any (v u : Value) (p q : Int) (L M : Nat) (w : World) (ha : IntA w v p L) (hb : IntA w u q M) :
    Calls Tryd.prog 72 #[v, u] w fun e w' => e = .returned (.int .i64 (cmpZ p q)) ∧ Below w.heap.size w w' := by
  have ha0 := ha
  have hb0 := hb
  obtain ⟨na, av, la, rfl, hla, kla, HA⟩ := ha
  obtain ⟨nb, bv, lb, rfl, hlb, klb, HB⟩ := hb
  have hla' := hla
  have hlb' := hlb
  obtain ⟨⟨A, cA, rfl, _, _, _⟩, _⟩ := hla'
  obtain ⟨⟨B, cB, rfl, _, _, _⟩, _⟩ := hlb'
  obtain ⟨W0, hW0⟩ : ∃ W0 : World, W0 = (w.alloc (.cells #[.bool na, .slice A la.length cA] 52)).alloc (.cells #[.bool nb, .slice B lb.length cB] 52) := ⟨_, rfl⟩
  have r0 : Row W0 w.heap.size 52 [.bool na, .slice A la.length cA] := by rw [hW0]; exact (Row.new w 52 [.bool na, .slice A la.length cA]).alloc _
  have r1 : Row W0 (w.heap.size + 1) 52 [.bool nb, .slice B lb.length cB] := by
    rw [hW0]
    have := Row.new (w.alloc (.cells #[.bool na, .slice A la.length cA] 52)) 52 [.bool nb, .slice B lb.length cB]
    simpa using this
  have B0 : Below w.heap.size w W0 := by rw [hW0]; exact ((Below.refl _ _).alloc (Nat.le_refl _) _).alloc (by simp) _
  have a0 : W0.cell? ⟨w.heap.size, 0, none⟩ = some (.bool na) := r0.cell 0
  have a1 : W0.cell? ⟨w.heap.size, 1, none⟩ = some (.slice A la.length cA) := r0.cell 1
  have b0 : W0.cell? ⟨w.heap.size + 1, 0, none⟩ = some (.bool nb) := r1.cell 0
  have b1 : W0.cell? ⟨w.heap.size + 1, 1, none⟩ = some (.slice B lb.length cB) := r1.cell 1
  have z0 := r0.lt
  have z1 := r1.lt
  have hA : p.natAbs = val la := by rw [HA, sg_abs]
  have hB : q.natAbs = val lb := by rw [HB, sg_abs]
  have HP := Lib.hid hA
  have HQ := Lib.hid hB
  have HS := Lib.hid (cmp_sgn (p := p) (q := q))
  have HE := Lib.hid (fun h => cmp_abs (p := p) (q := q) h)
  have bp := sgnZ_bd p
  have bq := sgnZ_bd q
  clear HA HB hA hB
  go_enter Tryd.func72, Tryd.ntmps72
  go_wp2_with fail
  rw [← hW0]
  clear hW0
  go_region_held3 (fun w' => w'.cell? ⟨w.heap.size, 0, none⟩ = some (.bool na) ∧ w'.cell? ⟨w.heap.size, 1, none⟩ = some (.slice A la.length cA) ∧ w'.cell? ⟨w.heap.size + 1, 0, none⟩ = some (.bool nb) ∧ w'.cell? ⟨w.heap.size + 1, 1, none⟩ = some (.slice B lb.length cB) ∧ Below W0.heap.size W0 w')
    ((refine keep4d z0 z0 z1 z1 a0 a1 b0 b1 ?_; (repeat (first | with_reducible exact Below.refl _ _ | with_reducible refine bl_call h5 ?_ | with_reducible refine bl_call h6 ?_ | with_reducible refine bl_drew ?_))))
    (first
      | (go_at_call 94; ((with_reducible refine (isign_any (.agg #[.bool na, .slice A la.length cA]) p L _ (ha0.below (B0.trans (Below.mono ?_ B0.size)))).mono ?_); ((repeat (first | with_reducible exact Below.refl _ _ | with_reducible refine bl_call h5 ?_ | with_reducible refine bl_call h6 ?_ | with_reducible refine bl_drew ?_))); rintro e w5 ⟨rfl, h5⟩))
      | (go_at_call 94; ((with_reducible refine (isign_any (.agg #[.bool nb, .slice B lb.length cB]) q M _ (hb0.below (B0.trans (Below.mono ?_ B0.size)))).mono ?_); ((repeat (first | with_reducible exact Below.refl _ _ | with_reducible refine bl_call h5 ?_ | with_reducible refine bl_call h6 ?_ | with_reducible refine bl_drew ?_))); rintro e w6 ⟨rfl, h6⟩)))
  have B6' : Below W0.heap.size W0 w6 := bl_call h6 (bl_call h5 (bl_drew (Below.refl _ _)))
  have B6 := B0.trans (B6'.mono B0.size)
  rcases Int.lt_trichotomy (sgnZ p) (sgnZ q) with h | h | h
  · have HR := Lib.hid (HS.out.1 h)
    go_wp2_with fail
    go_ret
    exact ⟨by rw [HR.out]; rfl, B6⟩
  · have HR := Lib.hid (HE.out h)
    have a16 := (B6'.cell (p := ⟨w.heap.size, 1, none⟩) z0).trans a1
    have b16 := (B6'.cell (p := ⟨w.heap.size + 1, 1, none⟩) z1).trans b1
    have hcb := cmpN_bd (val la) (val lb)
    have HC := Lib.hid (cmp_any _ _ la lb w6 (hla.below B6) (hlb.below B6))
    rw [HP.out, HQ.out] at HR
    have hlt : ¬ sgnZ q < sgnZ p := by omega
    have hlt2 : ¬ sgnZ p < sgnZ q := by omega
    generalize sgnZ q = sq at *
    generalize sgnZ p = sp at *
    have hc3 : sp = -1 ∨ sp = 0 ∨ sp = 1 := by omega
    clear h
    rcases hc3 with rfl | rfl | rfl
    all_goals
      go_wp2_with fail
      refine HC.out.mono ?_
      rintro e w' ⟨rfl, d, rfl⟩
      generalize cmpN (val la) (val lb) = cm at *
      go_wp2_with fail
      go_ret
      exact ⟨retI (by have := HR.out; omega), below_drewN B6 d⟩
  · have HR := Lib.hid (HS.out.2 h)
    have hlt2 : ¬ sgnZ p < sgnZ q := by omega
    go_wp2_with fail
    go_ret
    exact ⟨by rw [HR.out]; rfl, B6⟩

set_option maxHeartbeats 4000000 in
theorem iof_any (n : Int) (w : World) (h1 : -9223372036854775808 ≤ n) (h2 : n ≤ 9223372036854775807) :
    Calls Tryd.prog 98 #[.int .i64 n] w fun e w' => ∃ x, e = .returned x ∧ IntF w.heap.size w' x n 2 ∧ Below w.heap.size w w' := by
  have hgb := Row.new w 52 [.bool false, .slice none 0 0]
  have B0 : Below w.heap.size w (w.alloc (.cells #[.bool false, .slice none 0 0] 52)) := (Below.refl _ _).alloc (Nat.le_refl _) _
  have hz : (w.alloc (.cells #[.bool false, .slice none 0 0] 52)).heap.size = w.heap.size + 1 := by simp
  have HZ := Lib.hid hz
  clear hz
  by_cases hn : n < 0
  · obtain ⟨m, rfl⟩ : ∃ m : Nat, n = -(m : Int) := ⟨n.natAbs, by omega⟩
    have HW : Hid (IntKind.u64.wrap (-IntKind.u64.wrap (-(m : Int))) = (m : Int)) := by
      unfold Hid
      rw [IntKind.wrap_u64, IntKind.wrap_u64]
      omega
    have hm : m < 18446744073709551616 := by omega
    have HS : Hid (∀ ls, val ls = m → sg true (val ls) = -(m : Int)) := fun ls h => by rw [h]; rfl
    go_enter Tryd.func98, Tryd.ntmps98
    go_wp2_with fail
    rw [HW.out]
    refine (of_any m _ hm).mono ?_
    rintro e w5 ⟨v5, rfl, l5, hl5, nt5, hv5, hk5, hf5, h5⟩
    go_wp2_with fail
    refine (imake_any _ _ _ _ hl5 (by omega)).mono ?_
    rintro e w6 ⟨v6, rfl, ⟨mv6, rfl, hn6, hf6⟩, h6⟩
    have hn6' := hn6
    obtain ⟨l6, ⟨⟨A6, c6, rfl, _, _, _⟩, _⟩, _⟩ := hn6'
    have B6' := h5.trans (h6.mono h5.size)
    have B6 := B0.trans (B6'.mono B0.size)
    replace hgb := hgb.keep B6'
    have hPQ := HS.out l5 hv5
    have d60 : w6.cell? ⟨w.heap.size, 0, none⟩ = some (.bool false) := hgb.cell 0
    have d61 : w6.cell? ⟨w.heap.size, 1, none⟩ = some (.slice none 0 0) := hgb.cell 1
    have f60 := hgb.frozen 0
    have f61 := hgb.frozen 1
    have hn7 : NatAt w6 (.slice A6 l6.length c6) (-(m : Int)).natAbs 2 := by rw [← hPQ]; exact hn6.mono hk5
    have hf7 : Fresh (w.heap.size + 1) (.slice A6 l6.length c6) := hf6.mono (by have := h5.size; rw [HZ.out] at this; exact this)
    rw [hPQ]
    go_wp2_with fail
    refine bodyPost_ret (v := .agg #[.bool (decide (-(m : Int) < 0)), .slice A6 l6.length c6]) (by simp [results, Tryd.results98, go_sem, d60, d61]; omega) rfl ⟨_, rfl, ⟨_, rfl, ?_, hf7.mono (by omega)⟩, (B6.setCell (Nat.le_refl _) _).setCell (Nat.le_refl _) _⟩
    exact (hn7.set_ hf7 (by simp) _).set_ hf7 (by simp) _
  · obtain ⟨m, rfl⟩ : ∃ m : Nat, n = (m : Int) := ⟨n.natAbs, by omega⟩
    have hm : m < 18446744073709551616 := by omega
    have HS : Hid (∀ ls, val ls = m → sg false (val ls) = (m : Int)) := fun ls h => by rw [h]; rfl
    clear hn
    go_enter Tryd.func98, Tryd.ntmps98
    go_wp2_with fail
    refine (of_any m _ hm).mono ?_
    rintro e w5 ⟨v5, rfl, l5, hl5, nt5, hv5, hk5, hf5, h5⟩
    go_wp2_with fail
    refine (imake_any _ _ _ _ hl5 (by omega)).mono ?_
    rintro e w6 ⟨v6, rfl, ⟨mv6, rfl, hn6, hf6⟩, h6⟩
    have hn6' := hn6
    obtain ⟨l6, ⟨⟨A6, c6, rfl, _, _, _⟩, _⟩, _⟩ := hn6'
    have B6' := h5.trans (h6.mono h5.size)
    have B6 := B0.trans (B6'.mono B0.size)
    replace hgb := hgb.keep B6'
    have hPQ := HS.out l5 hv5
    have d60 : w6.cell? ⟨w.heap.size, 0, none⟩ = some (.bool false) := hgb.cell 0
    have d61 : w6.cell? ⟨w.heap.size, 1, none⟩ = some (.slice none 0 0) := hgb.cell 1
    have f60 := hgb.frozen 0
    have f61 := hgb.frozen 1
    have hn7 : NatAt w6 (.slice A6 l6.length c6) ((m : Int)).natAbs 2 := by rw [← hPQ]; exact hn6.mono hk5
    have hf7 : Fresh (w.heap.size + 1) (.slice A6 l6.length c6) := hf6.mono (by have := h5.size; rw [HZ.out] at this; exact this)
    rw [hPQ]
    go_wp2_with fail
    refine bodyPost_ret (v := .agg #[.bool (decide ((m : Int) < 0)), .slice A6 l6.length c6]) (by simp [results, Tryd.results98, go_sem, d60, d61]) rfl ⟨_, rfl, ⟨_, rfl, ?_, hf7.mono (by omega)⟩, (B6.setCell (Nat.le_refl _) _).setCell (Nat.le_refl _) _⟩
    exact (hn7.set_ hf7 (by simp) _).set_ hf7 (by simp) _
end Go.Proofs.YtoihjclkocffhaaDoor
