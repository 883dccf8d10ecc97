/- The walks of grid.Prior and of the reference's Prior. -/
import Derived.Test.YtoihjclkocffhaaDoorNatL
import Derived.Test.YtoihjclkocffhaaDoorGridV
import Derived.Test.YtoihjclkocffhaaDoorRefA
namespace Go.Proofs.YtoihjclkocffhaaDoor
open Go.RowKit
set_option linter.unusedVariables false

def natsOf (rs : List Int) : List Nat := rs.map Int.toNat
theorem natsOf_len (rs : List Int) : (natsOf rs).length = rs.length := by simp [natsOf]
theorem natsOf_get (rs : List Int) (k : Nat) : (natsOf rs).getD k 0 = (rs.getD k 0).toNat := by
  unfold natsOf
  rw [List.getD_eq_getElem?_getD, List.getD_eq_getElem?_getD, List.getElem?_map]
  cases rs[k]? <;> rfl

set_option maxHeartbeats 2000000 in
theorem prior_no (pv rv : Value) (ps rs : List Int) (w : World) (hp : Nums .i64 w pv ps) (hr : Nums .i64 w rv rs) (hE : gridE ps rs ≠ 0) :
    Calls Tryd.prog 43 #[.agg #[pv, rv]] w fun e w' => e = .returned (.tuple #[.slice none 0 0, .int .i64 (gridE ps rs)]) ∧ Below w.heap.size w w' := by
  have hb0 : Below w.heap.size w (w.alloc (.cells #[pv, rv] 34)) := (Below.refl _ _).alloc (Nat.le_refl _) _
  have HV := Lib.hid (gvalid_any pv rv ps rs _ (hp.below hb0) (hr.below hb0))
  have hne : (gridE ps rs != 0) = true := by rw [bne_iff_ne]; exact hE
  obtain ⟨A, c, rfl, hc, hm, hsp⟩ := hp
  obtain ⟨B, c', rfl, hc', hm', hsr⟩ := hr
  clear hE hsp hsr
  generalize gridE ps rs = E at *
  go_enter Tryd.func43, Tryd.ntmps43
  go_wp2_with fail
  refine HV.out.mono ?_
  rintro e w1 ⟨rfl, hb⟩
  go_wp2_with fail
  go_ret2
  exact ⟨rfl, hb0.trans (hb.mono hb0.size)⟩

set_option maxHeartbeats 2000000 in
theorem prior_yes (pv rv : Value) (ps rs : List Int) (w : World) (hp : Nums .i64 w pv ps) (hr : Nums .i64 w rv rs) (hE : gridE ps rs = 0) :
    Calls Tryd.prog 43 #[.agg #[pv, rv]] w fun e w' => ∃ v, e = .returned (.tuple #[v, .int .i64 0]) ∧ CanL w' v (natsOf rs) 2 ∧ Fresh w.heap.size v ∧ Below w.heap.size w w' := by
  have hb0 : Below w.heap.size w (w.alloc (.cells #[pv, rv] 34)) := (Below.refl _ _).alloc (Nat.le_refl _) _
  have HV := gvalid_any pv rv ps rs _ (hp.below hb0) (hr.below hb0)
  rw [hE] at HV
  replace HV := Lib.hid HV
  obtain ⟨z1, z2, z3, z4, _⟩ := gridE_zero hE
  have HZ := Lib.hid z4
  clear hE z4
  obtain ⟨A, c, rfl, hc, hm, hsp⟩ := hp
  obtain ⟨B, c', rfl, hc', hm', hsr⟩ := hr
  have hr0 := Row.new w 34 [.slice A ps.length c, .slice B rs.length c']
  have hmk := run_mk (P := Tryd.prog) Tryd.underlying22 infoNat rfl rs.length (by omega) (by omega)
  obtain ⟨n, hn⟩ : ∃ n, rs.length = n := ⟨_, rfl⟩
  have HN := Lib.hid hn
  have HP := Lib.hid (show ps.length = n by omega)
  have hn21 : n ≤ 21 := by omega
  rw [hn] at hsr hmk hr0 HV ⊢
  clear hn z1 z2 z3 hc' hc
  go_enter Tryd.func43, Tryd.ntmps43
  go_wp2_with fail
  refine HV.out.mono ?_
  rintro e w1 ⟨rfl, hb⟩
  replace hr0 := hr0.keep hb
  have hb1 : Below w.heap.size w w1 := ((Below.refl _ _).alloc (Nat.le_refl _) _).trans (hb.mono (by simp))
  have q1 : w1.cell? ⟨w.heap.size, 1, none⟩ = some (.slice B n c') := hr0.cell 1
  have zl := hr0.lt
  replace hsr := hsr.below hb1
  clear hb hb0 HV
  go_wp2_with fail
  clear hmk
  go_loopw [20] (fun i wr => ∃ (k : Nat) (us : List Value), k ≤ n ∧ i = .int .i64 (k : Int) ∧ Coll wr us (natsOf rs) k 2 (w1.heap.size + 1) ∧ Row wr w1.heap.size 50 (us ++ List.replicate (n - k) (.slice none 0 0)) ∧ Below w1.heap.size w1 wr) (fun i _ => n - (intOf i).toNat)
  case atStart => exact ⟨0, [], by omega, rfl, Coll.zero _ _ _ _, by rw [List.nil_append]; exact Row.newz _ _ _ _, (Below.refl _ _).alloc (Nat.le_refl _) _⟩
  case round =>
    obtain ⟨k, us, hk, rfl, hco, hrow, hbr⟩ := hrel
    by_cases hlt : k < n
    · obtain ⟨b2, o2, rfl, hb2, hcell⟩ := hsr.num hlt
      have g1 : wr.cell? ⟨b2, o2 + k, none⟩ = some (.int .i64 (rs.getD k 0)) := (hbr.cell (p := ⟨b2, o2 + k, none⟩) hb2).trans (hcell k hlt)
      obtain ⟨_, _, y1, y2⟩ := HZ.out k (by rw [HP.out]; exact hlt)
      obtain ⟨m, hmx⟩ := Int.eq_ofNat_of_zero_le (show 0 ≤ rs.getD k 0 by omega)
      have HG := Lib.hid (show (natsOf rs).getD k 0 = m by rw [natsOf_get, hmx]; rfl)
      rw [hmx] at g1 y1 y2
      clear hcell hmx
      have zr := hrow.lt
      go_wp2_with fail
      refine (of_any m _ (by omega)).mono ?_
      rintro e w2 ⟨v, rfl, hv⟩
      have hbe := hv.bel
      have hrow2 := hrow.keep hbe
      have hc0 : w2.cell? ⟨w1.heap.size, k, none⟩ = some (.slice none 0 0) := by rw [hrow2.cell, padv_get _ _ _ _ hco.1 hlt]
      have hf0 : w2.frozen? ⟨w1.heap.size, k, none⟩ = false := hrow2.frozen k
      have hv' := hv
      obtain ⟨ls, ⟨⟨V, cv, rfl, _, _, _⟩, _⟩, _⟩ := hv'
      go_wp2_with fail
      go_roundw
      case rel =>
        refine ⟨k + 1, us ++ [.slice V ls.length cv], by omega, by go_num, ?_, ?_, (hbr.trans (hbe.mono hbr.size)).setCell (Nat.le_refl _) _⟩
        · exact ((hco.below hbe).snoc (by rw [HG.out]; exact hv.nat) (hv.fresh.mono zr)).set_ (p := ⟨w1.heap.size, k, none⟩) (by simp) _
        · rw [← padv_set _ _ _ _ _ hco.1 hlt]
          exact hrow2.set_ k _
      case measure => simp [intOf]; omega
    · obtain rfl : k = n := by omega
      go_wp2_with fail
      go_ret2
      refine ⟨.slice (some ⟨w1.heap.size, 0, none⟩) k k, rfl, ?_, hb1.size, hb1.trans (hbr.mono hb1.size)⟩
      have hl : (natsOf rs).length = k := by rw [natsOf_len, HN.out]
      have hrow' : Row wr w1.heap.size 50 us := by simpa using hrow
      rw [← hl] at hco
      have := hco.can_row hrow' (by rw [hl]; unfold maxLen; omega)
      rwa [hl] at this
end Go.Proofs.YtoihjclkocffhaaDoor
