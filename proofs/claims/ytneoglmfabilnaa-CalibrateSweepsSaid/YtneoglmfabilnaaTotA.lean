/- The walks of calibrate's categories and of the reference's. -/
import Derived.Test.YtneoglmfabilnaaCalE
import Derived.Test.YtneoglmfabilnaaMatV
namespace Go.Proofs.Ytneoglmfabilnaa
open Go.RowKit
set_option linter.unusedVariables false

def catsL (ms : List (List (List Int))) : List Int := ms.map fun m => ((catsOf m : Nat) : Int)
theorem catsL_len (ms : List (List (List Int))) : (catsL ms).length = ms.length := by simp [catsL]
theorem catsL_get (ms : List (List (List Int))) {k : Nat} (h : k < ms.length) : (catsL ms).getD k 0 = ((catsOf (ms.getD k []) : Nat) : Int) := by
  unfold catsL
  rw [List.getD_eq_getElem?_getD, List.getElem?_map, List.getD_eq_getElem?_getD, List.getElem?_eq_getElem h]
  rfl
theorem take_snoc {α : Type} (l : List α) (d : α) {k : Nat} (h : k < l.length) : l.take (k + 1) = l.take k ++ [l.getD k d] := by
  rw [List.take_add_one, List.getElem?_eq_getElem h, List.getD_eq_getElem?_getD, List.getElem?_eq_getElem h]; rfl

set_option maxHeartbeats 2000000 in
theorem pcatsR_any (mv : Value) (ms : List (List (List Int))) (w : World) (hm : ModL w mv ms) (h60 : ms.length ≤ 60) :
    Calls Try.prog 37 #[mv] w fun e w' => ∃ v, e = .returned v ∧ Nums .i64 w' v (catsL ms) ∧ Fresh w.heap.size v ∧ Below w.heap.size w w' ∧ ∃ g, v = .slice (some ⟨g, 0, none⟩) ms.length ms.length ∧ w.heap.size ≤ g ∧ Row w' g 3 ((catsL ms).map (Value.int .i64)) := by
  obtain ⟨M, cM, us, rfl, k1, k2, hs, hu⟩ := hm
  have HU := Lib.hid hu
  unfold maxLen at k2
  obtain ⟨n, hn⟩ : ∃ n, ms.length = n := ⟨_, rfl⟩
  have HN := Lib.hid hn
  rw [hn] at hs k1 h60 ⊢
  clear hn hu
  have hmk := run_mk (P := Try.prog) Try.underlying22 infoInt rfl n (by omega) (by omega)
  go_enter Try.func37, Try.ntmps37
  go_wp2_with fail
  clear hmk
  go_loopw [11] (fun i wr => ∃ k : Nat, k ≤ n ∧ i = .int .i64 (k : Int) ∧ Row wr w.heap.size 3 (((catsL ms).take k).map (Value.int .i64) ++ List.replicate (n - k) (.int .i64 0)) ∧ Below w.heap.size w wr) (fun i _ => n - (intOf i).toNat)
  case atStart =>
    refine ⟨0, by omega, rfl, ?_, (Below.refl _ _).alloc (Nat.le_refl _) _⟩
    have := Row.newz w 3 (.int .i64 0) n
    simpa using this
  case round =>
    obtain ⟨k, hk, rfl, hrow, hb⟩ := hrel
    have HL := Lib.hid (show (((catsL ms).take k).map (Value.int .i64)).length = k by have := HN.out; rw [List.length_map, List.length_take, catsL_len]; omega)
    by_cases hlt : k < n
    · obtain ⟨b1, o1, u1, rfl, hb1, g1, hI⟩ := lst_at hs HU.out hlt
      have hkl : Hid (k < ms.length) := by unfold Hid; rw [HN.out]; exact hlt
      have g2 : wr.cell? ⟨b1, o1 + k, none⟩ = some u1 := (hb.cell (p := ⟨b1, o1 + k, none⟩) hb1).trans g1
      have hI2 := hI.below hb
      clear g1 hI
      have hI' := hI2
      obtain ⟨R, cR, vs, rfl, _, _, _, _⟩ := hI'
      have zz := hrow.lt
      have HT := Lib.hid (take_snoc (catsL ms) 0 (show k < (catsL ms).length by rw [catsL_len]; exact hkl.out))
      have HG := Lib.hid (catsL_get ms hkl.out)
      generalize ms.getD k [] = rows at *
      have hbx : Below wr.heap.size wr (wr.alloc (.cells #[.slice R rows.length cR] 48)) := (Below.refl _ _).alloc (Nat.le_refl _) _
      go_wp2_with fail
      refine (cats_any _ rows _ (hI2.below hbx)).mono ?_
      rintro e w1 ⟨rfl, hb1'⟩
      have hb2 : Below wr.heap.size wr w1 := hbx.trans (hb1'.mono hbx.size)
      have hb3 : Below w.heap.size w w1 := hb.trans (hb2.mono hb.size)
      have hrow2 := hrow.keep hb2
      have hc0 : w1.cell? ⟨w.heap.size, k, none⟩ = some (.int .i64 0) := by rw [hrow2.cell, padv_get _ _ _ _ HL.out hlt]
      have hf0 : w1.frozen? ⟨w.heap.size, k, none⟩ = false := hrow2.frozen k
      go_wp2_with fail
      go_roundw
      case rel =>
        refine ⟨k + 1, by omega, by go_num, ?_, hb3.setCell (by simp) _⟩
        rw [HT.out, HG.out, List.map_append, List.map_cons, List.map_nil, ← padv_set _ _ _ _ _ HL.out hlt]
        exact hrow2.set_ k _
      case measure => simp [intOf]; omega
    · obtain rfl : k = n := by omega
      have HW : Hid ((catsL ms).take k = catsL ms) := by unfold Hid; apply List.take_of_length_le; rw [catsL_len, HN.out]; exact Nat.le_refl _
      rw [Nat.sub_self, List.replicate_zero, List.append_nil, HW.out] at hrow
      go_wp2_with fail
      go_ret
      have hl : (catsL ms).length = k := by rw [catsL_len, HN.out]
      have := Nums.of_row hrow (by rw [hl]; unfold maxLen; omega)
      rw [hl] at this
      exact ⟨_, rfl, this, by simp [Fresh], hb, w.heap.size, rfl, Nat.le_refl _, hrow⟩
theorem pcats_any (mv : Value) (ms : List (List (List Int))) (w : World) (hm : ModL w mv ms) (h60 : ms.length ≤ 60) :
    Calls Try.prog 37 #[mv] w fun e w' => ∃ v, e = .returned v ∧ Nums .i64 w' v (catsL ms) ∧ Fresh w.heap.size v ∧ Below w.heap.size w w' :=
  (pcatsR_any mv ms w hm h60).mono fun e w' ⟨v, he, h1, h2, h3, _⟩ => ⟨v, he, h1, h2, h3⟩

set_option maxHeartbeats 2000000 in
theorem rpcats_any (mv : Value) (ms : List (List (List Int))) (w : World) (hm : ModL w mv ms) (h60 : ms.length ≤ 60) :
    Calls Try.prog 42 #[mv] w fun e w' => ∃ v, e = .returned v ∧ Nums .i64 w' v (catsL ms) ∧ Below w.heap.size w w' := by
  obtain ⟨M, cM, us, rfl, k1, k2, hs, hu⟩ := hm
  have HU := Lib.hid hu
  unfold maxLen at k2
  obtain ⟨n, hn⟩ : ∃ n, ms.length = n := ⟨_, rfl⟩
  have HN := Lib.hid hn
  rw [hn] at hs k1 h60 ⊢
  clear hn hu
  go_enter Try.func42, Try.ntmps42
  go_wp2_with fail
  go_loopw [3, 4] (fun v i wr => ∃ (k : Nat) (V : Option Addr) (cv : Nat), k ≤ n ∧ i = .int .i64 (k : Int) ∧ v = .slice V k cv ∧ wr.ownsRow w.heap.size 3 1 (.slice V k cv) k (((catsL ms).take k).map (Value.int .i64)) ∧ Below w.heap.size w wr) (fun _ i _ => n - (intOf i).toNat)
  case atStart => exact ⟨0, none, 0, by omega, rfl, rfl, World.ownsRow_nil _ _ _ _, Below.refl _ _⟩
  case round =>
    obtain ⟨k, V, cv, hk, rfl, rfl, hown, hb⟩ := hrel
    by_cases hlt : k < n
    · obtain ⟨b1, o1, u1, rfl, hb1, g1, hI⟩ := lst_at hs HU.out hlt
      have hkl : Hid (k < ms.length) := by unfold Hid; rw [HN.out]; exact hlt
      have g2 : wr.cell? ⟨b1, o1 + k, none⟩ = some u1 := (hb.cell (p := ⟨b1, o1 + k, none⟩) hb1).trans g1
      have hI2 := hI.below hb
      clear g1 hI
      have hI' := hI2
      obtain ⟨R, cR, vs, rfl, _, _, _, _⟩ := hI'
      have HT := Lib.hid (take_snoc (catsL ms) 0 (show k < (catsL ms).length by rw [catsL_len]; exact hkl.out))
      have HG := Lib.hid (catsL_get ms hkl.out)
      generalize ms.getD k [] = rows at *
      go_wp2_with fail
      refine (rcats_any _ rows _ hI2).mono ?_
      rintro e w1 ⟨rfl, hb1'⟩
      have hb3 : Below w.heap.size w w1 := hb.trans (hb1'.mono hb.size)
      have hown2 := own_keep hown hb1'
      have zb : w.heap.size ≤ w1.heap.size := hb3.size
      go_wp2_with (at_builtin; refine wpList_append_one w1 rfl (.tmp 11) (.tmp 17) 22 rfl w.heap.size 3 (.int .i64 0) 8 Try.underlying22 infoInt rfl (.slice V k cv) k _ (.int .i64 ((catsOf rows : Nat) : Int)) rfl rfl hown2 rfl (by unfold maxLen; omega) (by omega) zb ?_; intro A' c3 w3 hown3 hb4)
      go_roundw
      case rel =>
        refine ⟨k + 1, A', c3, by omega, by go_num, rfl, ?_, hb3.trans (hb4.mono (Nat.le_refl _))⟩
        rw [HT.out, HG.out, List.map_append, List.map_cons, List.map_nil]
        exact hown3
      case measure => simp [intOf]; omega
    · obtain rfl : k = n := by omega
      have HW : Hid ((catsL ms).take k = catsL ms) := by unfold Hid; apply List.take_of_length_le; rw [catsL_len, HN.out]; exact Nat.le_refl _
      rw [HW.out] at hown
      go_wp2_with fail
      go_ret
      exact ⟨_, rfl, Nums.of_own hown, hb⟩
end Go.Proofs.Ytneoglmfabilnaa
