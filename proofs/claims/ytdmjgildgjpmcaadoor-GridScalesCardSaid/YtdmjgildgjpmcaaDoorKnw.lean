/- The walk of nat.addBack. -/
import Derived.Test.YtdmjgildgjpmcaaDoorKnv
import Derived.Test.YtdmjgildgjpmcaaDoorNatL
import Derived.Laws.BitsAllLaws
namespace Go.Proofs.YtdmjgildgjpmcaaDoor
open Go.RowKit
set_option linter.unusedVariables false

theorem grownSet {w w1 : World} {g : Nat} (h : w.grownBy w1 (some g)) (i : Nat) (u : Value) : w.grownBy (w1.setCell ⟨g, i, none⟩ u) (some g) :=
  ⟨h.os, h.tape, h.output, by simpa using h.size, fun k hk hne => (Below.heap_setCell w1 ⟨g, i, none⟩ u k (fun e => hne (by rw [e]))).trans (h.block k hk hne)⟩
theorem grownRefl (w : World) (r : Option Nat) : w.grownBy w r := ⟨rfl, rfl, rfl, Nat.le_refl _, fun _ _ _ => rfl⟩
theorem part_cell {pre ps post : List Nat} {i : Nat} (h : i < ps.length) : (lims (pre ++ ps ++ post))[pre.length + i]? = some (.int .u32 ((ps.getD i 0 : Nat) : Int)) := by
  rw [lims_get _ (by simp; omega)]
  congr 3
  simp only [List.getD_eq_getElem?_getD]
  rw [List.append_assoc, List.getElem?_append_right (by omega), Nat.add_sub_cancel_left, List.getElem?_append_left h]
theorem part_set {pre ps post : List Nat} {i x : Nat} (h : i < ps.length) : (lims (pre ++ ps ++ post)).set (pre.length + i) (.int .u32 (x : Int)) = lims (pre ++ ps.set i x ++ post) := by
  rw [lims_set]
  congr 1
  rw [List.append_assoc, List.append_assoc, List.set_append_right _ _ (by omega), Nat.add_sub_cancel_left, List.set_append_left _ _ h]
theorem add_wrap (x y c : Nat) (hx : x < 4294967296) (hy : y < 4294967296) (hc : c ≤ 1) :
    ∃ lo c' : Nat, ((x : Int) + (y : Int) + (c : Int)) / 4294967296 = (c' : Int) ∧ ((x : Int) + (y : Int) + (c : Int)) % 4294967296 = (lo : Int) ∧ lo < 4294967296 ∧ c' ≤ 1 ∧ x + y + c = lo + 4294967296 * c' :=
  ⟨(x + y + c) % 4294967296, (x + y + c) / 4294967296, by omega, by omega, by omega, by omega, by omega⟩

set_option maxHeartbeats 4000000 in
theorem addBack_any (g cp : Nat) (D : Option Addr) (cD : Nat) (pre ps post dv : List Nat) (w : World) (hrow : Row w g 42 (lims (pre ++ ps ++ post))) (hs : Sl w D dv.length (lims dv)) (hne : ∀ b o, D = some ⟨b, o, none⟩ → b ≠ g) (hps : ps.length = dv.length + 1) (ha : AllB ps) (hd : AllB dv)
    (h0 : 0 < dv.length) (hl : dv.length ≤ 1000000000) (hcp : dv.length + 1 ≤ cp) (hcp2 : cp ≤ 9223372036854775807) (hcD : dv.length ≤ cD) (hcD2 : cD ≤ 9223372036854775807) (hpl : pre.length ≤ 1000000000) :
    Calls Tryd.prog 58 #[.slice (some ⟨g, pre.length, none⟩) (dv.length + 1) cp, .slice D dv.length cD] w fun e w' => ∃ v ps' c, e = .returned v ∧ ps'.length = dv.length + 1 ∧ AllB ps' ∧ val ps + val dv = val ps' + bp (dv.length + 1) * c ∧ Row w' g 42 (lims (pre ++ ps' ++ post)) ∧ w.grownBy w' (some g) := by
  obtain ⟨b, o, rfl, hb, hcell⟩ := hs.lim h0
  have hbg := hne b o rfl
  have HC := Lib.hid hcell
  have HPS := Lib.hid hps
  obtain ⟨n, hn⟩ : ∃ n, dv.length = n := ⟨_, rfl⟩
  have HN := Lib.hid hn
  rw [hn] at h0 hl hcp hcD HC HPS ⊢
  clear hcell hne hps hs hn
  go_enter Tryd.func58, Tryd.ntmps58
  go_wp2_with fail
  go_loopw [4, 10] (fun cr i wr => ∃ (k cy : Nat) (qs : List Nat), k ≤ n ∧ i = .int .i64 (k : Int) ∧ cr = .int .u64 (cy : Int) ∧ cy ≤ 1 ∧ Hid (qs.length = n + 1) ∧ AllB qs ∧ Hid (val (ps.take k) + val (dv.take k) = val (qs.take k) + bp k * cy) ∧ Hid (∀ i, k ≤ i → qs.getD i 0 = ps.getD i 0) ∧ Row wr g 42 (lims (pre ++ qs ++ post)) ∧ w.grownBy wr (some g)) (fun _ i _ => n - (intOf i).toNat)
  case atStart => exact ⟨0, 0, ps, by omega, rfl, rfl, by omega, HPS.out, ha, by simp [Hid, val], fun i hi => rfl, hrow, grownRefl _ _⟩
  case round =>
    obtain ⟨k, cy, qs, hk, rfl, rfl, hcy, hqs, hall, hval, hsame, hrw, hgr⟩ := hrel
    have zg := hrw.lt
    have hkq : k < qs.length := by rw [hqs.out]; omega
    have g2 : wr.cell? ⟨g, pre.length + k, none⟩ = some (.int .u32 ((qs.getD k 0 : Nat) : Int)) := (hrw.cell _).trans (part_cell hkq)
    have f2 := hrw.frozen (pre.length + k)
    have hx := hall.getD k
    have HXE := Lib.hid (hsame.out k (Nat.le_refl _))
    by_cases hlt : k < n
    · have g1 : wr.cell? ⟨b, o + k, none⟩ = some (.int .u32 ((dv.getD k 0 : Nat) : Int)) := hgr.cell (HC.out k hlt) (by simpa using hbg)
      have hy := hd.getD k
      have HADD := Lib.hid (fun c' limb x ht hx => addb_step (part := ps) (ps := qs) (dv := dv) (i := k) (c := cy) (c' := c') (limb := limb) (x := x) (by rw [HPS.out]; omega) (by rw [hqs.out, HPS.out]) (by rw [HN.out]; exact hlt) hval.out hx ht)
      have HSET := Lib.hid (fun x => part_set (pre := pre) (post := post) (ps := qs) (i := k) (x := x) hkq)
      generalize hxe : qs.getD k 0 = xx at *
      generalize hye : dv.getD k 0 = yy at *
      have HY := Lib.hid hye
      clear hxe hye
      obtain ⟨lo, c', e1, e2, hlo, hc', he⟩ := add_wrap xx yy cy hx hy hcy
      have HE := Lib.hid he
      clear he
      have hrs := hrw.set_ (pre.length + k) (.int .u32 (lo : Int))
      rw [HSET.out] at hrs
      go_wp2_with fail
      go_roundw
      case rel =>
        refine ⟨k + 1, c', qs.set k lo, by omega, by go_num, rfl, hc', by unfold Hid; rw [List.length_set]; exact hqs.out, hall.set k hlo, ?_, ?_, hrs, grownSet hgr _ _⟩
        · have := HADD.out c' lo xx HE.out HXE.out.symm
          exact this
        · intro i hi
          have := hsame.out i (by omega)
          rw [List.getD_eq_getElem?_getD, List.getElem?_set, if_neg (by omega), ← List.getD_eq_getElem?_getD]
          exact this
      case measure => simp [intOf]; omega
    · have hkn : k = n := by omega
      subst hkn
      have HEND := Lib.hid (fun c' limb x hx ht => addb_end (part := ps) (ps := qs) (dv := dv) (n := k) (c := cy) (b' := c') (limb := limb) (x := x) HN.out HPS.out hqs.out hval.out hx ht)
      have HSET := Lib.hid (fun x => part_set (pre := pre) (post := post) (ps := qs) (i := k) (x := x) hkq)
      generalize hxe : qs.getD k 0 = xx at *
      clear hxe
      obtain ⟨lo, hlo1⟩ : ∃ lo, (xx + cy) % 4294967296 = lo := ⟨_, rfl⟩
      obtain ⟨c', hc1⟩ : ∃ c', (xx + cy) / 4294967296 = c' := ⟨_, rfl⟩
      have hlo : lo < 4294967296 := by omega
      have HE := Lib.hid (show xx + cy = lo + 4294967296 * c' by omega)
      have hw : IntKind.u32.wrap ((xx : Int) + (cy : Int)) = (lo : Int) := by rw [IntKind.wrap_u32]; omega
      clear hlo1 hc1
      have hrs := hrw.set_ (pre.length + k) (.int .u32 (lo : Int))
      rw [HSET.out] at hrs
      go_wp2_with fail
      go_end0
      exact ⟨_, qs.set k lo, c', rfl, by rw [List.length_set]; exact hqs.out, hall.set k hlo, HEND.out c' lo xx HXE.out.symm HE.out, hrs, grownSet hgr _ _⟩
end Go.Proofs.YtdmjgildgjpmcaaDoor
