/- The walk of nat.subtract. -/
import Derived.Test.YtdmjgildgjpmcaaDoorKnw
namespace Go.Proofs.YtdmjgildgjpmcaaDoor
open Go.RowKit
set_option linter.unusedVariables false

theorem subq_wrap (x P b : Nat) (hx : x < 4294967296) (hb : b ≤ 1) :
    ∃ limb b' : Nat, IntKind.u64.wrap (IntKind.u64.wrap ((x : Int) - (P : Int) % 4294967296) - (b : Int)) / 9223372036854775808 = (b' : Int) ∧ IntKind.u64.wrap (IntKind.u64.wrap ((x : Int) - (P : Int) % 4294967296) - (b : Int)) % 4294967296 = (limb : Int) ∧ limb < 4294967296 ∧ b' ≤ 1 ∧ x + 4294967296 * b' = limb + P % 4294967296 + b := by
  simp only [IntKind.wrap_u64]
  by_cases h : P % 4294967296 + b ≤ x
  · exact ⟨x - P % 4294967296 - b, 0, by omega, by omega, by omega, by omega, by omega⟩
  · exact ⟨x + 4294967296 - P % 4294967296 - b, 1, by omega, by omega, by omega, by omega, by omega⟩
theorem subq_wrap1 (x c b : Nat) (hx : x < 4294967296) (hc : c < 4294967296) (hb : b ≤ 1) :
    ∃ limb b' : Nat, IntKind.u64.wrap (IntKind.u64.wrap ((x : Int) - (c : Int)) - (b : Int)) / 9223372036854775808 = (b' : Int) ∧ IntKind.u64.wrap (IntKind.u64.wrap ((x : Int) - (c : Int)) - (b : Int)) % 4294967296 = (limb : Int) ∧ limb < 4294967296 ∧ b' ≤ 1 ∧ x + 4294967296 * b' = limb + c + b := by
  simp only [IntKind.wrap_u64]
  by_cases h : c + b ≤ x
  · exact ⟨x - c - b, 0, by omega, by omega, by omega, by omega, by omega⟩
  · exact ⟨x + 4294967296 - c - b, 1, by omega, by omega, by omega, by omega, by omega⟩
theorem prod_lt {q d c : Nat} (hq : q < 4294967296) (hd : d < 4294967296) (hc : c < 4294967296) : q * d + c < 18446744073709551616 ∧ (q * d + c) / 4294967296 < 4294967296 := by
  have : q * d ≤ 4294967295 * 4294967295 := Nat.mul_le_mul (by omega) (by omega)
  omega

set_option maxHeartbeats 4000000 in
theorem subtract_any (g cp : Nat) (D : Option Addr) (cD q : Nat) (pre ps post dv : List Nat) (w : World) (hrow : Row w g 42 (lims (pre ++ ps ++ post))) (hs : Sl w D dv.length (lims dv)) (hne : ∀ b o, D = some ⟨b, o, none⟩ → b ≠ g) (hps : ps.length = dv.length + 1) (ha : AllB ps) (hd : AllB dv)
    (h0 : 0 < dv.length) (hl : dv.length ≤ 1000000000) (hcp : dv.length + 1 ≤ cp) (hcp2 : cp ≤ 9223372036854775807) (hcD : dv.length ≤ cD) (hcD2 : cD ≤ 9223372036854775807) (hpl : pre.length ≤ 1000000000) (hq : q < 4294967296) :
    Calls Tryd.prog 57 #[.slice (some ⟨g, pre.length, none⟩) (dv.length + 1) cp, .slice D dv.length cD, .int .u64 (q : Int)] w fun e w' => ∃ (ps' : List Nat) (b : Nat), e = .returned (.bool (b != 0)) ∧ b ≤ 1 ∧ ps'.length = dv.length + 1 ∧ AllB ps' ∧ val ps + bp (dv.length + 1) * b = val ps' + q * val dv ∧ Row w' g 42 (lims (pre ++ ps' ++ post)) ∧ w.grownBy w' (some g) := by
  obtain ⟨b, o, rfl, hb, hcell⟩ := hs.lim h0
  have hbg := hne b o rfl
  have HC := Lib.hid hcell
  have HPS := Lib.hid hps
  obtain ⟨n, hn⟩ : ∃ n, dv.length = n := ⟨_, rfl⟩
  have HN := Lib.hid hn
  rw [hn] at h0 hl hcp hcD HC HPS ⊢
  clear hcell hne hps hs hn
  go_enter Tryd.func57, Tryd.ntmps57
  go_wp2_with fail
  go_loopw [7, 8, 16] (fun cr br i wr => ∃ (k cy bo : Nat) (qs : List Nat), k ≤ n ∧ i = .int .i64 (k : Int) ∧ cr = .int .u64 (cy : Int) ∧ br = .int .u64 (bo : Int) ∧ cy < 4294967296 ∧ bo ≤ 1 ∧ Hid (qs.length = n + 1) ∧ AllB qs ∧ Hid (val (ps.take k) + bp k * (cy + bo) = val (qs.take k) + q * val (dv.take k)) ∧ Hid (∀ i, k ≤ i → qs.getD i 0 = ps.getD i 0) ∧ Row wr g 42 (lims (pre ++ qs ++ post)) ∧ w.grownBy wr (some g)) (fun _ _ i _ => n - (intOf i).toNat)
  case atStart => exact ⟨0, 0, 0, ps, by omega, rfl, rfl, rfl, by omega, by omega, HPS.out, ha, by simp [Hid, val], fun i hi => rfl, hrow, grownRefl _ _⟩
  case round =>
    obtain ⟨k, cy, bo, qs, hk, rfl, rfl, rfl, hcy, hbo, hqs, hall, hval, hsame, hrw, hgr⟩ := hrel
    have zg := hrw.lt
    have hkq : k < qs.length := by rw [hqs.out]; omega
    have g2 : wr.cell? ⟨g, pre.length + k, none⟩ = some (.int .u32 ((qs.getD k 0 : Nat) : Int)) := (hrw.cell _).trans (part_cell hkq)
    have f2 := hrw.frozen (pre.length + k)
    have hx := hall.getD k
    have HXE := Lib.hid (hsame.out k (Nat.le_refl _))
    have HSET := Lib.hid (fun x => part_set (pre := pre) (post := post) (ps := qs) (i := k) (x := x) hkq)
    have HRS := Lib.hid (fun lo : Nat => hrw.set_ (pre.length + k) (.int .u32 (lo : Int)))
    by_cases hlt : k < n
    · have g1 : wr.cell? ⟨b, o + k, none⟩ = some (.int .u32 ((dv.getD k 0 : Nat) : Int)) := hgr.cell (HC.out k hlt) (by simpa using hbg)
      have hy := hd.getD k
      have HSUB := Lib.hid (fun lo c' b' limb x hx hpq ht => subq_step (part := ps) (ps := qs) (dv := dv) (i := k) (q := q) (c := cy) (b := bo) (lo := lo) (c' := c') (b' := b') (limb := limb) (x := x) (by rw [HPS.out]; omega) (by rw [hqs.out, HPS.out]) (by rw [HN.out]; exact hlt) hval.out hx hpq ht)
      generalize hxe : qs.getD k 0 = xx at *
      generalize hye : dv.getD k 0 = yy at *
      clear hxe hye
      obtain ⟨m1, m2⟩ := prod_lt hq hy hcy
      obtain ⟨P, hP⟩ : ∃ P, q * yy + cy = P := ⟨_, rfl⟩
      have hP0 : (q : Int) * (yy : Int) + (cy : Int) = (P : Int) := by rw [← hP]; simp
      have hm1 : (0 : Int) ≤ (q : Int) * (yy : Int) := by rw [← Int.natCast_mul]; omega
      have hm2 : (q : Int) * (yy : Int) + (cy : Int) < 18446744073709551616 := by omega
      rw [hP] at m1 m2
      have HP0 := Lib.hid hP0
      have HPN := Lib.hid hP
      clear hP0 hP
      go_wp2_with fail
      rw [HP0.out]
      obtain ⟨limb, b', e1, e2, hlo, hb', he⟩ := subq_wrap xx P bo hx hbo
      rw [e1, e2]
      have e3 : (P : Int) / 4294967296 = ((P / 4294967296 : Nat) : Int) := by omega
      rw [e3]
      go_roundw
      case rel =>
        refine ⟨k + 1, P / 4294967296, b', qs.set k limb, by omega, by go_num, rfl, rfl, m2, hb', by unfold Hid; rw [List.length_set]; exact hqs.out, hall.set k hlo, ?_, ?_, by have := HRS.out limb; rwa [HSET.out] at this, grownSet hgr _ _⟩
        · exact HSUB.out (P % 4294967296) (P / 4294967296) b' limb xx HXE.out.symm (by rw [HPN.out]; omega) he
        · intro i hi
          have := hsame.out i (by omega)
          rw [List.getD_eq_getElem?_getD, List.getElem?_set, if_neg (by omega), ← List.getD_eq_getElem?_getD]
          exact this
      case measure => simp [intOf]; omega
    · have hkn : k = n := by omega
      subst hkn
      have HEND := Lib.hid (fun b' limb x hx ht => subq_end (part := ps) (ps := qs) (dv := dv) (n := k) (q := q) (c := cy) (b := bo) (b' := b') (limb := limb) (x := x) HN.out HPS.out hqs.out hval.out hx ht)
      generalize hxe : qs.getD k 0 = xx at *
      clear hxe
      obtain ⟨limb, b', e1, e2, hlo, hb', he⟩ := subq_wrap1 xx cy bo hx hcy hbo
      have HE := Lib.hid he
      have E1 := Lib.hid e1
      have E2 := Lib.hid e2
      clear he e1 e2
      go_wp2_with fail
      rw [E1.out, E2.out]
      go_ret
      exact ⟨qs.set k limb, b', by (rcases (by omega : b' = 0 ∨ b' = 1) with h | h <;> subst h <;> rfl), hb', by rw [List.length_set]; exact hqs.out, hall.set k hlo, HEND.out b' limb xx HXE.out.symm HE.out, by have := HRS.out limb; rwa [HSET.out] at this, grownSet hgr _ _⟩
end Go.Proofs.YtdmjgildgjpmcaaDoor
