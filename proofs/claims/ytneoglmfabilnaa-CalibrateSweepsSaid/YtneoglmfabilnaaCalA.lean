/- The walks of calibrate's checkModels and factor, and of the reference's valid. -/
import Derived.Test.YtneoglmfabilnaaModV
import Derived.Test.YtneoglmfabilnaaRefB
import Derived.Test.YtneoglmfabilnaaGridV
import Derived.Deep.RegionHeld3
namespace Go.Proofs.Ytneoglmfabilnaa
open Go.RowKit
set_option linter.unusedVariables false

/-- The error of the first model, from index i on, that is not valid; that with the index skip is not looked at. -/
def chkFrom (pn skip : Int) : Nat → List (List (List Int)) → Int
  | _, [] => 0
  | i, m :: ms => if (i : Int) = skip then chkFrom pn skip (i + 1) ms else if modE m pn = 0 then chkFrom pn skip (i + 1) ms else modE m pn
theorem chk_skip {pn skip : Int} {ms : List (List (List Int))} {k : Nat} (hk : k < ms.length) (h : (k : Int) = skip) : chkFrom pn skip k (ms.drop k) = chkFrom pn skip (k + 1) (ms.drop (k + 1)) := by
  rw [drop_cons ms [] hk, chkFrom, if_pos h]
theorem chk_ok {pn skip : Int} {ms : List (List (List Int))} {k : Nat} (hk : k < ms.length) (h : modE (ms.getD k []) pn = 0) : chkFrom pn skip k (ms.drop k) = chkFrom pn skip (k + 1) (ms.drop (k + 1)) := by
  rw [drop_cons ms [] hk, chkFrom, if_pos h]
  split <;> rfl
theorem chk_bad {pn skip : Int} {ms : List (List (List Int))} {k : Nat} (hk : k < ms.length) (h1 : (k : Int) ≠ skip) (h : modE (ms.getD k []) pn ≠ 0) : chkFrom pn skip k (ms.drop k) = modE (ms.getD k []) pn := by
  rw [drop_cons ms [] hk, chkFrom, if_neg h1, if_neg h]
theorem chk_end {pn skip : Int} {ms : List (List (List Int))} {k : Nat} (hk : ms.length ≤ k) : chkFrom pn skip k (ms.drop k) = 0 := by
  rw [List.drop_eq_nil_of_le hk, chkFrom]
theorem chk_zero {pn skip : Int} : ∀ {ms : List (List (List Int))} {i : Nat}, chkFrom pn skip i ms = 0 → ∀ j m, ms[j]? = some m → ((i + j : Nat) : Int) ≠ skip → modE m pn = 0
  | [], i, _, j, m, hm, _ => by simp at hm
  | a :: ms, i, h, j, m, hm, hne => by
    rw [chkFrom] at h
    cases j with
    | zero =>
      simp only [List.getElem?_cons_zero, Option.some.injEq] at hm
      subst hm
      split at h
      · rename_i he; exact absurd (by simpa using he) hne
      · split at h
        · rename_i hz; exact hz
        · exact h
    | succ j =>
      have key : chkFrom pn skip (i + 1) ms = 0 := by
        split at h
        · exact h
        · split at h
          · exact h
          · rename_i hz; exact absurd h hz
      exact chk_zero key j m (by simpa using hm) (by rw [show i + 1 + j = i + (j + 1) by omega]; exact hne)

set_option maxHeartbeats 2000000 in
theorem chkm_any (pv rv mv : Value) (ps rs : List Int) (ms : List (List (List Int))) (skip : Int) (w : World) (hp : Nums .i64 w pv ps) (hr : Nums .i64 w rv rs) (hm : ModL w mv ms) :
    Calls Try.prog 29 #[.agg #[pv, rv], mv, .int .i64 skip] w fun e w' => e = .returned (.int .i64 (chkFrom (ps.length : Int) skip 0 ms)) ∧ Below w.heap.size w w' := by
  obtain ⟨A, c, rfl, hc, hm1, hsp⟩ := hp
  obtain ⟨B, c', rfl, hc', hm2, hsr⟩ := hr
  obtain ⟨M, cM, us, rfl, k1, k2, hs, hu⟩ := hm
  have HU := Lib.hid hu
  unfold maxLen at hm1 hm2 k2
  clear hu hsp hsr
  have hbox : Below w.heap.size w (w.alloc (.cells #[.slice A ps.length c, .slice B rs.length c'] 24)) := (Below.refl _ _).alloc (Nat.le_refl _) _
  have hrow := Row.new w 24 [.slice A ps.length c, .slice B rs.length c']
  obtain ⟨n, hn⟩ : ∃ n, ms.length = n := ⟨_, rfl⟩
  have HN := Lib.hid hn
  rw [hn] at hs k1 ⊢
  clear hn
  go_enter Try.func29, Try.ntmps29
  go_wp2
  go_loopw [12] (fun i wr => ∃ k : Nat, k ≤ n ∧ i = .int .i64 (k : Int) ∧ Hid (chkFrom (ps.length : Int) skip 0 ms = chkFrom (ps.length : Int) skip k (ms.drop k)) ∧ Row wr w.heap.size 24 [.slice A ps.length c, .slice B rs.length c'] ∧ Below w.heap.size w wr) (fun i _ => n - (intOf i).toNat)
  case atStart => exact ⟨0, by omega, rfl, rfl, hrow, hbox⟩
  case round =>
    obtain ⟨k, hk, rfl, hinv, hg, hb⟩ := hrel
    by_cases hlt : k < n
    · obtain ⟨b1, o1, u1, rfl, hb1, g1, hI⟩ := lst_at hs HU.out hlt
      have hkl : Hid (k < ms.length) := by unfold Hid; rw [HN.out]; exact hlt
      have g2 : wr.cell? ⟨b1, o1 + k, none⟩ = some u1 := (hb.cell (p := ⟨b1, o1 + k, none⟩) hb1).trans g1
      have hI2 := hI.below hb
      clear g1 hI
      have hI' := hI2
      obtain ⟨R, cR, vs, rfl, _, _, _, _⟩ := hI'
      have q0 : wr.cell? ⟨w.heap.size, 0, none⟩ = some (.slice A ps.length c) := hg.cell 0
      have zz := hg.lt
      by_cases hsk : (k : Int) = skip
      · have hsk' : ((k : Int) == skip) = true := by rw [beq_iff_eq]; exact hsk
        have HS := Lib.hid (hinv.out.trans (chk_skip hkl.out hsk))
        clear hsk
        go_wp2_with fail
        go_roundw
        case rel => exact ⟨k + 1, by omega, by go_num, HS.out, hg.alloc _, hb.alloc hb.size _⟩
        case measure => simp [intOf]; omega
      · have hsk' : ((k : Int) == skip) = false := by rw [beq_eq_false_iff_ne]; exact hsk
        have HO := Lib.hid (fun h => hinv.out.trans (chk_ok (pn := (ps.length : Int)) (skip := skip) hkl.out h))
        have HBad := Lib.hid (fun h => hinv.out.trans (chk_bad (pn := (ps.length : Int)) (skip := skip) hkl.out hsk h))
        clear hsk hinv
        generalize ms.getD k [] = rows at *
        have hbx : Below wr.heap.size wr (wr.alloc (.cells #[.slice R rows.length cR] 48)) := (Below.refl _ _).alloc (Nat.le_refl _) _
        go_wp2_with fail
        refine (mvalid_any _ rows _ _ (hI2.below hbx)).mono ?_
        rintro e w1 ⟨rfl, hb1'⟩
        have hb2 : Below w.heap.size w w1 := hb.trans ((hbx.mono hb.size).trans (hb1'.mono (Nat.le_trans hb.size hbx.size)))
        have hg2 : Row w1 w.heap.size 24 [.slice A ps.length c, .slice B rs.length c'] := (hg.below hbx zz).below hb1' (Nat.lt_of_lt_of_le zz hbx.size)
        by_cases he : modE rows (ps.length : Int) = 0
        · have HZ := Lib.hid (HO.out he)
          have f3 : (modE rows (ps.length : Int) != 0) = false := by rw [bne_eq_false_iff_eq]; exact he
          clear he HO HBad
          generalize modE rows (ps.length : Int) = E at *
          go_wp2_with fail
          go_roundw
          case rel => exact ⟨k + 1, by omega, by go_num, HZ.out, hg2, hb2⟩
          case measure => simp [intOf]; omega
        · have HE := Lib.hid (HBad.out he)
          have f3 : (modE rows (ps.length : Int) != 0) = true := by rw [bne_iff_ne]; exact he
          clear he HO HBad
          generalize modE rows (ps.length : Int) = E at *
          go_wp2_with fail
          go_ret
          exact ⟨by rw [HE.out]; rfl, hb2⟩
    · have HE := Lib.hid (hinv.out.trans (chk_end (by rw [HN.out]; omega)))
      go_wp2_with fail
      go_ret
      exact ⟨by rw [HE.out]; rfl, hb⟩

set_option maxHeartbeats 2000000 in
theorem rchkm_any (mv : Value) (ms : List (List (List Int))) (pn skip : Int) (w : World) (hm : ModL w mv ms) :
    Calls Try.prog 33 #[mv, .int .i64 pn, .int .i64 skip] w fun e w' => e = .returned (.int .i64 (chkFrom pn skip 0 ms)) ∧ Below w.heap.size w w' := by
  obtain ⟨M, cM, us, rfl, k1, k2, hs, hu⟩ := hm
  have HU := Lib.hid hu
  unfold maxLen at k2
  clear hu
  obtain ⟨n, hn⟩ : ∃ n, ms.length = n := ⟨_, rfl⟩
  have HN := Lib.hid hn
  rw [hn] at hs k1 ⊢
  clear hn
  go_enter Try.func33, Try.ntmps33
  go_wp2
  go_loopw [7] (fun i wr => ∃ k : Nat, k ≤ n ∧ i = .int .i64 (k : Int) ∧ Hid (chkFrom pn skip 0 ms = chkFrom pn skip k (ms.drop k)) ∧ Below w.heap.size w wr) (fun i _ => n - (intOf i).toNat)
  case atStart => exact ⟨0, by omega, rfl, rfl, Below.refl _ _⟩
  case round =>
    obtain ⟨k, hk, rfl, hinv, hb⟩ := hrel
    by_cases hlt : k < n
    · obtain ⟨b1, o1, u1, rfl, hb1, g1, hI⟩ := lst_at hs HU.out hlt
      have hkl : Hid (k < ms.length) := by unfold Hid; rw [HN.out]; exact hlt
      have g2 : wr.cell? ⟨b1, o1 + k, none⟩ = some u1 := (hb.cell (p := ⟨b1, o1 + k, none⟩) hb1).trans g1
      have hI2 := hI.below hb
      clear g1 hI
      have hI' := hI2
      obtain ⟨R, cR, vs, rfl, _, _, _, _⟩ := hI'
      by_cases hsk : (k : Int) = skip
      · have hsk' : ((k : Int) == skip) = true := by rw [beq_iff_eq]; exact hsk
        have HS := Lib.hid (hinv.out.trans (chk_skip hkl.out hsk))
        clear hsk
        go_wp2_with fail
        go_roundw
        case rel => exact ⟨k + 1, by omega, by go_num, HS.out, hb⟩
        case measure => simp [intOf]; omega
      · have hsk' : ((k : Int) == skip) = false := by rw [beq_eq_false_iff_ne]; exact hsk
        have HO := Lib.hid (fun h => hinv.out.trans (chk_ok (pn := pn) (skip := skip) hkl.out h))
        have HBad := Lib.hid (fun h => hinv.out.trans (chk_bad (pn := pn) (skip := skip) hkl.out hsk h))
        clear hsk hinv
        generalize ms.getD k [] = rows at *
        go_wp2_with fail
        refine (rmvalid_any _ rows _ _ hI2).mono ?_
        rintro e w1 ⟨rfl, hb1'⟩
        have hb2 : Below w.heap.size w w1 := hb.trans (hb1'.mono hb.size)
        by_cases he : modE rows pn = 0
        · have HZ := Lib.hid (HO.out he)
          have f3 : (modE rows pn != 0) = false := by rw [bne_eq_false_iff_eq]; exact he
          clear he HO HBad
          generalize modE rows pn = E at *
          go_wp2_with fail
          go_roundw
          case rel => exact ⟨k + 1, by omega, by go_num, HZ.out, hb2⟩
          case measure => simp [intOf]; omega
        · have HE := Lib.hid (HBad.out he)
          have f3 : (modE rows pn != 0) = true := by rw [bne_iff_ne]; exact he
          clear he HO HBad
          generalize modE rows pn = E at *
          go_wp2_with fail
          go_ret
          exact ⟨by rw [HE.out]; rfl, hb2⟩
    · have HE := Lib.hid (hinv.out.trans (chk_end (by rw [HN.out]; omega)))
      go_wp2_with fail
      go_ret
      exact ⟨by rw [HE.out]; rfl, hb⟩

set_option maxHeartbeats 1000000 in
theorem factor_any (rv : Value) (rows : List (List Int)) (q k x : Nat) (w : World) (h : IntsL w rv rows) (hq : q < rows.length) (hk : k < (rows.getD q []).length) (hx : (rows.getD q []).getD k 0 = (x : Int)) (hb : x < 18446744073709551616) :
    Calls Try.prog 55 #[.agg #[rv], .int .i64 (q : Int), .int .i64 (k : Int)] w fun e w' => ∃ v, e = .returned v ∧ NRes w w' v x 2 := by
  obtain ⟨M, cM, us, rfl, k1, k2, hs, hu⟩ := h
  obtain ⟨b1, o1, u1, rfl, hb1, g1, hI⟩ := lst_at hs hu hq
  obtain ⟨R, cR, rfl, i1, i2, i3⟩ := hI
  obtain ⟨b2, o2, rfl, hb2, hcell⟩ := i3.num hk
  have g2 := hcell k hk
  rw [hx] at g2
  clear hcell hu hs i3 hx
  unfold maxLen at k2 i2
  generalize (rows.getD q []).length = m at *
  generalize rows.length = n at *
  have hbx : Below w.heap.size w (w.alloc (.cells #[.slice (some ⟨b1, o1, none⟩) n cM] 48)) := (Below.refl _ _).alloc (Nat.le_refl _) _
  go_enter Try.func55, Try.ntmps55
  go_wp2_with fail
  refine (of_any x _ hb).mono ?_
  rintro e w1 ⟨v, rfl, ls, h1, h2, h3, h4, h5, h6⟩
  go_wp2_with fail
  go_ret
  exact ⟨v, rfl, ls, h1, h2, h3, h4, h5.mono hbx.size, hbx.trans (h6.mono hbx.size)⟩
end Go.Proofs.Ytneoglmfabilnaa
