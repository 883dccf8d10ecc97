/- The walks of nat's Add, Sub, Mul. -/
import Derived.Test.YtoihjclkocffhaaDoorNatA
namespace Go.Proofs.YtoihjclkocffhaaDoor
open Go.RowKit
set_option linter.unusedVariables false

theorem add_step {p so a b c lo c' A B' : Nat} (h : lo + 4294967296 * c' = a + b + c) (hs : so + c * p = A + B') : (so + p * lo) + c' * (p * 4294967296) = (A + p * a) + (B' + p * b) := by grind
theorem pad_set (l : List Nat) (n k x : Nat) (hl : l.length = k) (hk : k < n) : (l ++ List.replicate (n - k) 0).set k x = (l ++ [x]) ++ List.replicate (n - (k + 1)) 0 := by
  subst hl
  rw [List.set_append_right _ _ (by omega), Nat.sub_self]
  obtain ⟨m, hm⟩ : ∃ m, n - l.length = m + 1 := ⟨n - l.length - 1, by omega⟩
  rw [hm, List.replicate_succ, List.set_cons_zero, show n - (l.length + 1) = m by omega]
  simp
theorem pad_get (l : List Nat) (n k : Nat) (hl : l.length = k) (hk : k < n) : (l ++ List.replicate (n - k) 0).getD k 0 = 0 := by
  subst hl
  rw [List.getD_eq_getElem?_getD, List.getElem?_append_right (by omega), Nat.sub_self, List.getElem?_replicate]
  split <;> rfl

set_option maxHeartbeats 4000000 in
theorem add_core (A B : Option Addr) (n c m c' : Nat) (a b : List Nat) (w : World) (hsa : Sl w A a.length (lims a)) (hsb : Sl w B b.length (lims b)) (all1 : AllB a) (all2 : AllB b)
    (hc : c ≤ 9223372036854775807) (hc' : c' ≤ 9223372036854775807) (la : a.length ≤ 70368744177650) (lb : b.length ≤ 70368744177650)
    (T1 : Hid (∀ w', w = w' → Calls Tryd.prog 76 #[.slice A n c] w' fun e w'' => e = .returned (.slice A a.length c) ∧ w' = w''))
    (T2 : Hid (∀ w', w = w' → Calls Tryd.prog 76 #[.slice B m c'] w' fun e w'' => e = .returned (.slice B b.length c') ∧ w' = w'')) :
    Calls Tryd.prog 62 #[.slice A n c, .slice B m c'] w fun e w' => ∃ v, e = .returned v ∧ NRes w w' v (val a + val b) (max a.length b.length + 1) := by
  go_enter Tryd.func62, Tryd.ntmps62
  go_wp2_with fail
  refine (T1.out _ rfl).mono ?_
  rintro e w' ⟨rfl, rfl⟩
  go_wp2_with fail
  refine (T2.out _ rfl).mono ?_
  rintro e w' ⟨rfl, rfl⟩
  clear T1 T2
  by_cases hlt0 : a.length < b.length
  · have hxy : a.length ≤ b.length := by omega
    have hsx := hsb
    have hsy := hsa
    have allx := all2
    have ally := all1
    clear hsa hsb all1 all2
    have hmk := run_mkI (P := Tryd.prog) Tryd.underlying50 infoU32 rfl ((b.length : Int) + 1) (b.length + 1) (by omega) (by omega) (by omega)
    go_wp2_with fail
    clear hmk
    go_loopw [6, 7, 8, 26] (fun cr _ _ i wr => ∃ (k cy : Nat) (so : List Nat), k ≤ b.length ∧ i = .int .i64 (k : Int) ∧ cr = .int .u64 (cy : Int) ∧ cy ≤ 1 ∧ Hid (so.length = k) ∧ AllB so ∧ Hid (val so + cy * bp k = val (b.take k) + val (a.take k)) ∧ Row wr w.heap.size 69 (lims (so ++ List.replicate (b.length + 1 - k) 0)) ∧ Below w.heap.size w wr) (fun _ _ _ i _ => b.length - (intOf i).toNat)
    case atStart => exact ⟨0, 0, [], by omega, rfl, rfl, by omega, rfl, AllB.nil, by simp [Hid, val], by rw [List.nil_append, lims_zeros]; exact Row.newz _ _ _ _, (Below.refl _ _).alloc (Nat.le_refl _) _⟩
    case round =>
      obtain ⟨k, cy, so, hk, rfl, rfl, hcy, hso, hall, hval, hrow, hb⟩ := hrel
      have zl : w.heap.size < wr.heap.size := hrow.lt
      by_cases hlt : k < b.length
      · obtain ⟨b1, o1, rfl, hb1, hcell⟩ := hsx.lim hlt
        have g1 : wr.cell? ⟨b1, o1 + k, none⟩ = some (.int .u32 ((b.getD k 0 : Nat) : Int)) := (hb.cell (p := ⟨b1, o1 + k, none⟩) hb1).trans (hcell k hlt)
        have hx := allx.getD k
        have hc0 : wr.cell? ⟨w.heap.size, k, none⟩ = some (.int .u32 0) := by
          rw [hrow.cell, lims_get _ (by simp [hso.out]; omega), pad_get _ _ _ hso.out (by omega)]; rfl
        have hf0 : wr.frozen? ⟨w.heap.size, k, none⟩ = false := hrow.frozen k
        have HX := Lib.hid (val_take_succ b k)
        have HY := Lib.hid (val_take_succ a k)
        clear hcell
        by_cases hly : k < a.length
        · obtain ⟨b2, o2, rfl, hb2, hcell⟩ := hsy.lim hly
          have g2 : wr.cell? ⟨b2, o2 + k, none⟩ = some (.int .u32 ((a.getD k 0 : Nat) : Int)) := (hb.cell (p := ⟨b2, o2 + k, none⟩) hb2).trans (hcell k hly)
          have hy := ally.getD k
          clear hcell
          generalize b.getD k 0 = xx at *
          generalize a.getD k 0 = yy at *
          go_wp2
          go_roundw
          case rel =>
            refine ⟨k + 1, (xx + cy + yy) / 4294967296, so ++ [(xx + cy + yy) % 4294967296], by omega, by go_num, rfl, by omega, by unfold Hid; rw [List.length_append, hso.out]; rfl, hall.snoc (by omega), ?_, ?_, hb.setCell (Nat.le_refl _) _⟩
            · unfold Hid
              rw [val_snoc, hso.out, HX.out, HY.out, bp_succ]
              exact add_step (by omega) hval.out
            · rw [← pad_set _ _ _ _ hso.out (by omega), ← lims_set]
              exact hrow.set_ k _
          case measure => simp [intOf]; omega
        · have hy0 : a.getD k 0 = 0 := by rw [List.getD_eq_getElem?_getD, List.getElem?_eq_none (by omega)]; rfl
          rw [hy0] at HY
          clear hy0
          generalize b.getD k 0 = xx at *
          go_wp2
          go_roundw
          case rel =>
            refine ⟨k + 1, (xx + cy) / 4294967296, so ++ [(xx + cy) % 4294967296], by omega, by go_num, rfl, by omega, by unfold Hid; rw [List.length_append, hso.out]; rfl, hall.snoc (by omega), ?_, ?_, hb.setCell (Nat.le_refl _) _⟩
            · unfold Hid
              rw [val_snoc, hso.out, HX.out, HY.out, bp_succ]
              exact add_step (by omega) hval.out
            · rw [← pad_set _ _ _ _ hso.out (by omega), ← lims_set]
              exact hrow.set_ k _
          case measure => simp [intOf]; omega
      · obtain rfl : k = b.length := by omega
        have hc0 : wr.cell? ⟨w.heap.size, b.length, none⟩ = some (.int .u32 0) := by
          rw [hrow.cell, lims_get _ (by simp [hso.out]), pad_get _ _ _ hso.out (by omega)]; rfl
        have hf0 : wr.frozen? ⟨w.heap.size, b.length, none⟩ = false := hrow.frozen _
        have hrow' : Row (wr.setCell ⟨w.heap.size, b.length, none⟩ (.int .u32 (cy : Int))) w.heap.size 69 (lims (so ++ [cy])) := by
          have := hrow.set_ b.length (.int .u32 (cy : Int))
          rw [lims_set, pad_set _ _ _ _ hso.out (by omega)] at this
          simpa using this
        have hslen : (so ++ [cy]).length = b.length + 1 := by rw [List.length_append, hso.out]; rfl
        have hsl := hrow'.sl
        rw [lims_len, hslen] at hsl
        have hval' : val (so ++ [cy]) = val a + val b := by
          have e := hval.out
          rw [val_snoc, hso.out, Nat.mul_comm, e, val_take_all _ (Nat.le_refl _), val_take_all _ hxy]
          omega
        have HV := Lib.hid hval'
        have HS := Lib.hid hslen
        clear hval' hslen
        go_wp2_with fail
        refine (trim_any _ (b.length + 1) (b.length + 1) (so ++ [cy]) _ hsl (by omega) (by unfold maxLen; omega)).mono ?_
        rintro e w' ⟨rfl, rfl⟩
        go_wp2_with fail
        go_ret
        have hall2 : AllB (so ++ [cy]) := hall.snoc (by omega)
        exact ⟨_, rfl, _, Lim.strip hsl (by omega) (by unfold maxLen; omega) hall2, strip_noTop _, by rw [strip_val, HV.out], Nat.le_trans (strip_len _) (by rw [HS.out]; omega), Nat.le_refl _, hb.setCell (Nat.le_refl _) _⟩
  · have hxy : b.length ≤ a.length := by omega
    have hsx := hsa
    have hsy := hsb
    have allx := all1
    have ally := all2
    clear hsa hsb all1 all2
    have hmk := run_mkI (P := Tryd.prog) Tryd.underlying50 infoU32 rfl ((a.length : Int) + 1) (a.length + 1) (by omega) (by omega) (by omega)
    go_wp2_with fail
    clear hmk
    go_loopw [6, 7, 8, 26] (fun cr _ _ i wr => ∃ (k cy : Nat) (so : List Nat), k ≤ a.length ∧ i = .int .i64 (k : Int) ∧ cr = .int .u64 (cy : Int) ∧ cy ≤ 1 ∧ Hid (so.length = k) ∧ AllB so ∧ Hid (val so + cy * bp k = val (a.take k) + val (b.take k)) ∧ Row wr w.heap.size 69 (lims (so ++ List.replicate (a.length + 1 - k) 0)) ∧ Below w.heap.size w wr) (fun _ _ _ i _ => a.length - (intOf i).toNat)
    case atStart => exact ⟨0, 0, [], by omega, rfl, rfl, by omega, rfl, AllB.nil, by simp [Hid, val], by rw [List.nil_append, lims_zeros]; exact Row.newz _ _ _ _, (Below.refl _ _).alloc (Nat.le_refl _) _⟩
    case round =>
      obtain ⟨k, cy, so, hk, rfl, rfl, hcy, hso, hall, hval, hrow, hb⟩ := hrel
      have zl : w.heap.size < wr.heap.size := hrow.lt
      by_cases hlt : k < a.length
      · obtain ⟨b1, o1, rfl, hb1, hcell⟩ := hsx.lim hlt
        have g1 : wr.cell? ⟨b1, o1 + k, none⟩ = some (.int .u32 ((a.getD k 0 : Nat) : Int)) := (hb.cell (p := ⟨b1, o1 + k, none⟩) hb1).trans (hcell k hlt)
        have hx := allx.getD k
        have hc0 : wr.cell? ⟨w.heap.size, k, none⟩ = some (.int .u32 0) := by
          rw [hrow.cell, lims_get _ (by simp [hso.out]; omega), pad_get _ _ _ hso.out (by omega)]; rfl
        have hf0 : wr.frozen? ⟨w.heap.size, k, none⟩ = false := hrow.frozen k
        have HX := Lib.hid (val_take_succ a k)
        have HY := Lib.hid (val_take_succ b k)
        clear hcell
        by_cases hly : k < b.length
        · obtain ⟨b2, o2, rfl, hb2, hcell⟩ := hsy.lim hly
          have g2 : wr.cell? ⟨b2, o2 + k, none⟩ = some (.int .u32 ((b.getD k 0 : Nat) : Int)) := (hb.cell (p := ⟨b2, o2 + k, none⟩) hb2).trans (hcell k hly)
          have hy := ally.getD k
          clear hcell
          generalize a.getD k 0 = xx at *
          generalize b.getD k 0 = yy at *
          go_wp2
          go_roundw
          case rel =>
            refine ⟨k + 1, (xx + cy + yy) / 4294967296, so ++ [(xx + cy + yy) % 4294967296], by omega, by go_num, rfl, by omega, by unfold Hid; rw [List.length_append, hso.out]; rfl, hall.snoc (by omega), ?_, ?_, hb.setCell (Nat.le_refl _) _⟩
            · unfold Hid
              rw [val_snoc, hso.out, HX.out, HY.out, bp_succ]
              exact add_step (by omega) hval.out
            · rw [← pad_set _ _ _ _ hso.out (by omega), ← lims_set]
              exact hrow.set_ k _
          case measure => simp [intOf]; omega
        · have hy0 : b.getD k 0 = 0 := by rw [List.getD_eq_getElem?_getD, List.getElem?_eq_none (by omega)]; rfl
          rw [hy0] at HY
          clear hy0
          generalize a.getD k 0 = xx at *
          go_wp2
          go_roundw
          case rel =>
            refine ⟨k + 1, (xx + cy) / 4294967296, so ++ [(xx + cy) % 4294967296], by omega, by go_num, rfl, by omega, by unfold Hid; rw [List.length_append, hso.out]; rfl, hall.snoc (by omega), ?_, ?_, hb.setCell (Nat.le_refl _) _⟩
            · unfold Hid
              rw [val_snoc, hso.out, HX.out, HY.out, bp_succ]
              exact add_step (by omega) hval.out
            · rw [← pad_set _ _ _ _ hso.out (by omega), ← lims_set]
              exact hrow.set_ k _
          case measure => simp [intOf]; omega
      · obtain rfl : k = a.length := by omega
        have hc0 : wr.cell? ⟨w.heap.size, a.length, none⟩ = some (.int .u32 0) := by
          rw [hrow.cell, lims_get _ (by simp [hso.out]), pad_get _ _ _ hso.out (by omega)]; rfl
        have hf0 : wr.frozen? ⟨w.heap.size, a.length, none⟩ = false := hrow.frozen _
        have hrow' : Row (wr.setCell ⟨w.heap.size, a.length, none⟩ (.int .u32 (cy : Int))) w.heap.size 69 (lims (so ++ [cy])) := by
          have := hrow.set_ a.length (.int .u32 (cy : Int))
          rw [lims_set, pad_set _ _ _ _ hso.out (by omega)] at this
          simpa using this
        have hslen : (so ++ [cy]).length = a.length + 1 := by rw [List.length_append, hso.out]; rfl
        have hsl := hrow'.sl
        rw [lims_len, hslen] at hsl
        have hval' : val (so ++ [cy]) = val a + val b := by
          have e := hval.out
          rw [val_snoc, hso.out, Nat.mul_comm, e, val_take_all _ (Nat.le_refl _), val_take_all _ hxy]
        have HV := Lib.hid hval'
        have HS := Lib.hid hslen
        clear hval' hslen
        go_wp2_with fail
        refine (trim_any _ (a.length + 1) (a.length + 1) (so ++ [cy]) _ hsl (by omega) (by unfold maxLen; omega)).mono ?_
        rintro e w' ⟨rfl, rfl⟩
        go_wp2_with fail
        go_ret
        have hall2 : AllB (so ++ [cy]) := hall.snoc (by omega)
        exact ⟨_, rfl, _, Lim.strip hsl (by omega) (by unfold maxLen; omega) hall2, strip_noTop _, by rw [strip_val, HV.out], Nat.le_trans (strip_len _) (by rw [HS.out]; omega), Nat.le_refl _, hb.setCell (Nat.le_refl _) _⟩

theorem add_wide (v u : Value) (la lb : List Nat) (w : World) (ha : Lim w v la) (hb : Lim w u lb) (h1 : la.length ≤ 70368744177650) (h2 : lb.length ≤ 70368744177650) :
    Calls Tryd.prog 62 #[v, u] w fun e w' => ∃ v, e = .returned v ∧ NRes w w' v (val la + val lb) (max la.length lb.length + 1) := by
  obtain ⟨⟨A, c, rfl, hn, hc, hs⟩, hall⟩ := ha
  obtain ⟨⟨B, c', rfl, hn', hc', hs'⟩, hall'⟩ := hb
  have l1 := strip_len la
  have l2 := strip_len lb
  rw [← strip_val la, ← strip_val lb]
  refine (add_core A B _ c _ c' _ _ w hs.strip hs'.strip (strip_all hall) (strip_all hall') hc hc' (by omega) (by omega)
    (fun w' hw => by subst hw; exact trim_any A _ c la w hs hn hc) (fun w' hw => by subst hw; exact trim_any B _ c' lb w hs' hn' hc')).mono ?_
  rintro e w' ⟨v, rfl, ls, h3, h4, h5, h6, h7, h8⟩
  exact ⟨v, rfl, ls, h3, h4, h5, by omega, h7, h8⟩
theorem add_any (v u : Value) (la lb : List Nat) (w : World) (ha : Lim w v la) (hb : Lim w u lb) (h1 : la.length ≤ 70368744177650) (h2 : lb.length ≤ 70368744177650) :
    Calls Tryd.prog 62 #[v, u] w fun e w' => ∃ v, e = .returned v ∧ NRes w w' v (val la + val lb) (max la.length lb.length + 1) :=
  add_wide v u la lb w ha hb (by omega) (by omega)

theorem sub_wrap (x y c : Nat) (hx : x < 4294967296) (hy : y < 4294967296) (hc : c ≤ 1) :
    ∃ lo c' : Nat, IntKind.u64.wrap (IntKind.u64.wrap ((x : Int) - (c : Int)) - (y : Int)) / 9223372036854775808 = (c' : Int) ∧ IntKind.u64.wrap (IntKind.u64.wrap ((x : Int) - (c : Int)) - (y : Int)) % 4294967296 = (lo : Int) ∧ lo < 4294967296 ∧ c' ≤ 1 ∧ lo + y + c = x + 4294967296 * c' := by
  simp only [IntKind.wrap_u64]
  by_cases h : c + y ≤ x
  · exact ⟨x - c - y, 0, by omega, by omega, by omega, by omega, by omega⟩
  · exact ⟨x + 4294967296 - c - y, 1, by omega, by omega, by omega, by omega, by omega⟩
theorem sub_wrap1 (x c : Nat) (hx : x < 4294967296) (hc : c ≤ 1) :
    ∃ lo c' : Nat, IntKind.u64.wrap ((x : Int) - (c : Int)) / 9223372036854775808 = (c' : Int) ∧ IntKind.u64.wrap ((x : Int) - (c : Int)) % 4294967296 = (lo : Int) ∧ lo < 4294967296 ∧ c' ≤ 1 ∧ lo + 0 + c = x + 4294967296 * c' := by
  simp only [IntKind.wrap_u64]
  by_cases h : c ≤ x
  · exact ⟨x - c, 0, by omega, by omega, by omega, by omega, by omega⟩
  · exact ⟨x + 4294967296 - c, 1, by omega, by omega, by omega, by omega, by omega⟩
theorem sub_step {p so x y c lo c' A B' : Nat} (h : lo + y + c = x + 4294967296 * c') (hs : so + B' = A + c * p) : (so + p * lo) + (B' + p * y) = (A + p * x) + c' * (p * 4294967296) := by grind

set_option maxHeartbeats 4000000 in
theorem sub_core (A B : Option Addr) (n c m c' : Nat) (a b : List Nat) (w : World) (hsa : Sl w A a.length (lims a)) (hsb : Sl w B b.length (lims b)) (all1 : AllB a) (all2 : AllB b)
    (hca : a.length ≤ c) (hcb : b.length ≤ c')
    (hc : c ≤ 9223372036854775807) (hc' : c' ≤ 9223372036854775807) (la : a.length ≤ 70368744177650) (lb : b.length ≤ a.length) (hge : Hid (val b ≤ val a))
    (T1 : Hid (∀ w', w = w' → Calls Tryd.prog 76 #[.slice A n c] w' fun e w'' => e = .returned (.slice A a.length c) ∧ w' = w''))
    (T2 : Hid (∀ w', w = w' → Calls Tryd.prog 76 #[.slice B m c'] w' fun e w'' => e = .returned (.slice B b.length c') ∧ w' = w'')) :
    Calls Tryd.prog 111 #[.slice A n c, .slice B m c'] w fun e w' => ∃ v, e = .returned (.tuple #[v, .bool true]) ∧ NRes w w' v (val a - val b) a.length := by
  have hmk := run_mk (P := Tryd.prog) Tryd.underlying50 infoU32 rfl a.length (by omega) (by omega)
  have HC := Lib.hid (cmp_any (.slice A a.length c) (.slice B b.length c') a b w ⟨⟨A, c, rfl, hca, hc, hsa⟩, all1⟩ ⟨⟨B, c', rfl, hcb, hc', hsb⟩, all2⟩)
  have hcm : 0 ≤ cmpN (val a) (val b) := by have := hge.out; unfold cmpN; rw [if_neg (by omega)]; split <;> omega
  have hcm' : decide (cmpN (val a) (val b) < 0) = false := by simp; omega
  go_enter Tryd.func111, Tryd.ntmps111
  go_wp2_with fail
  refine (T1.out _ rfl).mono ?_
  rintro e w' ⟨rfl, rfl⟩
  go_wp2_with fail
  refine (T2.out _ rfl).mono ?_
  rintro e w' ⟨rfl, rfl⟩
  clear T1 T2
  go_wp2_with fail
  refine HC.out.mono ?_
  rintro e w' ⟨rfl, d0, rfl⟩
  clear HC
  go_wp2_with fail
  clear hmk hcm hcm'
  go_loopw [7, 8, 9, 23] (fun cr _ _ i wr => ∃ (k cy : Nat) (so : List Nat), k ≤ a.length ∧ i = .int .i64 (k : Int) ∧ cr = .int .u64 (cy : Int) ∧ cy ≤ 1 ∧ Hid (so.length = k) ∧ AllB so ∧ Hid (val so + val (b.take k) = val (a.take k) + cy * bp k) ∧ Row wr w.heap.size 69 (lims (so ++ List.replicate (a.length - k) 0)) ∧ Below w.heap.size w wr) (fun _ _ _ i _ => a.length - (intOf i).toNat)
  case atStart => exact ⟨0, 0, [], by omega, rfl, rfl, by omega, rfl, AllB.nil, by simp [Hid, val], by rw [List.nil_append, lims_zeros]; exact Row.newz _ _ _ _, below_drewN ((Below.refl _ _).alloc (Nat.le_refl _) _) _⟩
  case round =>
    obtain ⟨k, cy, so, hk, rfl, rfl, hcy, hso, hall, hval, hrow, hb⟩ := hrel
    have zl : w.heap.size < wr.heap.size := hrow.lt
    by_cases hlt : k < a.length
    · obtain ⟨b1, o1, rfl, hb1, hcell⟩ := hsa.lim hlt
      have g1 : wr.cell? ⟨b1, o1 + k, none⟩ = some (.int .u32 ((a.getD k 0 : Nat) : Int)) := (hb.cell (p := ⟨b1, o1 + k, none⟩) hb1).trans (hcell k hlt)
      have hx := all1.getD k
      have hc0 : wr.cell? ⟨w.heap.size, k, none⟩ = some (.int .u32 0) := by
        rw [hrow.cell, lims_get _ (by simp [hso.out]; omega), pad_get _ _ _ hso.out (by omega)]; rfl
      have hf0 : wr.frozen? ⟨w.heap.size, k, none⟩ = false := hrow.frozen k
      have HX := Lib.hid (val_take_succ a k)
      have HY := Lib.hid (val_take_succ b k)
      clear hcell
      by_cases hly : k < b.length
      · obtain ⟨b2, o2, rfl, hb2, hcell⟩ := hsb.lim hly
        have g2 : wr.cell? ⟨b2, o2 + k, none⟩ = some (.int .u32 ((b.getD k 0 : Nat) : Int)) := (hb.cell (p := ⟨b2, o2 + k, none⟩) hb2).trans (hcell k hly)
        have hy := all2.getD k
        clear hcell
        generalize a.getD k 0 = xx at *
        generalize b.getD k 0 = yy at *
        go_wp2
        obtain ⟨lo, c2, e1, e2, hlo, hc2, heq⟩ := sub_wrap xx yy cy hx hy hcy
        rw [e1, e2]
        go_roundw
        case rel =>
          refine ⟨k + 1, c2, so ++ [lo], by omega, by go_num, rfl, hc2, by unfold Hid; rw [List.length_append, hso.out]; rfl, hall.snoc hlo, ?_, ?_, hb.setCell (Nat.le_refl _) _⟩
          · unfold Hid
            rw [val_snoc, hso.out, HX.out, HY.out, bp_succ]
            exact sub_step heq hval.out
          · rw [← pad_set _ _ _ _ hso.out (by omega), ← lims_set]
            exact hrow.set_ k _
        case measure => simp [intOf]; omega
      · have hy0 : b.getD k 0 = 0 := by rw [List.getD_eq_getElem?_getD, List.getElem?_eq_none (by omega)]; rfl
        rw [hy0] at HY
        clear hy0
        generalize a.getD k 0 = xx at *
        go_wp2
        obtain ⟨lo, c2, e1, e2, hlo, hc2, heq⟩ := sub_wrap1 xx cy hx hcy
        rw [e1, e2]
        go_roundw
        case rel =>
          refine ⟨k + 1, c2, so ++ [lo], by omega, by go_num, rfl, hc2, by unfold Hid; rw [List.length_append, hso.out]; rfl, hall.snoc hlo, ?_, ?_, hb.setCell (Nat.le_refl _) _⟩
          · unfold Hid
            rw [val_snoc, hso.out, HX.out, HY.out, bp_succ]
            exact sub_step heq hval.out
          · rw [← pad_set _ _ _ _ hso.out (by omega), ← lims_set]
            exact hrow.set_ k _
        case measure => simp [intOf]; omega
    · obtain rfl : k = a.length := by omega
      have hrow' : Row wr w.heap.size 69 (lims so) := by simpa using hrow
      have hsl := hrow'.sl
      rw [lims_len, hso.out] at hsl
      have hval' : val so = val a - val b := by
        have e := hval.out
        rw [val_take_all _ (Nat.le_refl _), val_take_all _ lb] at e
        have h1 := val_lt hall
        rw [hso.out] at h1
        have h2 := hge.out
        have : cy = 0 := by
          rcases Nat.eq_zero_or_pos cy with h | h
          · exact h
          · have : cy = 1 := by omega
            subst this
            omega
        subst this
        omega
      have HV := Lib.hid hval'
      clear hval'
      go_wp2_with fail
      refine (trim_any _ a.length a.length so _ hsl (by omega) (by unfold maxLen; omega)).mono ?_
      rintro e w' ⟨rfl, rfl⟩
      go_wp2_with fail
      go_ret2
      exact ⟨_, rfl, _, Lim.strip hsl (by omega) (by unfold maxLen; omega) hall, strip_noTop _, by rw [strip_val, HV.out], Nat.le_trans (strip_len _) (by rw [hso.out]; omega), Nat.le_refl _, hb⟩

theorem strip_len_le {la lb : List Nat} (ha : AllB la) (hb : AllB lb) (h : val lb ≤ val la) : (strip lb).length ≤ (strip la).length := by
  rcases Nat.lt_or_ge (strip la).length (strip lb).length with h1 | h1
  · have := val_lt_of_len (strip_all ha) (strip_noTop lb) h1
    rw [strip_val, strip_val] at this
    omega
  · exact h1
theorem sub_ge (v u : Value) (la lb : List Nat) (w : World) (ha : Lim w v la) (hb : Lim w u lb) (h1 : la.length ≤ 70368744177650) (hge : val lb ≤ val la) :
    Calls Tryd.prog 111 #[v, u] w fun e w' => ∃ v, e = .returned (.tuple #[v, .bool true]) ∧ NRes w w' v (val la - val lb) la.length := by
  obtain ⟨⟨A, c, rfl, hn, hc, hs⟩, hall⟩ := ha
  obtain ⟨⟨B, c', rfl, hn', hc', hs'⟩, hall'⟩ := hb
  have l1 := strip_len la
  have l2 := strip_len lb
  have l3 := strip_len_le hall hall' hge
  rw [← strip_val la, ← strip_val lb] at hge ⊢
  refine (sub_core A B _ c _ c' _ _ w hs.strip hs'.strip (strip_all hall) (strip_all hall') (by omega) (by omega) hc hc' (by omega) l3 hge
    (fun w' hw => by subst hw; exact trim_any A _ c la w hs hn hc) (fun w' hw => by subst hw; exact trim_any B _ c' lb w hs' hn' hc')).mono ?_
  rintro e w' ⟨v, rfl, ls, h3, h4, h5, h6, h7, h8⟩
  exact ⟨v, rfl, ls, h3, h4, h5, by omega, h7, h8⟩

set_option maxHeartbeats 1000000 in
theorem sub_no (A B : Option Addr) (n c m c' : Nat) (a b : List Nat) (w : World) (ha : Lim w (.slice A a.length c) a) (hb : Lim w (.slice B b.length c') b) (hlt : Hid (val a < val b))
    (T1 : Hid (∀ w', w = w' → Calls Tryd.prog 76 #[.slice A n c] w' fun e w'' => e = .returned (.slice A a.length c) ∧ w' = w''))
    (T2 : Hid (∀ w', w = w' → Calls Tryd.prog 76 #[.slice B m c'] w' fun e w'' => e = .returned (.slice B b.length c') ∧ w' = w'')) :
    Calls Tryd.prog 111 #[.slice A n c, .slice B m c'] w fun e w' => e = .returned (.tuple #[.slice none 0 0, .bool false]) ∧ Below w.heap.size w w' := by
  have HC := Lib.hid (cmp_any _ _ a b w ha hb)
  have hcm' : decide (cmpN (val a) (val b) < 0) = true := by rw [cmpN_lt hlt.out]; rfl
  go_enter Tryd.func111, Tryd.ntmps111
  go_wp2_with fail
  refine (T1.out _ rfl).mono ?_
  rintro e w' ⟨rfl, rfl⟩
  go_wp2_with fail
  refine (T2.out _ rfl).mono ?_
  rintro e w' ⟨rfl, rfl⟩
  clear T1 T2
  go_wp2_with fail
  refine HC.out.mono ?_
  rintro e w' ⟨rfl, d0, rfl⟩
  go_wp2_with fail
  go_ret2
  exact ⟨rfl, below_drewN (Below.refl _ _) _⟩
theorem sub_lt (v u : Value) (la lb : List Nat) (w : World) (ha : Lim w v la) (hb : Lim w u lb) (hlt : val la < val lb) :
    Calls Tryd.prog 111 #[v, u] w fun e w' => e = .returned (.tuple #[.slice none 0 0, .bool false]) ∧ Below w.heap.size w w' := by
  obtain ⟨⟨A, c, rfl, hn, hc, hs⟩, hall⟩ := ha
  obtain ⟨⟨B, c', rfl, hn', hc', hs'⟩, hall'⟩ := hb
  exact sub_no A B _ c _ c' _ _ w (Lim.strip hs hn hc hall) (Lim.strip hs' hn' hc' hall') (by unfold Hid; rw [strip_val, strip_val]; exact hlt)
    (fun w' hw => by subst hw; exact trim_any A _ c la w hs hn hc) (fun w' hw => by subst hw; exact trim_any B _ c' lb w hs' hn' hc')

theorem val_set (l : List Nat) (k z : Nat) (hk : k < l.length) : val (l.set k z) + bp k * l.getD k 0 = val l + bp k * z := by
  induction l generalizing k with
  | nil => simp at hk
  | cons x l ih =>
    cases k with
    | zero => simp [val, bp_zero]; omega
    | succ k =>
      have := ih k (by simpa using hk)
      simp only [List.set_cons_succ, val, List.getD_cons_succ, bp_succ]
      grind
theorem getD_left (l m : List Nat) {k : Nat} (h : k < l.length) : (l ++ m).getD k 0 = l.getD k 0 := by
  rw [List.getD_eq_getElem?_getD, List.getD_eq_getElem?_getD, List.getElem?_append_left h]
theorem mul_step {p q s s' o lo c c' R x y V : Nat} (ht : lo + 4294967296 * c' = x * y + o + c) (hs : s + c * p = R + x * q * V) (hs' : s' + p * o = s + p * lo) (r : Nat) (hp : p = q * r) :
    s' + c' * (p * 4294967296) = R + x * q * (V + r * y) := by grind
theorem mul_bound {x y o c : Nat} (hx : x < 4294967296) (hy : y < 4294967296) (ho : o < 4294967296) (hc : c < 4294967296) : x * y + o + c < 18446744073709551616 := by
  have := Nat.mul_le_mul (show x ≤ 4294967295 by omega) (show y ≤ 4294967295 by omega)
  omega
theorem mul_last {s cy P A x q V : Nat} (h : s + cy * (q * P) = A * V + x * q * V) : s + q * P * cy = (A + q * x) * V := by grind

set_option maxHeartbeats 4000000 in
theorem mul_core (A B : Option Addr) (n0 c m0 c' : Nat) (a b : List Nat) (w : World) (hsa : Sl w A a.length (lims a)) (hsb : Sl w B b.length (lims b)) (all1 : AllB a) (all2 : AllB b)
    (hc : c ≤ 9223372036854775807) (hc' : c' ≤ 9223372036854775807) (hsum : a.length + b.length ≤ 70368744177650)
    (T1 : Hid (∀ w', w = w' → Calls Tryd.prog 76 #[.slice A n0 c] w' fun e w'' => e = .returned (.slice A a.length c) ∧ w' = w''))
    (T2 : Hid (∀ w', w = w' → Calls Tryd.prog 76 #[.slice B m0 c'] w' fun e w'' => e = .returned (.slice B b.length c') ∧ w' = w'')) :
    Calls Tryd.prog 33 #[.slice A n0 c, .slice B m0 c'] w fun e w' => ∃ v, e = .returned v ∧ NRes w w' v (val a * val b) (a.length + b.length) := by
  have hmk := run_mkI (P := Tryd.prog) Tryd.underlying50 infoU32 rfl ((a.length : Int) + (b.length : Int)) (a.length + b.length) (by omega) (by omega) (by omega)
  go_enter Tryd.func33, Tryd.ntmps33
  go_wp2_with fail
  refine (T1.out _ rfl).mono ?_
  rintro e w' ⟨rfl, rfl⟩
  go_wp2_with fail
  refine (T2.out _ rfl).mono ?_
  rintro e w' ⟨rfl, rfl⟩
  clear T1 T2
  go_wp2_with fail
  clear hmk
  go_loopw [24] (fun i wr => ∃ (k : Nat) (so : List Nat), k ≤ a.length ∧ i = .int .i64 (k : Int) ∧ Hid (so.length = k + b.length) ∧ AllB so ∧ Hid (val so = val (a.take k) * val b) ∧ Row wr w.heap.size 69 (lims (so ++ List.replicate (a.length - k) 0)) ∧ Below w.heap.size w wr) (fun i _ => a.length - (intOf i).toNat)
  case atStart =>
    refine ⟨0, List.replicate b.length 0, by omega, rfl, by simp [Hid], AllB.zeros _, by simp [Hid, val_zeros, val], ?_, (Below.refl _ _).alloc (Nat.le_refl _) _⟩
    rw [List.replicate_append_replicate, Nat.sub_zero, Nat.add_comm b.length, lims_zeros]
    exact Row.newz _ _ _ _
  case round =>
    obtain ⟨k, so, hk, rfl, hso, hall, hval, hrow, hb⟩ := hrel
    have zl : w.heap.size < wr.heap.size := hrow.lt
    by_cases hlt : k < a.length
    · obtain ⟨b1, o1, rfl, hb1, hcell⟩ := hsa.lim hlt
      have g1 : wr.cell? ⟨b1, o1 + k, none⟩ = some (.int .u32 ((a.getD k 0 : Nat) : Int)) := (hb.cell (p := ⟨b1, o1 + k, none⟩) hb1).trans (hcell k hlt)
      have hx := all1.getD k
      have HX := Lib.hid (val_take_succ a k)
      clear hcell
      generalize a.getD k 0 = xx at *
      obtain ⟨wo, rfl⟩ : ∃ wo : World, wo = wr := ⟨_, rfl⟩
      go_wp2
      go_loopw [8, 31] (fun cr i wr => ∃ (j cy : Nat) (s : List Nat), j ≤ b.length ∧ i = .int .i64 (j : Int) ∧ cr = .int .u64 (cy : Int) ∧ cy < 4294967296 ∧ Hid (s.length = k + b.length) ∧ AllB s ∧ Hid (val s + cy * bp (k + j) = val (a.take k) * val b + xx * bp k * val (b.take j)) ∧ Row wr w.heap.size 69 (lims (s ++ List.replicate (a.length - k) 0)) ∧ Below w.heap.size w wr) (fun _ i _ => b.length - (intOf i).toNat)
      case atStart => exact ⟨0, 0, so, by omega, rfl, rfl, by omega, hso, hall, by unfold Hid; rw [hval.out]; simp [val], hrow, hb⟩
      case round =>
        obtain ⟨j, cy, s, hj, rfl, rfl, hcy, hsl, halls, hv, hr, hb'⟩ := hrel
        have zl' : w.heap.size < wr.heap.size := hr.lt
        by_cases hlt2 : j < b.length
        · obtain ⟨b2, o2, rfl, hb2, hcell⟩ := hsb.lim hlt2
          have g2 : wr.cell? ⟨b2, o2 + j, none⟩ = some (.int .u32 ((b.getD j 0 : Nat) : Int)) := (hb'.cell (p := ⟨b2, o2 + j, none⟩) hb2).trans (hcell j hlt2)
          have hy := all2.getD j
          have HY := Lib.hid (val_take_succ b j)
          have hkj : k + j < s.length := by rw [hsl.out]; omega
          have HSet := Lib.hid (val_set s (k + j))
          have ho := halls.getD (k + j)
          have hc0 : wr.cell? ⟨w.heap.size, k + j, none⟩ = some (.int .u32 ((s.getD (k + j) 0 : Nat) : Int)) := by
            rw [hr.cell, lims_get _ (by simp; omega), getD_left _ _ hkj]
          have hf0 : wr.frozen? ⟨w.heap.size, k + j, none⟩ = false := hr.frozen (k + j)
          have HKJ := Lib.hid hkj
          clear hcell hkj
          generalize b.getD j 0 = yy at *
          generalize s.getD (k + j) 0 = oo at *
          have hmb := mul_bound hx hy ho hcy
          have hm0 : (xx : Int) * (yy : Int) = ((xx * yy : Nat) : Int) := by simp
          have hm1 : (0 : Int) ≤ (xx : Int) * (yy : Int) := by omega
          have hm2 : (xx : Int) * (yy : Int) + (oo : Int) + (cy : Int) < 18446744073709551616 := by omega
          have HM := Lib.hid hm0
          clear hm0 hmb
          go_wp2
          have e1 : ((xx : Int) * (yy : Int) + (oo : Int) + (cy : Int)) / 4294967296 = (((xx * yy + oo + cy) / 4294967296 : Nat) : Int) := by rw [HM.out]; omega
          have e2 : ((xx : Int) * (yy : Int) + (oo : Int) + (cy : Int)) % 4294967296 = (((xx * yy + oo + cy) % 4294967296 : Nat) : Int) := by rw [HM.out]; omega
          rw [e1, e2]
          go_roundw
          case rel =>
            refine ⟨j + 1, (xx * yy + oo + cy) / 4294967296, s.set (k + j) ((xx * yy + oo + cy) % 4294967296), by omega, by go_num, rfl, by have := mul_bound hx hy ho hcy; omega, by unfold Hid; rw [List.length_set]; exact hsl.out, halls.set _ (by omega), ?_, ?_, hb'.setCell (Nat.le_refl _) _⟩
            · unfold Hid
              rw [show k + (j + 1) = (k + j) + 1 by omega, bp_succ, HY.out]
              exact mul_step (o := oo) (c := cy) (s := val s) (lo := (xx * yy + oo + cy) % 4294967296) (by omega) hv.out (HSet.out _ HKJ.out) (bp j) (bp_add k j)
            · have := hr.set_ (k + j) (.int .u32 (((xx * yy + oo + cy) % 4294967296 : Nat) : Int))
              rw [lims_set, List.set_append_left _ _ HKJ.out] at this
              exact this
          case measure => simp [intOf]; omega
        · obtain rfl : j = b.length := by omega
          have hc0 : wr.cell? ⟨w.heap.size, k + b.length, none⟩ = some (.int .u32 0) := by
            rw [hr.cell, lims_get _ (by simp [hsl.out]; omega)]
            rw [List.getD_eq_getElem?_getD, List.getElem?_append_right (by rw [hsl.out]; omega), hsl.out, Nat.sub_self, List.getElem?_replicate, if_pos (by omega)]
            rfl
          have hf0 : wr.frozen? ⟨w.heap.size, k + b.length, none⟩ = false := hr.frozen _
          go_wp2
          go_roundw
          case rel =>
            refine ⟨k + 1, s ++ [cy], by omega, by go_num, by unfold Hid; rw [List.length_append, hsl.out]; simp; omega, halls.snoc hcy, ?_, ?_, hb'.setCell (Nat.le_refl _) _⟩
            · unfold Hid
              have e := hv.out
              rw [val_take_all _ (Nat.le_refl _), bp_add] at e
              rw [val_snoc, hsl.out, HX.out, bp_add]
              exact mul_last e
            · have := hr.set_ (k + b.length) (.int .u32 (cy : Int))
              rw [lims_set] at this
              have e : (s ++ List.replicate (a.length - k) 0).set (k + b.length) cy = s ++ [cy] ++ List.replicate (a.length - (k + 1)) 0 := by
                have := pad_set s (a.length + b.length) (k + b.length) cy hsl.out (by omega)
                rw [show a.length + b.length - (k + b.length) = a.length - k by omega, show a.length + b.length - (k + b.length + 1) = a.length - (k + 1) by omega] at this
                exact this
              rw [e] at this
              exact this
          case measure => simp [intOf]; omega
    · obtain rfl : k = a.length := by omega
      have hrow' : Row wr w.heap.size 69 (lims so) := by simpa using hrow
      have hsl := hrow'.sl
      rw [lims_len, hso.out] at hsl
      have HV := Lib.hid (show val so = val a * val b by rw [hval.out, val_take_all _ (Nat.le_refl _)])
      go_wp2_with fail
      refine (trim_any _ (a.length + b.length) (a.length + b.length) so _ hsl (by omega) (by unfold maxLen; omega)).mono ?_
      rintro e w' ⟨rfl, rfl⟩
      go_wp2_with fail
      go_ret
      exact ⟨_, rfl, _, Lim.strip hsl (by omega) (by unfold maxLen; omega) hall, strip_noTop _, by rw [strip_val, HV.out], Nat.le_trans (strip_len _) (by rw [hso.out]; omega), Nat.le_refl _, hb⟩

theorem mul_wide (v u : Value) (la lb : List Nat) (w : World) (ha : Lim w v la) (hb : Lim w u lb) (hsum : la.length + lb.length ≤ 70368744177650) :
    Calls Tryd.prog 33 #[v, u] w fun e w' => ∃ v, e = .returned v ∧ NRes w w' v (val la * val lb) (la.length + lb.length) := by
  obtain ⟨⟨A, c, rfl, hn, hc, hs⟩, hall⟩ := ha
  obtain ⟨⟨B, c', rfl, hn', hc', hs'⟩, hall'⟩ := hb
  have l1 := strip_len la
  have l2 := strip_len lb
  rw [← strip_val la, ← strip_val lb]
  refine (mul_core A B _ c _ c' _ _ w hs.strip hs'.strip (strip_all hall) (strip_all hall') hc hc' (by omega)
    (fun w' hw => by subst hw; exact trim_any A _ c la w hs hn hc) (fun w' hw => by subst hw; exact trim_any B _ c' lb w hs' hn' hc')).mono ?_
  rintro e w' ⟨v, rfl, ls, h3, h4, h5, h6, h7, h8⟩
  exact ⟨v, rfl, ls, h3, h4, h5, by omega, h7, h8⟩
theorem mul_any (v u : Value) (la lb : List Nat) (w : World) (ha : Lim w v la) (hb : Lim w u lb) (h1 : la.length ≤ 35184372088825) (h2 : lb.length ≤ 35184372088825) :
    Calls Tryd.prog 33 #[v, u] w fun e w' => ∃ v, e = .returned v ∧ NRes w w' v (val la * val lb) (la.length + lb.length) := mul_wide v u la lb w ha hb (by omega)
end Go.Proofs.YtoihjclkocffhaaDoor
