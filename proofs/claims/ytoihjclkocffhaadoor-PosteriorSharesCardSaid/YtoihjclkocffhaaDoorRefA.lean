/- The walks of the reference's Norm, Of, limb, Cmp, Add, Mul (package examboardref01). -/
import Derived.Test.YtoihjclkocffhaaDoorNatB
import Derived.Laws.CopyOwn
namespace Go.Proofs.YtoihjclkocffhaaDoor
open Go.RowKit
set_option linter.unusedVariables false

set_option maxHeartbeats 1000000 in
theorem rnorm_core (A : Option Addr) (n c : Nat) (ls : List Nat) (w : World) (hs : Sl w A n (lims ls)) (hn : n ≤ c) (hc : c ≤ 9223372036854775807) (hl : n ≤ 70368744177664) (hall : AllB ls) :
    Calls Tryd.prog 49 #[.slice A n c] w fun e w' => ∃ v, e = .returned v ∧ NRes w w' v (val ls) n := by
  have HL := Lib.hid (show ls.length = n by have := hs.1; rwa [lims_len] at this)
  go_enter Tryd.func49, Tryd.ntmps49
  go_wp2
  go_loop [3] (fun v => ∃ k : Nat, k ≤ n ∧ v = .int .i64 (k : Int) ∧ Hid (strip ls = strip (ls.take k))) (fun v => (intOf v).toNat)
  case atStart => exact ⟨n, Nat.le_refl _, rfl, by unfold Hid; rw [List.take_of_length_le (by rw [HL.out]; omega)]⟩
  case round =>
    obtain ⟨k, hk, rfl, hst⟩ := hrel
    by_cases hcase : k = 0 ∨ 0 < ls.getD (k - 1) 0
    · have HE := Lib.hid (strip_take_len hst.out (by rw [HL.out]; exact hk) hcase)
      have HSA := Lib.hid (show Sl (w.alloc (.cells (zrow (.int .u32 0) k) 69)) A n (lims ls) from hs.below ((Below.refl _ _).alloc (Nat.le_refl _) _))
      have hmk := run_mk (P := Tryd.prog) Tryd.underlying50 infoU32 rfl k (by omega) (by omega)
      rcases Nat.eq_zero_or_pos k with h0 | hp
      · have h0' : k ≤ 0 := by omega
        clear hcase h0
        go_wp2_with ((with_reducible refine wpList_copy_new (w.alloc (.cells (zrow (.int .u32 0) k) 69)) rfl (.tmp 21) (.tmp 22) 50 rfl 69 (.int .u32 0) 4 Tryd.underlying50 infoU32 w.heap.size k (List.replicate k (.int .u32 0)) A n c (lims ls) rfl rfl (Row.newz w 69 (.int .u32 0) k) (by simp) (HSA.out) (lims_one _) hk ?_); intro w1 hrow hb)
        go_ret
        have hr : Row w1 w.heap.size 69 (lims (strip ls)) := by
          rw [lims_take] at hrow
          have e := strip_take ls
          rw [HE.out] at e
          rwa [e] at hrow
        have hL := Lim.of_row hr (by rw [HE.out]; unfold maxLen; omega) (strip_all hall)
        rw [HE.out] at hL
        exact ⟨.slice (some ⟨w.heap.size, 0, none⟩) k k, rfl, strip ls, hL, strip_noTop _, strip_val _, by rw [HE.out]; omega, Nat.le_refl _, ((Below.refl _ _).alloc (Nat.le_refl _) _).trans hb⟩
      · have hz : 0 < ls.getD (k - 1) 0 := by omega
        obtain ⟨b, o, rfl, hb, hcell⟩ := hs.lim (show k - 1 < n by omega)
        have g1 := hcell (k - 1) (by omega)
        clear hcell hcase
        have e1 : ((k : Int) - 1).toNat = k - 1 := by omega
        have e2 : (((ls.getD (k - 1) 0 : Nat) : Int) == 0) = false := by rw [beq_eq_false_iff_ne]; omega
        generalize ls.getD (k - 1) 0 = zz at *
        go_wp2_with ((with_reducible refine wpList_copy_new (w.alloc (.cells (zrow (.int .u32 0) k) 69)) rfl (.tmp 21) (.tmp 22) 50 rfl 69 (.int .u32 0) 4 Tryd.underlying50 infoU32 w.heap.size k (List.replicate k (.int .u32 0)) (some ⟨b, o, none⟩) n c (lims ls) rfl rfl (Row.newz w 69 (.int .u32 0) k) (by simp) (HSA.out) (lims_one _) hk ?_); intro w1 hrow hb)
        go_ret
        have hr : Row w1 w.heap.size 69 (lims (strip ls)) := by
          rw [lims_take] at hrow
          have e := strip_take ls
          rw [HE.out] at e
          rwa [e] at hrow
        have hL := Lim.of_row hr (by rw [HE.out]; unfold maxLen; omega) (strip_all hall)
        rw [HE.out] at hL
        exact ⟨.slice (some ⟨w.heap.size, 0, none⟩) k k, rfl, strip ls, hL, strip_noTop _, strip_val _, by rw [HE.out]; omega, Nat.le_refl _, ((Below.refl _ _).alloc (Nat.le_refl _) _).trans hb⟩
    · obtain ⟨j, rfl⟩ : ∃ j, k = j + 1 := ⟨k - 1, by omega⟩
      obtain ⟨b, o, rfl, hb, hcell⟩ := hs.lim (show j < n by omega)
      have g1 := hcell j (by omega)
      have hz : ls.getD j 0 = 0 := by simp only [Nat.add_sub_cancel] at hcase; omega
      have HS := Lib.hid (strip_take_step (l := ls) (k := j) (by rw [HL.out]; omega) hz)
      rw [hz] at g1
      clear hz hcell hcase
      go_wp2
      go_round
      case rel => exact ⟨j, by omega, by go_num, by unfold Hid; rw [hst.out, HS.out]⟩
      case measure => simp [intOf]

theorem rnorm_any (v : Value) (ls : List Nat) (w : World) (h : Lim w v ls) (hl : ls.length ≤ 70368744177664) :
    Calls Tryd.prog 49 #[v] w fun e w' => ∃ v, e = .returned v ∧ NRes w w' v (val ls) ls.length := by
  obtain ⟨⟨A, c, rfl, hn, hc, hs⟩, hall⟩ := h
  exact rnorm_core A _ c ls w hs hn hc hl hall

set_option maxHeartbeats 1000000 in
theorem rof_any (n : Nat) (w : World) (hn : n < 18446744073709551616) :
    Calls Tryd.prog 78 #[.int .u64 (n : Int)] w fun e w' => ∃ v, e = .returned v ∧ NRes w w' v n 2 := by
  have hr : Row (w.alloc (.cells #[.int .u32 ((n : Int) % 4294967296), .int .u32 ((n : Int) / 4294967296)] 69)) w.heap.size 69 (lims [n % 4294967296, n / 4294967296]) := Row.new w 69 [.int .u32 ((n : Int) % 4294967296), .int .u32 ((n : Int) / 4294967296)]
  have HV := Lib.hid (show val [n % 4294967296, n / 4294967296] = n by simp [val]; omega)
  have hall : AllB [n % 4294967296, n / 4294967296] := AllB.cons (by omega) (AllB.cons (by omega) AllB.nil)
  have hs := hr.sl
  rw [lims_len] at hs
  go_enter Tryd.func78, Tryd.ntmps78
  go_wp2_with fail
  refine (rnorm_core _ 2 2 [n % 4294967296, n / 4294967296] _ hs (by omega) (by omega) (by omega) hall).mono ?_
  rintro e w1 ⟨v, rfl, ls, h1, h2, h3, h4, h5, h6⟩
  go_wp2_with fail
  go_ret
  exact ⟨v, rfl, ls, h1, h2, by rw [h3, HV.out], h4, h5.mono (by simp), ((Below.refl _ _).alloc (Nat.le_refl _) _).trans (h6.mono (by simp))⟩

set_option maxHeartbeats 1000000 in
theorem rlimb_any (A : Option Addr) (n c : Nat) (ls : List Nat) (i : Nat) (w : World) (hs : Sl w A n (lims ls)) (hall : AllB ls) (hi : i ≤ 9223372036854775807) :
    Calls Tryd.prog 89 #[.slice A n c, .int .i64 (i : Int)] w fun e w' => e = .returned (.int .u64 ((ls.getD i 0 : Nat) : Int)) ∧ w = w' := by
  have hl : ls.length = n := by have := hs.1; rwa [lims_len] at this
  by_cases h : i < n
  · obtain ⟨b, o, rfl, hb, hcell⟩ := hs.lim h
    have g1 := hcell i h
    have hx := hall.getD i
    clear hcell hl
    generalize ls.getD i 0 = x at *
    go_enter Tryd.func89, Tryd.ntmps89
    go_wp2
    go_ret
    exact ⟨rfl, rfl⟩
  · have HE := Lib.hid (show ls.getD i 0 = 0 by rw [List.getD_eq_getElem?_getD, List.getElem?_eq_none (by omega)]; rfl)
    clear hl
    go_enter Tryd.func89, Tryd.ntmps89
    go_wp2
    go_ret
    exact ⟨by rw [HE.out]; rfl, rfl⟩

theorem rlimb_at (A : Option Addr) (n c : Nat) (ls : List Nat) (i x : Nat) (w : World) (hs : Sl w A n (lims ls)) (hall : AllB ls) (hi : i ≤ 9223372036854775807) (he : ls.getD i 0 = x) :
    Calls Tryd.prog 89 #[.slice A n c, .int .i64 (i : Int)] w fun e w' => e = .returned (.int .u64 (x : Int)) ∧ w = w' := by
  subst he; exact rlimb_any A n c ls i w hs hall hi

def Meet (a b : List Nat) (k : Nat) : Prop := ∃ H, val a = val (a.take k) + bp k * H ∧ val b = val (b.take k) + bp k * H
theorem Meet.start (a b : List Nat) (k : Nat) (h1 : a.length ≤ k) (h2 : b.length ≤ k) : Meet a b k := ⟨0, by rw [val_take_all _ h1]; simp, by rw [val_take_all _ h2]; simp⟩
theorem Meet.step {a b : List Nat} {k : Nat} (h : Meet a b (k + 1)) (he : a.getD k 0 = b.getD k 0) : Meet a b k := by
  obtain ⟨H, h1, h2⟩ := h
  rw [val_take_succ, bp_succ] at h1 h2
  refine ⟨a.getD k 0 + 4294967296 * H, ?_, ?_⟩
  · grind
  · rw [he]; grind
theorem Meet.lt {a b : List Nat} {k : Nat} (h : Meet a b (k + 1)) (hall : AllB a) (he : a.getD k 0 < b.getD k 0) : val a < val b := by
  obtain ⟨H, h1, h2⟩ := h
  rw [val_take_succ] at h1 h2
  have h3 := val_lt (hall.take k)
  have h4 : bp (a.take k).length ≤ bp k := bp_mono (by rw [List.length_take]; omega)
  have h5 : bp k * (a.getD k 0 + 1) ≤ bp k * b.getD k 0 := Nat.mul_le_mul_left _ he
  rw [Nat.mul_add] at h5
  omega
theorem Meet.symm {a b : List Nat} {k : Nat} (h : Meet a b k) : Meet b a k := by obtain ⟨H, h1, h2⟩ := h; exact ⟨H, h2, h1⟩
theorem Meet.eq {a b : List Nat} (h : Meet a b 0) : val a = val b := by obtain ⟨H, h1, h2⟩ := h; rw [h1, h2]; simp [val]

set_option maxHeartbeats 1000000 in
theorem rcmp_core (A B : Option Addr) (c c' : Nat) (a b : List Nat) (w : World) (hsa : Sl w A a.length (lims a)) (hsb : Sl w B b.length (lims b)) (all1 : AllB a) (all2 : AllB b) (hc : a.length ≤ 9223372036854775806) (hc' : b.length ≤ 9223372036854775806) :
    Calls Tryd.prog 55 #[.slice A a.length c, .slice B b.length c'] w fun e w' => e = .returned (.int .i64 (cmpN (val a) (val b))) ∧ w = w' := by
  by_cases hm : a.length < b.length
  · go_enter Tryd.func55, Tryd.ntmps55
    go_wp2
    go_loop [5] (fun i => ∃ k : Nat, k ≤ b.length ∧ i = .int .i64 ((k : Int) - 1) ∧ Hid (Meet a b k)) (fun i => (intOf i + 1).toNat)
    case atStart => exact ⟨b.length, by omega, rfl, Meet.start a b _ (by omega) (by omega)⟩
    case round =>
      obtain ⟨k, hk, rfl, hd⟩ := hrel
      rcases Nat.eq_zero_or_pos k with h0 | hp
      · subst h0
        have HE := Lib.hid (cmpN_eq hd.out.eq)
        go_wp2
        go_ret
        exact ⟨by rw [HE.out]; rfl, rfl⟩
      · obtain ⟨j, rfl⟩ : ∃ j, k = j + 1 := ⟨k - 1, by omega⟩
        rw [show (((j + 1 : Nat) : Int) - 1) = (j : Int) by omega]
        rcases Nat.lt_trichotomy (a.getD j 0) (b.getD j 0) with hx | hx | hx
        · have HR := Lib.hid (cmpN_lt (hd.out.lt all1 hx))
          generalize hxe : a.getD j 0 = x at *
          generalize hye : b.getD j 0 = y at *
          have HXE := Lib.hid hxe
          have HYE := Lib.hid hye
          clear hxe hye
          go_wp2_with fail
          refine (rlimb_at A _ c a j _ _ hsa all1 (by omega) HXE.out).mono ?_
          rintro e w' ⟨rfl, rfl⟩
          go_wp2_with fail
          refine (rlimb_at B _ c' b j _ _ hsb all2 (by omega) HYE.out).mono ?_
          rintro e w' ⟨rfl, rfl⟩
          go_wp2_with fail
          go_ret
          exact ⟨by rw [HR.out]; rfl, rfl⟩
        · have HR := Lib.hid (hd.out.step hx)
          generalize hxe : a.getD j 0 = x at *
          have HXE := Lib.hid hxe
          have HYE := Lib.hid hx.symm
          clear hxe hx
          go_wp2_with fail
          refine (rlimb_at A _ c a j _ _ hsa all1 (by omega) HXE.out).mono ?_
          rintro e w' ⟨rfl, rfl⟩
          go_wp2_with fail
          refine (rlimb_at B _ c' b j _ _ hsb all2 (by omega) HYE.out).mono ?_
          rintro e w' ⟨rfl, rfl⟩
          go_wp2_with fail
          go_round
          case rel => exact ⟨j, by omega, rfl, HR.out⟩
          case measure => simp [intOf]
        · have HR := Lib.hid (cmpN_gt (hd.out.symm.lt all2 hx))
          generalize hxe : a.getD j 0 = x at *
          generalize hye : b.getD j 0 = y at *
          have HXE := Lib.hid hxe
          have HYE := Lib.hid hye
          clear hxe hye
          go_wp2_with fail
          refine (rlimb_at A _ c a j _ _ hsa all1 (by omega) HXE.out).mono ?_
          rintro e w' ⟨rfl, rfl⟩
          go_wp2_with fail
          refine (rlimb_at B _ c' b j _ _ hsb all2 (by omega) HYE.out).mono ?_
          rintro e w' ⟨rfl, rfl⟩
          go_wp2_with fail
          go_ret
          exact ⟨by rw [HR.out]; rfl, rfl⟩
  · go_enter Tryd.func55, Tryd.ntmps55
    go_wp2
    go_loop [5] (fun i => ∃ k : Nat, k ≤ a.length ∧ i = .int .i64 ((k : Int) - 1) ∧ Hid (Meet a b k)) (fun i => (intOf i + 1).toNat)
    case atStart => exact ⟨a.length, by omega, rfl, Meet.start a b _ (by omega) (by omega)⟩
    case round =>
      obtain ⟨k, hk, rfl, hd⟩ := hrel
      rcases Nat.eq_zero_or_pos k with h0 | hp
      · subst h0
        have HE := Lib.hid (cmpN_eq hd.out.eq)
        go_wp2
        go_ret
        exact ⟨by rw [HE.out]; rfl, rfl⟩
      · obtain ⟨j, rfl⟩ : ∃ j, k = j + 1 := ⟨k - 1, by omega⟩
        rw [show (((j + 1 : Nat) : Int) - 1) = (j : Int) by omega]
        rcases Nat.lt_trichotomy (a.getD j 0) (b.getD j 0) with hx | hx | hx
        · have HR := Lib.hid (cmpN_lt (hd.out.lt all1 hx))
          generalize hxe : a.getD j 0 = x at *
          generalize hye : b.getD j 0 = y at *
          have HXE := Lib.hid hxe
          have HYE := Lib.hid hye
          clear hxe hye
          go_wp2_with fail
          refine (rlimb_at A _ c a j _ _ hsa all1 (by omega) HXE.out).mono ?_
          rintro e w' ⟨rfl, rfl⟩
          go_wp2_with fail
          refine (rlimb_at B _ c' b j _ _ hsb all2 (by omega) HYE.out).mono ?_
          rintro e w' ⟨rfl, rfl⟩
          go_wp2_with fail
          go_ret
          exact ⟨by rw [HR.out]; rfl, rfl⟩
        · have HR := Lib.hid (hd.out.step hx)
          generalize hxe : a.getD j 0 = x at *
          have HXE := Lib.hid hxe
          have HYE := Lib.hid hx.symm
          clear hxe hx
          go_wp2_with fail
          refine (rlimb_at A _ c a j _ _ hsa all1 (by omega) HXE.out).mono ?_
          rintro e w' ⟨rfl, rfl⟩
          go_wp2_with fail
          refine (rlimb_at B _ c' b j _ _ hsb all2 (by omega) HYE.out).mono ?_
          rintro e w' ⟨rfl, rfl⟩
          go_wp2_with fail
          go_round
          case rel => exact ⟨j, by omega, rfl, HR.out⟩
          case measure => simp [intOf]
        · have HR := Lib.hid (cmpN_gt (hd.out.symm.lt all2 hx))
          generalize hxe : a.getD j 0 = x at *
          generalize hye : b.getD j 0 = y at *
          have HXE := Lib.hid hxe
          have HYE := Lib.hid hye
          clear hxe hye
          go_wp2_with fail
          refine (rlimb_at A _ c a j _ _ hsa all1 (by omega) HXE.out).mono ?_
          rintro e w' ⟨rfl, rfl⟩
          go_wp2_with fail
          refine (rlimb_at B _ c' b j _ _ hsb all2 (by omega) HYE.out).mono ?_
          rintro e w' ⟨rfl, rfl⟩
          go_wp2_with fail
          go_ret
          exact ⟨by rw [HR.out]; rfl, rfl⟩

theorem rcmp_any (v u : Value) (la lb : List Nat) (w : World) (ha : Lim w v la) (hb : Lim w u lb) (h1 : la.length ≤ 70368744177664) (h2 : lb.length ≤ 70368744177664) :
    Calls Tryd.prog 55 #[v, u] w fun e w' => e = .returned (.int .i64 (cmpN (val la) (val lb))) ∧ w = w' := by
  obtain ⟨⟨A, c, rfl, hn, hc, hs⟩, hall⟩ := ha
  obtain ⟨⟨B, c', rfl, hn', hc', hs'⟩, hall'⟩ := hb
  exact rcmp_core A B c c' la lb w hs hs' hall hall' (by omega) (by omega)

end Go.Proofs.YtoihjclkocffhaaDoor
