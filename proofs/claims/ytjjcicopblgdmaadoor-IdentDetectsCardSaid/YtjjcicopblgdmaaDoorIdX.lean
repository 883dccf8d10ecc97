/- The walks of the laws IdentPrints, IdentRoundTrip and IdentUnique. No condition beyond the tables. -/
import Derived.Test.YtjjcicopblgdmaaDoorIdQ
namespace Go.Proofs.YtjjcicopblgdmaaDoor
open Go.RowKit
set_option linter.unusedVariables false

theorem rdig7 (n : Nat) (w : World) (hn : n ≤ 9999999) : Calls Tryd.prog 21 #[.int .i64 (n : Int), .int .i64 7] w fun e w' => ∃ x : ByteArray, e = .returned (.string x) ∧ x.size ≤ 9 ∧ Hid (x.data.toList = dgs n 7) ∧ Below w.heap.size w w' := rdigits_any n 7 w (by omega) hn
theorem rdig2 (n : Nat) (w : World) (hn : n ≤ 9999999) : Calls Tryd.prog 21 #[.int .i64 (n : Int), .int .i64 2] w fun e w' => ∃ x : ByteArray, e = .returned (.string x) ∧ x.size ≤ 9 ∧ Hid (x.data.toList = dgs n 2) ∧ Below w.heap.size w w' := rdigits_any n 2 w (by omega) hn
set_option maxHeartbeats 2000000 in
theorem rprint_no (k n : Int) (w : World) (h : ckE k n ≠ 0) :
    Calls Tryd.prog 11 #[.int .i64 k, .int .i64 n] w fun e w' => e = .returned (.tuple #[.string ⟨#[]⟩, .int .i64 (ckE k n)]) ∧ w = w' := by
  have f1 : (ckE k n != 0) = true := by rw [bne_iff_ne]; exact h
  clear h
  go_enter Tryd.func11, Tryd.ntmps11
  go_wp2_with fail
  refine (rcheck_any k n _).mono ?_
  rintro e w' ⟨rfl, rfl⟩
  go_wp2_with fail
  go_ret2
  exact ⟨rfl, rfl⟩
set_option maxHeartbeats 2000000 in
theorem rprint_ok (k n : Nat) (w : World) (hk : 1 ≤ k ∧ k ≤ 6) (hn : 1 ≤ n ∧ n ≤ 9999999) :
    Calls Tryd.prog 11 #[.int .i64 (k : Int), .int .i64 (n : Int)] w fun e w' => e = .returned (.tuple #[.string (idB k n), .int .i64 0]) ∧ Below w.heap.size w w' := by
  obtain ⟨h1, h2⟩ := ckV_nat (k := k) (n := n) hk hn
  obtain ⟨n1, n2⟩ := hn
  have H1 := Lib.hid h1
  have H2 := Lib.hid h2
  have hcb := chN_bd k n
  have HID : Hid ((idB k n).data.toList = (preB k).data.toList ++ [45] ++ dgs n 7 ++ [45] ++ dgs (chN k n) 2) := rfl
  have hs3 : (preB k).size ≤ 3 := by rw [size_list, preB_len hk]; exact Nat.le_refl _
  have HPR := Lib.hid (fun W => prefix_in k W hk.1 hk.2)
  generalize preB k = sz at *
  generalize chN k n = cn at *
  obtain ⟨k1, k2⟩ := hk
  clear h1 h2
  go_enter Tryd.func11, Tryd.ntmps11
  go_wp2_with fail
  refine (rcheck_any _ _ _).mono ?_
  rintro e w' ⟨rfl, rfl⟩
  rw [H1.out, H2.out]
  go_wp2_with fail
  refine (HPR.out _).mono ?_
  rintro e w' ⟨rfl, rfl⟩
  go_wp2_with fail
  refine (rdig7 n _ n2).mono ?_
  rintro e w5 ⟨x5, rfl, hz5, HX5, h5⟩
  go_wp2_with fail
  refine (rdig2 cn _ (by omega)).mono ?_
  rintro e w6 ⟨x6, rfl, hz6, HX6, h6⟩
  go_wp2_with fail
  go_ret2
  refine ⟨tup_eq ?_, bl_call h6 h5⟩
  rw [HID.out, ← HX5.out, ← HX6.out]
  simp only [ByteArray.data_append, Array.toList_append]

theorem ck_cases (K n : Int) : ckE K n ≠ 0 ∨ ∃ k m : Nat, K = (k : Int) ∧ n = (m : Int) ∧ (1 ≤ k ∧ k ≤ 6) ∧ (1 ≤ m ∧ m ≤ 9999999) := by
  by_cases h1 : K < 1 ∨ 6 < K
  · exact .inl (by rw [(ck_k (n := n) h1).1]; decide)
  by_cases h2 : n < 1 ∨ 9999999 < n
  · exact .inl (by rw [(ck_n (k := K) (n := n) (by omega) h2).1]; decide)
  exact .inr ⟨K.toNat, n.toNat, by omega, by omega, by omega, by omega⟩
theorem idB_size {k n : Nat} (hk : 1 ≤ k ∧ k ≤ 6) : (idB k n).size = 14 := by
  rw [size_list]
  show (idL k n).length = 14
  unfold idL
  simp [preB_len hk, dgs_len]

set_option maxHeartbeats 2000000 in
theorem prints_walk (K N : Int) (w : World) (hp : Pres w) (ht : Tab w) :
    Calls Tryd.prog 4 #[.int .i64 K, .int .i64 N] w fun e w' => e = .returned (.bool true) ∧ Below w.heap.size w w' := by
  rcases ck_cases K N with h | ⟨k, n, rfl, rfl, hk, hn⟩
  · have f1 : (ckE K N != ckE K N) = false := by simp
    have f2 : (ckE K N == ckE K N) = true := by simp
    have f3 : (ckV K N == ckV K N) = true := by simp
    have HE := Lib.hid h
    clear h
    go_enter Tryd.func4, Tryd.ntmps4
    go_wp2_with fail
    refine (print_no K N _ HE.out).mono ?_
    rintro e w' ⟨rfl, rfl⟩
    go_wp2_with fail
    refine (rprint_no K N _ HE.out).mono ?_
    rintro e w' ⟨rfl, rfl⟩
    go_wp2_with fail
    refine (check_any K N _).mono ?_
    rintro e w' ⟨rfl, rfl⟩
    go_wp2_with fail
    refine (rcheck_any K N _).mono ?_
    rintro e w' ⟨rfl, rfl⟩
    go_wp2_with fail
    go_ret
    exact ⟨rfl, Below.refl _ _⟩
  · have HK := Lib.hid hk
    have HN := Lib.hid hn
    have HP := Lib.hid hp
    have HT := Lib.hid ht
    have HC1 := Lib.hid (fun W => check_any (k : Int) (n : Int) W)
    have HC2 := Lib.hid (fun W => rcheck_any (k : Int) (n : Int) W)
    have HR1 := Lib.hid (print_ok k n w hk hn hp ht)
    have HR2 := Lib.hid (fun W => rprint_ok k n W hk hn)
    generalize idB k n = x at *
    generalize ckE (k : Int) (n : Int) = E at *
    generalize ckV (k : Int) (n : Int) = V at *
    have f1 : (E == E) = true := by simp
    have f2 : (V == V) = true := by simp
    have f3 : (x.toList != x.toList) = false := by simp
    clear hk hn hp ht
    go_enter Tryd.func4, Tryd.ntmps4
    go_wp2_with fail
    refine HR1.out.mono ?_
    rintro e w1 ⟨rfl, B1⟩
    go_wp2_with fail
    refine (HR2.out _).mono ?_
    rintro e w2 ⟨rfl, hb2⟩
    have B2 : Below w.heap.size w w2 := B1.trans (hb2.mono B1.size)
    go_wp2_with fail
    refine (HC1.out _).mono ?_
    rintro e w' ⟨rfl, rfl⟩
    go_wp2_with fail
    refine (HC2.out _).mono ?_
    rintro e w' ⟨rfl, rfl⟩
    go_wp2_with fail
    go_ret
    exact ⟨rfl, B2⟩

theorem vld_no {K N : Int} (h : ckE K N ≠ 0) : vld K N = false := by
  cases hv : vld K N with
  | false => rfl
  | true =>
    obtain ⟨a, b, c, d⟩ := vld_iff.1 hv
    exact absurd (ck_ok ⟨a, b⟩ ⟨c, d⟩).1 h
theorem vld_yes {k n : Nat} (hk : 1 ≤ k ∧ k ≤ 6) (hn : 1 ≤ n ∧ n ≤ 9999999) : vld (k : Int) (n : Int) = true := vld_iff.2 ⟨by omega, by omega, by omega, by omega⟩
theorem parse_at (s : ByteArray) {a b c : Int} (h : pX s = (a, b, c)) (w : World) (hp : Pres w) :
    Calls Tryd.prog 8 #[.string s] w fun e w' => e = .returned (.tuple #[.int .i64 a, .int .i64 b, .int .i64 c]) ∧ w = w' := by
  have := parse_all s w hp
  unfold pA pB pC at this
  rw [h] at this
  exact this

set_option maxHeartbeats 2000000 in
theorem round_walk (K N : Int) (w : World) (hp : Pres w) (ht : Tab w) :
    Calls Tryd.prog 5 #[.int .i64 K, .int .i64 N] w fun e w' => e = .returned (.bool true) ∧ Below w.heap.size w w' := by
  rcases ck_cases K N with h | ⟨k, n, rfl, rfl, hk, hn⟩
  · have f1 : (ckE K N != 0) = true := by rw [bne_iff_ne]; exact h
    have HV := Lib.hid (vld_no h)
    have HE := Lib.hid h
    clear h
    go_enter Tryd.func5, Tryd.ntmps5
    go_wp2_with fail
    refine (print_no K N _ HE.out).mono ?_
    rintro e w' ⟨rfl, rfl⟩
    go_wp2_with fail
    refine (valid_any K N _).mono ?_
    rintro e w' ⟨rfl, rfl⟩
    rw [HV.out]
    go_wp2_with fail
    go_ret
    exact ⟨rfl, Below.refl _ _⟩
  · have HV := Lib.hid (vld_yes hk hn)
    have HP := Lib.hid hp
    have HR1 := Lib.hid (print_ok k n w hk hn hp ht)
    have HQ := Lib.hid (fun W hW => parse_at (idB k n) (parse_id hk hn) W hW)
    have hz : (idB k n).size ≤ 14 := by rw [idB_size hk]; exact Nat.le_refl _
    have hz2 : ((idB k n).size : Int) = 14 := by rw [idB_size hk]; rfl
    have f3 : (((idB k n).size : Int) == 14) = true := by rw [hz2]; rfl
    generalize idB k n = x at *
    have f1 : ((k : Int) == (k : Int)) = true := by simp
    have f2 : ((n : Int) == (n : Int)) = true := by simp
    clear hk hn hp ht hz2
    go_enter Tryd.func5, Tryd.ntmps5
    go_wp2_with fail
    refine HR1.out.mono ?_
    rintro e w1 ⟨rfl, B1⟩
    go_wp2_with fail
    refine (valid_any _ _ _).mono ?_
    rintro e w' ⟨rfl, rfl⟩
    rw [HV.out]
    go_wp2_with fail
    refine (HQ.out _ (HP.out.below B1)).mono ?_
    rintro e w' ⟨rfl, rfl⟩
    go_wp2_with fail
    go_ret
    exact ⟨rfl, B1⟩

theorem first_id : (⟨#[73, 84, 77, 45, 48, 48, 48, 48, 48, 48, 49, 45, 54, 49]⟩ : ByteArray) = idB 1 1 := ba_ext (by decide +kernel)
theorem parse_first : pX ⟨#[73, 84, 77, 45, 48, 48, 48, 48, 48, 48, 49, 45, 54, 49]⟩ = (1, 1, 0) := by
  rw [first_id]
  exact parse_id (k := 1) (n := 1) (by omega) (by omega)
set_option maxHeartbeats 2000000 in
theorem unique_walk (s : ByteArray) (w : World) (hp : Pres w) (ht : Tab w) :
    Calls Tryd.prog 6 #[.string s] w fun e w' => e = .returned (.bool true) ∧ Below w.heap.size w w' := by
  by_cases hE : (pX s).2.2 = 0
  · obtain ⟨k, n, hk, hn, hs, hX⟩ := parse_back hE
    have HQ := Lib.hid (parse_at s hX w hp)
    have HV := Lib.hid (vld_yes hk hn)
    have HF := Lib.hid (parse_at _ parse_first w hp)
    have HR1 := Lib.hid (print_ok k n w hk hn hp ht)
    rw [← hs] at HR1
    have f1 : (s.toList == s.toList) = true := by simp
    clear hE hk hn hs hX hp ht
    go_enter Tryd.func6, Tryd.ntmps6
    go_wp2_with fail
    refine HF.out.mono ?_
    rintro e w' ⟨rfl, rfl⟩
    go_wp2_with fail
    refine HQ.out.mono ?_
    rintro e w' ⟨rfl, rfl⟩
    go_wp2_with fail
    refine HR1.out.mono ?_
    rintro e w1 ⟨rfl, B1⟩
    go_wp2_with fail
    refine (valid_any _ _ _).mono ?_
    rintro e w' ⟨rfl, rfl⟩
    rw [HV.out]
    go_wp2_with fail
    go_ret
    exact ⟨rfl, B1⟩
  · obtain ⟨h1, h2⟩ := parse_err hE
    obtain ⟨E, hX⟩ : ∃ E, pX s = (0, 0, E) := ⟨(pX s).2.2, Prod.ext h1 (Prod.ext h2 rfl)⟩
    rw [hX] at hE
    have HQ := Lib.hid (parse_at s hX w hp)
    have HF := Lib.hid (parse_at _ parse_first w hp)
    have f1 : (E != 0) = true := by rw [bne_iff_ne]; exact hE
    clear hE h1 h2 hX hp ht
    go_enter Tryd.func6, Tryd.ntmps6
    go_wp2_with fail
    refine HF.out.mono ?_
    rintro e w' ⟨rfl, rfl⟩
    go_wp2_with fail
    refine HQ.out.mono ?_
    rintro e w' ⟨rfl, rfl⟩
    go_wp2_with fail
    go_ret
    exact ⟨rfl, Below.refl _ _⟩
end Go.Proofs.YtjjcicopblgdmaaDoor
