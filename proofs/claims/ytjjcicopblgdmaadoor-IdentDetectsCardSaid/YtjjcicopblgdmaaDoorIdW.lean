/- The walks of Check, pad, Print and valid. No condition beyond those stated. -/
import Derived.Test.YtjjcicopblgdmaaDoorRParse
import Derived.Test.YtjjcicopblgdmaaDoorIdP
import Derived.Test.YtjjcicopblgdmaaDoorKit
import Derived.Test.YtjjcicopblgdmaaDoorShelf
import Derived.Lib.ItoaMem
import Derived.IntWalk
import Derived.Deep.RegionHeld3
import Derived.Lib.AppendIntMem
namespace Go.Proofs.YtjjcicopblgdmaaDoor
open Go.RowKit Go.Sort
set_option linter.unusedVariables false

theorem ba_ext {a b : ByteArray} (h : a.data.toList = b.data.toList) : a = b := by
  cases a; cases b; simp at h; exact congrArg _ h
theorem str_eq {a b : ByteArray} (h : a.data.toList = b.data.toList) : Ending.returned (.string a) = .returned (.string b) := by rw [ba_ext h]
def ckE (k n : Int) : Int := if k < 1 ∨ 6 < k then 1 else if n < 1 ∨ 9999999 < n then 3 else 0
def ckV (k n : Int) : Int := if ckE k n = 0 then 98 - ((k * 10000000 + n) * 100) % 97 else 0
theorem ck_k {k n : Int} (h : k < 1 ∨ 6 < k) : ckE k n = 1 ∧ ckV k n = 0 := by
  have : ckE k n = 1 := if_pos h
  exact ⟨this, by unfold ckV; rw [if_neg (by omega)]⟩
theorem ck_n {k n : Int} (h : 1 ≤ k ∧ k ≤ 6) (h2 : n < 1 ∨ 9999999 < n) : ckE k n = 3 ∧ ckV k n = 0 := by
  have : ckE k n = 3 := by unfold ckE; rw [if_neg (by omega), if_pos h2]
  exact ⟨this, by unfold ckV; rw [if_neg (by omega)]⟩
theorem ck_ok {k n : Int} (h : 1 ≤ k ∧ k ≤ 6) (h2 : 1 ≤ n ∧ n ≤ 9999999) : ckE k n = 0 ∧ ckV k n = 98 - ((k * 10000000 + n) * 100) % 97 := by
  have : ckE k n = 0 := by unfold ckE; rw [if_neg (by omega), if_neg (by omega)]
  exact ⟨this, by unfold ckV; rw [if_pos this]⟩
set_option maxHeartbeats 400000 in
theorem check_any (k n : Int) (w : World) :
    Calls Tryd.prog 12 #[.int .i64 k, .int .i64 n] w fun e w' => e = .returned (.tuple #[.int .i64 (ckV k n), .int .i64 (ckE k n)]) ∧ w = w' := by
  by_cases h1 : k < 1
  · have H := Lib.hid (ck_k (n := n) (.inl h1))
    go_enter Tryd.func12, Tryd.ntmps12
    go_wp2_with fail
    go_ret2
    exact ⟨by rw [H.out.1, H.out.2]; rfl, rfl⟩
  by_cases h2 : 6 < k
  · have H := Lib.hid (ck_k (n := n) (.inr h2))
    have h1' : 1 ≤ k := by omega
    clear h1
    go_enter Tryd.func12, Tryd.ntmps12
    go_wp2_with fail
    go_ret2
    exact ⟨by rw [H.out.1, H.out.2]; rfl, rfl⟩
  have h1' : 1 ≤ k := by omega
  have h2' : k ≤ 6 := by omega
  clear h1 h2
  by_cases h3 : n < 1
  · have H := Lib.hid (ck_n (n := n) ⟨h1', h2'⟩ (.inl h3))
    go_enter Tryd.func12, Tryd.ntmps12
    go_wp2_with fail
    go_ret2
    exact ⟨by rw [H.out.1, H.out.2]; rfl, rfl⟩
  by_cases h4 : 9999999 < n
  · have H := Lib.hid (ck_n (n := n) ⟨h1', h2'⟩ (.inr h4))
    have h3' : 1 ≤ n := by omega
    clear h3
    go_enter Tryd.func12, Tryd.ntmps12
    go_wp2_with fail
    go_ret2
    exact ⟨by rw [H.out.1, H.out.2]; rfl, rfl⟩
  have h3' : 1 ≤ n := by omega
  have h4' : n ≤ 9999999 := by omega
  clear h3 h4
  have H := Lib.hid (ck_ok ⟨h1', h2'⟩ ⟨h3', h4'⟩)
  go_enter Tryd.func12, Tryd.ntmps12
  go_wp2_with fail
  refine (digits_any k n _ h1' h2' (by omega) h4').mono ?_
  rintro e w' ⟨rfl, rfl⟩
  go_wp2_with fail
  go_ret2
  exact ⟨by rw [H.out.1, H.out.2]; rfl, rfl⟩
set_option maxHeartbeats 400000 in
theorem rcheck_any (k n : Int) (w : World) :
    Calls Tryd.prog 13 #[.int .i64 k, .int .i64 n] w fun e w' => e = .returned (.tuple #[.int .i64 (ckV k n), .int .i64 (ckE k n)]) ∧ w = w' := by
  by_cases h1 : k < 1 ∨ 6 < k
  · have H := Lib.hid (ck_k (n := n) h1)
    have H1 := Lib.hid h1
    clear h1
    go_enter Tryd.func13, Tryd.ntmps13
    go_wp2_with fail
    refine (prefix_out k _ H1).mono ?_
    rintro e w' ⟨rfl, rfl⟩
    go_wp2_with fail
    go_ret2
    exact ⟨by rw [H.out.1, H.out.2]; rfl, rfl⟩
  obtain ⟨m, rfl⟩ : ∃ m : Nat, k = (m : Int) := ⟨k.toNat, by omega⟩
  have m1 : 1 ≤ m := by omega
  have m2 : m ≤ 6 := by omega
  clear h1
  have hp : (preB m).toList.isEmpty = false := by
    have : m = 1 ∨ m = 2 ∨ m = 3 ∨ m = 4 ∨ m = 5 ∨ m = 6 := by omega
    rcases this with h | h | h | h | h | h <;> subst h <;> decide +kernel
  by_cases h3 : n < 1
  · have H := Lib.hid (ck_n (k := (m : Int)) (n := n) (by omega) (.inl h3))
    go_enter Tryd.func13, Tryd.ntmps13
    go_wp2_with fail
    refine (prefix_in m _ m1 m2).mono ?_
    rintro e w' ⟨rfl, rfl⟩
    go_wp2_with fail
    go_ret2
    exact ⟨by rw [H.out.1, H.out.2]; rfl, rfl⟩
  by_cases h4 : 9999999 < n
  · have H := Lib.hid (ck_n (k := (m : Int)) (n := n) (by omega) (.inr h4))
    have h3' : 1 ≤ n := by omega
    clear h3
    go_enter Tryd.func13, Tryd.ntmps13
    go_wp2_with fail
    refine (prefix_in m _ m1 m2).mono ?_
    rintro e w' ⟨rfl, rfl⟩
    go_wp2_with fail
    go_ret2
    exact ⟨by rw [H.out.1, H.out.2]; rfl, rfl⟩
  have H := Lib.hid (ck_ok (k := (m : Int)) (n := n) (by omega) (by omega))
  exact (rcheck_ok m n w m1 m2 (by omega) (by omega)).mono fun e w' ⟨he, hw⟩ => ⟨by rw [he, H.out.1, H.out.2], hw⟩

def vld (k n : Int) : Bool := decide (1 ≤ k ∧ k ≤ 6 ∧ 1 ≤ n ∧ n ≤ 9999999)
theorem vld_iff {k n : Int} : vld k n = true ↔ 1 ≤ k ∧ k ≤ 6 ∧ 1 ≤ n ∧ n ≤ 9999999 := by unfold vld; simp
set_option maxHeartbeats 400000 in
theorem valid_any (k n : Int) (w : World) :
    Calls Tryd.prog 14 #[.int .i64 k, .int .i64 n] w fun e w' => e = .returned (.bool (vld k n)) ∧ w = w' := by
  rcases h1 : decide (1 ≤ k) with _ | _ <;> rcases h2 : decide (k ≤ 6) with _ | _ <;> rcases h3 : decide (1 ≤ n) with _ | _ <;> rcases h4 : decide (n ≤ 9999999) with _ | _
  all_goals
    have H : Hid (vld k n = (decide (1 ≤ k) && decide (k ≤ 6) && decide (1 ≤ n) && decide (n ≤ 9999999))) := by
      unfold Hid vld; rw [Bool.eq_iff_iff]; simp only [decide_eq_true_eq, Bool.and_eq_true]; omega
    rw [h1, h2, h3, h4] at H
    go_enter Tryd.func14, Tryd.ntmps14
    go_wp2_with fail
    go_ret
    exact ⟨by rw [H.out]; rfl, rfl⟩

theorem below_grow (w : World) (k : Nat) (os : Array Obj) : Below w.heap.size w (grow (w.drewN k) os) := by
  refine ⟨rfl, rfl, rfl, ?_, fun b hb => ?_⟩
  · simp [grow, World.drewN]
  · simp [grow, World.drewN, Array.getElem?_append_left hb]
abbrev Tab (w : World) : Prop := Lib.TabIs Tryd.prog w "internal/strconv.uint64pow10" .u64 Lib.pow10Tab
theorem Tab.below {w w' : World} (h : Tab w) (hb : Below w.heap.size w w') : Tab w' := Lib.tabBelow_of_tabIs h w' hb

set_option maxHeartbeats 1000000 in
theorem pad_any (n wd : Nat) (w : World) (hw1 : 1 ≤ wd) (hw2 : wd ≤ 9) (hn : n < 10 ^ wd) (htab : Tab w) :
    Calls Tryd.prog 20 #[.int .i64 (n : Int), .int .i64 (wd : Int)] w fun e w' => e = .returned (.string ⟨(dgs n wd).toArray⟩) ∧ Below w.heap.size w w' := by
  have hn9 : n < 1000000000 := Nat.lt_of_lt_of_le hn (Nat.pow_le_pow_right (by omega) hw2)
  obtain ⟨wd, rfl⟩ : ∃ m, wd = m + 1 := ⟨wd - 1, by omega⟩
  have HP := dgs_pad wd n hn
  rw [← Lib.itoa_nonneg] at HP
  obtain ⟨s, hs⟩ : ∃ s : ByteArray, s = ⟨(Lib.itoa (n : Int)).toArray⟩ := ⟨_, rfl⟩
  have hsz : s.size = (Lib.itoa (n : Int)).length := by rw [hs]; simp [ByteArray.size]
  have hsl : s.data.toList = Lib.itoa (n : Int) := by rw [hs]
  have hle : s.size ≤ wd + 1 := by rw [hsz]; exact HP.2
  have HS := Lib.hid hsl
  have HD : Hid (List.replicate (wd + 1 - s.size) 48 ++ s.data.toList = dgs n (wd + 1)) := by unfold Hid; rw [hsl, hsz]; exact HP.1
  have HT := Lib.hid htab
  clear HP hsz hsl hn htab
  go_enter Tryd.func20, Tryd.ntmps20
  go_wp2_with fail
  refine (Tryd.strconv_Itoa (n : Int) (by omega) (by omega) _ HT.out).mono ?_
  rintro e w' ⟨rfl, d, os, rfl⟩
  rw [← hs]
  clear hs
  have B1 := below_grow w d os
  generalize grow (w.drewN d) os = w1 at *
  go_wp2_with fail
  rw [show (max ((wd : Int) + 1 - (s.size : Int)) 0) = ((wd + 1 - s.size : Nat) : Int) by omega]
  refine (Tryd.strings_Repeat ⟨#[48]⟩ (wd + 1 - s.size) _ (by omega) (by show 1 * _ ≤ _; omega)).mono ?_
  rintro e w2 ⟨he, hb2⟩
  have B2 : Below w.heap.size w w2 := B1.trans (hb2.mono B1.size)
  obtain ⟨r, hr⟩ : ∃ r : ByteArray, r = ⟨(Lib.repeatL [48] (wd + 1 - s.size)).toArray⟩ := ⟨_, rfl⟩
  have hrl : r.data.toList = List.replicate (wd + 1 - s.size) 48 := by rw [hr, repeat_one]
  have hrs : r.size ≤ wd + 1 := by
    have : r.size = r.data.toList.length := by rw [Array.length_toList]; rfl
    rw [this, hrl, List.length_replicate]; omega
  have he' : e = .returned (.string r) := by rw [hr]; exact he
  have HR := Lib.hid hrl
  clear he hr hrl hb2 B1
  subst he'
  go_wp2_with fail
  go_ret
  exact ⟨str_eq (by simp only [ByteArray.data_append, Array.toList_append, HR.out, HD.out]), B2⟩
theorem pad7 (n : Nat) (w : World) (hn : n < 10000000) (htab : Tab w) :
    Calls Tryd.prog 20 #[.int .i64 (n : Int), .int .i64 7] w fun e w' => ∃ x : ByteArray, e = .returned (.string x) ∧ x.size ≤ 7 ∧ Hid (x.data.toList = dgs n 7) ∧ Below w.heap.size w w' :=
  (pad_any n 7 w (by omega) (by omega) hn htab).mono fun e w' ⟨he, hb⟩ => ⟨_, he, by show (dgs n 7).toArray.size ≤ 7; rw [List.size_toArray, dgs_len]; exact Nat.le_refl _, rfl, hb⟩
theorem pad2 (n : Nat) (w : World) (hn : n < 100) (htab : Tab w) :
    Calls Tryd.prog 20 #[.int .i64 (n : Int), .int .i64 2] w fun e w' => ∃ x : ByteArray, e = .returned (.string x) ∧ x.size ≤ 2 ∧ Hid (x.data.toList = dgs n 2) ∧ Below w.heap.size w w' :=
  (pad_any n 2 w (by omega) (by omega) hn htab).mono fun e w' ⟨he, hb⟩ => ⟨_, he, by show (dgs n 2).toArray.size ≤ 2; rw [List.size_toArray, dgs_len]; exact Nat.le_refl _, rfl, hb⟩

theorem pad7s (n : Nat) (w : World) (a : Nat) (ha : a ≤ 10) (hn : n < 10000000) (htab : Tab w) :
    Calls Tryd.prog 20 #[.int .i64 (n : Int), .int .i64 7] w fun e w' => ∃ x : ByteArray, e = .returned (.string x) ∧ x.size ≤ 7 ∧ ¬ 9223372036854775807 < a + x.size ∧ ¬ 9223372036854775807 < a + x.size + 1 ∧ Hid (x.data.toList = dgs n 7) ∧ Below w.heap.size w w' :=
  (pad7 n w hn htab).mono fun e w' ⟨x, he, h1, h2, h3⟩ => ⟨x, he, h1, by omega, by omega, h2, h3⟩
theorem pad2s (n : Nat) (w : World) (a : Nat) (ha : a ≤ 20) (hn : n < 100) (htab : Tab w) :
    Calls Tryd.prog 20 #[.int .i64 (n : Int), .int .i64 2] w fun e w' => ∃ x : ByteArray, e = .returned (.string x) ∧ x.size ≤ 2 ∧ ¬ 9223372036854775807 < a + x.size ∧ Hid (x.data.toList = dgs n 2) ∧ Below w.heap.size w w' :=
  (pad2 n w hn htab).mono fun e w' ⟨x, he, h1, h2, h3⟩ => ⟨x, he, h1, by omega, h2, h3⟩

/-- The check digits. -/
def chN (k n : Nat) : Nat := 98 - ((k * 10000000 + n) * 100) % 97
theorem chN_bd (k n : Nat) : 2 ≤ chN k n ∧ chN k n ≤ 98 := by unfold chN; omega
theorem ckV_nat {k n : Nat} (h : 1 ≤ k ∧ k ≤ 6) (h2 : 1 ≤ n ∧ n ≤ 9999999) : ckE (k : Int) (n : Int) = 0 ∧ ckV (k : Int) (n : Int) = (chN k n : Int) := by
  obtain ⟨h3, h4⟩ := ck_ok (k := (k : Int)) (n := (n : Int)) (by omega) (by omega)
  refine ⟨h3, ?_⟩
  rw [h4]; unfold chN; omega
/-- The identifier. -/
def idL (k n : Nat) : List UInt8 := (preB k).data.toList ++ [45] ++ dgs n 7 ++ [45] ++ dgs (chN k n) 2
def idB (k n : Nat) : ByteArray := ⟨(idL k n).toArray⟩

theorem Pres.cell {w : World} (h : Pres w) {m : Nat} (hm : m < 6) : w.cell? ⟨0, m, none⟩ = some (.string (preB (m + 1))) := by
  obtain ⟨c0, c1, c2, c3, c4, c5⟩ := h
  have : m = 0 ∨ m = 1 ∨ m = 2 ∨ m = 3 ∨ m = 4 ∨ m = 5 := by omega
  rcases this with h | h | h | h | h | h <;> subst h <;> assumption
theorem Pres.below {w w' : World} (h : Pres w) (hb : Below w.heap.size w w') : Pres w' := by
  obtain ⟨c0, c1, c2, c3, c4, c5⟩ := h
  have h0 : 0 < w.heap.size := block_lt_of_cell c0
  exact ⟨(hb.cell (p := ⟨0, 0, none⟩) h0).trans c0, (hb.cell (p := ⟨0, 1, none⟩) h0).trans c1, (hb.cell (p := ⟨0, 2, none⟩) h0).trans c2, (hb.cell (p := ⟨0, 3, none⟩) h0).trans c3, (hb.cell (p := ⟨0, 4, none⟩) h0).trans c4, (hb.cell (p := ⟨0, 5, none⟩) h0).trans c5⟩
theorem keep1 {W w' : World} {p : Addr} {x : Value} (l : p.block < W.heap.size) (h : W.cell? p = some x) (hb : Below W.heap.size W w') : w'.cell? p = some x ∧ Below W.heap.size W w' := ⟨(hb.cell l).trans h, hb⟩
theorem bl_call {a W w1 : World} (h : Below W.heap.size W w1) (h0 : Below a.heap.size a W) : Below a.heap.size a w1 := h0.trans (h.mono h0.size)
theorem bl_drew {a w : World} (h : Below a.heap.size a w) : Below a.heap.size a w.drew := h.drew
theorem undrew1 {B : Nat} {w w' : World} (h : Below B w.drew w') : Below B w w' := ⟨h.os, h.tape, h.output, h.size, h.block⟩
theorem tup_eq {a b : ByteArray} {x : Int} (h : a.data.toList = b.data.toList) : Ending.returned (.tuple #[.string a, .int .i64 x]) = .returned (.tuple #[.string b, .int .i64 x]) := by rw [ba_ext h]
theorem preB_size (m : Nat) (h : m < 6) : (preB (m + 1)).size = 3 := by
  have : m = 0 ∨ m = 1 ∨ m = 2 ∨ m = 3 ∨ m = 4 ∨ m = 5 := by omega
  rcases this with h | h | h | h | h | h <;> subst h <;> rfl

set_option maxHeartbeats 2000000 in
theorem print_no (k n : Int) (w : World) (h : ckE k n ≠ 0) :
    Calls Tryd.prog 10 #[.int .i64 k, .int .i64 n] w fun e w' => e = .returned (.tuple #[.string ⟨#[]⟩, .int .i64 (ckE k n)]) ∧ w = w' := by
  have f1 : (ckE k n != 0) = true := by rw [bne_iff_ne]; exact h
  clear h
  go_enter Tryd.func10, Tryd.ntmps10
  go_wp2_with fail
  refine (check_any k n _).mono ?_
  rintro e w' ⟨rfl, rfl⟩
  go_wp2_with fail
  go_ret2
  exact ⟨rfl, rfl⟩
theorem adr0 : ∀ w, (Instr.indexAt 34 (.pointer (some ⟨0, 0, none⟩)) (.int .i64 0)).run Tryd.prog w = .ok (.pointer (some ⟨0, 0, none⟩)) w := fun _ => by kernel_rfl
theorem adr1 : ∀ w, (Instr.indexAt 34 (.pointer (some ⟨0, 0, none⟩)) (.int .i64 1)).run Tryd.prog w = .ok (.pointer (some ⟨0, 1, none⟩)) w := fun _ => by kernel_rfl
theorem adr2 : ∀ w, (Instr.indexAt 34 (.pointer (some ⟨0, 0, none⟩)) (.int .i64 2)).run Tryd.prog w = .ok (.pointer (some ⟨0, 2, none⟩)) w := fun _ => by kernel_rfl
theorem adr3 : ∀ w, (Instr.indexAt 34 (.pointer (some ⟨0, 0, none⟩)) (.int .i64 3)).run Tryd.prog w = .ok (.pointer (some ⟨0, 3, none⟩)) w := fun _ => by kernel_rfl
theorem adr4 : ∀ w, (Instr.indexAt 34 (.pointer (some ⟨0, 0, none⟩)) (.int .i64 4)).run Tryd.prog w = .ok (.pointer (some ⟨0, 4, none⟩)) w := fun _ => by kernel_rfl
theorem adr5 : ∀ w, (Instr.indexAt 34 (.pointer (some ⟨0, 0, none⟩)) (.int .i64 5)).run Tryd.prog w = .ok (.pointer (some ⟨0, 5, none⟩)) w := fun _ => by kernel_rfl
theorem adr_pre (m : Nat) (h : m < 6) : ∀ w : World, (Instr.indexAt 34 (.pointer (some ⟨0, 0, none⟩)) (.int .i64 (m : Int))).run Tryd.prog w = .ok (.pointer (some ⟨0, m, none⟩)) w := by
  intro w
  have : m = 0 ∨ m = 1 ∨ m = 2 ∨ m = 3 ∨ m = 4 ∨ m = 5 := by omega
  rcases this with h | h | h | h | h | h <;> subst h
  · exact adr0 w
  · exact adr1 w
  · exact adr2 w
  · exact adr3 w
  · exact adr4 w
  · exact adr5 w
set_option maxHeartbeats 4000000 in
theorem print_ok (k n : Nat) (w : World) (hk : 1 ≤ k ∧ k ≤ 6) (hn : 1 ≤ n ∧ n ≤ 9999999) (hp : Pres w) (ht : Tab w) :
    Calls Tryd.prog 10 #[.int .i64 (k : Int), .int .i64 (n : Int)] w fun e w' => e = .returned (.tuple #[.string (idB k n), .int .i64 0]) ∧ Below w.heap.size w w' := by
  obtain ⟨h1, h2⟩ := ckV_nat (k := k) (n := n) hk hn
  obtain ⟨n1, n2⟩ := hn
  obtain ⟨m, hm⟩ : ∃ m, k = m + 1 := ⟨k - 1, by omega⟩
  have hm6 : m < 6 := by omega
  have H1 := Lib.hid h1
  have H2 := Lib.hid h2
  have HT := Lib.hid ht
  have hcb := chN_bd k n
  have HID : Hid ((idB k n).data.toList = (preB k).data.toList ++ [45] ++ dgs n 7 ++ [45] ++ dgs (chN k n) 2) := rfl
  obtain ⟨sz, hsz⟩ : ∃ sz : ByteArray, preB k = sz := ⟨_, rfl⟩
  have hs3 : sz.size ≤ 3 := by rw [← hsz, hm, preB_size m hm6]; exact Nat.le_refl _
  have c0 := hp.cell hm6
  have zb : 0 < w.heap.size := block_lt_of_cell c0
  rw [← hm, hsz] at c0
  rw [hsz] at HID
  generalize chN k n = cn at *
  have HW : Hid (IntKind.i64.wrap ((k : Int) - 1) = (m : Int)) := by unfold Hid; rw [IntWalk.i64_in _ (by omega)]; omega
  clear hsz h1 h2 ht hm hp
  go_enter Tryd.func10, Tryd.ntmps10
  go_wp2_with fail
  refine (check_any _ _ _).mono ?_
  rintro e w' ⟨rfl, rfl⟩
  rw [H1.out, H2.out]
  go_wp2_with fail
  have hA := adr_pre m hm6
  have q1 : ¬ 9223372036854775807 < sz.size + 1 := by omega
  have z4 : sz.size + 1 ≤ 10 := by omega
  have n7 : n < 10000000 := by omega
  have n2' : cn < 100 := by omega
  have hwr := HW.out
  go_region_held3 (fun w' => w'.cell? ⟨0, m, none⟩ = some (.string sz) ∧ Below w.heap.size w w')
    ((refine keep1 zb c0 ?_; (repeat (first | with_reducible exact Below.refl _ _ | with_reducible refine bl_call h5 ?_ | with_reducible refine bl_call h6 ?_ | with_reducible refine bl_drew ?_))))
    (first
      | (go_at_call 20; ((with_reducible refine (pad7s n _ (sz.size + 1) z4 n7 (Tab.below HT.out ?_)).mono ?_); ((repeat (first | with_reducible exact Below.refl _ _ | with_reducible refine bl_call h5 ?_ | with_reducible refine bl_call h6 ?_ | with_reducible refine bl_drew ?_))); rintro e w5 ⟨x5, rfl, hz5, q2, q3, HX5, h5⟩))
      | (go_at_call 20; ((with_reducible refine (pad2s cn _ (sz.size + 1 + x5.size + 1) (Nat.add_le_add (Nat.add_le_add z4 hz5) (Nat.le_of_ble_eq_true rfl : 1 ≤ 3)) n2' (Tab.below HT.out ?_)).mono ?_); ((repeat (first | with_reducible exact Below.refl _ _ | with_reducible refine bl_call h5 ?_ | with_reducible refine bl_call h6 ?_ | with_reducible refine bl_drew ?_))); rintro e w6 ⟨x6, rfl, hz6, q4, HX6, h6⟩)))
  have B6 := bl_call h6 (bl_call h5 (bl_drew (Below.refl w.heap.size w)))
  clear hwr q1 q2 q3 q4 hA
  go_wp2_with fail
  go_ret2
  refine ⟨tup_eq ?_, B6⟩
  rw [HID.out, ← HX5.out, ← HX6.out]
  simp only [ByteArray.data_append, Array.toList_append]

theorem dgs_cons (k : Nat) : ∀ n, dgs n (k + 1) = UInt8.ofNat (48 + n / 10 ^ k % 10) :: dgs n k := by
  induction k with
  | zero => intro n; simp [dgs]
  | succ k ih =>
    intro n
    rw [dgs, ih (n / 10), dgs, List.cons_append, Nat.pow_succ, Nat.mul_comm (10 ^ k) 10, ← Nat.div_div_eq_div_mul]
set_option maxHeartbeats 1000000 in
theorem rdigits_any (n many : Nat) (w : World) (hm : many ≤ 9) (hn : n ≤ 9999999) :
    Calls Tryd.prog 21 #[.int .i64 (n : Int), .int .i64 (many : Int)] w fun e w' => ∃ x : ByteArray, e = .returned (.string x) ∧ x.size ≤ 9 ∧ Hid (x.data.toList = dgs n many) ∧ Below w.heap.size w w' := by
  go_enter Tryd.func21, Tryd.ntmps21
  go_wp2_with fail
  go_loopw [0, 5, 6] (fun nv sv i wr => ∃ (k a : Nat) (s : ByteArray), k ≤ many ∧ i = .int .i64 (k : Int) ∧ nv = .int .i64 (a : Int) ∧ a ≤ 9999999 ∧ Hid (a = n / 10 ^ k) ∧ sv = .string s ∧ s.size ≤ k ∧ Hid (s.data.toList = dgs n k) ∧ Below w.heap.size w wr) (fun _ _ i _ => many - (intOf i).toNat)
  case atStart => exact ⟨0, n, ⟨#[]⟩, by omega, rfl, rfl, hn, by simp [Hid], rfl, Nat.le_refl _, rfl, Below.refl _ _⟩
  case round =>
    obtain ⟨k, a, s, hk, rfl, rfl, ha, hA, rfl, hss, hS, hb⟩ := hrel
    by_cases hlt : k < many
    · have HC := Lib.hid (dgs_cons k n)
      obtain ⟨d, hd⟩ : ∃ d : UInt8, d = UInt8.ofNat (48 + a % 10) := ⟨_, rfl⟩
      have hdn : (d.toNat : Int) = 48 + (a : Int) % 10 := by rw [hd, dig_nat (Nat.mod_lt _ (by omega))]; omega
      have hcv : (convert 31 9 (.slice (some ⟨wr.heap.size, 0, none⟩) 1 1)).run Tryd.prog (wr.alloc (.cells #[.int .u8 (48 + (a : Int) % 10)] 5)) = .ok (.string ⟨#[d]⟩) (wr.alloc (.cells #[.int .u8 (48 + (a : Int) % 10)] 5)) :=
        run_convert_bytes_back _ 31 9 5 _ 1 [d] Tryd.underlying31 Tryd.underlying5 Tryd.underlying9 (fun j hj => by
          obtain rfl : j = 0 := by simpa using hj
          rw [← hdn.symm.symm]
          exact World.cell?_alloc_at (w := wr) _ 5 wr.heap.size 0 rfl)
      have HDN := Lib.hid hd
      have q1 : ¬ 9223372036854775807 < 1 + s.size := by omega
      clear hd hdn
      go_wp2_with fail
      go_roundw
      case rel =>
        refine ⟨k + 1, a / 10, ⟨#[d]⟩ ++ s, by omega, by go_num, by go_num, by omega, ?_, rfl, ?_, ?_, hb.alloc hb.size _⟩
        · unfold Hid; rw [hA.out, Nat.pow_succ, Nat.div_div_eq_div_mul]
        · rw [ByteArray.size_append]; show 1 + s.size ≤ k + 1; omega
        · unfold Hid; rw [HC.out, ← hA.out, ← HDN.out, ByteArray.data_append, Array.toList_append, hS.out]; rfl
      case measure => simp [intOf]; omega
    · obtain rfl : k = many := by omega
      go_wp2_with fail
      go_ret
      exact ⟨s, rfl, by omega, hS, hb⟩
end Go.Proofs.YtjjcicopblgdmaaDoor
