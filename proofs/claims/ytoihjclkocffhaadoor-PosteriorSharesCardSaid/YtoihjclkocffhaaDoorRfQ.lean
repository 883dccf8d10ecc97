/- Plain facts for the reference's arithmetic: the number of bits, a limb as a quotient, division bit by bit. No condition. The walks of the reference's Bits, Sub, short, Shift, half (package examboardref01). The walks of the reference's short, Shift, half (package examboardref01). The walks of the reference's DivMod and Gcd (package examboardref01). -/
import Derived.Test.YtoihjclkocffhaaDoorKnd
import Derived.Test.YtoihjclkocffhaaDoorRefA
import Derived.Deep.RegionHeld3
import Derived.Test.YtoihjclkocffhaaDoorNatE
import Derived.Test.YtoihjclkocffhaaDoorBx
namespace Go.Proofs.YtoihjclkocffhaaDoor
set_option linter.unusedVariables false

/-- The number of significant bits. -/
def bitL (v : Nat) : Nat := if h : v = 0 then 0 else bitL (v / 2) + 1
termination_by v
decreasing_by omega
theorem bitL_zero : bitL 0 = 0 := by unfold bitL; simp
theorem bitL_pos {v : Nat} (h : 0 < v) : bitL v = bitL (v / 2) + 1 := by
  rw [bitL, dif_neg (by omega)]
theorem bitL_spec (v : Nat) : v < 2 ^ bitL v ∧ (0 < v → 2 ^ bitL v ≤ 2 * v) := by
  induction v using Nat.strongRecOn with
  | _ v ih =>
    rcases Nat.eq_zero_or_pos v with h | h
    · subst h; rw [bitL_zero]; exact ⟨by decide, fun h => absurd h (by omega)⟩
    · obtain ⟨a, b⟩ := ih (v / 2) (by omega)
      rw [bitL_pos h, Nat.pow_succ]
      refine ⟨by omega, fun _ => ?_⟩
      rcases Nat.eq_zero_or_pos (v / 2) with h2 | h2
      · rw [h2, bitL_zero, Nat.pow_zero]; omega
      · have := b h2; omega
theorem pow2_lt {i j : Nat} (h : 2 ^ i < 2 ^ j) : i < j := by
  rcases Nat.lt_or_ge i j with h1 | h1
  · exact h1
  · have := Nat.pow_le_pow_right (n := 2) (by omega) h1; omega
theorem bitL_eq {v m : Nat} (h1 : 2 ^ m ≤ v) (h2 : v < 2 ^ (m + 1)) : bitL v = m + 1 := by
  have hp : 0 < 2 ^ m := Nat.pow_pos (by omega)
  obtain ⟨a, b⟩ := bitL_spec v
  have b := b (by omega)
  have c1 := pow2_lt (show 2 ^ m < 2 ^ bitL v by omega)
  have c2 := pow2_lt (show 2 ^ bitL v < 2 ^ (m + 2) by rw [show m + 2 = (m + 1) + 1 from rfl, Nat.pow_succ]; omega)
  omega
theorem bitL_bd {v : Nat} (h : 0 < v) : ∃ m, bitL v = m + 1 ∧ 2 ^ m ≤ v ∧ v < 2 ^ (m + 1) := by
  obtain ⟨a, b⟩ := bitL_spec v
  have b := b h
  have hb : 0 < bitL v := by rw [bitL_pos h]; omega
  obtain ⟨m, hm⟩ : ∃ m, bitL v = m + 1 := ⟨bitL v - 1, by omega⟩
  rw [hm] at a b
  exact ⟨m, hm, by rw [Nat.pow_succ] at b; omega, a⟩
theorem bitL_top {lo t k : Nat} (hl : lo < 2 ^ k) (ht : 0 < t) : bitL (lo + 2 ^ k * t) = k + bitL t := by
  obtain ⟨m, hm, h1, h2⟩ := bitL_bd ht
  rw [hm, show k + (m + 1) = (k + m) + 1 by omega]
  have e1 : 2 ^ k * 2 ^ m ≤ 2 ^ k * t := Nat.mul_le_mul_left _ h1
  have e2 : 2 ^ k * (t + 1) ≤ 2 ^ k * 2 ^ (m + 1) := Nat.mul_le_mul_left _ h2
  rw [Nat.mul_add, Nat.mul_one] at e2
  refine bitL_eq (by rw [Nat.pow_add]; omega) ?_
  rw [show k + m + 1 = k + (m + 1) by omega, Nat.pow_add]; omega
theorem bitL_iff (v : Nat) : bitL v = 0 ↔ v = 0 := by
  constructor
  · intro h
    rcases Nat.eq_zero_or_pos v with h1 | h1
    · exact h1
    · rw [bitL_pos h1] at h; omega
  · intro h; subst h; exact bitL_zero
theorem bp_two (k : Nat) : bp k = 2 ^ (32 * k) := by
  unfold bp
  rw [Nat.pow_mul]
/-- The bits of a list in normal form. -/
theorem bitL_list {l : List Nat} {n : Nat} (hl : l.length = n + 1) (hall : AllB l) (ht : 0 < l.getD n 0) : bitL (val l) = 32 * n + bitL (l.getD n 0) := by
  have e := val_take_succ l n
  rw [List.take_of_length_le (by omega)] at e
  have h := val_lt (hall.take n)
  rw [List.length_take, Nat.min_eq_left (by omega), bp_two] at h
  rw [e, bp_two]
  exact bitL_top h ht
theorem bitL_le {l : List Nat} (hall : AllB l) : bitL (val l) ≤ 32 * l.length := by
  have h := val_lt hall
  rw [bp_two] at h
  rcases Nat.eq_zero_or_pos (val l) with h0 | h0
  · rw [h0, bitL_zero]; omega
  · obtain ⟨m, hm, h1, h2⟩ := bitL_bd h0
    have := pow2_lt (show 2 ^ m < 2 ^ (32 * l.length) by omega)
    omega
/-- What a number of fewer bits is. -/
theorem bitL_lt {a b : Nat} (h : bitL a < bitL b) : a < b := by
  obtain ⟨a1, _⟩ := bitL_spec a
  have hb : 0 < b := by
    rcases Nat.eq_zero_or_pos b with h0 | h0
    · subst h0; rw [bitL_zero] at h; omega
    · exact h0
  obtain ⟨m, hm, h1, h2⟩ := bitL_bd hb
  have := Nat.pow_le_pow_right (n := 2) (by omega) (show bitL a ≤ m by omega)
  omega
theorem bitL_start {a b n : Nat} (hb : 0 < b) (h : bitL a = bitL b + n) : a < b * 2 ^ (n + 1) := by
  obtain ⟨a1, _⟩ := bitL_spec a
  obtain ⟨m, hm, h1, h2⟩ := bitL_bd hb
  have e : 2 ^ m * 2 ^ (n + 1) ≤ b * 2 ^ (n + 1) := Nat.mul_le_mul_right _ h1
  rw [← Nat.pow_add] at e
  rw [h, hm, show m + 1 + n = m + (n + 1) by omega] at a1
  omega
/-- A limb as a quotient. -/
theorem val_limb {l : List Nat} (hall : AllB l) {k : Nat} (hk : k < l.length) : val l / bp k % 4294967296 = l.getD k 0 := by
  have e := val_drop_take l k (by omega)
  have h := val_lt (hall.take k)
  rw [List.length_take, Nat.min_eq_left (by omega)] at h
  have d := val_drop_step l k hk
  have hx := hall.getD k
  rw [e, Nat.add_mul_div_left _ _ (bp_pos k), Nat.div_eq_of_lt h, Nat.zero_add, d, Nat.add_mul_mod_self_left, Nat.mod_eq_of_lt hx]
theorem val_setR {l : List Nat} {k x : Nat} (hk : k < l.length) : val (l.set k x) + bp k * l.getD k 0 = val l + bp k * x := by
  have e := val_drop_take l (k + 1) (by omega)
  have e2 := val_drop_take (l.set k x) (k + 1) (by rw [List.length_set]; omega)
  rw [val_take_set _ _ _ hk, drop_set_succ] at e2
  rw [val_take_succ] at e
  omega
/-- One bit more, below all those that are set. -/
theorem bit_limb {l : List Nat} (hall : AllB l) {j R : Nat} (hk : j / 32 < l.length) (hv : val l = 2 ^ (j + 1) * R) :
    l.getD (j / 32) 0 ||| 2 ^ (j % 32) = l.getD (j / 32) 0 + 2 ^ (j % 32) ∧ l.getD (j / 32) 0 + 2 ^ (j % 32) < 4294967296 := by
  have hs : j % 32 < 32 := Nat.mod_lt _ (by omega)
  have e := val_limb hall hk
  have hj : j + 1 = 32 * (j / 32) + (j % 32 + 1) := by omega
  rw [hv, hj, Nat.pow_add, bp_two, Nat.mul_assoc, Nat.mul_div_cancel_left _ (Nat.pow_pos (by omega))] at e
  generalize j % 32 = s at *
  generalize l.getD (j / 32) 0 = x at *
  have e32 : 2 ^ (s + 1) * 2 ^ (31 - s) = 4294967296 := by rw [← Nat.pow_add, show s + 1 + (31 - s) = 32 by omega]
  have e3 : x = 2 ^ (s + 1) * (R % 2 ^ (31 - s)) := by
    rw [← e, ← e32, Nat.mul_mod_mul_left]
  have hlt : R % 2 ^ (31 - s) < 2 ^ (31 - s) := Nat.mod_lt _ (Nat.pow_pos (by omega))
  generalize R % 2 ^ (31 - s) = y at *
  have h2 : 2 ^ s < 2 ^ (s + 1) := by rw [Nat.pow_succ]; have := Nat.pow_pos (n := s) (show 0 < 2 by omega); omega
  have h3 := Nat.shiftLeft_add_eq_or_of_lt (i := s + 1) (b := 2 ^ s) h2 y
  rw [Nat.shiftLeft_eq, Nat.mul_comm] at h3
  refine ⟨by rw [e3]; exact h3.symm, ?_⟩
  have h4 : 2 ^ (s + 1) * (y + 1) ≤ 2 ^ (s + 1) * 2 ^ (31 - s) := Nat.mul_le_mul_left _ hlt
  rw [e32, Nat.mul_add, Nat.mul_one] at h4
  omega
theorem bit_val {l : List Nat} (hall : AllB l) {j R : Nat} (hk : j / 32 < l.length) (hv : val l = 2 ^ (j + 1) * R) :
    val (l.set (j / 32) (l.getD (j / 32) 0 + 2 ^ (j % 32))) = 2 ^ j * (2 * R + 1) := by
  have h := val_setR (x := l.getD (j / 32) 0 + 2 ^ (j % 32)) hk
  have e : bp (j / 32) * 2 ^ (j % 32) = 2 ^ j := by rw [bp_two, ← Nat.pow_add]; congr 1; omega
  rw [Nat.mul_add, e] at h
  rw [hv, Nat.pow_succ] at h
  generalize 2 ^ j = P at *
  have : P * (2 * R + 1) = P * 2 * R + P := by grind
  omega
/-- A step of the division. -/
theorem dv_sub {a A b Q j : Nat} (h : a = A + b * Q) (hA : A < b * 2 ^ (j + 1)) (hge : b * 2 ^ j ≤ A) : a = (A - b * 2 ^ j) + b * (Q + 2 ^ j) ∧ A - b * 2 ^ j < b * 2 ^ j := by
  rw [Nat.pow_succ] at hA
  have e : b * (2 ^ j * 2) = b * 2 ^ j + b * 2 ^ j := by grind
  rw [e] at hA
  rw [Nat.mul_add]
  omega
theorem dv_half {b j : Nat} : b * 2 ^ (j + 1) / 2 = b * 2 ^ j := by
  rw [Nat.pow_succ, ← Nat.mul_assoc, Nat.mul_div_cancel _ (by omega)]
theorem dv_end {a A b Q : Nat} (h : a = A + b * Q) (hA : A < b) : a / b = Q ∧ a % b = A := by
  have hb : 0 < b := by omega
  subst h
  rw [Nat.add_mul_div_left _ _ hb, Nat.div_eq_of_lt hA, Nat.zero_add, Nat.add_mul_mod_self_left, Nat.mod_eq_of_lt hA]
  exact ⟨rfl, rfl⟩
/-- Subtraction, limb by limb. -/
theorem sub_stepR {so b a bw y x d bw' p : Nat} (h : so + b = a + bw * p) (e : d + y + bw = x + bw' * 4294967296) : (so + p * d) + (b + p * y) = (a + p * x) + bw' * (p * 4294967296) := by
  have : p * (d + y + bw) = p * (x + bw' * 4294967296) := by rw [e]
  grind
theorem sub_end {n so bw : Nat} {a b : List Nat} (hn : a.length = n) (ha : AllB a) (hb : AllB b) (hso : so < bp n) (hbw : bw ≤ 1) (h : so + val (b.take n) = val a + bw * bp n) (hle : val b ≤ val a) : so = val a - val b := by
  have h1 := val_lt ha
  rw [hn] at h1
  have hbt : val (b.take n) = val b := by
    rcases Nat.lt_or_ge n b.length with hl | hl
    · have e := val_drop_take b n (by omega)
      rcases Nat.eq_zero_or_pos (val (b.drop n)) with h0 | h0
      · rw [h0] at e; omega
      · have : bp n * 1 ≤ bp n * val (b.drop n) := Nat.mul_le_mul_left _ h0
        omega
    · rw [val_take_all _ hl]
  rw [hbt] at h
  rcases (by omega : bw = 0 ∨ bw = 1) with hw | hw
  · subst hw; omega
  · subst hw; omega
end Go.Proofs.YtoihjclkocffhaaDoor
namespace Go.Proofs.YtoihjclkocffhaaDoor
open Go.RowKit
set_option linter.unusedVariables false

theorem noTop_get {l : List Nat} {j : Nat} (h : NoTop l) (hl : l.length = j + 1) : 0 < l.getD j 0 := by
  rcases h with h | ⟨m, x, rfl, hx⟩
  · subst h; simp at hl
  · have : j = m.length := by simp at hl; omega
    subst this
    simp [List.getD_eq_getElem?_getD]
    exact hx
theorem bitL_limb {t : Nat} (h : t < 4294967296) : bitL t ≤ 32 := by
  have := bitL_le (l := [t]) (AllB.cons h AllB.nil)
  simpa [val] using this

set_option maxHeartbeats 2000000 in
theorem rbits_any (v : Value) (ls : List Nat) (w : World) (h : Lim w v ls) (hl : ls.length ≤ 70368744177664) :
    Calls Tryd.prog 84 #[v] w fun e w' => e = .returned (.int .i64 ((bitL (val ls) : Nat) : Int)) ∧ Below w.heap.size w w' := by
  have h0 := h
  obtain ⟨⟨A0, c0, rfl, _, _, _⟩, _⟩ := h0
  go_enter Tryd.func84, Tryd.ntmps84
  go_wp2_with fail
  refine (rnorm_any _ ls _ h hl).mono ?_
  rintro e w1 ⟨v1, rfl, l1, ⟨⟨A, c, rfl, hc, hm, hs⟩, hall⟩, nt, hv, hk, hf, hb⟩
  obtain ⟨n, hn⟩ : ∃ n, l1.length = n := ⟨_, rfl⟩
  rw [hn] at hs hc hk ⊢
  unfold maxLen at hm
  have HV := Lib.hid hv
  clear hv hf h
  rcases Nat.eq_zero_or_pos n with hz | hz
  · have HZ : Hid (bitL (val ls) = 0) := by
      unfold Hid
      rw [bitL_iff, ← HV.out, List.eq_nil_of_length_eq_zero (hn.trans hz)]
      rfl
    subst hz
    clear hn
    go_wp2_with fail
    go_ret
    exact ⟨by rw [HZ.out]; rfl, hb⟩
  · obtain ⟨j, hj⟩ : ∃ j, n = j + 1 := ⟨n - 1, by omega⟩
    have ht := noTop_get nt (hn.trans hj)
    have HB := Lib.hid (bitL_list (hn.trans hj) hall ht)
    obtain ⟨b, o, rfl, hbl, hcell⟩ := hs.lim (show j < n by omega)
    have g1 := hcell j (by omega)
    have hx := hall.getD j
    clear hcell hs nt hn
    rw [HV.out] at HB
    generalize l1.getD j 0 = t at *
    have ej : (n : Int) - 1 = (j : Int) := by omega
    have t0 : ((n : Int) == 0) = false := by rw [beq_eq_false_iff_ne]; omega
    have t00 : (n == 0) = false := by rw [beq_eq_false_iff_ne]; omega
    have h32 := bitL_limb hx
    have hj2 : j ≤ 70368744177664 := by omega
    have HJ := Lib.hid hj
    clear hj
    go_wp2_with fail
    go_loop [3, 4] (fun nv xv => ∃ k x : Nat, nv = .int .i64 (32 * (j : Int) + (k : Int)) ∧ xv = .int .u32 (x : Int) ∧ x < 4294967296 ∧ k ≤ 32 ∧ Hid (k + bitL x = bitL t)) (fun _ xv => (intOf xv).toNat)
    case atStart => exact ⟨0, t, by simp, rfl, hx, by omega, by unfold Hid; omega⟩
    case round =>
      obtain ⟨k, x, rfl, rfl, hx1, hk1, HK⟩ := hrel
      rcases Nat.eq_zero_or_pos x with hx0 | hx0
      · have HE : Hid (32 * (j : Int) + (k : Int) = ((bitL (val ls) : Nat) : Int)) := by
          unfold Hid
          have := HK.out
          rw [hx0, bitL_zero] at this
          rw [HB.out]; omega
        subst hx0
        go_wp2_with fail
        go_ret
        exact ⟨by rw [← HE.out]; rfl, hb⟩
      · have hp := bitL_pos hx0
        have hd2 : (x : Int) / 2 = ((x / 2 : Nat) : Int) := by omega
        have hk2 : k + 1 ≤ 32 := by have := HK.out; omega
        have HK2 : Hid (k + 1 + bitL (x / 2) = bitL t) := by unfold Hid; have := HK.out; omega
        have hx2 : x / 2 < 4294967296 := by omega
        have hlt : x / 2 < x := by omega
        clear hp
        generalize x / 2 = y at *
        go_wp2_with fail
        go_round
        case rel => exact ⟨k + 1, y, by first | go_num | (congr 1; omega), rfl, hx2, hk2, HK2⟩
        case measure => simp [intOf]; omega

set_option maxHeartbeats 1000000 in
theorem rsub_lt (v u : Value) (la lb : List Nat) (w : World) (ha : Lim w v la) (hb : Lim w u lb) (h1 : la.length ≤ 70368744177664) (h2 : lb.length ≤ 70368744177664) (hlt : val la < val lb) :
    Calls Tryd.prog 86 #[v, u] w fun e w' => e = .returned (.tuple #[.slice none 0 0, .bool false]) ∧ w = w' := by
  have HC := Lib.hid (cmpN_lt hlt)
  have ha0 := ha
  have hb0 := hb
  obtain ⟨⟨A, c, rfl, _, _, _⟩, _⟩ := ha0
  obtain ⟨⟨B, c', rfl, _, _, _⟩, _⟩ := hb0
  go_enter Tryd.func86, Tryd.ntmps86
  go_wp2_with fail
  refine (rcmp_any _ _ la lb _ ha hb h1 h2).mono ?_
  rintro e w1 ⟨rfl, rfl⟩
  rw [HC.out]
  go_wp2_with fail
  go_ret2
  exact ⟨rfl, rfl⟩
set_option maxHeartbeats 4000000 in
theorem rsub_ge (v u : Value) (a b : List Nat) (w : World) (ha : Lim w v a) (hb : Lim w u b) (h1 : a.length ≤ 70368744177664) (h2 : b.length ≤ 70368744177664) (hle : val b ≤ val a) :
    Calls Tryd.prog 86 #[v, u] w fun e w' => ∃ x, e = .returned (.tuple #[x, .bool true]) ∧ NRes w w' x (val a - val b) a.length := by
  have HCM := Lib.hid (fun (W : World) (h : Below w.heap.size w W) => rcmp_any v u a b W (ha.below h) (hb.below h) h1 h2)
  have hc0 : 0 ≤ cmpN (val a) (val b) := by unfold cmpN; rw [if_neg (by omega)]; split <;> omega
  obtain ⟨cm, hcm⟩ : ∃ x, cmpN (val a) (val b) = x := ⟨_, rfl⟩
  rw [hcm] at hc0 HCM
  have dc : decide (cm < 0) = false := decide_eq_false (by omega)
  obtain ⟨⟨A, c, rfl, hac, ham, hsa⟩, all1⟩ := ha
  obtain ⟨⟨B, c', rfl, hbc, hbm, hsb⟩, all2⟩ := hb
  obtain ⟨n, hn⟩ : ∃ n, a.length = n := ⟨_, rfl⟩
  obtain ⟨m, hm⟩ : ∃ n, b.length = n := ⟨_, rfl⟩
  have HN := Lib.hid hn
  rw [hn] at hsa hac h1 HCM ⊢
  rw [hm] at hsb hbc h2 HCM ⊢
  have HLE := Lib.hid hle
  clear hcm hle hn hm hac hbc ham hbm hc0
  have hmk := run_mkI (P := Tryd.prog) Tryd.underlying50 infoU32 rfl (n : Int) n (by omega) (by omega) (by omega)
  go_enter Tryd.func86, Tryd.ntmps86
  go_wp2_with fail
  refine (HCM.out _ (Below.refl _ _)).mono ?_
  rintro e w1 ⟨rfl, rfl⟩
  go_wp2_with fail
  clear hmk dc
  go_loopw [7, 8] (fun bv i wr => ∃ (k bw : Nat) (so : List Nat), k ≤ n ∧ i = .int .i64 (k : Int) ∧ bv = .int .u64 (bw : Int) ∧ bw ≤ 1 ∧ Hid (so.length = k) ∧ AllB so ∧ Hid (val so + val (b.take k) = val (a.take k) + bw * bp k) ∧ Row wr w.heap.size 69 (lims (so ++ List.replicate (n - k) 0)) ∧ Below w.heap.size w wr) (fun _ i _ => n - (intOf i).toNat)
  case atStart => exact ⟨0, 0, [], by omega, rfl, rfl, by omega, rfl, AllB.nil, by simp [Hid, val], by rw [List.nil_append, lims_zeros]; exact Row.newz _ _ _ _, (Below.refl _ _).alloc (Nat.le_refl _) _⟩
  case round =>
    obtain ⟨k, bw, so, hk, rfl, rfl, hbw, hso, hall, hval, hrow, hb⟩ := hrel
    have zl : w.heap.size < wr.heap.size := hrow.lt
    by_cases hlt : k < n
    · have hc0 : wr.cell? ⟨w.heap.size, k, none⟩ = some (.int .u32 0) := by
        rw [hrow.cell, lims_get _ (by simp [hso.out]; omega), pad_get _ _ _ hso.out (by omega)]; rfl
      have hf0 : wr.frozen? ⟨w.heap.size, k, none⟩ = false := hrow.frozen k
      have HX := Lib.hid (val_take_succ a k)
      have HY := Lib.hid (val_take_succ b k)
      have hx := all1.getD k
      have hy := all2.getD k
      generalize hxe : a.getD k 0 = xx at *
      generalize hye : b.getD k 0 = yy at *
      have HXE := Lib.hid hxe
      have HYE := Lib.hid hye
      clear hxe hye
      have wy : (yy : Int) + (bw : Int) = ((yy + bw : Nat) : Int) := by omega
      have HYB : Hid (yy + bw < 4294967297) := by unfold Hid; omega
      by_cases hxy : xx < yy + bw
      · obtain ⟨d, hd⟩ : ∃ d, xx + 4294967296 = d + yy + bw := ⟨xx + 4294967296 - (yy + bw), by omega⟩
        have hdl : d < 4294967296 := by omega
        have HS := Lib.hid (sub_stepR (d := d) (y := yy) (x := xx) (bw' := 1) hval.out (by omega))
        have ed : (xx : Int) + 4294967296 - ((yy + bw : Nat) : Int) = (d : Int) := by omega
        have em : (d : Int) % 4294967296 = (d : Int) := by omega
        have hyI : ((yy + bw : Nat) : Int) < 4294967297 := by omega
        have hxyI : (xx : Int) < ((yy + bw : Nat) : Int) := by omega
        clear hd
        generalize yy + bw = yb at *
        go_wp2_with fail
        refine (rlimb_at A n c a k _ _ (hsa.below hb) all1 (by omega) HXE.out).mono ?_
        rintro e w' ⟨rfl, rfl⟩
        go_wp2_with fail
        refine (rlimb_at B m c' b k _ _ (hsb.below hb) all2 (by omega) HYE.out).mono ?_
        rintro e w' ⟨rfl, rfl⟩
        go_wp2_with fail
        go_roundw
        case rel =>
          refine ⟨k + 1, 1, so ++ [d], by omega, by go_num, rfl, by omega, by unfold Hid; rw [List.length_append, hso.out]; rfl, hall.snoc hdl, ?_, ?_, hb.setCell (Nat.le_refl _) _⟩
          · unfold Hid
            rw [val_snoc, hso.out, HX.out, HY.out, bp_succ]
            exact HS.out
          · rw [← pad_set _ _ _ _ hso.out (by omega), ← lims_set]
            exact hrow.set_ k _
        case measure => simp [intOf]; omega
      · obtain ⟨d, hd⟩ : ∃ d, xx = d + yy + bw := ⟨xx - (yy + bw), by omega⟩
        have hdl : d < 4294967296 := by omega
        have HS := Lib.hid (sub_stepR (d := d) (y := yy) (x := xx) (bw' := 0) hval.out (by omega))
        have ed : (xx : Int) - ((yy + bw : Nat) : Int) = (d : Int) := by omega
        have em : (d : Int) % 4294967296 = (d : Int) := by omega
        have hyI : ((yy + bw : Nat) : Int) < 4294967297 := by omega
        have hxyI : ¬ (xx : Int) < ((yy + bw : Nat) : Int) := by omega
        have HD := Lib.hid hd
        clear hd
        generalize yy + bw = yb at *
        go_wp2_with fail
        refine (rlimb_at A n c a k _ _ (hsa.below hb) all1 (by omega) HXE.out).mono ?_
        rintro e w' ⟨rfl, rfl⟩
        go_wp2_with fail
        refine (rlimb_at B m c' b k _ _ (hsb.below hb) all2 (by omega) HYE.out).mono ?_
        rintro e w' ⟨rfl, rfl⟩
        go_wp2_with fail
        go_roundw
        case rel =>
          refine ⟨k + 1, 0, so ++ [d], by omega, by go_num, rfl, by omega, by unfold Hid; rw [List.length_append, hso.out]; rfl, hall.snoc hdl, ?_, ?_, hb.setCell (Nat.le_refl _) _⟩
          · unfold Hid
            rw [val_snoc, hso.out, HX.out, HY.out, bp_succ]
            have := HS.out
            omega
          · rw [← pad_set _ _ _ _ hso.out (by omega), ← lims_set]
            exact hrow.set_ k _
        case measure => simp [intOf]; omega
    · obtain rfl : n = k := by omega
      have hrow' : Row wr w.heap.size 69 (lims so) := by simpa using hrow
      have hsl := hrow'.sl
      rw [lims_len, hso.out] at hsl
      have HV : Hid (val so = val a - val b) := by
        have e := hval.out
        rw [val_take_all a (by rw [HN.out]; exact Nat.le_refl _)] at e
        have h3 := val_lt hall
        rw [hso.out] at h3
        exact sub_end HN.out all1 all2 h3 hbw e HLE.out
      go_wp2_with fail
      refine (rnorm_core _ n n so _ hsl (by omega) (by omega) (by omega) hall).mono ?_
      rintro e w1 ⟨v, rfl, ls, h1, h2, h3, h4, h5, h6⟩
      go_wp2_with fail
      go_ret2
      exact ⟨v, rfl, ls, h1, h2, by rw [h3, HV.out], h4, h5.mono (by omega), hb.trans (h6.mono hb.size)⟩
end Go.Proofs.YtoihjclkocffhaaDoor
namespace Go.Proofs.YtoihjclkocffhaaDoor
open Go.RowKit
set_option linter.unusedVariables false

set_option maxHeartbeats 2000000 in
theorem rshort_any (A : Option Addr) (n c d : Nat) (ls : List Nat) (w : World) (hs : Sl w A n (lims ls)) (hall : AllB ls) (hn : n ≤ c) (hc : c ≤ 9223372036854775807) (hl : n ≤ 70368744177664) (hd : 0 < d) (hd2 : d < 4294967296) :
    Calls Tryd.prog 83 #[.slice A n c, .int .u64 (d : Int)] w fun e w' => ∃ v, e = .returned (.tuple #[v, .int .u64 ((val ls % d : Nat) : Int)]) ∧ NRes w w' v (val ls / d) n := by
  have hmk := run_mk (P := Tryd.prog) Tryd.underlying50 infoU32 rfl n (by omega) (by omega)
  have hln : ls.length = n := by have := hs.1; rwa [lims_len] at this
  have HLN := Lib.hid hln
  have HD := Lib.hid hd
  have HD0 : ((d : Int) == 0) = false := by rw [beq_eq_false_iff_ne]; omega
  clear hln
  go_enter Tryd.func83, Tryd.ntmps83
  go_wp2_with fail
  clear hmk
  go_loopw [7, 8] (fun rv i wr => ∃ (k R : Nat) (Q : List Nat), k ≤ n ∧ i = .int .i64 ((k : Int) - 1) ∧ rv = .int .u64 (R : Int) ∧ R < d ∧ Hid (Q.length = n - k) ∧ AllB Q ∧ Hid (val (ls.drop k) = val Q * d + R) ∧ Row wr w.heap.size 69 (lims (List.replicate k 0 ++ Q)) ∧ Below w.heap.size w wr) (fun _ i _ => (intOf i + 1).toNat)
  case atStart => exact ⟨n, 0, [], by omega, rfl, rfl, hd, by simp [Hid], AllB.nil, by unfold Hid; rw [List.drop_of_length_le (by rw [HLN.out]; omega)]; simp [val], by rw [List.append_nil, lims_zeros]; exact Row.newz _ _ _ _, (Below.refl _ _).alloc (Nat.le_refl _) _⟩
  case round =>
    obtain ⟨k, R, Q, hk, rfl, rfl, hR, hQ, hallQ, hval, hrow, hb⟩ := hrel
    rcases Nat.eq_zero_or_pos k with h0 | hp
    · subst h0
      have hrow' : Row wr w.heap.size 69 (lims Q) := by simpa using hrow
      have hsl := hrow'.sl
      rw [lims_len, hQ.out, Nat.sub_zero] at hsl
      have hv : val ls = val Q * d + R := by have := hval.out; rwa [List.drop_zero] at this
      have HV1 : Hid (val ls / d = val Q) := by unfold Hid; rw [hv, Nat.mul_comm, Nat.mul_add_div HD.out, Nat.div_eq_of_lt hR]; rfl
      have HV2 : Hid (val ls % d = R) := by unfold Hid; rw [hv, Nat.mul_comm, Nat.mul_add_mod, Nat.mod_eq_of_lt hR]
      clear hv hval
      go_wp2_with fail
      refine (rnorm_core _ n n Q _ hsl (by omega) (by omega) (by omega) hallQ).mono ?_
      rintro e w1 ⟨v, rfl, l1, h1, h2, h3, h4, h5, h6⟩
      go_wp2_with fail
      go_ret2
      exact ⟨v, by rw [HV2.out]; rfl, l1, h1, h2, by rw [h3, HV1.out], h4, h5.mono hb.size, hb.trans (h6.mono hb.size)⟩
    · obtain ⟨j, rfl⟩ : ∃ j, k = j + 1 := ⟨k - 1, by omega⟩
      have hjn : j < n := by omega
      obtain ⟨b1, o1, rfl, hb1, hcell⟩ := hs.lim hjn
      have g1 : wr.cell? ⟨b1, o1 + j, none⟩ = some (.int .u32 ((ls.getD j 0 : Nat) : Int)) := (hb.cell (p := ⟨b1, o1 + j, none⟩) hb1).trans (hcell j hjn)
      have hx := hall.getD j
      have HX := Lib.hid (val_drop_step ls j (by rw [HLN.out]; exact hjn))
      have hc0 : wr.cell? ⟨w.heap.size, j, none⟩ = some (.int .u32 0) := by
        rw [hrow.cell, lims_get _ (by simp; omega), fpad_get]; rfl
      have hf0 : wr.frozen? ⟨w.heap.size, j, none⟩ = false := hrow.frozen j
      generalize ls.getD j 0 = xx at *
      have hR2 : R < 4294967296 := by omega
      have HS := Lib.hid (div_step hval.out hR (by omega) hx)
      have hq1 := HS.out.2.1
      have hq2 := HS.out.2.2
      have e1 : ((((j + 1 : Nat) : Int)) - 1) = (j : Int) := by omega
      have E1 := Lib.hid e1
      have HQ1 : Hid (((R : Int) * 4294967296 + (xx : Int)) / (d : Int) % 4294967296 = (((R * 4294967296 + xx) / d : Nat) : Int)) := by
        unfold Hid
        rw [show ((R : Int) * 4294967296 + (xx : Int)) = ((R * 4294967296 + xx : Nat) : Int) by omega, ← Int.natCast_ediv]
        generalize (R * 4294967296 + xx) / d = q at *
        omega
      have HQ2 : Hid (((R : Int) * 4294967296 + (xx : Int)) % (d : Int) = (((R * 4294967296 + xx) % d : Nat) : Int)) := by
        unfold Hid
        rw [show ((R : Int) * 4294967296 + (xx : Int)) = ((R * 4294967296 + xx : Nat) : Int) by omega, ← Int.natCast_emod]
      clear hcell e1
      rw [E1.out]
      go_wp2_with fail
      rw [HQ1.out, HQ2.out]
      go_roundw
      case rel =>
        refine ⟨j, (R * 4294967296 + xx) % d, (R * 4294967296 + xx) / d :: Q, by omega, rfl, rfl, hq2, by unfold Hid; rw [List.length_cons, hQ.out]; omega, AllB.cons hq1 hallQ, ?_, ?_, hb.setCell (Nat.le_refl _) _⟩
        · unfold Hid
          rw [HX.out, HS.out.1]
          show _ = ((R * 4294967296 + xx) / d + 4294967296 * val Q) * d + _
          rfl
        · rw [← fpad_set, ← lims_set]
          exact hrow.set_ j _
      case measure => simp [intOf]

theorem pre_get (m k : Nat) (L : List Nat) : (List.replicate m 0 ++ L).getD (k + m) 0 = L.getD k 0 := by
  rw [List.getD_eq_getElem?_getD, List.getD_eq_getElem?_getD, List.getElem?_append_right (by simp)]
  simp
theorem pre_set (m k x : Nat) (L : List Nat) : (List.replicate m 0 ++ L).set (k + m) x = List.replicate m 0 ++ L.set k x := by
  rw [List.set_append_right _ _ (by simp)]
  simp
theorem val_pre (m : Nat) (L : List Nat) : val (List.replicate m 0 ++ L) = bp m * val L := by
  rw [val_append, val_zeros, List.length_replicate, Nat.zero_add]
set_option maxHeartbeats 8000000 in
theorem rshift_any (A : Option Addr) (c n : Nat) (a : List Nat) (w : World) (hsa : Sl w A a.length (lims a)) (hall0 : AllB a) (hc : c ≤ 9223372036854775807) (la : a.length + n / 32 < 70368744177664) :
    Calls Tryd.prog 85 #[.slice A a.length c, .int .i64 (n : Int)] w fun e w' => ∃ v, e = .returned v ∧ NRes w w' v (val a * 2 ^ n) (a.length + n / 32 + 1) := by
  obtain ⟨m, hm⟩ : ∃ m, n / 32 = m := ⟨_, rfl⟩
  obtain ⟨s, hs⟩ : ∃ s, n % 32 = s := ⟨_, rfl⟩
  have HMS : Hid (n = 32 * m + s) := by unfold Hid; omega
  have hs32 : s < 32 := by omega
  have em : (n : Int) / 32 = (m : Int) := by omega
  have es : (n : Int) % 32 = (s : Int) := by omega
  rw [hm] at la ⊢
  have hn0 : (n : Int) ≤ 3000000000000000 := by omega
  clear hm hs
  have hmk := run_mkI (P := Tryd.prog) Tryd.underlying50 infoU32 rfl ((a.length : Int) + (m : Int) + 1) (a.length + m + 1) (by omega) (by omega) (by omega)
  go_enter Tryd.func85, Tryd.ntmps85
  go_wp2_with fail
  clear hmk
  have hslt : 2 ^ s < 4294967296 := Nat.pow_lt_pow_right (by omega) hs32
  go_loopw [6] (fun i wr => ∃ (k cy : Nat) (so : List Nat), k ≤ a.length ∧ i = .int .i64 (k : Int) ∧ Hid (cy < 2 ^ s) ∧ Hid (so.length = k) ∧ AllB so ∧ Hid (val so + cy * bp k = 2 ^ s * val (a.take k)) ∧ Row wr w.heap.size 69 (lims (List.replicate m 0 ++ ((so ++ [cy]) ++ List.replicate (a.length - k) 0))) ∧ Below w.heap.size w wr) (fun i _ => a.length - (intOf i).toNat)
  case atStart => exact ⟨0, 0, [], by omega, rfl, Nat.pow_pos (by omega), rfl, AllB.nil, by simp [Hid, val], by
    have : List.replicate m 0 ++ ((([] : List Nat) ++ [0]) ++ List.replicate (a.length - 0) 0) = List.replicate (a.length + m + 1) 0 := by
      rw [List.nil_append, Nat.sub_zero, show ([0] : List Nat) = List.replicate 1 0 from rfl, List.replicate_append_replicate, List.replicate_append_replicate]; congr 1; omega
    rw [this, lims_zeros]; exact Row.newz _ _ _ _, (Below.refl _ _).alloc (Nat.le_refl _) _⟩
  case round =>
    obtain ⟨k, cy, so, hk, rfl, hcy, hso, hall, hval, hrow, hb⟩ := hrel
    have zl : w.heap.size < wr.heap.size := hrow.lt
    have hly : (List.replicate m 0 ++ ((so ++ [cy]) ++ List.replicate (a.length - k) 0)).length = a.length + m + 1 := by simp [hso.out]; omega
    by_cases hlt : k < a.length
    · obtain ⟨b1, o1, rfl, hb1, hcell⟩ := hsa.lim hlt
      have g1 : wr.cell? ⟨b1, o1 + k, none⟩ = some (.int .u32 ((a.getD k 0 : Nat) : Int)) := (hb.cell (p := ⟨b1, o1 + k, none⟩) hb1).trans (hcell k hlt)
      have hx := hall0.getD k
      have hc0 : wr.cell? ⟨w.heap.size, k + m, none⟩ = some (.int .u32 (cy : Int)) := by
        rw [hrow.cell, lims_get _ (by rw [hly]; omega), pre_get, sh_get0 _ _ _ _ hso.out]
      have hc1 : wr.cell? ⟨w.heap.size, k + m + 1, none⟩ = some (.int .u32 0) := by
        rw [show k + m + 1 = (k + 1) + m by omega, hrow.cell, lims_get _ (by rw [hly]; omega), pre_get, sh_get1 _ _ _ _ hso.out (by omega)]; rfl
      have hf0 : wr.frozen? ⟨w.heap.size, k + m, none⟩ = false := hrow.frozen _
      have hf1 : wr.frozen? ⟨w.heap.size, k + m + 1, none⟩ = false := hrow.frozen _
      have HX := Lib.hid (val_take_succ a k)
      clear hcell
      generalize a.getD k 0 = xx at *
      obtain ⟨T, hT⟩ : ∃ T, xx * 2 ^ s = T := ⟨_, rfl⟩
      have hTl : T < 18446744073709551616 := by
        have h1 : xx * 2 ^ s ≤ 4294967295 * 2 ^ s := Nat.mul_le_mul_right _ (by omega)
        omega
      have hTi : (xx : Int) * 2 ^ s = (T : Int) := by rw [← hT, Int.natCast_mul, Int.natCast_pow]; rfl
      have wT : IntKind.u64.wrap (T : Int) = (T : Int) := by rw [IntKind.wrap_u64]; omega
      obtain ⟨d1, d2, d3⟩ := shl_digit hs32 hcy.out hx
      rw [hT] at d1 d2 d3
      have m1 : (T : Int) % 4294967296 = ((T % 4294967296 : Nat) : Int) := by omega
      have m2 : (T : Int) / 4294967296 = ((T / 4294967296 : Nat) : Int) := by omega
      have hor : bits .or .u32 (cy : Int) ((T % 4294967296 : Nat) : Int) = ((cy + T % 4294967296 : Nat) : Int) := by
        rw [u32_or_nat _ _ (by omega) (by omega), d1]
      have HSH := Lib.hid (shl_step (lo := cy + T % 4294967296) (hi := T / 4294967296) (2 ^ s) hval.out (by rw [hT]; omega) HX.out)
      have HD3 := Lib.hid d3
      have hhi : T / 4294967296 < 4294967296 := by omega
      have hkm : (k : Int) + (m : Int) ≤ 70368744177664 := by omega
      generalize cy + T % 4294967296 = lo at *
      generalize T / 4294967296 = hi at *
      generalize T % 4294967296 = tl at *
      have HD2 := Lib.hid d2
      go_wp2_with fail
      refine ⟨⟨k + 1, hi, so ++ [lo], by omega, by go_num, HD3.out, by unfold Hid; rw [List.length_append, hso.out]; rfl, hall.snoc HD2.out, ?_, ?_, (hb.setCell (Nat.le_refl _) _).setCell (Nat.le_refl _) _⟩, ?_⟩
      · unfold Hid
        rw [val_snoc, hso.out, bp_succ]
        exact HSH.out
      · have e := (hrow.set_ (k + m) (.int .u32 (lo : Int))).set_ (k + m + 1) (.int .u32 (hi : Int))
        rw [lims_set, lims_set, pre_set, show k + m + 1 = (k + 1) + m by omega, pre_set, sh_set _ _ _ _ _ _ hso.out (by omega)] at e
        rw [show k + 1 + m = k + m + 1 by omega] at e
        exact e
      · simp [intOf]; omega
    · obtain rfl : k = a.length := by omega
      rw [Nat.sub_self, List.replicate_zero, List.append_nil] at hrow hly
      have hsl := hrow.sl
      rw [lims_len, hly] at hsl
      have HV := Lib.hid (show val (List.replicate m 0 ++ (so ++ [cy])) = val a * 2 ^ n by
        have e := hval.out
        rw [val_take_all _ (Nat.le_refl _)] at e
        rw [val_pre, val_snoc, hso.out, Nat.mul_comm (bp a.length), e, HMS.out, bp_two, Nat.pow_add]
        generalize 2 ^ (32 * m) = x
        generalize 2 ^ s = y
        grind)
      have HA : Hid (AllB (List.replicate m 0 ++ (so ++ [cy]))) := (AllB.zeros m).append (hall.snoc (show cy < 4294967296 from Nat.lt_trans hcy.out hslt))
      clear hly
      go_wp2_with fail
      refine (rnorm_core _ (a.length + m + 1) (a.length + m + 1) _ _ hsl (by omega) (by omega) (by omega) HA.out).mono ?_
      rintro e w1 ⟨v, rfl, l1, h1, h2, h3, h4, h5, h6⟩
      go_wp2_with fail
      go_ret
      exact ⟨v, rfl, l1, h1, h2, by rw [h3, HV.out], h4, h5.mono hb.size, hb.trans (h6.mono hb.size)⟩

theorem rlimb_next (A : Option Addr) (n c : Nat) (ls : List Nat) (k x : Nat) (w : World) (hs : Sl w A n (lims ls)) (hall : AllB ls) (hi : k + 1 ≤ 9223372036854775807) (he : ls.getD (k + 1) 0 = x) :
    Calls Tryd.prog 89 #[.slice A n c, .int .i64 ((k : Int) + 1)] w fun e w' => e = .returned (.int .u64 (x : Int)) ∧ w = w' := by
  rw [show (k : Int) + 1 = ((k + 1 : Nat) : Int) by omega]
  exact rlimb_at A n c ls (k + 1) x w hs hall hi he
set_option maxHeartbeats 8000000 in
theorem rhalf_any (v : Value) (a : List Nat) (w : World) (h : Lim w v a) (la : a.length ≤ 70368744177664) :
    Calls Tryd.prog 87 #[v] w fun e w' => ∃ v, e = .returned v ∧ NRes w w' v (val a / 2) a.length := by
  obtain ⟨⟨A, c, rfl, hac, hc, hsa⟩, hall0⟩ := h
  unfold maxLen at hc
  obtain ⟨n, hn⟩ : ∃ n, a.length = n := ⟨_, rfl⟩
  have HN := Lib.hid hn
  rw [hn] at hsa hac la ⊢
  clear hn hac
  have hmk := run_mkI (P := Tryd.prog) Tryd.underlying50 infoU32 rfl (n : Int) n (by omega) (by omega) (by omega)
  go_enter Tryd.func87, Tryd.ntmps87
  go_wp2_with fail
  clear hmk
  go_loopw [4] (fun i wr => ∃ (k : Nat) (so : List Nat), k ≤ n ∧ i = .int .i64 (k : Int) ∧ Hid (so.length = k) ∧ AllB so ∧ Hid (val so * 2 ^ 1 + a.getD 0 0 % 2 ^ 1 = val (a.take k) + a.getD k 0 % 2 ^ 1 * bp k) ∧ Row wr w.heap.size 69 (lims (so ++ List.replicate (n - k) 0)) ∧ Below w.heap.size w wr) (fun i _ => n - (intOf i).toNat)
  case atStart => exact ⟨0, [], by omega, rfl, rfl, AllB.nil, by simp [Hid, val, bp], by
    rw [List.nil_append, lims_zeros]; exact Row.newz _ _ _ _, (Below.refl _ _).alloc (Nat.le_refl _) _⟩
  case round =>
    obtain ⟨k, so, hk, rfl, hso, hall, hval, hrow, hb⟩ := hrel
    have zl : w.heap.size < wr.heap.size := hrow.lt
    by_cases hlt : k < n
    · obtain ⟨b1, o1, rfl, hb1, hcell⟩ := hsa.lim hlt
      have g1 : wr.cell? ⟨b1, o1 + k, none⟩ = some (.int .u32 ((a.getD k 0 : Nat) : Int)) := (hb.cell (p := ⟨b1, o1 + k, none⟩) hb1).trans (hcell k hlt)
      have hx := hall0.getD k
      have hy := hall0.getD (k + 1)
      have hc0 : wr.cell? ⟨w.heap.size, k, none⟩ = some (.int .u32 0) := by
        rw [hrow.cell, lims_get _ (by simp [hso.out]; omega), pad_get _ _ _ hso.out (by omega)]; rfl
      have hf0 : wr.frozen? ⟨w.heap.size, k, none⟩ = false := hrow.frozen k
      have HX := Lib.hid (val_take_succ a k)
      have HSH := Lib.hid (shr_step (P := 2 ^ 1) hval.out (shr_digit (y := a.getD (k + 1) 0) (by omega) hx))
      clear hcell
      obtain ⟨yy, hye⟩ : ∃ yy, a.getD (k + 1) 0 = yy := ⟨_, rfl⟩
      rw [hye] at hy HSH
      have HYE := Lib.hid hye
      clear hye
      generalize a.getD k 0 = xx at *
      obtain ⟨D, hD⟩ : ∃ D, (xx + yy * 4294967296) / 2 ^ 1 % 4294967296 = D := ⟨_, rfl⟩
      rw [hD] at HSH
      have HDL := Lib.hid (show D < 4294967296 by rw [← hD]; exact Nat.mod_lt _ (by omega))
      have hD2 : (xx + yy * 4294967296) / 2 % 4294967296 = D := hD
      have hDi : ((yy : Int) * 4294967296 + (xx : Int)) / 2 % 4294967296 = (D : Int) := by omega
      clear hD hD2
      have wY : IntKind.u64.wrap ((yy : Int) * 4294967296) = (yy : Int) * 4294967296 := by rw [IntKind.wrap_u64]; omega
      have wS : IntKind.u64.wrap ((yy : Int) * 4294967296 + (xx : Int)) = (yy : Int) * 4294967296 + (xx : Int) := by rw [IntKind.wrap_u64]; omega
      have wk : IntKind.i64.wrap ((k : Int) + 1) = (k : Int) + 1 := by rw [IntKind.wrap_i64]; omega
      have hkI : (k : Int) < (n : Int) := by omega
      have hk0 : (0 : Int) ≤ (k : Int) := by omega
      have wX : IntKind.u64.wrap (xx : Int) = (xx : Int) := by rw [IntKind.wrap_u64]; omega
      have wD : IntKind.u32.wrap (((yy : Int) * 4294967296 + (xx : Int)) / 2) = (D : Int) := by rw [IntKind.wrap_u32]; exact hDi
      have hkeep : ∀ x, ((wr.setCell ⟨w.heap.size, k, none⟩ x).drew).cell? ⟨b1, o1 + k, none⟩ = some (.int .u32 (xx : Int)) := fun x => by
        show (wr.setCell ⟨w.heap.size, k, none⟩ x).cell? ⟨b1, o1 + k, none⟩ = _
        rw [World.cell?_setCell_other _ _ _ _ (fun e => by injection e with e1; omega)]; exact g1
      have zb1 : b1 < wr.heap.size := Nat.lt_of_lt_of_le hb1 hb.size
      go_wp2_with fail
      go_region_held3 (fun w' => w'.cell? ⟨b1, o1 + k, none⟩ = some (.int .u32 (xx : Int))) (first | exact g1 | exact hkeep _)
        (first
          | (go_at_call 89; ((with_reducible refine (rlimb_next (some ⟨b1, o1, none⟩) n c a k yy _ (hsa.below ?_) hall0 ?_ HYE.out).mono ?_); (first | exact hb | exact hb.drew); omega; rintro e w5 ⟨rfl, rfl⟩)))
      all_goals
        go_wp2_with fail
        go_roundw
        case rel =>
          refine ⟨k + 1, so ++ [D], by omega, by go_num, by unfold Hid; rw [List.length_append, hso.out]; rfl, hall.snoc HDL.out, ?_, ?_, (hb.setCell (Nat.le_refl _) _).drew⟩
          · unfold Hid
            rw [val_snoc, hso.out, HX.out, bp_succ, HYE.out]
            exact HSH.out
          · rw [← pad_set _ _ _ _ hso.out (by omega), ← lims_set]
            exact (hrow.set_ k _).drew
        case measure => simp [intOf]; omega
    · obtain rfl : n = k := by omega
      rw [Nat.sub_self, List.replicate_zero, List.append_nil] at hrow
      have hz : a.getD n 0 = 0 := by rw [List.getD_eq_getElem?_getD, List.getElem?_eq_none (by rw [HN.out]; exact Nat.le_refl _)]; rfl
      have hsl := hrow.sl
      rw [lims_len, hso.out] at hsl
      have HV := Lib.hid (show val so = val a / 2 by
        have e := hval.out
        rw [val_take_all a (by rw [HN.out]; exact Nat.le_refl _), hz, Nat.zero_mod, Nat.zero_mul, Nat.add_zero] at e
        exact shr_end e (Nat.mod_lt _ (by omega)))
      clear hz
      go_wp2_with fail
      refine (rnorm_core _ n n so _ hsl (by omega) (by omega) (by omega) hall).mono ?_
      rintro e w1 ⟨v, rfl, l1, h1, h2, h3, h4, h5, h6⟩
      go_wp2_with fail
      go_ret
      exact ⟨v, rfl, l1, h1, h2, by rw [h3, HV.out], h4, h5.mono hb.size, hb.trans (h6.mono hb.size)⟩
end Go.Proofs.YtoihjclkocffhaaDoor
namespace Go.Proofs.YtoihjclkocffhaaDoor
open Go.RowKit
set_option linter.unusedVariables false
set_option maxRecDepth 100000

theorem NatAt.off_set {w : World} {v : Value} {n L g : Nat} (h : NatAt w v n L) (ho : Off (some g) v) (i : Nat) (u : Value) : NatAt (w.setCell ⟨g, i, none⟩ u) v n L := h.grown (grownSet (grownRefl w (some g)) i u) ho
theorem bits_diff {a b : Nat} {n : Int} (h : (bitL a : Int) - (bitL b : Int) = n) (h0 : 0 ≤ n) : bitL a = bitL b + n.toNat := by omega

theorem bitL_low {l : List Nat} (hall : AllB l) (hn : NoTop l) (h0 : 0 < l.length) : 32 * (l.length - 1) < bitL (val l) := by
  obtain ⟨n, hl⟩ : ∃ n, l.length = n + 1 := ⟨l.length - 1, by omega⟩
  have hp := noTop_get hn hl
  have := bitL_list hl hall hp
  have h1 : bitL (l.getD n 0) ≠ 0 := fun h => by have := (bitL_iff _).1 h; omega
  omega
set_option maxHeartbeats 2000000 in
theorem rdivmod_one (v u : Value) (la lb : List Nat) (w : World) (ha : Lim w v la) (hb : Lim w u lb) (h1 : la.length ≤ 70368744177664) (h2 : lb.length ≤ 70368744177664) (h0 : 0 < val lb) (hs1 : val lb < 4294967296) :
    Calls Tryd.prog 48 #[v, u] w fun e w' => ∃ q r, e = .returned (.tuple #[q, r, .bool true]) ∧ DRes w w' q r (val la) (val lb) la.length 2 := by
  have HL1 := Lib.hid h1
  have ha0 := ha
  have hb0 := hb
  obtain ⟨⟨A0, c0, rfl, _, _, _⟩, _⟩ := ha0
  obtain ⟨⟨B0, d0, rfl, _, _, _⟩, _⟩ := hb0
  go_enter Tryd.func48, Tryd.ntmps48
  go_wp2_with fail
  refine (rnorm_any _ la _ ha h1).mono ?_
  rintro e w1 ⟨v1, rfl, l1, ⟨⟨A, c, rfl, hc, hm, hs⟩, hall⟩, nt, hv, hk, hf, hb1⟩
  go_wp2_with fail
  refine (rnorm_any _ lb _ (hb.below hb1) h2).mono ?_
  rintro e w2 ⟨v2, rfl, l2, hl2, nt2, hv2, hk2, hf2, hb2⟩
  obtain rfl : l2 = [val lb] := norm_inj hl2.2 (AllB.cons hs1 AllB.nil) nt2 (noTop_snoc [] h0) (by rw [hv2]; simp [val])
  obtain ⟨d, hd⟩ : ∃ d, val lb = d := ⟨_, rfl⟩
  rw [hd] at hl2 h0 hs1
  have HDD := Lib.hid hd
  obtain ⟨⟨B, cB, rfl, hcB, hmB, hsB⟩, _⟩ := hl2
  obtain ⟨b, o, rfl, hbl, hcell⟩ := hsB.lim (i := 0) (by simp)
  have g1 := hcell 0 (by simp)
  simp only [List.getD_cons_zero, Nat.add_zero] at g1
  have B2 : Below w.heap.size w w2 := hb1.trans (hb2.mono hb1.size)
  have hs2 := hs.below hb2
  obtain ⟨n, hn⟩ : ∃ n, l1.length = n := ⟨_, rfl⟩
  rw [hn] at hs2 hc hk ⊢
  have HV := Lib.hid hv
  unfold maxLen at hm
  clear hcell hv hv2 hd hn hs hsB hf hf2 nt nt2 hk2
  go_wp2_with fail
  refine (rshort_any A n c d l1 _ hs2 hall hc (by omega) (by omega) h0 hs1).mono ?_
  rintro e w3 ⟨q, rfl, hq⟩
  obtain ⟨lq, ⟨⟨QA, qc, rfl, _, _, _⟩, _⟩, _⟩ := id hq
  have HR := Lib.hid (Nat.mod_lt (val l1) h0)
  rw [HV.out] at hq HR ⊢
  generalize hr : val la % d = r at *
  have HRE := Lib.hid hr
  clear hr
  go_wp2_with fail
  refine (rof_any r _ (by have := HR.out; omega)).mono ?_
  rintro e w4 ⟨x, rfl, hx⟩
  go_wp2_with fail
  refine bodyPost_ret (v := .tuple #[.slice QA lq.length qc, x, .bool true]) (by simp [results, Tryd.results48, go_sem]) rfl ⟨_, _, rfl, ⟨?_, ?_⟩, ⟨?_, ?_⟩, ?_⟩
  · rw [HDD.out]; exact (hq.nat.below hx.bel).mono (by omega)
  · exact hq.fresh.mono B2.size
  · rw [HDD.out, HRE.out]; exact hx.nat
  · exact hx.fresh.mono (Nat.le_trans B2.size hq.bel.size)
  · exact B2.trans ((hq.bel.trans (hx.bel.mono hq.bel.size)).mono B2.size)
set_option maxHeartbeats 8000000 in
theorem rdivmod_big (v u : Value) (la lb : List Nat) (w : World) (ha : Lim w v la) (hb : Lim w u lb) (h1 : la.length ≤ 70368744177600) (h2 : lb.length ≤ 70368744177600) (hbig : 4294967296 ≤ val lb) :
    Calls Tryd.prog 48 #[v, u] w fun e w' => ∃ q r, e = .returned (.tuple #[q, r, .bool true]) ∧ DRes w w' q r (val la) (val lb) (la.length + 1) la.length := by
  have ha0 := ha
  have hb0 := hb
  obtain ⟨⟨A0, c0, rfl, _, _, _⟩, _⟩ := ha0
  obtain ⟨⟨B0, d0, rfl, _, _, _⟩, _⟩ := hb0
  have hla : la.length ≤ 70368744177664 := by omega
  have hlb : lb.length ≤ 70368744177664 := by omega
  go_enter Tryd.func48, Tryd.ntmps48
  go_wp2_with fail
  refine (rnorm_any _ la _ ha hla).mono ?_
  rintro e w1 ⟨v1, rfl, hN1⟩
  go_wp2_with fail
  refine (rnorm_any _ lb _ (hb.below hN1.bel) hlb).mono ?_
  rintro e w2 ⟨v2, rfl, l2, hl2, nt2, hv2, hk2, hf2, hb2⟩
  have hb1 := hN1.bel
  have B2 : Below w.heap.size w w2 := hb1.trans (hb2.mono hb1.size)
  have hA := hN1.nat.below hb2
  have fA := hN1.fresh
  obtain ⟨l1, hl1, nt1, hv1, hk1⟩ := id hA
  have hlen2 : 2 ≤ l2.length := by
    rcases Nat.lt_or_ge l2.length 2 with h | h
    · exfalso
      have h3 := val_lt hl2.2
      have h4 := bp_mono (show l2.length ≤ 1 by omega)
      rw [bp_one] at h4
      omega
    · exact h
  have HBT1 := Lib.hid (fun (W : World) (h : Below w2.heap.size w2 W) => rbits_any v1 l1 W (hl1.below h) (by omega))
  have HBT2 := Lib.hid (fun (W : World) (h : Below w2.heap.size w2 W) => rbits_any v2 l2 W (hl2.below h) (by omega))
  have hble := bitL_le hl1.2
  have hble2 := bitL_le hl2.2
  have hblo := bitL_low hl2.2 nt2 (by omega)
  rw [hv1] at HBT1 hble
  rw [hv2] at HBT2 hble2 hblo
  obtain ⟨a, hae⟩ : ∃ a, val la = a := ⟨_, rfl⟩
  obtain ⟨b, hbe⟩ : ∃ b, val lb = b := ⟨_, rfl⟩
  rw [hae] at HBT1 hble hA
  rw [hbe] at HBT2 hble2 hbig hblo
  have hv1b : val l1 = a := by rw [hv1, hae]
  have HAB : Hid (a < bp l1.length) := by have := val_lt hl1.2; rwa [hv1b] at this
  have hv2b : val l2 = b := by rw [hv2, hbe]
  obtain ⟨⟨A1, c1, rfl, _, _, _⟩, _⟩ := id hl1
  obtain ⟨⟨B1, d1, rfl, hcB, hmB, hsB⟩, hallB⟩ := id hl2
  unfold maxLen at hmB
  obtain ⟨n2, hn2⟩ : ∃ n, l2.length = n := ⟨_, rfl⟩
  have HLB : Hid (Lim w2 (.slice B1 l2.length d1) l2) := hl2
  have HSB : Hid (Sl w2 B1 l2.length (lims l2)) := hsB
  obtain ⟨x1, hx1⟩ : ∃ x, bitL a = x := ⟨_, rfl⟩
  obtain ⟨x2, hx2⟩ : ∃ x, bitL b = x := ⟨_, rfl⟩
  have HX1 := Lib.hid hx1
  have HX2 := Lib.hid hx2
  rw [hx1] at HBT1 hble
  rw [hx2] at HBT2 hble2 hblo
  have HNL := Lib.hid hn2
  rw [hn2] at HBT2 HLB HSB hcB hlen2 hk2 hble2 hblo ⊢
  obtain ⟨n1, hn1⟩ : ∃ n, l1.length = n := ⟨_, rfl⟩
  have HL1 : Hid (NatAt w2 (.slice A1 l1.length c1) a la.length) := hA
  rw [hn1] at HL1 HBT1 HAB hble fA hk1 ⊢
  have HAE := Lib.hid hae
  have HBE := Lib.hid hbe
  have hb0 : 0 < b := by omega
  have HV2 := Lib.hid hv2b
  clear hx1 hx2 hn1 hn2 hl1 hl2 hv1 hv2 hv1b hv2b nt1 nt2 hN1 hA hae hbe hsB hf2 ha hb hla hlb
  have t0 : ((n2 : Int) == 0) = false := by rw [beq_eq_false_iff_ne]; omega
  have t1 : ((n2 : Int) == 1) = false := by rw [beq_eq_false_iff_ne]; omega
  have t00 : (n2 == 0) = false := by rw [beq_eq_false_iff_ne]; omega
  have t11 : (n2 == 1) = false := by rw [beq_eq_false_iff_ne]; omega
  go_wp2_with fail
  refine (HBT1.out _ (Below.refl _ _)).mono ?_
  rintro e w3 ⟨rfl, hb3⟩
  go_wp2_with fail
  refine (HBT2.out _ hb3).mono ?_
  rintro e w4 ⟨rfl, hb4⟩
  have B24 : Below w2.heap.size w2 w4 := hb3.trans (hb4.mono hb3.size)
  have B4 : Below w.heap.size w w4 := B2.trans (B24.mono B2.size)
  by_cases hneg : x1 < x2
  · have HLT : Hid (a < b) := bitL_lt (by rw [HX1.out, HX2.out]; exact hneg)
    have hng : (x1 : Int) - (x2 : Int) < 0 := by omega
    go_wp2_with fail
    refine bodyPost_ret (v := .tuple #[.slice none 0 0, .slice A1 n1 c1, .bool true]) (by simp [results, Tryd.results48, go_sem]) rfl ⟨_, _, rfl, ⟨?_, trivial⟩, ⟨?_, fA⟩, B4⟩
    · rw [HAE.out, HBE.out, Nat.div_eq_of_lt HLT.out]; exact natAt_nilD _ _
    · rw [HAE.out, HBE.out, Nat.mod_eq_of_lt HLT.out]; exact HL1.out.below B24
  · obtain ⟨n, hn⟩ : ∃ n, x1 = x2 + n := ⟨x1 - x2, by omega⟩
    have en : (x1 : Int) - (x2 : Int) = (n : Int) := by omega
    have HST : Hid (a < b * 2 ^ (n + 1)) := bitL_start hb0 (by rw [HX1.out, HX2.out]; exact hn)
    have hn32 : n ≤ 32 * n1 := by omega
    obtain ⟨m, hm⟩ : ∃ m, n / 32 = m := ⟨_, rfl⟩
    have em : (n : Int) / 32 = (m : Int) := by omega
    have hmn : m ≤ n1 := by omega
    have hmn2 : n2 + m ≤ n1 := by omega
    have HM := Lib.hid hm
    have hmk := run_mkI (P := Tryd.prog) Tryd.underlying50 infoU32 rfl ((m : Int) + 1) (m + 1) (by omega) (by omega) (by omega)
    have hnI : (n : Int) ≤ 3000000000000000 := by omega
    have hnm : n < 32 * (m + 1) := by omega
    clear hneg hn hm
    obtain ⟨gq, hgq⟩ : ∃ g, w4.heap.size = g := ⟨_, rfl⟩
    have hrq0 : Row (w4.alloc (.cells (zrow (.int .u32 0) (m + 1)) 69)) gq 69 (lims (List.replicate (m + 1) 0)) := by
      rw [lims_zeros, ← hgq]; exact Row.newz _ _ _ _
    have hoA : Off (some gq) (.slice A1 n1 c1) := by rw [← hgq]; exact (HL1.out.below B24).off (Nat.le_refl _)
    have hlit := lit_below w4 (.cells (zrow (.int .u32 0) (m + 1)) 69)
    have hgw : w.heap.size ≤ gq := by rw [← hgq]; exact B4.size
    go_wp2_with fail
    have BA := B24.trans (hlit.mono B24.size)
    have hsB2 := HSB.out.below BA
    have HLS := Lib.hid (fun (W : World) (h : Sl W B1 n2 (lims l2)) => rshift_any B1 d1 n l2 W (by rw [HNL.out]; exact h) hallB (by omega) (by rw [HNL.out, HM.out]; omega))
    rw [HNL.out, HM.out, HV2.out] at HLS
    refine (HLS.out _ hsB2).mono ?_
    rintro e w5 ⟨dv, rfl, hD⟩
    have hrq := hrq0.keep hD.bel
    have hDn := hD.nat
    have hDo : Off (some gq) dv := Off.of_fresh hD.fresh (by have := hrq0.lt; omega)
    have hA5 := (HL1.out.below BA).below hD.bel
    have B5 : Below w.heap.size w w5 := (B4.trans (hlit.mono B4.size)).trans (hD.bel.mono (Nat.le_trans B4.size hlit.size))
    obtain ⟨ld0, ⟨⟨DA0, dc0, rfl, _, _, _⟩, _⟩, _⟩ := id hDn
    clear hD hrq0 hlit hmk hgq hsB2 HLS BA
    go_wp2_with fail
    go_loopw [0, 11, 12] (fun av dv iv wr => ∃ (k A R D : Nat) (x y : Value) (qs : List Nat), k ≤ n + 1 ∧ av = x ∧ dv = y ∧ iv = .int .i64 ((k : Int) - 1) ∧ NatAt wr x A n1 ∧ Off (some gq) x ∧ Fresh w.heap.size x ∧ NatAt wr y D (n2 + m + 1) ∧ Off (some gq) y ∧ Hid (∀ j, k = j + 1 → D = b * 2 ^ j) ∧ Row wr gq 69 (lims qs) ∧ Hid (qs.length = m + 1) ∧ AllB qs ∧ Hid (val qs = 2 ^ k * R) ∧ Hid (a = A + b * (2 ^ k * R)) ∧ Hid (A < b * 2 ^ k) ∧ Below w.heap.size w wr) (fun _ _ iv _ => (intOf iv + 1).toNat)
    case atStart => exact ⟨n + 1, a, 0, b * 2 ^ n, _, _, List.replicate (m + 1) 0, by omega, rfl, rfl, by (congr 1 <;> omega), hA5.short HAB.out, hoA, fA, hDn, hDo, (fun j hj => by have : j = n := (by omega); rw [this]), hrq, (by unfold Hid; simp), AllB.zeros _, by unfold Hid; rw [val_zeros]; simp, by unfold Hid; simp, HST.out, B5⟩
    case round =>
      clear hA5 hoA hDn hDo hrq HST
      obtain ⟨k, A, R, D, x, y, qs, hk, rfl, rfl, rfl, hA, oA, fx, hD, oD, HD, hrow, HQL, hallq, HQ, HA, HLT, BB⟩ := hrel
      have zq := hrow.lt
      rcases Nat.eq_zero_or_pos k with h0 | hp
      · subst h0
        have HE : Hid (a / b = val qs ∧ a % b = A) := by
          have h1 := HA.out
          have h2 := HLT.out
          rw [Nat.pow_zero, Nat.mul_one] at h2
          unfold Hid
          rw [HQ.out]
          exact dv_end h1 h2
        have hsl := hrow.sl
        rw [lims_len, HQL.out] at hsl
        obtain ⟨lA, ⟨⟨XA, xc, rfl, _, _, _⟩, _⟩, _⟩ := id hA
        go_wp2_with fail
        refine (rnorm_core _ (m + 1) (m + 1) qs _ hsl (by omega) (by omega) (by omega) hallq).mono ?_
        rintro e w6 ⟨q, rfl, hq⟩
        go_wp2_with fail
        refine bodyPost_ret (v := .tuple #[q, .slice XA lA.length xc, .bool true]) (by simp [results, Tryd.results48, go_sem]) rfl ⟨_, _, rfl, ⟨?_, hq.fresh.mono BB.size⟩, ⟨?_, fx⟩, BB.trans (hq.bel.mono BB.size)⟩
        · rw [HAE.out, HBE.out, HE.out.1]; exact hq.nat.mono (by omega)
        · rw [HAE.out, HBE.out, HE.out.2]; exact (hA.below hq.bel).mono (by omega)
      · obtain ⟨j, rfl⟩ : ∃ j, k = j + 1 := ⟨k - 1, by omega⟩
        have HDJ := Lib.hid (HD.out j rfl)
        obtain ⟨lA, hlA, ntA, hvA, hkA⟩ := id hA
        obtain ⟨lD, hlD, ntD, hvD, hkD⟩ := id hD
        have HCM := Lib.hid (rcmp_any _ _ lA lD wr hlA hlD (by omega) (by omega))
        rw [hvA, hvD] at HCM
        obtain ⟨⟨XA, xc, rfl, _, _, _⟩, _⟩ := id hlA
        obtain ⟨⟨YA, yc, rfl, _, _, _⟩, _⟩ := id hlD
        have HVA := Lib.hid hvA
        have HVD := Lib.hid hvD
        have E1 := Lib.hid (show (((j + 1 : Nat) : Int) - 1) = (j : Int) by omega)
        rw [E1.out]
        have hjn : j ≤ n := by omega
        have HLA := Lib.hid hlA
        have HLD := Lib.hid hlD
        have lA32 : lA.length ≤ 70368744177664 := by omega
        have lD32 : lD.length ≤ 70368744177664 := by omega
        clear hvA hvD ntA ntD hlA hlD
        by_cases hge : D ≤ A
        · have hc0 : 0 ≤ cmpN A D := by unfold cmpN; rw [if_neg (by omega)]; split <;> omega
          generalize cmpN A D = cm at HCM hc0
          have HSB := Lib.hid (rsub_ge _ _ lA lD wr HLA.out HLD.out lA32 lD32 (by rw [HVA.out, HVD.out]; exact hge))
          rw [HVA.out, HVD.out] at HSB
          obtain ⟨mj, hmj⟩ : ∃ x, j / 32 = x := ⟨_, rfl⟩
          obtain ⟨s, hs⟩ : ∃ x, j % 32 = x := ⟨_, rfl⟩
          have emj : (j : Int) / 32 = (mj : Int) := by omega
          have esj : (j : Int) % 32 = (s : Int) := by omega
          have hs32 : s < 32 := by omega
          have hmq : mj < m + 1 := by omega
          have HMJ := Lib.hid hmj
          have HSJ := Lib.hid hs
          clear hmj hs
          have hql : mj < qs.length := by rw [HQL.out]; exact hmq
          have hbl := bit_limb hallq (j := j) (R := R) (by rw [HMJ.out]; exact hql) HQ.out
          have HBV := Lib.hid (bit_val hallq (j := j) (R := R) (by rw [HMJ.out]; exact hql) HQ.out)
          rw [HMJ.out, HSJ.out] at hbl HBV
          have hx := hallq.getD mj
          have hcq : ∀ W, Row W gq 69 (lims qs) → W.cell? ⟨gq, mj, none⟩ = some (.int .u32 ((qs.getD mj 0 : Nat) : Int)) := fun W h => by rw [h.cell, lims_get _ hql]
          have HCQ := Lib.hid hcq
          clear hcq
          obtain ⟨p, hp2⟩ : ∃ p, 2 ^ s = p := ⟨_, rfl⟩
          have hp32 : p < 4294967296 := by rw [← hp2]; exact Nat.pow_lt_pow_right (by omega) hs32
          rw [hp2] at hbl HBV
          have hpI : (2 : Int) ^ s = (p : Int) := by rw [← hp2, Int.natCast_pow]; rfl
          have wP : IntKind.u32.wrap (p : Int) = (p : Int) := by rw [IntKind.wrap_u32]; omega
          have hor : bits .or .u32 ((qs.getD mj 0 : Nat) : Int) (p : Int) = ((qs.getD mj 0 + p : Nat) : Int) := by
            rw [u32_or_nat _ _ hx hp32, hbl.1]
          have HLM := Lib.hid hbl.2
          generalize qs.getD mj 0 = lm at *
          generalize lm + p = lx at *
          have HST := Lib.hid (dv_sub HA.out HLT.out (by rw [← HDJ.out]; exact hge))
          clear hp2 hbl hge
          go_wp2_with fail
          refine HCM.out.mono ?_
          rintro e w' ⟨rfl, rfl⟩
          go_wp2_with fail
          refine HSB.out.mono ?_
          rintro e w6 ⟨x2, rfl, hX⟩
          obtain ⟨lx2, ⟨⟨ZA, zc, rfl, _, _, _⟩, _⟩, _⟩ := id hX
          have hrow6 := hrow.keep hX.bel
          have g6 := HCQ.out _ hrow6
          have f6 := hrow6.frozen mj
          have z6 := hrow6.lt
          go_wp2_with fail
          have hD7 := (hD.below hX.bel).off_set oD mj (.int .u32 (lx : Int))
          have hX7 := hX.nat.off_set (Off.of_fresh hX.fresh zq) mj (.int .u32 (lx : Int))
          have hrow7 := hrow6.set_ mj (.int .u32 (lx : Int))
          have BB7 : Below w.heap.size w (w6.setCell ⟨gq, mj, none⟩ (.int .u32 (lx : Int))) := (BB.trans (hX.bel.mono BB.size)).setCell hgw _
          obtain ⟨lD7, hlD7, _, hvD7, hkD7⟩ := id hD7
          refine (rhalf_any _ lD7 _ hlD7 (by omega)).mono ?_
          rintro e w8 ⟨y2, rfl, hY⟩
          rw [hvD7] at hY
          go_wp2_with fail
          go_roundw
          case rel =>
            refine ⟨j, A - D, 2 * R + 1, D / 2, _, y2, qs.set mj lx, by omega, rfl, rfl, rfl, (hX7.below hY.bel).mono (by omega), Off.of_fresh hX.fresh zq, hX.fresh.mono BB.size, hY.nat.mono (by omega), Off.of_fresh hY.fresh (by simpa using z6), ?_, ?_, by unfold Hid; rw [List.length_set, HQL.out], hallq.set _ HLM.out, HBV, ?_, ?_, BB7.trans (hY.bel.mono BB7.size)⟩
            · intro i hi
              subst hi
              rw [HDJ.out]
              exact dv_half
            · have := hrow7.keep hY.bel
              rwa [lims_set] at this
            · have h1 := HST.out.1
              rw [← HDJ.out] at h1
              unfold Hid
              rw [show 2 ^ j * (2 * R + 1) = 2 ^ (j + 1) * R + 2 ^ j by rw [Nat.pow_succ]; grind]
              exact h1
            · unfold Hid
              rw [HDJ.out]
              exact HST.out.2
          case measure => simp [intOf]
        · have hc0 : cmpN A D < 0 := by unfold cmpN; rw [if_pos (by omega)]; decide
          generalize cmpN A D = cm at HCM hc0
          have HGE := Lib.hid hge
          clear hge
          go_wp2_with fail
          refine HCM.out.mono ?_
          rintro e w' ⟨rfl, rfl⟩
          go_wp2_with fail
          refine (rhalf_any _ lD _ HLD.out lD32).mono ?_
          rintro e w8 ⟨y2, rfl, hY⟩
          rw [HVD.out] at hY
          go_wp2_with fail
          go_roundw
          case rel =>
            refine ⟨j, A, 2 * R, D / 2, _, y2, qs, by omega, rfl, rfl, rfl, hA.below hY.bel, oA, fx, hY.nat.mono (by omega), Off.of_fresh hY.fresh zq, ?_, hrow.keep hY.bel, HQL, hallq, ?_, ?_, ?_, BB.trans (hY.bel.mono BB.size)⟩
            · intro i hi
              subst hi
              rw [HDJ.out]
              exact dv_half
            · unfold Hid; rw [HQ.out, Nat.pow_succ]; grind
            · unfold Hid
              have h1 := HA.out
              rw [Nat.pow_succ] at h1
              rw [show 2 ^ j * (2 * R) = 2 ^ j * 2 * R by grind]
              exact h1
            · unfold Hid
              have := HGE.out
              rw [HDJ.out] at this
              omega
          case measure => simp [intOf]

/-- Both sizes of the divisor. -/
theorem rdivmod_any (v u : Value) (la lb : List Nat) (w : World) (ha : Lim w v la) (hb : Lim w u lb) (h1 : la.length ≤ 70368744177600) (h2 : lb.length ≤ 70368744177600) (h0 : 0 < val lb) :
    Calls Tryd.prog 48 #[v, u] w fun e w' => ∃ q r, e = .returned (.tuple #[q, r, .bool true]) ∧ DRes w w' q r (val la) (val lb) la.length lb.length := by
  have hq : val la / val lb < bp la.length := Nat.lt_of_le_of_lt (Nat.div_le_self _ _) (val_lt ha.2)
  have hr : val la % val lb < bp lb.length := Nat.lt_trans (Nat.mod_lt _ h0) (val_lt hb.2)
  rcases Nat.lt_or_ge (val lb) 4294967296 with h | h
  · refine (rdivmod_one v u la lb w ha hb (by omega) (by omega) h0 h).mono ?_
    rintro e w' ⟨q, r, he, ⟨a1, a2⟩, ⟨b1, b2⟩, hb⟩
    exact ⟨q, r, he, ⟨a1.short hq, a2⟩, ⟨b1.short hr, b2⟩, hb⟩
  · refine (rdivmod_big v u la lb w ha hb h1 h2 h).mono ?_
    rintro e w' ⟨q, r, he, ⟨a1, a2⟩, ⟨b1, b2⟩, hb⟩
    exact ⟨q, r, he, ⟨a1.short hq, a2⟩, ⟨b1.short hr, b2⟩, hb⟩

set_option maxHeartbeats 2000000 in
theorem rgcd_any (v u : Value) (la lb : List Nat) (w : World) (ha : Lim w v la) (hb : Lim w u lb) (h1 : la.length ≤ 70368744177600) (h2 : lb.length ≤ 70368744177600) :
    Calls Tryd.prog 82 #[v, u] w fun e w' => ∃ g, e = .returned g ∧ NatAt w' g (Nat.gcd (val la) (val lb)) (max la.length lb.length) ∧ Fresh w.heap.size g ∧ Below w.heap.size w w' := by
  go_enter Tryd.func82, Tryd.ntmps82
  go_wp2_with fail
  refine (rnorm_any _ la _ ha (by omega)).mono ?_
  rintro e w1 ⟨v1, rfl, hN1⟩
  have hb1 := hN1.bel
  go_wp2_with fail
  refine (rnorm_any _ lb _ (hb.below hb1) (by omega)).mono ?_
  rintro e w2 ⟨v2, rfl, hN2⟩
  have hb2 := hN2.bel
  have B2 := hb1.trans (hb2.mono hb1.size)
  have hA := (hN1.nat.below hb2).mono (Nat.le_max_left la.length lb.length)
  have hB := hN2.nat.mono (Nat.le_max_right la.length lb.length)
  have fA := hN1.fresh
  have fB := hN2.fresh.mono hb1.size
  have hL : max la.length lb.length ≤ 70368744177600 := by omega
  obtain ⟨G, hG⟩ : ∃ G, Nat.gcd (val la) (val lb) = G := ⟨_, rfl⟩
  have HG := Lib.hid hG
  have HG0 := Lib.hid hG
  obtain ⟨L, hLm⟩ : ∃ L, max la.length lb.length = L := ⟨_, rfl⟩
  have HLM := Lib.hid hLm
  rw [hLm] at hA hB hL
  clear hN1 hN2 hb1 hb2 ha hb h1 h2 hG hLm
  have hA0 := hA
  have hB0 := hB
  obtain ⟨l1, ⟨⟨A1, c1, rfl, _, _, _⟩, _⟩, _, _, _⟩ := hA0
  obtain ⟨l2, ⟨⟨A2, c2, rfl, _, _, _⟩, _⟩, _, _, _⟩ := hB0
  go_wp2_with fail
  go_loopw [0, 1] (fun av bv wr => ∃ (x y : Value) (a b : Nat), av = x ∧ bv = y ∧ NatAt wr x a L ∧ NatAt wr y b L ∧ Fresh w.heap.size x ∧ Fresh w.heap.size y ∧ Hid (Nat.gcd a b = G) ∧ Below w.heap.size w wr) (fun _ bv wr => natOf wr bv)
  case atStart => exact ⟨_, _, val la, val lb, rfl, rfl, hA, hB, fA, fB, HG, B2⟩
  case round =>
    clear hA hB fA fB HG B2
    obtain ⟨x, y, a, b, rfl, rfl, hA, hB, fA, fB, HG, hb⟩ := hrel
    have hA0 := hA
    have hB0 := hB
    obtain ⟨l1, hl1, nt1, e1, k1⟩ := hA0
    obtain ⟨l2, hl2, nt2, e2, k2⟩ := hB0
    have HM := Lib.hid (natOf_eq hB)
    rcases Nat.eq_zero_or_pos b with h0 | hp
    · have hnil : l2 = [] := nt2.zero (by rw [e2]; exact h0)
      have HGA : Hid (a = G) := by unfold Hid; rw [← HG.out, h0, Nat.gcd_zero_right]
      subst hnil
      obtain ⟨⟨A2, c2, rfl, _, _, _⟩, _⟩ := hl2
      obtain ⟨⟨A1, c1, rfl, _, _, _⟩, _⟩ := hl1
      clear h0 e1 e2
      go_wp2_with fail
      go_ret
      exact ⟨_, rfl, by rw [HG0.out, ← HGA.out, HLM.out]; exact hA, fA, hb⟩
    · have hlen : 0 < l2.length := by
        rcases Nat.eq_zero_or_pos l2.length with h | h
        · have := List.eq_nil_of_length_eq_zero h; subst this; simp [val] at e2; omega
        · exact h
      have HD := Lib.hid (rdivmod_any _ _ l1 l2 wr hl1 hl2 (by omega) (by omega) (by rw [e2]; exact hp))
      obtain ⟨⟨A2, c2, rfl, _, _, _⟩, _⟩ := hl2
      obtain ⟨⟨A1, c1, rfl, _, _, _⟩, _⟩ := hl1
      have HE1 := Lib.hid e1
      have HE2 := Lib.hid e2
      have HGS : Hid (Nat.gcd b (a % b) = G) := by unfold Hid; rw [← gcd_step]; exact HG.out
      have hlt : a % b < b := Nat.mod_lt _ hp
      clear e1 e2
      go_wp2_with fail
      refine HD.out.mono ?_
      rintro e w3 ⟨q, r, rfl, ⟨hq, fq⟩, ⟨hr, fr⟩, hb3⟩
      rw [HE1.out, HE2.out] at hr
      have hr' := hr
      obtain ⟨l3, ⟨⟨A3, c3, rfl, _, _, _⟩, _⟩, _, _, _⟩ := hr'
      have hq' := hq
      obtain ⟨l4, ⟨⟨A4, c4, rfl, _, _, _⟩, _⟩, _, _, _⟩ := hq'
      go_wp2_with fail
      have HM2 := Lib.hid (natOf_eq hr)
      go_roundw
      case rel => exact ⟨_, _, b, a % b, rfl, rfl, hB.below hb3, hr.mono k2, fB, fr.mono hb.size, HGS, hb.trans (hb3.mono hb.size)⟩
      case measure =>
        show natOf _ _ < natOf _ _
        rw [HM.out, HM2.out]
        exact hlt
end Go.Proofs.YtoihjclkocffhaaDoor
