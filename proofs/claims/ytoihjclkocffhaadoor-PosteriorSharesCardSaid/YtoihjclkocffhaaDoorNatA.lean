/- The walks of nat's trim, Of, Norm, Cmp. -/
import Derived.Test.YtoihjclkocffhaaDoorProg
import Derived.Test.YtoihjclkocffhaaDoorMem
import Derived.Test.YtoihjclkocffhaaDoorBig
import Derived.WalkKit
import Derived.LoopTactic
import Derived.Outline
import Derived.WalkSpells
import Derived.Deep.QuietTactic
import Derived.BigQuiet
namespace Go.Proofs.YtoihjclkocffhaaDoor
open Go.RowKit
set_option linter.unusedVariables false

theorem infoU32 : (Tryd.prog.info? 69).map (fun i => (i.zero, i.size, i.bytes)) = some (some (.int .u32 0), 1, 4) := by kernel_rfl

def lims (ls : List Nat) : List Value := ls.map fun x : Nat => Value.int .u32 (x : Int)
def lenOf : Value → Nat | .slice _ k _ => k | _ => 0
/-- The slice value v holds these limbs. -/
def Lim (w : World) (v : Value) (ls : List Nat) : Prop := (∃ A c, v = .slice A ls.length c ∧ ls.length ≤ c ∧ c ≤ maxLen ∧ Sl w A ls.length (lims ls)) ∧ AllB ls
theorem Lim.below {w w' : World} {v : Value} {ls : List Nat} (h : Lim w v ls) (hb : Below w.heap.size w w') : Lim w' v ls := by
  obtain ⟨⟨A, c, hv, h1, h2, hs⟩, h3⟩ := h
  exact ⟨⟨A, c, hv, h1, h2, hs.below hb⟩, h3⟩
theorem Lim.drewN {w : World} {v : Value} {ls : List Nat} (h : Lim w v ls) (d : Nat) : Lim (w.drewN d) v ls := h
theorem Lim.all {w : World} {v : Value} {ls : List Nat} (h : Lim w v ls) : AllB ls := h.2
theorem Lim.nil (w : World) : Lim w (.slice none 0 0) [] := ⟨⟨none, 0, rfl, by simp, by simp, Sl.nil⟩, AllB.nil⟩
theorem Sl.lim {w : World} {A : Option Addr} {n : Nat} {ls : List Nat} (h : Sl w A n (lims ls)) {i : Nat} (hi : i < n) :
    ∃ b o, A = some ⟨b, o, none⟩ ∧ b < w.heap.size ∧ ∀ j, j < n → w.cell? ⟨b, o + j, none⟩ = some (.int .u32 ((ls.getD j 0 : Nat) : Int)) := by
  obtain ⟨b, o, e, hc⟩ := h.2 (by omega)
  refine ⟨b, o, e, h.lt (by omega) e, fun j hj => hc j _ ?_⟩
  have hl : ls.length = n := by simpa [lims] using h.1
  unfold lims
  rw [List.getElem?_map, List.getElem?_eq_getElem (by omega)]
  simp [List.getD, List.getElem?_eq_getElem (show j < ls.length by omega)]
theorem lims_len (ls : List Nat) : (lims ls).length = ls.length := by simp [lims]
theorem lims_take (ls : List Nat) (k : Nat) : (lims ls).take k = lims (ls.take k) := by simp [lims, List.map_take]
theorem lims_drop (ls : List Nat) (k : Nat) : (lims ls).drop k = lims (ls.drop k) := by simp [lims, List.map_drop]
theorem lims_append (l m : List Nat) : lims (l ++ m) = lims l ++ lims m := by simp [lims]
theorem lims_set (l : List Nat) (k x : Nat) : (lims l).set k (.int .u32 (x : Int)) = lims (l.set k x) := by simp [lims, List.map_set]
theorem lims_zeros (n : Nat) : lims (List.replicate n 0) = List.replicate n (.int .u32 0) := by simp [lims]
theorem lims_get (ls : List Nat) {k : Nat} (h : k < ls.length) : (lims ls)[k]? = some (.int .u32 ((ls.getD k 0 : Nat) : Int)) := by
  unfold lims
  rw [List.getElem?_map, List.getElem?_eq_getElem h]
  simp [List.getD, List.getElem?_eq_getElem h]
theorem Lim.of_row {w : World} {g t : Nat} {ls : List Nat} (h : Row w g t (lims ls)) (hm : ls.length ≤ maxLen) (ha : AllB ls) : Lim w (.slice (some ⟨g, 0, none⟩) ls.length ls.length) ls := by
  refine ⟨⟨_, _, rfl, Nat.le_refl _, hm, ?_⟩, ha⟩
  have := h.sl
  rwa [lims_len] at this

set_option maxHeartbeats 1000000 in
theorem trim_any (A : Option Addr) (n c : Nat) (ls : List Nat) (w : World) (hs : Sl w A n (lims ls)) (hn : n ≤ c) (hc : c ≤ maxLen) :
    Calls Tryd.prog 76 #[.slice A n c] w fun e w' => e = .returned (.slice A (strip ls).length c) ∧ w = w' := by
  unfold maxLen at hc
  have HL := Lib.hid (show ls.length = n by have := hs.1; rwa [lims_len] at this)
  go_enter Tryd.func76, Tryd.ntmps76
  go_wp2
  go_loop [0] (fun v => ∃ k : Nat, k ≤ n ∧ v = .slice A k c ∧ Hid (strip ls = strip (ls.take k))) (fun v => lenOf v)
  case atStart => exact ⟨n, Nat.le_refl _, rfl, by unfold Hid; rw [List.take_of_length_le (by rw [HL.out]; omega)]⟩
  case round =>
    obtain ⟨k, hk, rfl, hst⟩ := hrel
    rcases Nat.eq_zero_or_pos k with h0 | hp
    · subst h0
      have HE := Lib.hid (strip_take_len hst.out (by omega) (.inl rfl))
      go_wp2
      go_ret
      exact ⟨by rw [HE.out]; rfl, rfl⟩
    · obtain ⟨j, rfl⟩ : ∃ j, k = j + 1 := ⟨k - 1, by omega⟩
      obtain ⟨b, o, rfl, hb, hcell⟩ := hs.lim (show j < n by omega)
      have g1 := hcell j (by omega)
      clear hcell
      by_cases hz : ls.getD j 0 = 0
      · have HS := Lib.hid (strip_take_step (l := ls) (k := j) (by rw [HL.out]; omega) hz)
        rw [hz] at g1
        clear hz
        go_wp2
        go_round
        case rel => exact ⟨j, by omega, rfl, by unfold Hid; rw [hst.out, HS.out]⟩
        case measure => simp [lenOf]
      · have HE := Lib.hid (strip_take_len hst.out (by rw [HL.out]; omega) (.inr (by simp only [Nat.add_sub_cancel]; omega)))
        have hz' : (((ls.getD j 0 : Nat) : Int) == 0) = false := by rw [beq_eq_false_iff_ne]; omega
        clear hz
        generalize ls.getD j 0 = z at *
        go_wp2
        go_ret
        exact ⟨by rw [HE.out]; rfl, rfl⟩

/-- The slice without the high zero limbs holds the stripped list. -/
theorem Sl.strip {w : World} {A : Option Addr} {n : Nat} {ls : List Nat} (h : Sl w A n (lims ls)) : Sl w A (strip ls).length (lims (strip ls)) := by
  have hl : ls.length = n := by have := h.1; rwa [lims_len] at this
  have := h.head (m := (Go.Proofs.YtoihjclkocffhaaDoor.strip ls).length) (by have := strip_len ls; omega)
  rwa [lims_take, strip_take] at this
theorem Lim.strip {w : World} {A : Option Addr} {n c : Nat} {ls : List Nat} (h : Sl w A n (lims ls)) (hn : n ≤ c) (hc : c ≤ maxLen) (ha : AllB ls) : Lim w (.slice A (strip ls).length c) (strip ls) := by
  have hl : ls.length = n := by have := h.1; rwa [lims_len] at this
  have := strip_len ls
  exact ⟨⟨A, c, rfl, by omega, hc, h.strip⟩, strip_all ha⟩

/-- What the functions return: a number in normal form, in new memory. -/
def NRes (w w' : World) (v : Value) (n L : Nat) : Prop := ∃ ls, Lim w' v ls ∧ NoTop ls ∧ val ls = n ∧ ls.length ≤ L ∧ Fresh w.heap.size v ∧ Below w.heap.size w w'

set_option maxHeartbeats 1000000 in
theorem of_any (n : Nat) (w : World) (hn : n < 18446744073709551616) :
    Calls Tryd.prog 34 #[.int .u64 (n : Int)] w fun e w' => ∃ v, e = .returned v ∧ NRes w w' v n 2 := by
  have hr : Row (w.alloc (.cells #[.int .u32 ((n : Int) % 4294967296), .int .u32 ((n : Int) / 4294967296)] 69)) w.heap.size 69 (lims [n % 4294967296, n / 4294967296]) := Row.new w 69 [.int .u32 ((n : Int) % 4294967296), .int .u32 ((n : Int) / 4294967296)]
  have HV := Lib.hid (show val [n % 4294967296, n / 4294967296] = n by simp [val]; omega)
  have hall : AllB [n % 4294967296, n / 4294967296] := AllB.cons (by omega) (AllB.cons (by omega) AllB.nil)
  have hs := hr.sl
  rw [lims_len] at hs
  go_enter Tryd.func34, Tryd.ntmps34
  go_wp2_with fail
  refine (trim_any _ 2 2 [n % 4294967296, n / 4294967296] _ hs (by omega) (by simp [maxLen])).mono ?_
  rintro e w' ⟨rfl, rfl⟩
  go_wp2_with fail
  go_ret
  exact ⟨_, rfl, _, Lim.strip hs (by simp) (by simp [maxLen]) hall, strip_noTop _, by rw [strip_val, HV.out], strip_len _, Nat.le_refl _, (Below.refl _ _).alloc (Nat.le_refl _) _⟩

theorem lims_one (ls : List Nat) : ∀ u ∈ lims ls, u.oneCell' = true := by
  intro u hu
  unfold lims at hu
  obtain ⟨x, _, rfl⟩ := List.mem_map.1 hu
  rfl
theorem Lim.of_own {w : World} {base e n : Nat} {v : Value} {ls : List Nat} (h : w.ownsRow base e 1 v n (lims ls)) (ha : AllB ls) : Lim w v ls := by
  have hl : n = ls.length := by have := h.1; rw [lims_len] at this; omega
  subst hl
  obtain ⟨A, c, hv, h1, h2, hs⟩ := Sl.of_own h
  exact ⟨⟨A, c, hv, h1, h2, hs⟩, ha⟩

set_option maxHeartbeats 1000000 in
theorem norm_any (v : Value) (ls : List Nat) (w : World) (h : Lim w v ls) (hl : ls.length ≤ 70368744177664) :
    Calls Tryd.prog 35 #[v] w fun e w' => ∃ v, e = .returned v ∧ NRes w w' v (val ls) ls.length := by
  obtain ⟨⟨A, c, rfl, hn, hc, hs⟩, hall⟩ := h
  have hlen := strip_len ls
  go_enter Tryd.func35, Tryd.ntmps35
  go_wp2_with fail
  refine (trim_any A _ c ls _ hs hn hc).mono ?_
  rintro e w' ⟨rfl, rfl⟩
  go_wp2_with (at_builtin; refine wpList_append_nil48 w rfl (.const (.slice none 0 0)) (.tmp 4) 50 rfl 69 (.int .u32 0) 4 Tryd.underlying50 infoU32 rfl A (strip ls).length c (lims (strip ls)) rfl rfl hs.strip (lims_one _) (by unfold maxLen; omega) (by omega) ?_; intro A' c' w1 hown hb)
  go_ret
  exact ⟨.slice A' (strip ls).length c', rfl, strip ls, Lim.of_own hown (strip_all hall), strip_noTop _, strip_val _, hlen, fresh_own hown, hb⟩

def cmpN (a b : Nat) : Int := if a < b then -1 else if b < a then 1 else 0
theorem cmpN_lt {a b : Nat} (h : a < b) : cmpN a b = -1 := if_pos h
theorem cmpN_gt {a b : Nat} (h : b < a) : cmpN a b = 1 := by unfold cmpN; rw [if_neg (by omega), if_pos h]
theorem cmpN_eq {a b : Nat} (h : a = b) : cmpN a b = 0 := by unfold cmpN; rw [if_neg (by omega), if_neg (by omega)]
theorem val_lt_of_len {l m : List Nat} (hl : AllB l) (hm : NoTop m) (h : l.length < m.length) : val l < val m := by
  have a := val_lt hl
  have b := hm.ge (by omega)
  have := bp_mono (show l.length ≤ m.length - 1 by omega)
  omega
theorem val_lt_of_limb {l m : List Nat} {k : Nat} (hl : AllB l) (_hm : AllB m) (hk : k < l.length) (he : l.length = m.length) (hd : l.drop (k + 1) = m.drop (k + 1)) (hx : l.getD k 0 < m.getD k 0) : val l < val m := by
  rw [val_drop_take l (k + 1) (by omega), val_drop_take m (k + 1) (by omega), hd, val_take_succ, val_take_succ]
  have h1 := val_lt (hl.take k)
  rw [List.length_take, Nat.min_eq_left (by omega)] at h1
  have h2 : bp k * (l.getD k 0 + 1) ≤ bp k * m.getD k 0 := Nat.mul_le_mul_left _ hx
  rw [Nat.mul_add] at h2
  omega
theorem drop_step {l m : List Nat} {k : Nat} (hk : k < l.length) (he : l.length = m.length) (hd : l.drop (k + 1) = m.drop (k + 1)) (hx : l.getD k 0 = m.getD k 0) : l.drop k = m.drop k := by
  rw [List.drop_eq_getElem_cons hk, List.drop_eq_getElem_cons (show k < m.length by omega), hd]
  rw [List.getD_eq_getElem?_getD, List.getD_eq_getElem?_getD, List.getElem?_eq_getElem hk, List.getElem?_eq_getElem (show k < m.length by omega)] at hx
  simp at hx
  rw [hx]

set_option maxHeartbeats 1000000 in
theorem cmp_core (A B : Option Addr) (n c m c' : Nat) (a b : List Nat) (w : World) (hsa : Sl w A a.length (lims a)) (hsb : Sl w B b.length (lims b)) (all1 : AllB a) (all2 : AllB b) (nt1 : NoTop a) (nt2 : NoTop b)
    (hcap : a.length ≤ c) (hcap' : b.length ≤ c') (hc : c ≤ 9223372036854775807) (hc' : c' ≤ 9223372036854775807)
    (T1 : Hid (∀ w', w = w' → Calls Tryd.prog 76 #[.slice A n c] w' fun e w'' => e = .returned (.slice A a.length c) ∧ w' = w''))
    (T2 : Hid (∀ w', w = w' → Calls Tryd.prog 76 #[.slice B m c'] w' fun e w'' => e = .returned (.slice B b.length c') ∧ w' = w'')) :
    Calls Tryd.prog 52 #[.slice A n c, .slice B m c'] w fun e w' => e = .returned (.int .i64 (cmpN (val a) (val b))) ∧ ∃ d, w' = w.drewN d := by
  go_enter Tryd.func52, Tryd.ntmps52
  go_wp2_with fail
  refine (T1.out _ rfl).mono ?_
  rintro e w' ⟨rfl, rfl⟩
  go_wp2_with fail
  refine (T2.out _ rfl).mono ?_
  rintro e w' ⟨rfl, rfl⟩
  clear T1 T2
  rcases Nat.lt_trichotomy a.length b.length with h | h | h
  · have HR := Lib.hid (cmpN_lt (val_lt_of_len all1 nt2 h))
    go_wp2_with fail
    go_ret
    exact ⟨by rw [HR.out]; rfl, 0, rfl⟩
  · obtain ⟨n, hn⟩ : ∃ n, a.length = n := ⟨_, rfl⟩
    rw [← h] at hsb hcap'
    rw [hn] at hsa hsb hcap hcap'
    have H1 := Lib.hid h
    have H2 := Lib.hid hn
    rw [← h, hn]
    clear h hn
    go_wp2_with fail
    go_loopw [5] (fun i wr => ∃ k : Nat, k ≤ n ∧ i = .int .i64 ((k : Int) - 1) ∧ Hid (a.drop k = b.drop k) ∧ ∃ d, wr = w.drewN d) (fun i _ => (intOf i + 1).toNat)
    case atStart => exact ⟨n, by omega, rfl, by unfold Hid; rw [List.drop_of_length_le (by rw [H2.out]; omega), List.drop_of_length_le (by rw [← H1.out, H2.out]; omega)], 0, rfl⟩
    case round =>
      obtain ⟨k, hk, rfl, hd, d, rfl⟩ := hrel
      rcases Nat.eq_zero_or_pos k with h0 | hp
      · subst h0
        have HE := Lib.hid (cmpN_eq (show val a = val b by rw [show a = b by simpa using hd.out]))
        go_wp2
        go_ret
        exact ⟨by rw [HE.out]; rfl, _, rfl⟩
      · obtain ⟨j, rfl⟩ : ∃ j, k = j + 1 := ⟨k - 1, by omega⟩
        obtain ⟨b1, o1, rfl, hb1, hcell⟩ := hsa.lim (show j < n by omega)
        obtain ⟨b2, o2, rfl, hb2, hcell'⟩ := hsb.lim (show j < n by omega)
        have g1 := hcell j (by omega)
        have g2 := hcell' j (by omega)
        clear hcell hcell'
        rw [show (((j + 1 : Nat) : Int) - 1) = (j : Int) by omega]
        rcases Nat.lt_trichotomy (a.getD j 0) (b.getD j 0) with hx | hx | hx
        · have HR := Lib.hid (cmpN_lt (val_lt_of_limb all1 all2 (by rw [H2.out]; omega) H1.out hd.out hx))
          generalize a.getD j 0 = x at *
          generalize b.getD j 0 = y at *
          go_wp2
          go_quiet (fail)
          go_wp2
          go_ret
          exact ⟨by rw [HR.out]; rfl, by simp only [World.drewN_drewN]; exact ⟨_, rfl⟩⟩
        · have HR := Lib.hid (drop_step (by rw [H2.out]; omega) H1.out hd.out hx)
          rw [← hx] at g2
          clear hx
          generalize a.getD j 0 = x at *
          go_wp2
          go_quiet (fail)
          go_wp2
          go_quiet (fail)
          go_wp2
          go_roundw
          case rel => exact ⟨j, by omega, rfl, HR.out, _, rfl⟩
          case measure => simp [intOf]
        · have HR := Lib.hid (cmpN_gt (val_lt_of_limb all2 all1 (by rw [← H1.out, H2.out]; omega) H1.out.symm hd.out.symm hx))
          generalize a.getD j 0 = x at *
          generalize b.getD j 0 = y at *
          go_wp2
          go_quiet (fail)
          go_wp2
          go_quiet (fail)
          go_wp2
          go_ret
          exact ⟨by rw [HR.out]; rfl, by simp only [World.drewN_drewN]; exact ⟨_, rfl⟩⟩
  · have HR := Lib.hid (cmpN_gt (val_lt_of_len all2 nt1 h))
    go_wp2_with fail
    go_ret
    exact ⟨by rw [HR.out]; rfl, 0, rfl⟩
theorem cmp_any (v u : Value) (la lb : List Nat) (w : World) (ha : Lim w v la) (hb : Lim w u lb) :
    Calls Tryd.prog 52 #[v, u] w fun e w' => e = .returned (.int .i64 (cmpN (val la) (val lb))) ∧ ∃ d, w' = w.drewN d := by
  obtain ⟨⟨A, c, rfl, hn, hc, hs⟩, hall⟩ := ha
  obtain ⟨⟨B, c', rfl, hn', hc', hs'⟩, hall'⟩ := hb
  rw [← strip_val la, ← strip_val lb]
  exact cmp_core A B _ c _ c' _ _ w hs.strip hs'.strip (strip_all hall) (strip_all hall') (strip_noTop la) (strip_noTop lb) (Nat.le_trans (strip_len la) hn) (Nat.le_trans (strip_len lb) hn') hc hc'
    (fun w' hw => by subst hw; exact trim_any A _ c la w hs hn hc) (fun w' hw => by subst hw; exact trim_any B _ c' lb w hs' hn' hc')
end Go.Proofs.YtoihjclkocffhaaDoor
