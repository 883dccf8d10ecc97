/- Law 26's is; how literals read. -/
import Derived.Test.YtoihjclkocffhaaDoorPcQ
import Derived.Test.YtoihjclkocffhaaDoorPoA
import Derived.Deep.RegionLaw
namespace Go.Proofs.YtoihjclkocffhaaDoor
open Go.RowKit
set_option linter.unusedVariables false

theorem nums_alloc {k : IntKind} {w : World} {v : Value} {zs : List Int} (h : Nums k w v zs) (o : Obj) : Nums k (w.alloc o) v zs := h.below (lit_below w o)
theorem lit_at {w : World} {t g n : Nat} (zs : List Int) (hg : w.heap.size = g) (hn : zs.length = n) (hm : n ≤ 1000) : Nums .i64 (w.alloc (.cells (zs.map (Value.int .i64)).toArray t)) (.slice (some ⟨g, 0, none⟩) n n) zs := by
  subst hg hn
  exact Nums.of_row (Row.new w t (zs.map (Value.int .i64))) (by unfold maxLen; omega)
theorem lim_at {w : World} {t g n : Nat} (ls : List Nat) (hg : w.heap.size = g) (hn : ls.length = n) (hm : n ≤ 1000) (hall : AllB ls) : Lim (w.alloc (.cells (lims ls).toArray t)) (.slice (some ⟨g, 0, none⟩) n n) ls := by
  subst hg hn
  refine ⟨⟨_, _, rfl, Nat.le_refl _, by unfold maxLen; omega, ?_⟩, hall⟩
  have := (Row.new w t (lims ls)).sl
  rwa [show (lims ls).length = ls.length by simp [lims]] at this
theorem lim_alloc {w : World} {v : Value} {zs : List Nat} (h : Lim w v zs) (o : Obj) : Lim (w.alloc o) v zs := h.below (lit_below w o)
theorem lst_lit2 {α : Type} {R : World → Value → α → Prop} {d : α} {w : World} {g t : Nat} {u v : Value} {x y : α} (hr : Row w g t [u, v]) (h1 : R w u x) (h2 : R w v y) : LstOf R d w (.slice (some ⟨g, 0, none⟩) 2 2) [x, y] := by
  refine ⟨_, _, [u, v], rfl, Nat.le_refl _, by unfold maxLen; simp, hr.sl, fun i z hv => ?_⟩
  match i with
  | 0 => simp only [List.getElem?_cons_zero, Option.some.injEq] at hv; subst hv; exact h1
  | 1 => simp only [List.getElem?_cons_succ, List.getElem?_cons_zero, Option.some.injEq] at hv; subst hv; exact h2
  | i + 2 => simp at hv
theorem lst_nil {α : Type} {R : World → Value → α → Prop} {d : α} {w : World} : LstOf R d w (.slice none 0 0) [] := ⟨none, 0, [], rfl, by simp, by unfold maxLen; simp, Sl.nil, fun i u h => by simp at h⟩
theorem any_lim {w : World} {v : Value} {n : Nat} (h : Lim w v [n]) : NatAny w v n 1 := ⟨[n], h, by simp [val], by simp⟩
theorem any_nil {w : World} : NatAny w (.slice none 0 0) 0 1 := by
  obtain ⟨ls, h, _, h2, h3⟩ := natAt_nilD w 1
  exact ⟨ls, h, h2, h3⟩
theorem allB1 {x : Nat} (h : x < 4294967296) : AllB [x] := AllB.cons h AllB.nil
theorem allB2 {x y : Nat} (h : x < 4294967296) (h' : y < 4294967296) : AllB [x, y] := AllB.cons h (AllB.cons h' AllB.nil)
set_option maxHeartbeats 2000000 in
theorem is_yes (wv uv : Value) (ns : List Nat) (L : Nat) (w : World) (hw : Wts w wv ns L) (hu : Lim w uv ns) (hL : L ≤ 100000000) :
    Calls Tryd.prog 42 #[wv, uv] w fun e w' => e = .returned (.bool true) ∧ Below w.heap.size w w' := by
  obtain ⟨WA, wc, us, rfl, hwc, hwm, hws, hwu⟩ := hw
  obtain ⟨⟨UA, uc, rfl, huc, hum, hus⟩, huall⟩ := hu
  have HWU := Lib.hid hwu
  have HALL := Lib.hid huall
  unfold maxLen at hwm hum
  clear hwu huall
  obtain ⟨n, hn⟩ : ∃ n, ns.length = n := ⟨_, rfl⟩
  have HN := Lib.hid hn
  rw [hn] at hws hwc hus huc ⊢
  clear hn
  have hnn : ((n : Int) != (n : Int)) = false := by simp
  go_enter Tryd.func42, Tryd.ntmps42
  go_wp2_with fail
  go_loopw [5] (fun i wr => ∃ k : Nat, k ≤ n ∧ i = .int .i64 (k : Int) ∧ Below w.heap.size w wr) (fun i _ => n - (intOf i).toNat)
  case atStart => exact ⟨0, by omega, rfl, Below.refl _ _⟩
  case round =>
    obtain ⟨k, hk, rfl, BQ⟩ := hrel
    by_cases hlt : k < n
    · obtain ⟨b, o, u, rfl, hbl, hcell, hx⟩ := lst_at (R := fun w u x => NatAny w u x L) (d := 0) (xs := ns) hws HWU.out hlt
      obtain ⟨lk, hlim, hval, hlen⟩ := hx.below BQ
      have HVL := Lib.hid hval
      clear hval hx
      obtain ⟨⟨XA, xc, rfl, _, _, _⟩, _⟩ := id hlim
      obtain ⟨b', o', rfl, hb', hcell'⟩ := hus.lim hlt
      have g1 := (BQ.cell (p := ⟨b, o + k, none⟩) hbl).trans hcell
      have g2 := (BQ.cell (p := ⟨b', o' + k, none⟩) hb').trans (hcell' k hlt)
      have HB := Lib.hid (HALL.out (ns.getD k 0) (getD_mem ns 0 (by rw [HN.out]; exact hlt)))
      clear hcell hcell'
      generalize ns.getD k 0 = z at *
      have z1 : b < wr.heap.size := Nat.lt_of_lt_of_le hbl BQ.size
      have z2 : b' < wr.heap.size := Nat.lt_of_lt_of_le hb' BQ.size
      have hnew : Lim (wr.alloc (.cells #[.int .u32 (z : Int)] 69)) (.slice (some ⟨wr.heap.size, 0, none⟩) 1 1) [z] := lim_at [z] rfl rfl (by decide) (AllB.cons HB.out AllB.nil)
      have HC0 : Hid (cmpN (val lk) (val [z]) = 0) := cmpN_eq (by rw [HVL.out]; simp [val])
      go_wp2_with fail
      go_region_law (first | (go_simp; go_at_call 52; ((with_reducible refine (cmp_any _ _ lk [z] _ (hlim.below ?_) (hnew.below ?_)).mono ?_); (repeat (first | with_reducible exact Below.refl _ _ | with_reducible refine bl_alloc ?_ _ | with_reducible refine bl_drew ?_)); (repeat (first | with_reducible exact Below.refl _ _ | with_reducible refine bl_alloc ?_ _ | with_reducible refine bl_drew ?_)); rintro e w5 ⟨rfl, d5, rfl⟩; rw [HC0.out])))
      all_goals
        go_wp2_with fail
        go_roundw
        case rel => exact ⟨k + 1, by omega, by go_num, by refine BQ.trans (Below.mono (w := wr) ?_ BQ.size); refine below_drewN ?_ _; (repeat (first | with_reducible exact Below.refl _ _ | with_reducible refine bl_alloc ?_ _ | with_reducible refine bl_drew ?_))⟩
        case measure => simp [intOf]; omega
    · obtain rfl : k = n := by omega
      go_wp2_with fail
      go_ret
      exact ⟨rfl, BQ⟩

end Go.Proofs.YtoihjclkocffhaaDoor
