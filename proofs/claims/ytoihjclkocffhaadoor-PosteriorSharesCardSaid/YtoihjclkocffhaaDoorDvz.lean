/- Division by 0: nat.DivMod, the reference's DivMod. -/
import Derived.Test.YtoihjclkocffhaaDoorNatE
import Derived.Test.YtoihjclkocffhaaDoorRefB
namespace Go.Proofs.YtoihjclkocffhaaDoor
open Go.RowKit
set_option linter.unusedVariables false

theorem strip_nil {ls : List Nat} (h : val ls = 0) : (strip ls).length = 0 := by
  have h1 := strip_val ls
  have h2 := strip_noTop ls
  rw [h2.zero (by rw [h1, h])]
  rfl
set_option maxHeartbeats 2000000 in
theorem divmod_zero (v u : Value) (la lb : List Nat) (w : World) (ha : Lim w v la) (hb : Lim w u lb) (h0 : val lb = 0) :
    Calls Tryd.prog 46 #[v, u] w fun e w' => e = .returned (.tuple #[.slice none 0 0, .slice none 0 0, .bool false]) ∧ w = w' := by
  obtain ⟨⟨A, c, rfl, hn, hc, hs⟩, hall⟩ := ha
  obtain ⟨⟨B, c', rfl, hn', hc', hs'⟩, hall'⟩ := hb
  have hz := strip_nil h0
  have HT2 : Hid (∀ w', w = w' → Calls Tryd.prog 76 #[.slice B lb.length c'] w' fun e w'' => e = .returned (.slice B 0 c') ∧ w' = w'') := fun w' hw => by
    subst hw
    have := trim_any B lb.length c' lb w hs' hn' hc'
    rwa [hz] at this
  have HT1 : Hid (∀ w', w = w' → Calls Tryd.prog 76 #[.slice A la.length c] w' fun e w'' => e = .returned (.slice A (strip la).length c) ∧ w' = w'') := fun w' hw => by subst hw; exact trim_any A la.length c la w hs hn hc
  generalize (strip la).length = na at *
  clear hz h0
  go_enter Tryd.func46, Tryd.ntmps46
  go_wp2_with fail
  refine (HT1.out _ rfl).mono ?_
  rintro e w' ⟨rfl, rfl⟩
  go_wp2_with fail
  refine (HT2.out _ rfl).mono ?_
  rintro e w' ⟨rfl, rfl⟩
  go_wp2_with fail
  go_ret3
  exact ⟨rfl, rfl⟩
set_option maxHeartbeats 2000000 in
theorem rdivmod_zero (v u : Value) (la lb : List Nat) (w : World) (ha : Lim w v la) (hb : Lim w u lb) (h1 : la.length ≤ 70368744177664) (h2 : lb.length ≤ 70368744177664) (h0 : val lb = 0) :
    Calls Tryd.prog 48 #[v, u] w fun e w' => e = .returned (.tuple #[.slice none 0 0, .slice none 0 0, .bool false]) ∧ Below w.heap.size w w' := by
  obtain ⟨⟨A0, c0, rfl, _, _, _⟩, _⟩ := id ha
  obtain ⟨⟨B0, d0, rfl, _, _, _⟩, _⟩ := id hb
  go_enter Tryd.func48, Tryd.ntmps48
  go_wp2_with fail
  refine (rnorm_any _ la _ ha h1).mono ?_
  rintro e w1 ⟨v1, rfl, hN1⟩
  obtain ⟨l1, ⟨⟨A1, c1, rfl, _, _, _⟩, _⟩, _, _, _, _, hb1⟩ := hN1
  go_wp2_with fail
  refine (rnorm_any _ lb _ (hb.below hb1) h2).mono ?_
  rintro e w2 ⟨v2, rfl, l2, hl2, nt2, hv2, hk2, hf2, hb2⟩
  have hnil : l2 = [] := nt2.zero (by rw [hv2]; exact h0)
  subst hnil
  obtain ⟨⟨A2, c2, rfl, _, _, _⟩, _⟩ := hl2
  clear hv2 h0
  go_wp2_with fail
  go_ret3
  exact ⟨rfl, hb1.trans (hb2.mono hb1.size)⟩
end Go.Proofs.YtoihjclkocffhaaDoor
