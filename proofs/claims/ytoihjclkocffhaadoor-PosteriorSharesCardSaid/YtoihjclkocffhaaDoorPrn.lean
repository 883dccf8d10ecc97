/- The walk of nat.Print at small numbers. -/
import Derived.Test.YtoihjclkocffhaaDoorRatQ
import Derived.Test.YtoihjclkocffhaaDoorShelf
import Derived.LoopN
import Derived.Laws.IdiomStrings
import Derived.Lib.BufferRead
namespace Go.Proofs.YtoihjclkocffhaaDoor
open Go.RowKit
set_option linter.unusedVariables false

theorem strip_small {ls : List Nat} {n : Nat} (hall : AllB ls) (hv : val ls = n) (h0 : 0 < n) (h1 : n < 4294967296) : strip ls = [n] :=
  norm_inj (strip_all hall) (AllB.cons h1 AllB.nil) (strip_noTop _) (.inr ⟨[], n, rfl, h0⟩) (by rw [strip_val, hv]; simp [val])

set_option maxHeartbeats 2000000 in
theorem sappend_any (u : Nat) (hu : u < 100) (w : World) :
    Calls Tryd.prog 95 #[.slice none 0 0, .int .u64 u, .int .i64 10] w fun e w' => ∃ v', e = .returned v' ∧ w'.ownsRow w.heap.size 5 1 v' (Lib.decDigits u).length (Lib.byteCells (Lib.decDigits u)) ∧ Below w.heap.size w w' := by
  have H := Lib.hid (Tryd.internal_strconv_AppendUint_10_small w.heap.size 0 u hu (.slice none 0 0) [] w (World.ownsRow_nil w _ _ 1) (Nat.le_refl _) (by omega))
  clear hu
  go_enter Tryd.func95, Tryd.ntmps95
  go_wp2_with fail
  refine H.out.mono ?_
  rintro e w' ⟨v', rfl, ho, hb, _⟩
  rw [Nat.zero_add, List.nil_append] at ho
  go_wp2_with fail
  go_ret
  exact ⟨_, rfl, ho, hb⟩

set_option maxHeartbeats 4000000 in
theorem nprint_any (v : Value) (ls : List Nat) (n : Nat) (w : World) (h : Lim w v ls) (hl : ls.length ≤ 1000000000) (hv : val ls = n) (h0 : 0 < n) (h1 : n < 100) :
    Calls Tryd.prog 66 #[v] w fun e w' => e = .returned (.string ⟨(Lib.decDigits n).toArray⟩) ∧ Below w.heap.size w w' := by
  have hstrip := strip_small h.2 hv h0 (by omega)
  obtain ⟨⟨A, c, rfl, hn, hc, hs⟩, hall⟩ := h
  have HT := Lib.hid (trim_any A _ c ls w hs hn hc)
  have hL := Lim.strip hs hn hc hall
  rw [hstrip] at HT hL
  have HN := Lib.hid h1
  have hnn : n < 4294967296 := by omega
  have HQ0 : Hid (val [n] / 1000000000 = 0 ∧ val [n] % 1000000000 = n) := by unfold Hid; simp [val]; omega
  obtain ⟨⟨A1, c1, hA1, hn1, hc1, hs1⟩, hall1⟩ := hL
  have HD := Lib.hid (divLimb_any A1 1 c1 1000000000 [n] w hs1 hall1 hn1 hc1 (by omega) (by omega) (by omega))
  rw [HQ0.out.1, HQ0.out.2] at HD
  have hA1' : Value.slice A 1 c = Value.slice A1 1 c1 := hA1
  obtain ⟨rfl, rfl⟩ : A = A1 ∧ c = c1 := by injection hA1' with a b c; exact ⟨a, c⟩
  have hle1 : (1 : Int) ≤ (c : Int) := by have : 1 ≤ c := hn1; omega
  clear hA1 hA1' hs hs1 hall hall1 hstrip hv h1 hn hc hn1 hc1 hl
  go_enter Tryd.func66, Tryd.ntmps66
  go_wp2_with fail
  refine HT.out.mono ?_
  rintro e w' ⟨rfl, rfl⟩
  go_wp2_with fail
  refine wp_loop_rounds 2 ?_
  rw [rounds_succ]
  go_wp2_with fail
  refine HD.out.mono ?_
  rintro e w2 ⟨v2, rfl, hN2⟩
  have hb2 := hN2.bel
  have hq2 := hN2.nat
  obtain ⟨l2, ⟨⟨A2, c2, rfl, _, _, _⟩, _⟩, nt2, e2, k2⟩ := hq2
  have hnil : l2 = [] := nt2.zero e2
  subst hnil
  clear HD HT hN2 nt2 e2 k2
  go_wp2_with (at_builtin; refine wpList_append_one w2 rfl (.tmp 23) (.tmp 25) 49 rfl w.heap.size 69 (.int .u32 0) 4 Tryd.underlying49 infoU32 rfl (.slice none 0 0) 0 [] (.int .u32 (n : Int)) rfl rfl (World.ownsRow_nil _ _ _ _) rfl (by simp [maxLen]) (by omega) hb2.size ?_; rintro G cG w3 hown hb3)
  rw [List.nil_append] at hown
  obtain ⟨A3, c3, hv3, g1, g2, hs3⟩ := Sl.of_own hown
  obtain ⟨rfl, rfl⟩ : G = A3 ∧ cG = c3 := by injection hv3 with a b c; exact ⟨a, c⟩
  obtain ⟨b, o, rfl, hcell⟩ := hs3.2 (by omega)
  have hc0 : w3.cell? ⟨b, o, none⟩ = some (.int .u32 (n : Int)) := hcell 0 _ rfl
  have B3 : Below w.heap.size w w3 := hb2.trans hb3
  clear hv3 hs3 hcell hown hb2 hb3
  rw [rounds_succ]
  go_wp2_with fail
  refine (sappend_any n HN.out w3).mono ?_
  rintro e w4 ⟨v4, rfl, ho4, hb4⟩
  obtain ⟨A4, c4, rfl, j1, j2, hs4⟩ := Sl.of_own ho4
  have B4 := B3.trans (hb4.mono B3.size)
  have hlen : 0 < (Lib.decDigits n).length := by
    unfold Lib.decDigits; split <;> simp
  obtain ⟨b4, o4, rfl, hcell4⟩ := hs4.2 hlen
  have hcv := run_convert_bytes_back (P := Tryd.prog) w4 111 9 5 ⟨b4, o4, none⟩ c4 (Lib.decDigits n) Tryd.underlying111 Tryd.underlying5 Tryd.underlying9 (fun j hj => by
    have := hcell4 j (.int .u8 (((Lib.decDigits n)[j].toNat : Nat) : Int)) (by simp [Lib.byteCells, hj])
    rw [show (⟨b4, o4, none⟩ : Addr).add j = ⟨b4, o4 + j, none⟩ by cases j <;> simp [Addr.add]]
    exact this)
  go_wp2_with fail
  refine wp_loop_rounds 1 ?_
  rw [rounds_succ]
  go_wp2_with fail
  go_ret
  exact ⟨rfl, B4⟩
end Go.Proofs.YtoihjclkocffhaaDoor
