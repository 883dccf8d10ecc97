/- The walk of the reference's Parse: it returns the same plain function of the string. No condition beyond those stated. -/
import Derived.Test.YtjjcicopblgdmaaDoorParse
import Derived.Deep.QuietTactic
import Derived.BigQuiet
import Derived.Deep.Draws
namespace Go.Proofs.YtjjcicopblgdmaaDoor
open Go.RowKit

theorem quiet_add_left {P : Program} {f : FuncId} {args : Array Value} {w : World} {a n : Nat} {v : Value}
    (h : Calls P f args (w.drewN (a + n)) fun e w' => e = .returned v ∧ w.drewN (a + n) = w') :
    Calls P f args (w.drewN (a + n)) fun e w'' => e = .returned v ∧ ∃ m, w'' = w.drewN (a + m) :=
  h.mono fun _ _ ⟨he, hm⟩ => ⟨he, n, hm.symm⟩
theorem quiet_left {P : Program} {f : FuncId} {args : Array Value} {w : World} {n : Nat} {v : Value}
    (h : Calls P f args (w.drewN n) fun e w' => e = .returned v ∧ w.drewN n = w') : Calls P f args (w.drewN n) fun e w'' => e = .returned v ∧ ∃ m, w'' = w.drewN m :=
  h.mono fun _ _ ⟨he, hm⟩ => ⟨he, n, hm.symm⟩

theorem numJ_iff (l : List UInt8) : (allD l = true → numJ l = numI l) ∧ (allD l = false → numJ l = -1) := by
  unfold numJ numI
  constructor <;> intro h <;> simp [h]
theorem numI_nn (l : List UInt8) (h : allD l = true) : 0 ≤ numI l := by
  have := numV_bd l.length l rfl h
  unfold numI; rw [if_pos h]; omega
theorem beq_comm' (a b : List UInt8) : (a == b) = (b == a) := by
  rw [Bool.eq_iff_iff, beq_iff_eq, beq_iff_eq]; exact eq_comm
theorem rrel_hit (p : ByteArray) (w : World) {e : Nat} (k : Nat) (hk : k < 6) (h : ((preB (k + 1)).toList == p.toList) = true) :
    ∃ m : Nat, m ≤ 6 ∧ Value.int IntKind.i64 ((k : Int) + 1 + 1) = .int .i64 ((m : Int) + 1) ∧ Value.int IntKind.i64 ((k : Int) + 1) = .int .i64 ((kindAt p m : Nat) : Int) ∧ ∃ d, w.drewN e = w.drewN d :=
  ⟨k + 1, by omega, rfl, by rw [kindAt_hit p k (by rw [beq_comm']; exact h)]; rfl, _, rfl⟩
theorem rrel_miss (p : ByteArray) (w : World) {e : Nat} (k : Nat) (hk : k < 6) (h : ((preB (k + 1)).toList == p.toList) = false) :
    ∃ m : Nat, m ≤ 6 ∧ Value.int IntKind.i64 ((k : Int) + 1 + 1) = .int .i64 ((m : Int) + 1) ∧ Value.int IntKind.i64 ((kindAt p k : Nat) : Int) = .int .i64 ((kindAt p m : Nat) : Int) ∧ ∃ d, w.drewN e = w.drewN d :=
  ⟨k + 1, by omega, rfl, by rw [kindAt_miss p k (by rw [beq_comm']; exact h)], _, rfl⟩

set_option maxHeartbeats 1000000 in
theorem rparse_long (s : ByteArray) (w : World) (h14 : s.size ≤ 14) (h14' : 14 ≤ s.size) (h3 : ((s[3].toNat : Int) != 45) = false) (h11 : ((s[11].toNat : Int) != 45) = false) :
    Calls Tryd.prog 9 #[.string s] w fun e w' => e = .returned (parseT (kindAt (s.extract 0 3) 6) (numI (d1 s)) (numI (d2 s)) (allD (d1 s)) (allD (d2 s))) ∧ ∃ n, w' = w.drewN n := by
  have HZ := Lib.hid (ext_size s (by omega))
  obtain ⟨x1, x2⟩ := numI_bd (s.extract 4 11) (by rw [HZ.out.1]; omega)
  have HB := Lib.hid (And.intro x1 x2)
  clear x1 x2
  have hl := kindAt_le (s.extract 0 3) 6
  have hq : ((s.size : Int) != 14) = false := by
    rw [bne_eq_false_iff_eq]; omega
  go_enter Tryd.func9, Tryd.ntmps9
  go_wp2
  go_loopw [5, 6] (fun n i wr => ∃ k : Nat, k ≤ 6 ∧ i = .int .i64 ((k : Int) + 1) ∧ n = .int .i64 ((kindAt (s.extract 0 3) k : Nat) : Int) ∧ ∃ d, wr = w.drewN d) (fun _ i _ => 7 - (intOf i).toNat)
  case atStart => exact ⟨0, by omega, rfl, rfl, 0, rfl⟩
  case round =>
    obtain ⟨k, hk6, rfl, rfl, d, rfl⟩ := hrel
    by_cases hlt : k < 6
    · go_wp2
      go_quiet ((go_at_call 18; exact quiet_add_left (prefix_in (k + 1) _ (by omega) (by omega))))
      go_wp2
      all_goals go_roundw
      all_goals first
        | exact rrel_hit _ _ k hlt ‹_›
        | exact rrel_miss _ _ k hlt ‹_›
        | (simp [intOf]; omega)
    · obtain rfl : k = 6 := by omega
      go_wp2_with fail
      go_quiet ((go_at_call 19; exact quiet_add_left (rnumber_any _ _ (by rw [ByteArray.size_extract]; omega))))
      have e1 : (s.extract 4 11).data.toList = d1 s := by simp [d1]
      have e2 : (s.extract 12 s.size).data.toList = d2 s := by simp [d2]
      rw [e1, e2]
      rw [e1] at HB
      clear e1 e2 HZ
      obtain ⟨b1, b2⟩ := HB.out
      clear HB
      have g1 := numJ_iff (d1 s)
      have g2 := numJ_iff (d2 s)
      have G1 := Lib.hid g1
      have G2 := Lib.hid g2
      clear g1 g2
      by_cases hk : kindAt (s.extract 0 3) 6 = 0
      · have HP := Lib.hid (show parseT (kindAt (s.extract 0 3) 6) (numI (d1 s)) (numI (d2 s)) (allD (d1 s)) (allD (d2 s)) = tri 0 0 2 by simp [parseT, hk])
        have hk' : (((kindAt (s.extract 0 3) 6 : Nat) : Int) == 0) = true := by rw [beq_iff_eq]; omega
        clear hk
        go_wp2_with fail
        all_goals (go_ret3; exact ⟨by rw [HP.out]; rfl, _, rfl⟩)
      · have hk' : (((kindAt (s.extract 0 3) 6 : Nat) : Int) == 0) = false := by rw [beq_eq_false_iff_ne]; omega
        have hk1 : 1 ≤ kindAt (s.extract 0 3) 6 := by omega
        have HK := Lib.hid hk
        clear hk
        cases ha : allD (d1 s) with
        | false =>
          have HP := Lib.hid (show parseT (kindAt (s.extract 0 3) 6) (numI (d1 s)) (numI (d2 s)) (allD (d1 s)) (allD (d2 s)) = tri 0 0 2 by simp [parseT, ha])
          have j1 := (G1.out).2 ha
          clear ha
          go_wp2_with fail
          all_goals (go_ret3; exact ⟨by rw [HP.out]; rfl, _, rfl⟩)
        | true =>
          have j1 := (G1.out).1 ha
          have HA := Lib.hid ha
          clear ha
          have j1' : 0 ≤ numJ (d1 s) := by omega
          have j1'' : numJ (d1 s) ≤ 9999999 := by omega
          cases hb : allD (d2 s) with
          | false =>
            have HP := Lib.hid (show parseT (kindAt (s.extract 0 3) 6) (numI (d1 s)) (numI (d2 s)) (allD (d1 s)) (allD (d2 s)) = tri 0 0 2 by simp [parseT, hb])
            have j2 := (G2.out).2 hb
            have J1 := Lib.hid j1
            clear hb j1
            go_wp2_with fail
            all_goals (go_ret3; exact ⟨by rw [HP.out]; rfl, _, rfl⟩)
          | true =>
            have j2 := (G2.out).1 hb
            have HBB := Lib.hid hb
            clear hb
            have j2' : 0 ≤ numJ (d2 s) := by have := numI_nn (d2 s) HBB.out; omega
            by_cases hn : numI (d1 s) = 0
            · have HP := Lib.hid (show parseT (kindAt (s.extract 0 3) 6) (numI (d1 s)) (numI (d2 s)) (allD (d1 s)) (allD (d2 s)) = tri 0 0 3 by simp [parseT, HK.out, HA.out, HBB.out, hn])
              have hn' : ((numJ (d1 s)) == 0) = true := by rw [beq_iff_eq]; omega
              clear hn j1 j2
              go_wp2_with fail
              all_goals (go_ret3; exact ⟨by rw [HP.out]; rfl, _, rfl⟩)
            · have hn' : ((numJ (d1 s)) == 0) = false := by rw [beq_eq_false_iff_ne]; omega
              have hn1 : 1 ≤ numJ (d1 s) := by omega
              have HN := Lib.hid hn
              have JJ1 := Lib.hid j1
              have JJ2 := Lib.hid j2
              clear hn j1 j2
              go_wp2_with fail
              refine (rcheck_ok _ _ _ (by omega) (by omega) hn1 j1'').mono ?_
              rintro e w' ⟨rfl, rfl⟩
              by_cases hc : numJ (d2 s) = 98 - (((kindAt (s.extract 0 3) 6 : Nat) : Int) * 10000000 + numJ (d1 s)) * 100 % 97
              · have HP := Lib.hid (show parseT (kindAt (s.extract 0 3) 6) (numI (d1 s)) (numI (d2 s)) (allD (d1 s)) (allD (d2 s)) = tri ((kindAt (s.extract 0 3) 6 : Nat) : Int) (numJ (d1 s)) 0 by rw [JJ1.out, JJ2.out] at hc; rw [JJ1.out]; simp [parseT, HK.out, HN.out, HA.out, HBB.out, hc, chk])
                have hc' : ((numJ (d2 s)) != 98 - (((kindAt (s.extract 0 3) 6 : Nat) : Int) * 10000000 + numJ (d1 s)) * 100 % 97) = false := by rw [bne_eq_false_iff_eq]; exact hc
                clear hc
                go_wp2_with fail
                all_goals (go_ret3; exact ⟨by rw [HP.out]; rfl, _, rfl⟩)
              · have HP := Lib.hid (show parseT (kindAt (s.extract 0 3) 6) (numI (d1 s)) (numI (d2 s)) (allD (d1 s)) (allD (d2 s)) = tri 0 0 12 by rw [JJ1.out, JJ2.out] at hc; simp [parseT, HK.out, HN.out, HA.out, HBB.out, hc, chk])
                have hc' : ((numJ (d2 s)) != 98 - (((kindAt (s.extract 0 3) 6 : Nat) : Int) * 10000000 + numJ (d1 s)) * 100 % 97) = true := by rw [bne_iff_ne]; exact hc
                clear hc
                go_wp2_with fail
                all_goals (go_ret3; exact ⟨by rw [HP.out]; rfl, _, rfl⟩)
end Go.Proofs.YtjjcicopblgdmaaDoor
