/- The walks of both Parse functions: they return one plain function of the string. No condition beyond those stated. -/
import Derived.Test.YtjjcicopblgdmaaDoorNums
import Derived.Deep.QuietTactic
import Derived.BigQuiet
namespace Go.Proofs.YtjjcicopblgdmaaDoor
open Go.RowKit

def kindAt (p : ByteArray) : Nat → Nat
  | 0 => 0
  | k + 1 => if p.toList == (preB (k + 1)).toList then k + 1 else kindAt p k
theorem kindAt_le (p : ByteArray) (k : Nat) : kindAt p k ≤ k := by
  induction k with
  | zero => exact Nat.le_refl _
  | succ k ih => unfold kindAt; split <;> omega

structure Pres (w : World) : Prop where
  c0 : w.cell? ⟨0, 0, none⟩ = some (.string (preB 1))
  c1 : w.cell? ⟨0, 1, none⟩ = some (.string (preB 2))
  c2 : w.cell? ⟨0, 2, none⟩ = some (.string (preB 3))
  c3 : w.cell? ⟨0, 3, none⟩ = some (.string (preB 4))
  c4 : w.cell? ⟨0, 4, none⟩ = some (.string (preB 5))
  c5 : w.cell? ⟨0, 5, none⟩ = some (.string (preB 6))

theorem idx_pre0 : ∀ w, (Instr.index 34 (.agg #[.string (preB 1), .string (preB 2), .string (preB 3), .string (preB 4), .string (preB 5), .string (preB 6)]) (.int .i64 0)).run Tryd.prog w = .ok (.string (preB 1)) w := fun _ => by kernel_rfl
theorem idx_pre1 : ∀ w, (Instr.index 34 (.agg #[.string (preB 1), .string (preB 2), .string (preB 3), .string (preB 4), .string (preB 5), .string (preB 6)]) (.int .i64 1)).run Tryd.prog w = .ok (.string (preB 2)) w := fun _ => by kernel_rfl
theorem idx_pre2 : ∀ w, (Instr.index 34 (.agg #[.string (preB 1), .string (preB 2), .string (preB 3), .string (preB 4), .string (preB 5), .string (preB 6)]) (.int .i64 2)).run Tryd.prog w = .ok (.string (preB 3)) w := fun _ => by kernel_rfl
theorem idx_pre3 : ∀ w, (Instr.index 34 (.agg #[.string (preB 1), .string (preB 2), .string (preB 3), .string (preB 4), .string (preB 5), .string (preB 6)]) (.int .i64 3)).run Tryd.prog w = .ok (.string (preB 4)) w := fun _ => by kernel_rfl
theorem idx_pre4 : ∀ w, (Instr.index 34 (.agg #[.string (preB 1), .string (preB 2), .string (preB 3), .string (preB 4), .string (preB 5), .string (preB 6)]) (.int .i64 4)).run Tryd.prog w = .ok (.string (preB 5)) w := fun _ => by kernel_rfl
theorem idx_pre5 : ∀ w, (Instr.index 34 (.agg #[.string (preB 1), .string (preB 2), .string (preB 3), .string (preB 4), .string (preB 5), .string (preB 6)]) (.int .i64 5)).run Tryd.prog w = .ok (.string (preB 6)) w := fun _ => by kernel_rfl
theorem idx_pre (k : Nat) (h : k < 6) (w : World) :
    (Instr.index 34 (.agg #[.string (preB 1), .string (preB 2), .string (preB 3), .string (preB 4), .string (preB 5), .string (preB 6)]) (.int .i64 (k : Int))).run Tryd.prog w = .ok (.string (preB (k + 1))) w := by
  have : k = 0 ∨ k = 1 ∨ k = 2 ∨ k = 3 ∨ k = 4 ∨ k = 5 := by omega
  rcases this with h | h | h | h | h | h <;> subst h
  · exact idx_pre0 w
  · exact idx_pre1 w
  · exact idx_pre2 w
  · exact idx_pre3 w
  · exact idx_pre4 w
  · exact idx_pre5 w

theorem kindAt_hit (p : ByteArray) (k : Nat) (h : (p.toList == (preB (k + 1)).toList) = true) : kindAt p (k + 1) = k + 1 := by
  simp only [kindAt, h, if_true]
theorem kindAt_miss (p : ByteArray) (k : Nat) (h : (p.toList == (preB (k + 1)).toList) = false) : kindAt p (k + 1) = kindAt p k := by
  simp only [kindAt, h]; rfl
theorem rel_hit (p : ByteArray) (k : Nat) (hk : k < 6) (h : (p.toList == (preB (k + 1)).toList) = true) :
    ∃ m : Nat, m ≤ 6 ∧ Value.int IntKind.i64 ((k : Int) + 1) = .int .i64 (m : Int) ∧ Value.int IntKind.i64 ((k : Int) + 1) = .int .i64 ((kindAt p m : Nat) : Int) :=
  ⟨k + 1, by omega, rfl, by rw [kindAt_hit p k h]; rfl⟩
theorem rel_miss (p : ByteArray) (k : Nat) (hk : k < 6) (h : (p.toList == (preB (k + 1)).toList) = false) :
    ∃ m : Nat, m ≤ 6 ∧ Value.int IntKind.i64 ((k : Int) + 1) = .int .i64 (m : Int) ∧ Value.int IntKind.i64 ((kindAt p k : Nat) : Int) = .int .i64 ((kindAt p m : Nat) : Int) :=
  ⟨k + 1, by omega, rfl, by rw [kindAt_miss p k h]⟩
theorem ext_size (s : ByteArray) (h : s.size = 14) : (s.extract 4 11).size = 7 ∧ (s.extract 12 s.size).size = 2 := by
  simp [ByteArray.size_extract, h]

def parseK (s : ByteArray) : Nat := kindAt (s.extract 0 3) 6
def d1 (s : ByteArray) : List UInt8 := List.take 7 (List.drop 4 s.data.toList)
def d2 (s : ByteArray) : List UInt8 := List.take (s.size - 12) (List.drop 12 s.data.toList)
def chk (k : Nat) (n : Int) : Int := 98 - (((k : Int) * 10000000 + n) * 100) % 97
def tri (a b c : Int) : Value := .tuple #[.int .i64 a, .int .i64 b, .int .i64 c]
/-- What both functions return for a string of 14 bytes with its two signs. -/
def parseT (k : Nat) (n m : Int) (a b : Bool) : Value :=
  if k = 0 ∨ a = false ∨ b = false then tri 0 0 2
  else if n = 0 then tri 0 0 3
  else if m ≠ chk k n then tri 0 0 12 else tri k n 0
/-- What both functions return. -/
def parseV (s : ByteArray) : Value :=
  if s.size = 14 ∧ s.data[3]? = some 45 ∧ s.data[11]? = some 45 then parseT (parseK s) (numI (d1 s)) (numI (d2 s)) (allD (d1 s)) (allD (d2 s)) else tri 0 0 2

set_option maxHeartbeats 1000000 in
theorem parse_long (s : ByteArray) (w : World) (hp : Pres w) (h14 : s.size ≤ 14) (h14' : 14 ≤ s.size) (h3 : ((s[3].toNat : Int) != 45) = false) (h11 : ((s[11].toNat : Int) != 45) = false) :
    Calls Tryd.prog 8 #[.string s] w fun e w' => e = .returned (parseT (kindAt (s.extract 0 3) 6) (numI (d1 s)) (numI (d2 s)) (allD (d1 s)) (allD (d2 s))) ∧ w = w' := by
  have HZ := Lib.hid (ext_size s (by omega))
  obtain ⟨x1, x2⟩ := numI_bd (s.extract 4 11) (by rw [HZ.out.1]; omega)
  have HB := Lib.hid (And.intro x1 x2)
  clear x1 x2
  have hl := kindAt_le (s.extract 0 3) 6
  obtain ⟨c0, c1, c2, c3, c4, c5⟩ := hp
  have hq : ((s.size : Int) != 14) = false := by
    rw [bne_eq_false_iff_eq]; omega
  go_enter Tryd.func8, Tryd.ntmps8
  go_wp2
  clear c0 c1 c2 c3 c4 c5
  go_loop [5, 26] (fun n i => ∃ k : Nat, k ≤ 6 ∧ i = .int .i64 k ∧ n = .int .i64 ((kindAt (s.extract 0 3) k : Nat) : Int)) (fun _ i => 6 - (intOf i).toNat)
  case atStart => exact ⟨0, by omega, rfl, rfl⟩
  case round =>
    obtain ⟨k, hk6, rfl, rfl⟩ := hrel
    by_cases hlt : k < 6
    · have hi := idx_pre k hlt
      go_wp2
      all_goals go_round
      all_goals first
        | exact rel_hit _ k hlt ‹_›
        | exact rel_miss _ k hlt ‹_›
        | (simp [intOf]; omega)
    · obtain rfl : k = 6 := by omega
      go_wp2_with fail
      refine (number_at _ (d1 s) _ (by rw [HZ.out.1]; omega) (by simp [d1])).mono ?_
      rintro e w' ⟨rfl, rfl⟩
      go_wp2_with fail
      refine (number_at _ (d2 s) _ (by rw [HZ.out.2]; omega) (by simp [d2])).mono ?_
      rintro e w' ⟨rfl, rfl⟩
      have e1 : (s.extract 4 11).data.toList = d1 s := by simp [d1]
      rw [e1] at HB
      clear e1 HZ
      obtain ⟨b1, b2⟩ := HB.out
      clear HB
      by_cases hk : kindAt (s.extract 0 3) 6 = 0
      · have HP := Lib.hid (show parseT (kindAt (s.extract 0 3) 6) (numI (d1 s)) (numI (d2 s)) (allD (d1 s)) (allD (d2 s)) = tri 0 0 2 by simp [parseT, hk])
        have hk' : (((kindAt (s.extract 0 3) 6 : Nat) : Int) == 0) = true := by rw [beq_iff_eq]; omega
        clear hk
        go_wp2_with fail
        all_goals (go_ret3; exact ⟨by rw [HP.out]; rfl, rfl⟩)
      · have hk' : (((kindAt (s.extract 0 3) 6 : Nat) : Int) == 0) = false := by rw [beq_eq_false_iff_ne]; omega
        have hk1 : 1 ≤ kindAt (s.extract 0 3) 6 := by omega
        have HK := Lib.hid hk
        clear hk
        cases ha : allD (d1 s) with
        | false =>
          have HP := Lib.hid (show parseT (kindAt (s.extract 0 3) 6) (numI (d1 s)) (numI (d2 s)) (allD (d1 s)) (allD (d2 s)) = tri 0 0 2 by simp [parseT, ha])
          go_wp2_with fail
          all_goals (go_ret3; exact ⟨by rw [HP.out]; rfl, rfl⟩)
        | true =>
          cases hb : allD (d2 s) with
          | false =>
            have HP := Lib.hid (show parseT (kindAt (s.extract 0 3) 6) (numI (d1 s)) (numI (d2 s)) (allD (d1 s)) (allD (d2 s)) = tri 0 0 2 by simp [parseT, hb])
            go_wp2_with fail
            all_goals (go_ret3; exact ⟨by rw [HP.out]; rfl, rfl⟩)
          | true =>
            by_cases hn : numI (d1 s) = 0
            · have HP := Lib.hid (show parseT (kindAt (s.extract 0 3) 6) (numI (d1 s)) (numI (d2 s)) (allD (d1 s)) (allD (d2 s)) = tri 0 0 3 by simp [parseT, HK.out, ha, hb, hn])
              have hn' : ((numI (d1 s)) == 0) = true := by rw [beq_iff_eq]; omega
              clear hn
              go_wp2_with fail
              all_goals (go_ret3; exact ⟨by rw [HP.out]; rfl, rfl⟩)
            · have hn' : ((numI (d1 s)) == 0) = false := by rw [beq_eq_false_iff_ne]; omega
              have HN := Lib.hid hn
              clear hn
              go_wp2_with fail
              refine (digits_any _ _ _ (by omega) (by omega) b1 b2).mono ?_
              rintro e w' ⟨rfl, rfl⟩
              by_cases hc : numI (d2 s) = 98 - (((kindAt (s.extract 0 3) 6 : Nat) : Int) * 10000000 + numI (d1 s)) * 100 % 97
              · have HP := Lib.hid (show parseT (kindAt (s.extract 0 3) 6) (numI (d1 s)) (numI (d2 s)) (allD (d1 s)) (allD (d2 s)) = tri ((kindAt (s.extract 0 3) 6 : Nat) : Int) (numI (d1 s)) 0 by simp [parseT, HK.out, HN.out, ha, hb, hc, chk])
                have hc' : ((numI (d2 s)) != 98 - (((kindAt (s.extract 0 3) 6 : Nat) : Int) * 10000000 + numI (d1 s)) * 100 % 97) = false := by rw [bne_eq_false_iff_eq]; exact hc
                clear hc
                go_wp2_with fail
                all_goals (go_ret3; exact ⟨by rw [HP.out]; rfl, rfl⟩)
              · have HP := Lib.hid (show parseT (kindAt (s.extract 0 3) 6) (numI (d1 s)) (numI (d2 s)) (allD (d1 s)) (allD (d2 s)) = tri 0 0 12 by simp [parseT, HK.out, HN.out, ha, hb, hc, chk])
                have hc' : ((numI (d2 s)) != 98 - (((kindAt (s.extract 0 3) 6 : Nat) : Int) * 10000000 + numI (d1 s)) * 100 % 97) = true := by rw [bne_iff_ne]; exact hc
                clear hc
                go_wp2_with fail
                all_goals (go_ret3; exact ⟨by rw [HP.out]; rfl, rfl⟩)
end Go.Proofs.YtjjcicopblgdmaaDoor
