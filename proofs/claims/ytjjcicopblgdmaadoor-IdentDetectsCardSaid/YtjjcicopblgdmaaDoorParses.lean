/- For every string the law IdentParses returns true, the table of prefixes being as the program's text lays it; no other condition. -/
import Derived.Test.YtjjcicopblgdmaaDoorRParse
import Derived.Test.YtjjcicopblgdmaaDoorCards
import Derived.Test.YtjjcicopblgdmaaDoorTie
import Derived.ProofKit
import Derived.OpenShut
import Derived.Deep.DeepHandedRow
import Derived.Lib.LaidTab
import Derived.Below
import Derived.Test.YtjjcicopblgdmaaDoorKit
namespace Go.Proofs.YtjjcicopblgdmaaDoor
open Go.ChangeShapes Go.WideShapes Go.ChangeAt Go.RowKit
open Go.ChangeMaps (setBlock shut_map_nil open_string shut_string keptBut_setBlock frozen?_setBlock heap_setBlock_same)

def parseX (k : Nat) (n m : Int) (a b : Bool) : Int × Int × Int :=
  if k = 0 ∨ a = false ∨ b = false then (0, 0, 2)
  else if n = 0 then (0, 0, 3)
  else if m ≠ chk k n then (0, 0, 12) else (k, n, 0)
theorem parseT_eq (k : Nat) (n m : Int) (a b : Bool) : parseT k n m a b = tri (parseX k n m a b).1 (parseX k n m a b).2.1 (parseX k n m a b).2.2 := by
  unfold parseT parseX; repeat (first | rfl | split)
def pX (s : ByteArray) : Int × Int × Int :=
  if s.size = 14 ∧ s.data[3]? = some 45 ∧ s.data[11]? = some 45 then parseX (parseK s) (numI (d1 s)) (numI (d2 s)) (allD (d1 s)) (allD (d2 s)) else (0, 0, 2)
def pA (s : ByteArray) : Int := (pX s).1
def pB (s : ByteArray) : Int := (pX s).2.1
def pC (s : ByteArray) : Int := (pX s).2.2

theorem at_byte (s : ByteArray) (i : Nat) (h : i < s.size) : (s.data[i]? = some 45) ↔ (s[i].toNat : Int) = 45 := by
  rw [Array.getElem?_eq_getElem (by exact h)]
  constructor
  · intro e; injection e with e; show ((s.data[i]).toNat : Int) = 45; rw [e]; rfl
  · intro e; congr 1; apply UInt8.toNat.inj; have : (s.data[i]).toNat = 45 := by have e' : ((s.data[i]).toNat : Int) = 45 := e; omega
    rw [this]; rfl

set_option maxHeartbeats 400000 in
theorem parse_short (s : ByteArray) (w : World) (h : (((s.size : Int)) != 14) = true) :
    Calls Tryd.prog 8 #[.string s] w fun e w' => e = .returned (.tuple #[.int .i64 0, .int .i64 0, .int .i64 2]) ∧ w = w' := by
  go_enter Tryd.func8, Tryd.ntmps8
  go_wp2
  go_ret3
  exact ⟨rfl, rfl⟩
set_option maxHeartbeats 400000 in
theorem parse_s3 (s : ByteArray) (w : World) (h14 : s.size ≤ 14) (h14' : 14 ≤ s.size) (h3 : ((s[3].toNat : Int) != 45) = true) :
    Calls Tryd.prog 8 #[.string s] w fun e w' => e = .returned (.tuple #[.int .i64 0, .int .i64 0, .int .i64 2]) ∧ w = w' := by
  have hq : ((s.size : Int) != 14) = false := by
    rw [bne_eq_false_iff_eq]; omega
  go_enter Tryd.func8, Tryd.ntmps8
  go_wp2
  go_ret3
  exact ⟨rfl, rfl⟩
set_option maxHeartbeats 400000 in
theorem parse_s11 (s : ByteArray) (w : World) (h14 : s.size ≤ 14) (h14' : 14 ≤ s.size) (h3 : ((s[3].toNat : Int) != 45) = false) (h11 : ((s[11].toNat : Int) != 45) = true) :
    Calls Tryd.prog 8 #[.string s] w fun e w' => e = .returned (.tuple #[.int .i64 0, .int .i64 0, .int .i64 2]) ∧ w = w' := by
  have hq : ((s.size : Int) != 14) = false := by
    rw [bne_eq_false_iff_eq]; omega
  go_enter Tryd.func8, Tryd.ntmps8
  go_wp2
  go_ret3
  exact ⟨rfl, rfl⟩
set_option maxHeartbeats 400000 in
theorem rparse_short (s : ByteArray) (w : World) (h : (((s.size : Int)) != 14) = true) :
    Calls Tryd.prog 9 #[.string s] w fun e w' => e = .returned (.tuple #[.int .i64 0, .int .i64 0, .int .i64 2]) ∧ w = w' := by
  go_enter Tryd.func9, Tryd.ntmps9
  go_wp2
  go_ret3
  exact ⟨rfl, rfl⟩
set_option maxHeartbeats 400000 in
theorem rparse_s3 (s : ByteArray) (w : World) (h14 : s.size ≤ 14) (h14' : 14 ≤ s.size) (h3 : ((s[3].toNat : Int) != 45) = true) :
    Calls Tryd.prog 9 #[.string s] w fun e w' => e = .returned (.tuple #[.int .i64 0, .int .i64 0, .int .i64 2]) ∧ w = w' := by
  have hq : ((s.size : Int) != 14) = false := by
    rw [bne_eq_false_iff_eq]; omega
  go_enter Tryd.func9, Tryd.ntmps9
  go_wp2
  go_ret3
  exact ⟨rfl, rfl⟩
set_option maxHeartbeats 400000 in
theorem rparse_s11 (s : ByteArray) (w : World) (h14 : s.size ≤ 14) (h14' : 14 ≤ s.size) (h3 : ((s[3].toNat : Int) != 45) = false) (h11 : ((s[11].toNat : Int) != 45) = true) :
    Calls Tryd.prog 9 #[.string s] w fun e w' => e = .returned (.tuple #[.int .i64 0, .int .i64 0, .int .i64 2]) ∧ w = w' := by
  have hq : ((s.size : Int) != 14) = false := by
    rw [bne_eq_false_iff_eq]; omega
  go_enter Tryd.func9, Tryd.ntmps9
  go_wp2
  go_ret3
  exact ⟨rfl, rfl⟩
theorem pX_bad (s : ByteArray) (h : ¬ (s.size = 14 ∧ s.data[3]? = some 45 ∧ s.data[11]? = some 45)) : pX s = (0, 0, 2) := by
  unfold pX; rw [if_neg h]
theorem parse_all (s : ByteArray) (w : World) (hp : Pres w) :
    Calls Tryd.prog 8 #[.string s] w fun e w' => e = .returned (.tuple #[.int .i64 (pA s), .int .i64 (pB s), .int .i64 (pC s)]) ∧ w = w' := by
  unfold pA pB pC
  by_cases h : s.size = 14
  · by_cases h3 : (s[3].toNat : Int) = 45
    · by_cases h11 : (s[11].toNat : Int) = 45
      · have e : pX s = parseX (parseK s) (numI (d1 s)) (numI (d2 s)) (allD (d1 s)) (allD (d2 s)) := by
          unfold pX; rw [if_pos ⟨h, (at_byte s 3 (by omega)).2 h3, (at_byte s 11 (by omega)).2 h11⟩]
        rw [e]
        have := parse_long s w hp (by omega) (by omega) (by rw [bne_eq_false_iff_eq]; exact h3) (by rw [bne_eq_false_iff_eq]; exact h11)
        rw [parseT_eq] at this
        exact this
      · rw [pX_bad s (fun x => h11 ((at_byte s 11 (by omega)).1 x.2.2))]
        exact parse_s11 s w (by omega) (by omega) (by rw [bne_eq_false_iff_eq]; exact h3) (by rw [bne_iff_ne]; exact h11)
    · rw [pX_bad s (fun x => h3 ((at_byte s 3 (by omega)).1 x.2.1))]
      exact parse_s3 s w (by omega) (by omega) (by rw [bne_iff_ne]; exact h3)
  · rw [pX_bad s (fun x => h x.1)]
    exact parse_short s w (by rw [bne_iff_ne]; omega)
theorem rparse_all (s : ByteArray) (w : World) :
    Calls Tryd.prog 9 #[.string s] w fun e w' => e = .returned (.tuple #[.int .i64 (pA s), .int .i64 (pB s), .int .i64 (pC s)]) ∧ ∃ n, w' = w.drewN n := by
  unfold pA pB pC
  by_cases h : s.size = 14
  · by_cases h3 : (s[3].toNat : Int) = 45
    · by_cases h11 : (s[11].toNat : Int) = 45
      · have e : pX s = parseX (parseK s) (numI (d1 s)) (numI (d2 s)) (allD (d1 s)) (allD (d2 s)) := by
          unfold pX; rw [if_pos ⟨h, (at_byte s 3 (by omega)).2 h3, (at_byte s 11 (by omega)).2 h11⟩]
        rw [e]
        have := rparse_long s w (by omega) (by omega) (by rw [bne_eq_false_iff_eq]; exact h3) (by rw [bne_eq_false_iff_eq]; exact h11)
        rw [parseT_eq] at this
        exact this
      · rw [pX_bad s (fun x => h11 ((at_byte s 11 (by omega)).1 x.2.2))]
        exact (rparse_s11 s w (by omega) (by omega) (by rw [bne_eq_false_iff_eq]; exact h3) (by rw [bne_iff_ne]; exact h11)).mono fun _ _ h => ⟨h.1, 0, h.2.symm⟩
    · rw [pX_bad s (fun x => h3 ((at_byte s 3 (by omega)).1 x.2.1))]
      exact (rparse_s3 s w (by omega) (by omega) (by rw [bne_iff_ne]; exact h3)).mono fun _ _ h => ⟨h.1, 0, h.2.symm⟩
  · rw [pX_bad s (fun x => h x.1)]
    exact (rparse_short s w (by rw [bne_iff_ne]; omega)).mono fun _ _ h => ⟨h.1, 0, h.2.symm⟩

theorem parses_walk (s : ByteArray) (w : World) (hp : Pres w) :
    Calls Tryd.prog 3 #[.string s] w fun e w' => e = .returned (.bool true) ∧ Below w.heap.size w w' := by
  have b1 : (pA s == pA s) = true := beq_self_eq_true _
  have b2 : (pB s == pB s) = true := beq_self_eq_true _
  have b3 : (pC s == pC s) = true := beq_self_eq_true _
  have HP := Lib.hid hp
  clear hp
  go_enter Tryd.func3, Tryd.ntmps3
  go_wp2_with fail
  refine (parse_all s _ HP.out).mono ?_
  rintro e w' ⟨rfl, rfl⟩
  go_wp2_with fail
  refine (rparse_all s _).mono ?_
  rintro e w' ⟨rfl, n, rfl⟩
  go_wp2_with fail
  go_ret
  exact ⟨rfl, below_drewN (Below.refl _ _) _⟩

namespace Parses
theorem own : ownKnob Tryd.prog.godebug = none := by kernel_rfl
theorem laidOut : laidOutB Tryd.prog = true := by kernel_rfl
theorem readable : ∀ t ∈ Tryd.f3.params.toList, Tryd.prog.readableRec t = true ∧ t < Tryd.prog.types.size := by
  intro t ht
  rw [Tryd.params3] at ht
  obtain rfl : t = 9 := by simpa using ht
  exact ⟨by kernel_rfl, of_decide_eq_true (by kernel_rfl)⟩
theorem gTab : Tryd.prog.globalNamed "examboard/ident.prefixes" = some 0 := by kernel_rfl
theorem gTabType : (Tryd.prog.globals[0]?).map (·.type) = some 34 := by kernel_rfl
theorem cells34 : Tryd.prog.cellsOf 34 = 6 := by kernel_rfl
theorem cells9 : Tryd.prog.cellsOf 9 = 1 := by kernel_rfl
theorem strs_at {H : Type} {enc : TypeId × Value → H} {P : Program} {w : World} {base : Nat} {sp : Nat → Bool} {held : Bool} {fuel : Nat} {t e : TypeId} {n : Nat} {cs : List Value} {zs : List (List UInt8)} {p : List MemPlace}
    (ht : P.underlying t = some (.array n e)) (he : P.underlying e = some .string) (hce : P.cellsOf e = 1) (hct : P.cellsOf t = n)
    (h : DataW.trod enc P w base sp held fuel t cs = some (.agg (zs.map fun z => .lit (.string z)), p)) (i : Nat) (z : List UInt8) (hz : zs[i]? = some z) (hi : i < n) : cs[i]? = some (.string ⟨z.toArray⟩) := by
  cases fuel with
  | zero => simp [DataW.trod] at h
  | succ fuel =>
    simp only [DataW.trod, ht, hce, hct, Nat.mul_one] at h
    split at h
    · rename_i hl
      obtain ⟨xs, hm, hx⟩ := Option.map_eq_some_iff.1 h
      have hxs : xs.map (·.1) = zs.map fun z => (DataW.lit (.string z) : DataW H) := by
        have := congrArg Prod.fst hx
        simpa using this
      obtain ⟨b, hb, hf⟩ := Lib.mapM_at hm i i (by simp [hi])
      obtain ⟨s, hc, rfl, _⟩ := DataW.trod_string he hf
      have h1 : cs[i]? = some (.string s) := by
        have := congrArg (·[0]?) hc
        simpa [List.getElem?_take, List.getElem?_drop] using this
      have h2 : (xs.map (·.1))[i]? = some (DataW.lit (.string s.data.toList) : DataW H) := by simp [hb]
      rw [hxs] at h2
      simp only [List.getElem?_map, hz, Option.map_some, Option.some.injEq, DataW.lit.injEq, Lit.string.injEq] at h2
      rw [h1, h2]
    · cases h
theorem pres_of_laid {rest : List (String × DataW Unit)} {W : World} (h : laidMet Tryd.prog (("examboard/ident.prefixes", Rows.laid_examboard_ident_prefixes) :: rest) W) : Pres W := by
  obtain ⟨ps, ⟨g', t', cs, fuel, p, q, hg', ht', hvar, hd, _, _⟩, _⟩ := h
  obtain rfl := Option.some.inj (gTab.symm.trans hg')
  obtain rfl := Option.some.inj (gTabType.symm.trans ht')
  have hat := strs_at (zs := [[73, 84, 77], [70, 82, 77], [67, 65, 78], [83, 69, 83], [82, 65, 84], [65, 83, 84]]) Tryd.underlying34 Tryd.underlying9 cells9 cells34 hd
  have hc : ∀ (i : Nat) (z : List UInt8), ([[73, 84, 77], [70, 82, 77], [67, 65, 78], [83, 69, 83], [82, 65, 84], [65, 83, 84]] : List (List UInt8))[i]? = some z → i < 6 → W.cell? ⟨0, i, none⟩ = some (.string ⟨z.toArray⟩) := by
    intro i z hz hi
    rw [World.var?_cell gTab hvar i, ← Array.getElem?_toList]
    exact hat i z hz hi
  exact ⟨hc 0 _ rfl (by omega), hc 1 _ rfl (by omega), hc 2 _ rfl (by omega), hc 3 _ rfl (by omega), hc 4 _ rfl (by omega), hc 5 _ rfl (by omega)⟩
theorem pres_of {W : World} (h : laidMetH Tryd.prog Rows.identParsesRow.laid W) : Pres W := pres_of_laid (rest := []) h
theorem contract (H : Type) (enc : TypeId × Value → H) (W : World) (base : Nat) (args : Array Value) (ds gs : List (DataW H)) (before : List MemPlace)
    (hval : ∀ (j : Nat) t v, Tryd.f3.params[j]? = some t → args[j]? = some v → Value.okWide Tryd.prog W .any base t v)
    (hW : DataW.Whole enc Tryd.prog Tryd.f3.params.toList Rows.identParsesSpec.vars false W args.toList ds gs before) (hL : laidMetH Tryd.prog Rows.identParsesRow.laid W) :
    Calls Tryd.prog 3 args W fun e W' => ∃ v, e = .returned v ∧ Rows.identParsesSpec.post enc Tryd.prog Tryd.f3 false true false false W args v W' := by
  have hW' := hW
  obtain ⟨p, q, hA0, hV, rfl, hfz, hnd⟩ := hW
  have hA : DataW.TrodAll enc Tryd.prog W 0 (fun _ => true) true Tryd.f3.params.toList args.toList ds p := hA0
  rw [Tryd.params3] at hA hval
  obtain ⟨v0, vs0, d0, ds0, p0, q0, hargs, rfl, rfl, h0, r0⟩ := trodAll_cons hA
  obtain ⟨rfl, rfl, rfl⟩ := trodAll_nil r0
  obtain rfl : args = #[v0] := by cases args; simp_all
  obtain ⟨rfl, rfl⟩ := trodVars_none hV
  obtain ⟨s, rfl, rfl, rfl, hs⟩ := open_string Tryd.underlying9 (hval 0 9 v0 rfl rfl) h0
  refine (parses_walk s W (pres_of hL)).mono fun e W' ⟨he, hb⟩ => ⟨_, he, ?_⟩
  exact law_post laidOut readable rfl rfl Tryd.underlying4 (ok_one (by kernel_rfl) rfl (okWide_bool_mk Tryd.underlying4 _)) ⟨rfl, rfl, rfl⟩ hW' hb

/-- A world for the witness: the settled one, the table holding what its initialiser lays. -/
noncomputable def laidWorld (os : Os) : World :=
  { World.holding Tryd.prog os ⟨#[], #[], []⟩ with heap := (World.holding Tryd.prog os ⟨#[], #[], []⟩).heap.modify 0 fun
      | .cells _ t frozen => .cells #[.string (preB 1), .string (preB 2), .string (preB 3), .string (preB 4), .string (preB 5), .string (preB 6)] t frozen
      | o => o }
theorem laid_met (os : Os) : laidMet Tryd.prog Rows.identParsesRow.laid ((laidWorld os).forCall (fun _ _ => 0) ⟨#[], #[.string ⟨#[]⟩], []⟩).memory :=
  laidMet_of_run' 8 (by kernel_rfl) (by kernel_rfl)
theorem reads (os : Os) {H : Type} (enc : TypeId × Value → H) : ∃ places, DataW.whole enc Tryd.prog ((laidWorld os).forCall (fun _ _ => 0) ⟨#[], #[.string ⟨#[]⟩], []⟩).memory Tryd.f3.params.toList Rows.identParsesSpec.vars false #[Value.string ⟨#[]⟩].toList 8 = some ([.lit (.string [])], [], places) :=
  ⟨[], by kernel_rfl⟩

set_option maxRecDepth 100000 in
theorem lifted (os : Os) (started : os.Started) (H : Type) (enc : TypeId × Value → H) (F : Stop.Interp) :
    ReturnsInHanded {} Tryd.checked os 3 .any ((OpenSpec.ofChange Rows.identParsesSpec).preRow enc Tryd.prog Tryd.f3 Rows.identParsesRow.domain false Rows.identParsesRow.laid) (((OpenSpec.ofChange Rows.identParsesSpec).at F).post enc Tryd.prog Tryd.f3 false true false false) := by
  obtain ⟨places, hx⟩ := reads os enc
  refine returnsInHanded_of_row (C := Tryd.checked) (s := OpenSpec.ofChange Rows.identParsesSpec) own started (by kernel_rfl) Tryd.func3
    (witness_row_at (enc := enc) (C := Tryd.checked) false (laidWorld os) #[.string ⟨#[]⟩] rfl (by kernel_rfl) (by kernel_rfl) (by kernel_rfl)
      (OpenSpec.preRow_of_cond 8 hx (by kernel_rfl) (fun k hk => by cases hk) (by kernel_rfl) (laid_met os))) ?_
  intro W base args ds gs before hval hW _ _ _ hL _ _
  exact contract H enc W base args ds gs before hval hW hL
theorem said : Rows.IdentParsesSaid :=
  OpenClaim.holds_of_cond 3 Tryd.f3 rfl rfl rfl rfl rfl rfl rfl ⟨rfl, rfl, rfl, rfl, rfl⟩ rfl rfl rfl rfl rfl (by kernel_rfl) Tryd.func3 (by kernel_rfl)
    (of_decide_eq_true (by kernel_rfl)) (by unfold Func.isWrapper; first | (rw [if_pos (by decide +kernel)]; kernel_rfl) | (rw [if_neg (by decide +kernel)]; exact ⟨rfl, rfl⟩))
    (fun os started H enc _ F => by rw [OpenClaim.pre_eq_preRow]; exact lifted os started H enc F)
theorem plain (f : FuncId) (fn : Func) (hf : Tryd.pinned.checked.prog.funcNamed "examboard/examboardlaw09.IdentParses" = some f) (hfn : Tryd.pinned.checked.prog.funcs[f]? = some fn) :
    false = Tryd.pinned.checked.prog.looks [] ∧ ∀ (j : Nat) t, fn.params[j]? = some t → Tryd.pinned.checked.prog.wantsStandIn t = false := by
  obtain rfl : f = 3 := Option.some.inj ((show Tryd.prog.funcNamed "examboard/examboardlaw09.IdentParses" = some 3 by kernel_rfl).symm.trans hf) |>.symm
  obtain rfl : fn = Tryd.f3 := (Option.some.inj (Tryd.func3.symm.trans hfn)).symm
  refine ⟨by kernel_rfl, fun j t ht => ?_⟩
  rw [Tryd.params3] at ht
  obtain rfl : t = 9 := by simpa using Array.mem_of_getElem? ht
  exact (show Tryd.prog.wantsStandIn 9 = false by kernel_rfl)
/-- The card. -/
theorem card : Rows.IdentParsesCardSaid :=
  Claim7.holds_tied_plain_at .later [] _ _ _ _ said (fun _ h => by cases h) (by kernel_rfl) (fun _ h => by cases h) identParses_row_tie rfl ⟨rfl, rfl⟩ (by kernel_rfl) rfl plain (by kernel_rfl)
#print axioms card
end Parses
end Go.Proofs.YtjjcicopblgdmaaDoor
