/- awake of chapter 23: the chapter's examples. -/
import Derived.Test.YtompckomogmhiaaDoorInG
import Derived.Test.YtompckomogmhiaaDoorInE
import Derived.Test.YtompckomogmhiaaDoorInD
import Derived.Test.YtompckomogmhiaaDoorPrm
import Derived.Test.YtompckomogmhiaaDoorPrr
namespace Go.Proofs.YtompckomogmhiaaDoor
open Go.RowKit
set_option linter.unusedVariables false
set_option maxRecDepth 100000

theorem lst_lit2 {α : Type} {R : World → Value → α → Prop} {d : α} {w : World} {g t : Nat} {u v : Value} {x y : α} (hr : Row w g t [u, v]) (h1 : R w u x) (h2 : R w v y) : LstOf R d w (.slice (some ⟨g, 0, none⟩) 2 2) [x, y] := by
  refine ⟨_, _, [u, v], rfl, Nat.le_refl _, by unfold maxLen; simp, hr.sl, fun i z hv => ?_⟩
  match i with
  | 0 => simp only [List.getElem?_cons_zero, Option.some.injEq] at hv; subst hv; exact h1
  | 1 => simp only [List.getElem?_cons_succ, List.getElem?_cons_zero, Option.some.injEq] at hv; subst hv; exact h2
  | i + 2 => simp at hv
theorem lst_lit1 {α : Type} {R : World → Value → α → Prop} {d : α} {w : World} {g t : Nat} {u : Value} {x : α} (hr : Row w g t [u]) (h1 : R w u x) : LstOf R d w (.slice (some ⟨g, 0, none⟩) 1 1) [x] := by
  refine ⟨_, _, [u], rfl, Nat.le_refl _, by unfold maxLen; simp, hr.sl, fun i z hv => ?_⟩
  match i with
  | 0 => simp only [List.getElem?_cons_zero, Option.some.injEq] at hv; subst hv; exact h1
  | i + 1 => simp at hv
theorem lst_nil {α : Type} {R : World → Value → α → Prop} {d : α} {w : World} : LstOf R d w (.slice none 0 0) [] := ⟨none, 0, [], rfl, by simp, by unfold maxLen; simp, Sl.nil, fun i u h => by simp at h⟩
theorem lam_five {Z : Nat} (hZ : IsLam Z) : ∃ T, 0 < T ∧ Z = 500 * T ∧ Z / 500 = T := by
  obtain ⟨T, hT⟩ := hZ.2.1 500 (by omega) (by omega)
  refine ⟨T, ?_, hT, by omega⟩
  have := hZ.1
  omega
theorem aw_inF {Z T : Nat} (hT : Z / 500 = T) : inF Z [[500, 500], [300, 700]] 2 0 = 80000 * (T : Int) ∧ inF Z [[500, 500], [400, 600]] 2 0 = 20000 * (T : Int) := by
  have hb : catsOf [[500, 500], [300, 700]] = 2 := by decide +kernel
  have ha : catsOf [[500, 500], [400, 600]] = 2 := by decide +kernel
  constructor
  · unfold inF
    rw [hb]
    have e0 : inT Z [[500, 500], [300, 700]] 2 0 0 = 40000 * (T : Int) := by
      show (300 - 500 : Int) * (300 - 500) * ((Z / 500 : Nat) : Int) = _
      rw [hT]; rfl
    have e1 : inT Z [[500, 500], [300, 700]] 2 0 1 = 40000 * (T : Int) := by
      show (700 - 500 : Int) * (700 - 500) * ((Z / 500 : Nat) : Int) = _
      rw [hT]; rfl
    show (0 : Int) + inT Z [[500, 500], [300, 700]] 2 0 0 + inT Z [[500, 500], [300, 700]] 2 0 1 = _
    rw [e0, e1]; omega
  · unfold inF
    rw [ha]
    have e0 : inT Z [[500, 500], [400, 600]] 2 0 0 = 10000 * (T : Int) := by
      show (400 - 500 : Int) * (400 - 500) * ((Z / 500 : Nat) : Int) = _
      rw [hT]; rfl
    have e1 : inT Z [[500, 500], [400, 600]] 2 0 1 = 10000 * (T : Int) := by
      show (600 - 500 : Int) * (600 - 500) * ((Z / 500 : Nat) : Int) = _
      rw [hT]; rfl
    show (0 : Int) + inT Z [[500, 500], [400, 600]] 2 0 0 + inT Z [[500, 500], [400, 600]] 2 0 1 = _
    rw [e0, e1]; omega
theorem aw_D (Z : Nat) : ifD Z [0, 100] 0 = 10000000 * Z := rfl
theorem aw_b {Z : Nat} (hZ : IsLam Z) : redP (inF Z [[500, 500], [300, 700]] ([0, 100] : List Int).length 0) (ifD Z [0, 100] 0) = 1 ∧ redQ (inF Z [[500, 500], [300, 700]] ([0, 100] : List Int).length 0) (ifD Z [0, 100] 0) = 62500 := by
  obtain ⟨T, h0, hT, hd⟩ := lam_five hZ
  have := red_cross (p := inF Z [[500, 500], [300, 700]] 2 0) (p' := 1) (q := ifD Z [0, 100] 0) (q' := 62500) (by rw [aw_D]; omega) (by omega) (by rw [aw_D, (aw_inF hd).1, hT]; omega)
  rw [show redP 1 62500 = 1 by decide +kernel, show redQ 1 62500 = 62500 by decide +kernel] at this
  exact this
theorem aw_t {Z : Nat} (hZ : IsLam Z) : redP (sumF Z [[[500, 500], [300, 700]], [[500, 500], [300, 700]]] ([0, 100] : List Int).length 0) (ifD Z [0, 100] 0) = 1 ∧ redQ (sumF Z [[[500, 500], [300, 700]], [[500, 500], [300, 700]]] ([0, 100] : List Int).length 0) (ifD Z [0, 100] 0) = 31250 := by
  obtain ⟨T, h0, hT, hd⟩ := lam_five hZ
  have hs : sumF Z [[[500, 500], [300, 700]], [[500, 500], [300, 700]]] 2 0 = 160000 * (T : Int) := by
    show (0 : Int) + inF Z [[500, 500], [300, 700]] 2 0 + inF Z [[500, 500], [300, 700]] 2 0 = _
    rw [(aw_inF hd).1]; omega
  have := red_cross (p := sumF Z [[[500, 500], [300, 700]], [[500, 500], [300, 700]]] 2 0) (p' := 1) (q := ifD Z [0, 100] 0) (q' := 31250) (by rw [aw_D]; omega) (by omega) (by rw [aw_D, hs, hT]; omega)
  rw [show redP 1 31250 = 1 by decide +kernel, show redQ 1 31250 = 31250 by decide +kernel] at this
  exact this
theorem aw_c {Z : Nat} (hZ : IsLam Z) : (curL Z [0, 100] [[[500, 500], [300, 700]], [[500, 500], [300, 700]]]).getD 0 (0, 1) = (1, 31250) := by
  rw [curL_get Z _ _ (by simp), (aw_t hZ).1, (aw_t hZ).2]
theorem aw_best {Z : Nat} (hZ : IsLam Z) : ((topI (tsF Z [[[500, 500], [400, 600]], [[500, 500], [300, 700]]] ([0, 100] : List Int).length 0) ([[[500, 500], [400, 600]], [[500, 500], [300, 700]]] : List Mdl).length : Nat) : Int) = 1 := by
  obtain ⟨T, h0, hT, hd⟩ := lam_five hZ
  show ((topI (tsF Z [[[500, 500], [400, 600]], [[500, 500], [300, 700]]] 2 0) 2 : Nat) : Int) = 1
  have e0 : tsF Z [[[500, 500], [400, 600]], [[500, 500], [300, 700]]] 2 0 0 = 20000 * (T : Int) := (aw_inF hd).2
  have e1 : tsF Z [[[500, 500], [400, 600]], [[500, 500], [300, 700]]] 2 0 1 = 80000 * (T : Int) := (aw_inF hd).1
  have t1 : topI (tsF Z [[[500, 500], [400, 600]], [[500, 500], [300, 700]]] 2 0) 1 = 0 := by
    unfold topI
    have : topI (tsF Z [[[500, 500], [400, 600]], [[500, 500], [300, 700]]] 2 0) 0 = 0 := rfl
    rw [this]; split <;> rfl
  unfold topI
  rw [t1, e0, e1, if_pos (by omega)]
  rfl
theorem aw_z {Z : Nat} (hZ : IsLam Z) : redP (inF Z [[1, 999]] ([0] : List Int).length 0) (ifD Z [0] 0) = 0 ∧ redQ (inF Z [[1, 999]] ([0] : List Int).length 0) (ifD Z [0] 0) = 1 := by
  rw [inF_one (by decide +kernel), show ifD Z [0] 0 = 1 from rfl]
  exact ⟨by decide +kernel, by decide +kernel⟩

set_option maxHeartbeats 32000000 in
theorem awake_Z (Z : Nat) (w : World) (hZ : IsLam Z) (htab : Pow10 w) :
    Calls Tryd.prog 8 #[] w fun e w' => e = .returned (.bool true) ∧ Below w.heap.size w w' := by
  go_enter Tryd.func8, Tryd.ntmps8
  have BB : Below w.heap.size w w := Below.refl _ _
  obtain ⟨gp, hgp⟩ : ∃ g, w.heap.size = g := ⟨_, rfl⟩
  have hrp : Row (((((((((((w.alloc (.cells #[.int .i64 0, .int .i64 100] 3)).alloc (.cells #[.int .i64 1, .int .i64 1] 3)).alloc (.cells #[.slice (some ⟨gp, 0, none⟩) 2 2, .slice (some ⟨gp + 1, 0, none⟩) 2 2] 24)).alloc (.cells #[.int .i64 500, .int .i64 500] 3)).alloc (.cells #[.int .i64 400, .int .i64 600] 3)).alloc (.cells #[.slice (some ⟨gp + 1 + 1 + 1, 0, none⟩) 2 2, .slice (some ⟨gp + 1 + 1 + 1 + 1, 0, none⟩) 2 2] 22)).alloc (.cells #[.slice (some ⟨gp + 1 + 1 + 1 + 1 + 1, 0, none⟩) 2 2] 40)).alloc (.cells #[.int .i64 500, .int .i64 500] 3)).alloc (.cells #[.int .i64 300, .int .i64 700] 3)).alloc (.cells #[.slice (some ⟨gp + 1 + 1 + 1 + 1 + 1 + 1 + 1, 0, none⟩) 2 2, .slice (some ⟨gp + 1 + 1 + 1 + 1 + 1 + 1 + 1 + 1, 0, none⟩) 2 2] 22)).alloc (.cells #[.slice (some ⟨gp + 1 + 1 + 1 + 1 + 1 + 1 + 1 + 1 + 1, 0, none⟩) 2 2] 40)) (gp) 3 [.int .i64 0, .int .i64 100] := Row.alloc (Row.alloc (Row.alloc (Row.alloc (Row.alloc (Row.alloc (Row.alloc (Row.alloc (Row.alloc (Row.alloc (row_at (w := w) (g := gp) (by simp [hgp])) (.cells #[.int .i64 1, .int .i64 1] 3)) (.cells #[.slice (some ⟨gp, 0, none⟩) 2 2, .slice (some ⟨gp + 1, 0, none⟩) 2 2] 24)) (.cells #[.int .i64 500, .int .i64 500] 3)) (.cells #[.int .i64 400, .int .i64 600] 3)) (.cells #[.slice (some ⟨gp + 1 + 1 + 1, 0, none⟩) 2 2, .slice (some ⟨gp + 1 + 1 + 1 + 1, 0, none⟩) 2 2] 22)) (.cells #[.slice (some ⟨gp + 1 + 1 + 1 + 1 + 1, 0, none⟩) 2 2] 40)) (.cells #[.int .i64 500, .int .i64 500] 3)) (.cells #[.int .i64 300, .int .i64 700] 3)) (.cells #[.slice (some ⟨gp + 1 + 1 + 1 + 1 + 1 + 1 + 1, 0, none⟩) 2 2, .slice (some ⟨gp + 1 + 1 + 1 + 1 + 1 + 1 + 1 + 1, 0, none⟩) 2 2] 22)) (.cells #[.slice (some ⟨gp + 1 + 1 + 1 + 1 + 1 + 1 + 1 + 1 + 1, 0, none⟩) 2 2] 40)
  have hrr : Row (((((((((((w.alloc (.cells #[.int .i64 0, .int .i64 100] 3)).alloc (.cells #[.int .i64 1, .int .i64 1] 3)).alloc (.cells #[.slice (some ⟨gp, 0, none⟩) 2 2, .slice (some ⟨gp + 1, 0, none⟩) 2 2] 24)).alloc (.cells #[.int .i64 500, .int .i64 500] 3)).alloc (.cells #[.int .i64 400, .int .i64 600] 3)).alloc (.cells #[.slice (some ⟨gp + 1 + 1 + 1, 0, none⟩) 2 2, .slice (some ⟨gp + 1 + 1 + 1 + 1, 0, none⟩) 2 2] 22)).alloc (.cells #[.slice (some ⟨gp + 1 + 1 + 1 + 1 + 1, 0, none⟩) 2 2] 40)).alloc (.cells #[.int .i64 500, .int .i64 500] 3)).alloc (.cells #[.int .i64 300, .int .i64 700] 3)).alloc (.cells #[.slice (some ⟨gp + 1 + 1 + 1 + 1 + 1 + 1 + 1, 0, none⟩) 2 2, .slice (some ⟨gp + 1 + 1 + 1 + 1 + 1 + 1 + 1 + 1, 0, none⟩) 2 2] 22)).alloc (.cells #[.slice (some ⟨gp + 1 + 1 + 1 + 1 + 1 + 1 + 1 + 1 + 1, 0, none⟩) 2 2] 40)) (gp + 1) 3 [.int .i64 1, .int .i64 1] := Row.alloc (Row.alloc (Row.alloc (Row.alloc (Row.alloc (Row.alloc (Row.alloc (Row.alloc (Row.alloc (row_at (w := (w.alloc (.cells #[.int .i64 0, .int .i64 100] 3))) (g := gp + 1) (by simp [hgp])) (.cells #[.slice (some ⟨gp, 0, none⟩) 2 2, .slice (some ⟨gp + 1, 0, none⟩) 2 2] 24)) (.cells #[.int .i64 500, .int .i64 500] 3)) (.cells #[.int .i64 400, .int .i64 600] 3)) (.cells #[.slice (some ⟨gp + 1 + 1 + 1, 0, none⟩) 2 2, .slice (some ⟨gp + 1 + 1 + 1 + 1, 0, none⟩) 2 2] 22)) (.cells #[.slice (some ⟨gp + 1 + 1 + 1 + 1 + 1, 0, none⟩) 2 2] 40)) (.cells #[.int .i64 500, .int .i64 500] 3)) (.cells #[.int .i64 300, .int .i64 700] 3)) (.cells #[.slice (some ⟨gp + 1 + 1 + 1 + 1 + 1 + 1 + 1, 0, none⟩) 2 2, .slice (some ⟨gp + 1 + 1 + 1 + 1 + 1 + 1 + 1 + 1, 0, none⟩) 2 2] 22)) (.cells #[.slice (some ⟨gp + 1 + 1 + 1 + 1 + 1 + 1 + 1 + 1 + 1, 0, none⟩) 2 2] 40)
  have hrg : Row (((((((((((w.alloc (.cells #[.int .i64 0, .int .i64 100] 3)).alloc (.cells #[.int .i64 1, .int .i64 1] 3)).alloc (.cells #[.slice (some ⟨gp, 0, none⟩) 2 2, .slice (some ⟨gp + 1, 0, none⟩) 2 2] 24)).alloc (.cells #[.int .i64 500, .int .i64 500] 3)).alloc (.cells #[.int .i64 400, .int .i64 600] 3)).alloc (.cells #[.slice (some ⟨gp + 1 + 1 + 1, 0, none⟩) 2 2, .slice (some ⟨gp + 1 + 1 + 1 + 1, 0, none⟩) 2 2] 22)).alloc (.cells #[.slice (some ⟨gp + 1 + 1 + 1 + 1 + 1, 0, none⟩) 2 2] 40)).alloc (.cells #[.int .i64 500, .int .i64 500] 3)).alloc (.cells #[.int .i64 300, .int .i64 700] 3)).alloc (.cells #[.slice (some ⟨gp + 1 + 1 + 1 + 1 + 1 + 1 + 1, 0, none⟩) 2 2, .slice (some ⟨gp + 1 + 1 + 1 + 1 + 1 + 1 + 1 + 1, 0, none⟩) 2 2] 22)).alloc (.cells #[.slice (some ⟨gp + 1 + 1 + 1 + 1 + 1 + 1 + 1 + 1 + 1, 0, none⟩) 2 2] 40)) (gp + 1 + 1) 24 [.slice (some ⟨gp, 0, none⟩) 2 2, .slice (some ⟨gp + 1, 0, none⟩) 2 2] := Row.alloc (Row.alloc (Row.alloc (Row.alloc (Row.alloc (Row.alloc (Row.alloc (Row.alloc (row_at (w := ((w.alloc (.cells #[.int .i64 0, .int .i64 100] 3)).alloc (.cells #[.int .i64 1, .int .i64 1] 3))) (g := gp + 1 + 1) (by simp [hgp])) (.cells #[.int .i64 500, .int .i64 500] 3)) (.cells #[.int .i64 400, .int .i64 600] 3)) (.cells #[.slice (some ⟨gp + 1 + 1 + 1, 0, none⟩) 2 2, .slice (some ⟨gp + 1 + 1 + 1 + 1, 0, none⟩) 2 2] 22)) (.cells #[.slice (some ⟨gp + 1 + 1 + 1 + 1 + 1, 0, none⟩) 2 2] 40)) (.cells #[.int .i64 500, .int .i64 500] 3)) (.cells #[.int .i64 300, .int .i64 700] 3)) (.cells #[.slice (some ⟨gp + 1 + 1 + 1 + 1 + 1 + 1 + 1, 0, none⟩) 2 2, .slice (some ⟨gp + 1 + 1 + 1 + 1 + 1 + 1 + 1 + 1, 0, none⟩) 2 2] 22)) (.cells #[.slice (some ⟨gp + 1 + 1 + 1 + 1 + 1 + 1 + 1 + 1 + 1, 0, none⟩) 2 2] 40)
  have hra0 : Row (((((((((((w.alloc (.cells #[.int .i64 0, .int .i64 100] 3)).alloc (.cells #[.int .i64 1, .int .i64 1] 3)).alloc (.cells #[.slice (some ⟨gp, 0, none⟩) 2 2, .slice (some ⟨gp + 1, 0, none⟩) 2 2] 24)).alloc (.cells #[.int .i64 500, .int .i64 500] 3)).alloc (.cells #[.int .i64 400, .int .i64 600] 3)).alloc (.cells #[.slice (some ⟨gp + 1 + 1 + 1, 0, none⟩) 2 2, .slice (some ⟨gp + 1 + 1 + 1 + 1, 0, none⟩) 2 2] 22)).alloc (.cells #[.slice (some ⟨gp + 1 + 1 + 1 + 1 + 1, 0, none⟩) 2 2] 40)).alloc (.cells #[.int .i64 500, .int .i64 500] 3)).alloc (.cells #[.int .i64 300, .int .i64 700] 3)).alloc (.cells #[.slice (some ⟨gp + 1 + 1 + 1 + 1 + 1 + 1 + 1, 0, none⟩) 2 2, .slice (some ⟨gp + 1 + 1 + 1 + 1 + 1 + 1 + 1 + 1, 0, none⟩) 2 2] 22)).alloc (.cells #[.slice (some ⟨gp + 1 + 1 + 1 + 1 + 1 + 1 + 1 + 1 + 1, 0, none⟩) 2 2] 40)) (gp + 1 + 1 + 1) 3 [.int .i64 500, .int .i64 500] := Row.alloc (Row.alloc (Row.alloc (Row.alloc (Row.alloc (Row.alloc (Row.alloc (row_at (w := (((w.alloc (.cells #[.int .i64 0, .int .i64 100] 3)).alloc (.cells #[.int .i64 1, .int .i64 1] 3)).alloc (.cells #[.slice (some ⟨gp, 0, none⟩) 2 2, .slice (some ⟨gp + 1, 0, none⟩) 2 2] 24))) (g := gp + 1 + 1 + 1) (by simp [hgp])) (.cells #[.int .i64 400, .int .i64 600] 3)) (.cells #[.slice (some ⟨gp + 1 + 1 + 1, 0, none⟩) 2 2, .slice (some ⟨gp + 1 + 1 + 1 + 1, 0, none⟩) 2 2] 22)) (.cells #[.slice (some ⟨gp + 1 + 1 + 1 + 1 + 1, 0, none⟩) 2 2] 40)) (.cells #[.int .i64 500, .int .i64 500] 3)) (.cells #[.int .i64 300, .int .i64 700] 3)) (.cells #[.slice (some ⟨gp + 1 + 1 + 1 + 1 + 1 + 1 + 1, 0, none⟩) 2 2, .slice (some ⟨gp + 1 + 1 + 1 + 1 + 1 + 1 + 1 + 1, 0, none⟩) 2 2] 22)) (.cells #[.slice (some ⟨gp + 1 + 1 + 1 + 1 + 1 + 1 + 1 + 1 + 1, 0, none⟩) 2 2] 40)
  have hra1 : Row (((((((((((w.alloc (.cells #[.int .i64 0, .int .i64 100] 3)).alloc (.cells #[.int .i64 1, .int .i64 1] 3)).alloc (.cells #[.slice (some ⟨gp, 0, none⟩) 2 2, .slice (some ⟨gp + 1, 0, none⟩) 2 2] 24)).alloc (.cells #[.int .i64 500, .int .i64 500] 3)).alloc (.cells #[.int .i64 400, .int .i64 600] 3)).alloc (.cells #[.slice (some ⟨gp + 1 + 1 + 1, 0, none⟩) 2 2, .slice (some ⟨gp + 1 + 1 + 1 + 1, 0, none⟩) 2 2] 22)).alloc (.cells #[.slice (some ⟨gp + 1 + 1 + 1 + 1 + 1, 0, none⟩) 2 2] 40)).alloc (.cells #[.int .i64 500, .int .i64 500] 3)).alloc (.cells #[.int .i64 300, .int .i64 700] 3)).alloc (.cells #[.slice (some ⟨gp + 1 + 1 + 1 + 1 + 1 + 1 + 1, 0, none⟩) 2 2, .slice (some ⟨gp + 1 + 1 + 1 + 1 + 1 + 1 + 1 + 1, 0, none⟩) 2 2] 22)).alloc (.cells #[.slice (some ⟨gp + 1 + 1 + 1 + 1 + 1 + 1 + 1 + 1 + 1, 0, none⟩) 2 2] 40)) (gp + 1 + 1 + 1 + 1) 3 [.int .i64 400, .int .i64 600] := Row.alloc (Row.alloc (Row.alloc (Row.alloc (Row.alloc (Row.alloc (row_at (w := ((((w.alloc (.cells #[.int .i64 0, .int .i64 100] 3)).alloc (.cells #[.int .i64 1, .int .i64 1] 3)).alloc (.cells #[.slice (some ⟨gp, 0, none⟩) 2 2, .slice (some ⟨gp + 1, 0, none⟩) 2 2] 24)).alloc (.cells #[.int .i64 500, .int .i64 500] 3))) (g := gp + 1 + 1 + 1 + 1) (by simp [hgp])) (.cells #[.slice (some ⟨gp + 1 + 1 + 1, 0, none⟩) 2 2, .slice (some ⟨gp + 1 + 1 + 1 + 1, 0, none⟩) 2 2] 22)) (.cells #[.slice (some ⟨gp + 1 + 1 + 1 + 1 + 1, 0, none⟩) 2 2] 40)) (.cells #[.int .i64 500, .int .i64 500] 3)) (.cells #[.int .i64 300, .int .i64 700] 3)) (.cells #[.slice (some ⟨gp + 1 + 1 + 1 + 1 + 1 + 1 + 1, 0, none⟩) 2 2, .slice (some ⟨gp + 1 + 1 + 1 + 1 + 1 + 1 + 1 + 1, 0, none⟩) 2 2] 22)) (.cells #[.slice (some ⟨gp + 1 + 1 + 1 + 1 + 1 + 1 + 1 + 1 + 1, 0, none⟩) 2 2] 40)
  have hra2 : Row (((((((((((w.alloc (.cells #[.int .i64 0, .int .i64 100] 3)).alloc (.cells #[.int .i64 1, .int .i64 1] 3)).alloc (.cells #[.slice (some ⟨gp, 0, none⟩) 2 2, .slice (some ⟨gp + 1, 0, none⟩) 2 2] 24)).alloc (.cells #[.int .i64 500, .int .i64 500] 3)).alloc (.cells #[.int .i64 400, .int .i64 600] 3)).alloc (.cells #[.slice (some ⟨gp + 1 + 1 + 1, 0, none⟩) 2 2, .slice (some ⟨gp + 1 + 1 + 1 + 1, 0, none⟩) 2 2] 22)).alloc (.cells #[.slice (some ⟨gp + 1 + 1 + 1 + 1 + 1, 0, none⟩) 2 2] 40)).alloc (.cells #[.int .i64 500, .int .i64 500] 3)).alloc (.cells #[.int .i64 300, .int .i64 700] 3)).alloc (.cells #[.slice (some ⟨gp + 1 + 1 + 1 + 1 + 1 + 1 + 1, 0, none⟩) 2 2, .slice (some ⟨gp + 1 + 1 + 1 + 1 + 1 + 1 + 1 + 1, 0, none⟩) 2 2] 22)).alloc (.cells #[.slice (some ⟨gp + 1 + 1 + 1 + 1 + 1 + 1 + 1 + 1 + 1, 0, none⟩) 2 2] 40)) (gp + 1 + 1 + 1 + 1 + 1) 22 [.slice (some ⟨gp + 1 + 1 + 1, 0, none⟩) 2 2, .slice (some ⟨gp + 1 + 1 + 1 + 1, 0, none⟩) 2 2] := Row.alloc (Row.alloc (Row.alloc (Row.alloc (Row.alloc (row_at (w := (((((w.alloc (.cells #[.int .i64 0, .int .i64 100] 3)).alloc (.cells #[.int .i64 1, .int .i64 1] 3)).alloc (.cells #[.slice (some ⟨gp, 0, none⟩) 2 2, .slice (some ⟨gp + 1, 0, none⟩) 2 2] 24)).alloc (.cells #[.int .i64 500, .int .i64 500] 3)).alloc (.cells #[.int .i64 400, .int .i64 600] 3))) (g := gp + 1 + 1 + 1 + 1 + 1) (by simp [hgp])) (.cells #[.slice (some ⟨gp + 1 + 1 + 1 + 1 + 1, 0, none⟩) 2 2] 40)) (.cells #[.int .i64 500, .int .i64 500] 3)) (.cells #[.int .i64 300, .int .i64 700] 3)) (.cells #[.slice (some ⟨gp + 1 + 1 + 1 + 1 + 1 + 1 + 1, 0, none⟩) 2 2, .slice (some ⟨gp + 1 + 1 + 1 + 1 + 1 + 1 + 1 + 1, 0, none⟩) 2 2] 22)) (.cells #[.slice (some ⟨gp + 1 + 1 + 1 + 1 + 1 + 1 + 1 + 1 + 1, 0, none⟩) 2 2] 40)
  have hra : Row (((((((((((w.alloc (.cells #[.int .i64 0, .int .i64 100] 3)).alloc (.cells #[.int .i64 1, .int .i64 1] 3)).alloc (.cells #[.slice (some ⟨gp, 0, none⟩) 2 2, .slice (some ⟨gp + 1, 0, none⟩) 2 2] 24)).alloc (.cells #[.int .i64 500, .int .i64 500] 3)).alloc (.cells #[.int .i64 400, .int .i64 600] 3)).alloc (.cells #[.slice (some ⟨gp + 1 + 1 + 1, 0, none⟩) 2 2, .slice (some ⟨gp + 1 + 1 + 1 + 1, 0, none⟩) 2 2] 22)).alloc (.cells #[.slice (some ⟨gp + 1 + 1 + 1 + 1 + 1, 0, none⟩) 2 2] 40)).alloc (.cells #[.int .i64 500, .int .i64 500] 3)).alloc (.cells #[.int .i64 300, .int .i64 700] 3)).alloc (.cells #[.slice (some ⟨gp + 1 + 1 + 1 + 1 + 1 + 1 + 1, 0, none⟩) 2 2, .slice (some ⟨gp + 1 + 1 + 1 + 1 + 1 + 1 + 1 + 1, 0, none⟩) 2 2] 22)).alloc (.cells #[.slice (some ⟨gp + 1 + 1 + 1 + 1 + 1 + 1 + 1 + 1 + 1, 0, none⟩) 2 2] 40)) (gp + 1 + 1 + 1 + 1 + 1 + 1) 40 [.slice (some ⟨gp + 1 + 1 + 1 + 1 + 1, 0, none⟩) 2 2] := Row.alloc (Row.alloc (Row.alloc (Row.alloc (row_at (w := ((((((w.alloc (.cells #[.int .i64 0, .int .i64 100] 3)).alloc (.cells #[.int .i64 1, .int .i64 1] 3)).alloc (.cells #[.slice (some ⟨gp, 0, none⟩) 2 2, .slice (some ⟨gp + 1, 0, none⟩) 2 2] 24)).alloc (.cells #[.int .i64 500, .int .i64 500] 3)).alloc (.cells #[.int .i64 400, .int .i64 600] 3)).alloc (.cells #[.slice (some ⟨gp + 1 + 1 + 1, 0, none⟩) 2 2, .slice (some ⟨gp + 1 + 1 + 1 + 1, 0, none⟩) 2 2] 22))) (g := gp + 1 + 1 + 1 + 1 + 1 + 1) (by simp [hgp])) (.cells #[.int .i64 500, .int .i64 500] 3)) (.cells #[.int .i64 300, .int .i64 700] 3)) (.cells #[.slice (some ⟨gp + 1 + 1 + 1 + 1 + 1 + 1 + 1, 0, none⟩) 2 2, .slice (some ⟨gp + 1 + 1 + 1 + 1 + 1 + 1 + 1 + 1, 0, none⟩) 2 2] 22)) (.cells #[.slice (some ⟨gp + 1 + 1 + 1 + 1 + 1 + 1 + 1 + 1 + 1, 0, none⟩) 2 2] 40)
  have hrb0 : Row (((((((((((w.alloc (.cells #[.int .i64 0, .int .i64 100] 3)).alloc (.cells #[.int .i64 1, .int .i64 1] 3)).alloc (.cells #[.slice (some ⟨gp, 0, none⟩) 2 2, .slice (some ⟨gp + 1, 0, none⟩) 2 2] 24)).alloc (.cells #[.int .i64 500, .int .i64 500] 3)).alloc (.cells #[.int .i64 400, .int .i64 600] 3)).alloc (.cells #[.slice (some ⟨gp + 1 + 1 + 1, 0, none⟩) 2 2, .slice (some ⟨gp + 1 + 1 + 1 + 1, 0, none⟩) 2 2] 22)).alloc (.cells #[.slice (some ⟨gp + 1 + 1 + 1 + 1 + 1, 0, none⟩) 2 2] 40)).alloc (.cells #[.int .i64 500, .int .i64 500] 3)).alloc (.cells #[.int .i64 300, .int .i64 700] 3)).alloc (.cells #[.slice (some ⟨gp + 1 + 1 + 1 + 1 + 1 + 1 + 1, 0, none⟩) 2 2, .slice (some ⟨gp + 1 + 1 + 1 + 1 + 1 + 1 + 1 + 1, 0, none⟩) 2 2] 22)).alloc (.cells #[.slice (some ⟨gp + 1 + 1 + 1 + 1 + 1 + 1 + 1 + 1 + 1, 0, none⟩) 2 2] 40)) (gp + 1 + 1 + 1 + 1 + 1 + 1 + 1) 3 [.int .i64 500, .int .i64 500] := Row.alloc (Row.alloc (Row.alloc (row_at (w := (((((((w.alloc (.cells #[.int .i64 0, .int .i64 100] 3)).alloc (.cells #[.int .i64 1, .int .i64 1] 3)).alloc (.cells #[.slice (some ⟨gp, 0, none⟩) 2 2, .slice (some ⟨gp + 1, 0, none⟩) 2 2] 24)).alloc (.cells #[.int .i64 500, .int .i64 500] 3)).alloc (.cells #[.int .i64 400, .int .i64 600] 3)).alloc (.cells #[.slice (some ⟨gp + 1 + 1 + 1, 0, none⟩) 2 2, .slice (some ⟨gp + 1 + 1 + 1 + 1, 0, none⟩) 2 2] 22)).alloc (.cells #[.slice (some ⟨gp + 1 + 1 + 1 + 1 + 1, 0, none⟩) 2 2] 40))) (g := gp + 1 + 1 + 1 + 1 + 1 + 1 + 1) (by simp [hgp])) (.cells #[.int .i64 300, .int .i64 700] 3)) (.cells #[.slice (some ⟨gp + 1 + 1 + 1 + 1 + 1 + 1 + 1, 0, none⟩) 2 2, .slice (some ⟨gp + 1 + 1 + 1 + 1 + 1 + 1 + 1 + 1, 0, none⟩) 2 2] 22)) (.cells #[.slice (some ⟨gp + 1 + 1 + 1 + 1 + 1 + 1 + 1 + 1 + 1, 0, none⟩) 2 2] 40)
  have hrb1 : Row (((((((((((w.alloc (.cells #[.int .i64 0, .int .i64 100] 3)).alloc (.cells #[.int .i64 1, .int .i64 1] 3)).alloc (.cells #[.slice (some ⟨gp, 0, none⟩) 2 2, .slice (some ⟨gp + 1, 0, none⟩) 2 2] 24)).alloc (.cells #[.int .i64 500, .int .i64 500] 3)).alloc (.cells #[.int .i64 400, .int .i64 600] 3)).alloc (.cells #[.slice (some ⟨gp + 1 + 1 + 1, 0, none⟩) 2 2, .slice (some ⟨gp + 1 + 1 + 1 + 1, 0, none⟩) 2 2] 22)).alloc (.cells #[.slice (some ⟨gp + 1 + 1 + 1 + 1 + 1, 0, none⟩) 2 2] 40)).alloc (.cells #[.int .i64 500, .int .i64 500] 3)).alloc (.cells #[.int .i64 300, .int .i64 700] 3)).alloc (.cells #[.slice (some ⟨gp + 1 + 1 + 1 + 1 + 1 + 1 + 1, 0, none⟩) 2 2, .slice (some ⟨gp + 1 + 1 + 1 + 1 + 1 + 1 + 1 + 1, 0, none⟩) 2 2] 22)).alloc (.cells #[.slice (some ⟨gp + 1 + 1 + 1 + 1 + 1 + 1 + 1 + 1 + 1, 0, none⟩) 2 2] 40)) (gp + 1 + 1 + 1 + 1 + 1 + 1 + 1 + 1) 3 [.int .i64 300, .int .i64 700] := Row.alloc (Row.alloc (row_at (w := ((((((((w.alloc (.cells #[.int .i64 0, .int .i64 100] 3)).alloc (.cells #[.int .i64 1, .int .i64 1] 3)).alloc (.cells #[.slice (some ⟨gp, 0, none⟩) 2 2, .slice (some ⟨gp + 1, 0, none⟩) 2 2] 24)).alloc (.cells #[.int .i64 500, .int .i64 500] 3)).alloc (.cells #[.int .i64 400, .int .i64 600] 3)).alloc (.cells #[.slice (some ⟨gp + 1 + 1 + 1, 0, none⟩) 2 2, .slice (some ⟨gp + 1 + 1 + 1 + 1, 0, none⟩) 2 2] 22)).alloc (.cells #[.slice (some ⟨gp + 1 + 1 + 1 + 1 + 1, 0, none⟩) 2 2] 40)).alloc (.cells #[.int .i64 500, .int .i64 500] 3))) (g := gp + 1 + 1 + 1 + 1 + 1 + 1 + 1 + 1) (by simp [hgp])) (.cells #[.slice (some ⟨gp + 1 + 1 + 1 + 1 + 1 + 1 + 1, 0, none⟩) 2 2, .slice (some ⟨gp + 1 + 1 + 1 + 1 + 1 + 1 + 1 + 1, 0, none⟩) 2 2] 22)) (.cells #[.slice (some ⟨gp + 1 + 1 + 1 + 1 + 1 + 1 + 1 + 1 + 1, 0, none⟩) 2 2] 40)
  have hrb2 : Row (((((((((((w.alloc (.cells #[.int .i64 0, .int .i64 100] 3)).alloc (.cells #[.int .i64 1, .int .i64 1] 3)).alloc (.cells #[.slice (some ⟨gp, 0, none⟩) 2 2, .slice (some ⟨gp + 1, 0, none⟩) 2 2] 24)).alloc (.cells #[.int .i64 500, .int .i64 500] 3)).alloc (.cells #[.int .i64 400, .int .i64 600] 3)).alloc (.cells #[.slice (some ⟨gp + 1 + 1 + 1, 0, none⟩) 2 2, .slice (some ⟨gp + 1 + 1 + 1 + 1, 0, none⟩) 2 2] 22)).alloc (.cells #[.slice (some ⟨gp + 1 + 1 + 1 + 1 + 1, 0, none⟩) 2 2] 40)).alloc (.cells #[.int .i64 500, .int .i64 500] 3)).alloc (.cells #[.int .i64 300, .int .i64 700] 3)).alloc (.cells #[.slice (some ⟨gp + 1 + 1 + 1 + 1 + 1 + 1 + 1, 0, none⟩) 2 2, .slice (some ⟨gp + 1 + 1 + 1 + 1 + 1 + 1 + 1 + 1, 0, none⟩) 2 2] 22)).alloc (.cells #[.slice (some ⟨gp + 1 + 1 + 1 + 1 + 1 + 1 + 1 + 1 + 1, 0, none⟩) 2 2] 40)) (gp + 1 + 1 + 1 + 1 + 1 + 1 + 1 + 1 + 1) 22 [.slice (some ⟨gp + 1 + 1 + 1 + 1 + 1 + 1 + 1, 0, none⟩) 2 2, .slice (some ⟨gp + 1 + 1 + 1 + 1 + 1 + 1 + 1 + 1, 0, none⟩) 2 2] := Row.alloc (row_at (w := (((((((((w.alloc (.cells #[.int .i64 0, .int .i64 100] 3)).alloc (.cells #[.int .i64 1, .int .i64 1] 3)).alloc (.cells #[.slice (some ⟨gp, 0, none⟩) 2 2, .slice (some ⟨gp + 1, 0, none⟩) 2 2] 24)).alloc (.cells #[.int .i64 500, .int .i64 500] 3)).alloc (.cells #[.int .i64 400, .int .i64 600] 3)).alloc (.cells #[.slice (some ⟨gp + 1 + 1 + 1, 0, none⟩) 2 2, .slice (some ⟨gp + 1 + 1 + 1 + 1, 0, none⟩) 2 2] 22)).alloc (.cells #[.slice (some ⟨gp + 1 + 1 + 1 + 1 + 1, 0, none⟩) 2 2] 40)).alloc (.cells #[.int .i64 500, .int .i64 500] 3)).alloc (.cells #[.int .i64 300, .int .i64 700] 3))) (g := gp + 1 + 1 + 1 + 1 + 1 + 1 + 1 + 1 + 1) (by simp [hgp])) (.cells #[.slice (some ⟨gp + 1 + 1 + 1 + 1 + 1 + 1 + 1 + 1 + 1, 0, none⟩) 2 2] 40)
  have hrb : Row (((((((((((w.alloc (.cells #[.int .i64 0, .int .i64 100] 3)).alloc (.cells #[.int .i64 1, .int .i64 1] 3)).alloc (.cells #[.slice (some ⟨gp, 0, none⟩) 2 2, .slice (some ⟨gp + 1, 0, none⟩) 2 2] 24)).alloc (.cells #[.int .i64 500, .int .i64 500] 3)).alloc (.cells #[.int .i64 400, .int .i64 600] 3)).alloc (.cells #[.slice (some ⟨gp + 1 + 1 + 1, 0, none⟩) 2 2, .slice (some ⟨gp + 1 + 1 + 1 + 1, 0, none⟩) 2 2] 22)).alloc (.cells #[.slice (some ⟨gp + 1 + 1 + 1 + 1 + 1, 0, none⟩) 2 2] 40)).alloc (.cells #[.int .i64 500, .int .i64 500] 3)).alloc (.cells #[.int .i64 300, .int .i64 700] 3)).alloc (.cells #[.slice (some ⟨gp + 1 + 1 + 1 + 1 + 1 + 1 + 1, 0, none⟩) 2 2, .slice (some ⟨gp + 1 + 1 + 1 + 1 + 1 + 1 + 1 + 1, 0, none⟩) 2 2] 22)).alloc (.cells #[.slice (some ⟨gp + 1 + 1 + 1 + 1 + 1 + 1 + 1 + 1 + 1, 0, none⟩) 2 2] 40)) (gp + 1 + 1 + 1 + 1 + 1 + 1 + 1 + 1 + 1 + 1) 40 [.slice (some ⟨gp + 1 + 1 + 1 + 1 + 1 + 1 + 1 + 1 + 1, 0, none⟩) 2 2] := row_at (w := ((((((((((w.alloc (.cells #[.int .i64 0, .int .i64 100] 3)).alloc (.cells #[.int .i64 1, .int .i64 1] 3)).alloc (.cells #[.slice (some ⟨gp, 0, none⟩) 2 2, .slice (some ⟨gp + 1, 0, none⟩) 2 2] 24)).alloc (.cells #[.int .i64 500, .int .i64 500] 3)).alloc (.cells #[.int .i64 400, .int .i64 600] 3)).alloc (.cells #[.slice (some ⟨gp + 1 + 1 + 1, 0, none⟩) 2 2, .slice (some ⟨gp + 1 + 1 + 1 + 1, 0, none⟩) 2 2] 22)).alloc (.cells #[.slice (some ⟨gp + 1 + 1 + 1 + 1 + 1, 0, none⟩) 2 2] 40)).alloc (.cells #[.int .i64 500, .int .i64 500] 3)).alloc (.cells #[.int .i64 300, .int .i64 700] 3)).alloc (.cells #[.slice (some ⟨gp + 1 + 1 + 1 + 1 + 1 + 1 + 1, 0, none⟩) 2 2, .slice (some ⟨gp + 1 + 1 + 1 + 1 + 1 + 1 + 1 + 1, 0, none⟩) 2 2] 22))) (g := gp + 1 + 1 + 1 + 1 + 1 + 1 + 1 + 1 + 1 + 1) (by simp [hgp])
  have hl : Below w.heap.size w (((((((((((w.alloc (.cells #[.int .i64 0, .int .i64 100] 3)).alloc (.cells #[.int .i64 1, .int .i64 1] 3)).alloc (.cells #[.slice (some ⟨gp, 0, none⟩) 2 2, .slice (some ⟨gp + 1, 0, none⟩) 2 2] 24)).alloc (.cells #[.int .i64 500, .int .i64 500] 3)).alloc (.cells #[.int .i64 400, .int .i64 600] 3)).alloc (.cells #[.slice (some ⟨gp + 1 + 1 + 1, 0, none⟩) 2 2, .slice (some ⟨gp + 1 + 1 + 1 + 1, 0, none⟩) 2 2] 22)).alloc (.cells #[.slice (some ⟨gp + 1 + 1 + 1 + 1 + 1, 0, none⟩) 2 2] 40)).alloc (.cells #[.int .i64 500, .int .i64 500] 3)).alloc (.cells #[.int .i64 300, .int .i64 700] 3)).alloc (.cells #[.slice (some ⟨gp + 1 + 1 + 1 + 1 + 1 + 1 + 1, 0, none⟩) 2 2, .slice (some ⟨gp + 1 + 1 + 1 + 1 + 1 + 1 + 1 + 1, 0, none⟩) 2 2] 22)).alloc (.cells #[.slice (some ⟨gp + 1 + 1 + 1 + 1 + 1 + 1 + 1 + 1 + 1, 0, none⟩) 2 2] 40)) := lit_more (lit_more (lit_more (lit_more (lit_more (lit_more (lit_more (lit_more (lit_more (lit_more (lit_below w _) _) _) _) _) _) _) _) _) _) _
  have ob_p : w.heap.size ≤ gp := by have := BB.size; omega
  have e0_0 : (((((((((((w.alloc (.cells #[.int .i64 0, .int .i64 100] 3)).alloc (.cells #[.int .i64 1, .int .i64 1] 3)).alloc (.cells #[.slice (some ⟨gp, 0, none⟩) 2 2, .slice (some ⟨gp + 1, 0, none⟩) 2 2] 24)).alloc (.cells #[.int .i64 500, .int .i64 500] 3)).alloc (.cells #[.int .i64 400, .int .i64 600] 3)).alloc (.cells #[.slice (some ⟨gp + 1 + 1 + 1, 0, none⟩) 2 2, .slice (some ⟨gp + 1 + 1 + 1 + 1, 0, none⟩) 2 2] 22)).alloc (.cells #[.slice (some ⟨gp + 1 + 1 + 1 + 1 + 1, 0, none⟩) 2 2] 40)).alloc (.cells #[.int .i64 500, .int .i64 500] 3)).alloc (.cells #[.int .i64 300, .int .i64 700] 3)).alloc (.cells #[.slice (some ⟨gp + 1 + 1 + 1 + 1 + 1 + 1 + 1, 0, none⟩) 2 2, .slice (some ⟨gp + 1 + 1 + 1 + 1 + 1 + 1 + 1 + 1, 0, none⟩) 2 2] 22)).alloc (.cells #[.slice (some ⟨gp + 1 + 1 + 1 + 1 + 1 + 1 + 1 + 1 + 1, 0, none⟩) 2 2] 40)).cell? ⟨gp, 0, none⟩ = some (.int .i64 0) := hrp.cell 0
  have e0_1 : (((((((((((w.alloc (.cells #[.int .i64 0, .int .i64 100] 3)).alloc (.cells #[.int .i64 1, .int .i64 1] 3)).alloc (.cells #[.slice (some ⟨gp, 0, none⟩) 2 2, .slice (some ⟨gp + 1, 0, none⟩) 2 2] 24)).alloc (.cells #[.int .i64 500, .int .i64 500] 3)).alloc (.cells #[.int .i64 400, .int .i64 600] 3)).alloc (.cells #[.slice (some ⟨gp + 1 + 1 + 1, 0, none⟩) 2 2, .slice (some ⟨gp + 1 + 1 + 1 + 1, 0, none⟩) 2 2] 22)).alloc (.cells #[.slice (some ⟨gp + 1 + 1 + 1 + 1 + 1, 0, none⟩) 2 2] 40)).alloc (.cells #[.int .i64 500, .int .i64 500] 3)).alloc (.cells #[.int .i64 300, .int .i64 700] 3)).alloc (.cells #[.slice (some ⟨gp + 1 + 1 + 1 + 1 + 1 + 1 + 1, 0, none⟩) 2 2, .slice (some ⟨gp + 1 + 1 + 1 + 1 + 1 + 1 + 1 + 1, 0, none⟩) 2 2] 22)).alloc (.cells #[.slice (some ⟨gp + 1 + 1 + 1 + 1 + 1 + 1 + 1 + 1 + 1, 0, none⟩) 2 2] 40)).cell? ⟨gp, 1, none⟩ = some (.int .i64 100) := hrp.cell 1
  have e1_0 : (((((((((((w.alloc (.cells #[.int .i64 0, .int .i64 100] 3)).alloc (.cells #[.int .i64 1, .int .i64 1] 3)).alloc (.cells #[.slice (some ⟨gp, 0, none⟩) 2 2, .slice (some ⟨gp + 1, 0, none⟩) 2 2] 24)).alloc (.cells #[.int .i64 500, .int .i64 500] 3)).alloc (.cells #[.int .i64 400, .int .i64 600] 3)).alloc (.cells #[.slice (some ⟨gp + 1 + 1 + 1, 0, none⟩) 2 2, .slice (some ⟨gp + 1 + 1 + 1 + 1, 0, none⟩) 2 2] 22)).alloc (.cells #[.slice (some ⟨gp + 1 + 1 + 1 + 1 + 1, 0, none⟩) 2 2] 40)).alloc (.cells #[.int .i64 500, .int .i64 500] 3)).alloc (.cells #[.int .i64 300, .int .i64 700] 3)).alloc (.cells #[.slice (some ⟨gp + 1 + 1 + 1 + 1 + 1 + 1 + 1, 0, none⟩) 2 2, .slice (some ⟨gp + 1 + 1 + 1 + 1 + 1 + 1 + 1 + 1, 0, none⟩) 2 2] 22)).alloc (.cells #[.slice (some ⟨gp + 1 + 1 + 1 + 1 + 1 + 1 + 1 + 1 + 1, 0, none⟩) 2 2] 40)).cell? ⟨gp + 1, 0, none⟩ = some (.int .i64 1) := hrr.cell 0
  have e1_1 : (((((((((((w.alloc (.cells #[.int .i64 0, .int .i64 100] 3)).alloc (.cells #[.int .i64 1, .int .i64 1] 3)).alloc (.cells #[.slice (some ⟨gp, 0, none⟩) 2 2, .slice (some ⟨gp + 1, 0, none⟩) 2 2] 24)).alloc (.cells #[.int .i64 500, .int .i64 500] 3)).alloc (.cells #[.int .i64 400, .int .i64 600] 3)).alloc (.cells #[.slice (some ⟨gp + 1 + 1 + 1, 0, none⟩) 2 2, .slice (some ⟨gp + 1 + 1 + 1 + 1, 0, none⟩) 2 2] 22)).alloc (.cells #[.slice (some ⟨gp + 1 + 1 + 1 + 1 + 1, 0, none⟩) 2 2] 40)).alloc (.cells #[.int .i64 500, .int .i64 500] 3)).alloc (.cells #[.int .i64 300, .int .i64 700] 3)).alloc (.cells #[.slice (some ⟨gp + 1 + 1 + 1 + 1 + 1 + 1 + 1, 0, none⟩) 2 2, .slice (some ⟨gp + 1 + 1 + 1 + 1 + 1 + 1 + 1 + 1, 0, none⟩) 2 2] 22)).alloc (.cells #[.slice (some ⟨gp + 1 + 1 + 1 + 1 + 1 + 1 + 1 + 1 + 1, 0, none⟩) 2 2] 40)).cell? ⟨gp + 1, 1, none⟩ = some (.int .i64 1) := hrr.cell 1
  have e2_0 : (((((((((((w.alloc (.cells #[.int .i64 0, .int .i64 100] 3)).alloc (.cells #[.int .i64 1, .int .i64 1] 3)).alloc (.cells #[.slice (some ⟨gp, 0, none⟩) 2 2, .slice (some ⟨gp + 1, 0, none⟩) 2 2] 24)).alloc (.cells #[.int .i64 500, .int .i64 500] 3)).alloc (.cells #[.int .i64 400, .int .i64 600] 3)).alloc (.cells #[.slice (some ⟨gp + 1 + 1 + 1, 0, none⟩) 2 2, .slice (some ⟨gp + 1 + 1 + 1 + 1, 0, none⟩) 2 2] 22)).alloc (.cells #[.slice (some ⟨gp + 1 + 1 + 1 + 1 + 1, 0, none⟩) 2 2] 40)).alloc (.cells #[.int .i64 500, .int .i64 500] 3)).alloc (.cells #[.int .i64 300, .int .i64 700] 3)).alloc (.cells #[.slice (some ⟨gp + 1 + 1 + 1 + 1 + 1 + 1 + 1, 0, none⟩) 2 2, .slice (some ⟨gp + 1 + 1 + 1 + 1 + 1 + 1 + 1 + 1, 0, none⟩) 2 2] 22)).alloc (.cells #[.slice (some ⟨gp + 1 + 1 + 1 + 1 + 1 + 1 + 1 + 1 + 1, 0, none⟩) 2 2] 40)).cell? ⟨gp + 1 + 1, 0, none⟩ = some (.slice (some ⟨gp, 0, none⟩) 2 2) := hrg.cell 0
  have e2_1 : (((((((((((w.alloc (.cells #[.int .i64 0, .int .i64 100] 3)).alloc (.cells #[.int .i64 1, .int .i64 1] 3)).alloc (.cells #[.slice (some ⟨gp, 0, none⟩) 2 2, .slice (some ⟨gp + 1, 0, none⟩) 2 2] 24)).alloc (.cells #[.int .i64 500, .int .i64 500] 3)).alloc (.cells #[.int .i64 400, .int .i64 600] 3)).alloc (.cells #[.slice (some ⟨gp + 1 + 1 + 1, 0, none⟩) 2 2, .slice (some ⟨gp + 1 + 1 + 1 + 1, 0, none⟩) 2 2] 22)).alloc (.cells #[.slice (some ⟨gp + 1 + 1 + 1 + 1 + 1, 0, none⟩) 2 2] 40)).alloc (.cells #[.int .i64 500, .int .i64 500] 3)).alloc (.cells #[.int .i64 300, .int .i64 700] 3)).alloc (.cells #[.slice (some ⟨gp + 1 + 1 + 1 + 1 + 1 + 1 + 1, 0, none⟩) 2 2, .slice (some ⟨gp + 1 + 1 + 1 + 1 + 1 + 1 + 1 + 1, 0, none⟩) 2 2] 22)).alloc (.cells #[.slice (some ⟨gp + 1 + 1 + 1 + 1 + 1 + 1 + 1 + 1 + 1, 0, none⟩) 2 2] 40)).cell? ⟨gp + 1 + 1, 1, none⟩ = some (.slice (some ⟨gp + 1, 0, none⟩) 2 2) := hrg.cell 1
  have e3_0 : (((((((((((w.alloc (.cells #[.int .i64 0, .int .i64 100] 3)).alloc (.cells #[.int .i64 1, .int .i64 1] 3)).alloc (.cells #[.slice (some ⟨gp, 0, none⟩) 2 2, .slice (some ⟨gp + 1, 0, none⟩) 2 2] 24)).alloc (.cells #[.int .i64 500, .int .i64 500] 3)).alloc (.cells #[.int .i64 400, .int .i64 600] 3)).alloc (.cells #[.slice (some ⟨gp + 1 + 1 + 1, 0, none⟩) 2 2, .slice (some ⟨gp + 1 + 1 + 1 + 1, 0, none⟩) 2 2] 22)).alloc (.cells #[.slice (some ⟨gp + 1 + 1 + 1 + 1 + 1, 0, none⟩) 2 2] 40)).alloc (.cells #[.int .i64 500, .int .i64 500] 3)).alloc (.cells #[.int .i64 300, .int .i64 700] 3)).alloc (.cells #[.slice (some ⟨gp + 1 + 1 + 1 + 1 + 1 + 1 + 1, 0, none⟩) 2 2, .slice (some ⟨gp + 1 + 1 + 1 + 1 + 1 + 1 + 1 + 1, 0, none⟩) 2 2] 22)).alloc (.cells #[.slice (some ⟨gp + 1 + 1 + 1 + 1 + 1 + 1 + 1 + 1 + 1, 0, none⟩) 2 2] 40)).cell? ⟨gp + 1 + 1 + 1, 0, none⟩ = some (.int .i64 500) := hra0.cell 0
  have e3_1 : (((((((((((w.alloc (.cells #[.int .i64 0, .int .i64 100] 3)).alloc (.cells #[.int .i64 1, .int .i64 1] 3)).alloc (.cells #[.slice (some ⟨gp, 0, none⟩) 2 2, .slice (some ⟨gp + 1, 0, none⟩) 2 2] 24)).alloc (.cells #[.int .i64 500, .int .i64 500] 3)).alloc (.cells #[.int .i64 400, .int .i64 600] 3)).alloc (.cells #[.slice (some ⟨gp + 1 + 1 + 1, 0, none⟩) 2 2, .slice (some ⟨gp + 1 + 1 + 1 + 1, 0, none⟩) 2 2] 22)).alloc (.cells #[.slice (some ⟨gp + 1 + 1 + 1 + 1 + 1, 0, none⟩) 2 2] 40)).alloc (.cells #[.int .i64 500, .int .i64 500] 3)).alloc (.cells #[.int .i64 300, .int .i64 700] 3)).alloc (.cells #[.slice (some ⟨gp + 1 + 1 + 1 + 1 + 1 + 1 + 1, 0, none⟩) 2 2, .slice (some ⟨gp + 1 + 1 + 1 + 1 + 1 + 1 + 1 + 1, 0, none⟩) 2 2] 22)).alloc (.cells #[.slice (some ⟨gp + 1 + 1 + 1 + 1 + 1 + 1 + 1 + 1 + 1, 0, none⟩) 2 2] 40)).cell? ⟨gp + 1 + 1 + 1, 1, none⟩ = some (.int .i64 500) := hra0.cell 1
  have e4_0 : (((((((((((w.alloc (.cells #[.int .i64 0, .int .i64 100] 3)).alloc (.cells #[.int .i64 1, .int .i64 1] 3)).alloc (.cells #[.slice (some ⟨gp, 0, none⟩) 2 2, .slice (some ⟨gp + 1, 0, none⟩) 2 2] 24)).alloc (.cells #[.int .i64 500, .int .i64 500] 3)).alloc (.cells #[.int .i64 400, .int .i64 600] 3)).alloc (.cells #[.slice (some ⟨gp + 1 + 1 + 1, 0, none⟩) 2 2, .slice (some ⟨gp + 1 + 1 + 1 + 1, 0, none⟩) 2 2] 22)).alloc (.cells #[.slice (some ⟨gp + 1 + 1 + 1 + 1 + 1, 0, none⟩) 2 2] 40)).alloc (.cells #[.int .i64 500, .int .i64 500] 3)).alloc (.cells #[.int .i64 300, .int .i64 700] 3)).alloc (.cells #[.slice (some ⟨gp + 1 + 1 + 1 + 1 + 1 + 1 + 1, 0, none⟩) 2 2, .slice (some ⟨gp + 1 + 1 + 1 + 1 + 1 + 1 + 1 + 1, 0, none⟩) 2 2] 22)).alloc (.cells #[.slice (some ⟨gp + 1 + 1 + 1 + 1 + 1 + 1 + 1 + 1 + 1, 0, none⟩) 2 2] 40)).cell? ⟨gp + 1 + 1 + 1 + 1, 0, none⟩ = some (.int .i64 400) := hra1.cell 0
  have e4_1 : (((((((((((w.alloc (.cells #[.int .i64 0, .int .i64 100] 3)).alloc (.cells #[.int .i64 1, .int .i64 1] 3)).alloc (.cells #[.slice (some ⟨gp, 0, none⟩) 2 2, .slice (some ⟨gp + 1, 0, none⟩) 2 2] 24)).alloc (.cells #[.int .i64 500, .int .i64 500] 3)).alloc (.cells #[.int .i64 400, .int .i64 600] 3)).alloc (.cells #[.slice (some ⟨gp + 1 + 1 + 1, 0, none⟩) 2 2, .slice (some ⟨gp + 1 + 1 + 1 + 1, 0, none⟩) 2 2] 22)).alloc (.cells #[.slice (some ⟨gp + 1 + 1 + 1 + 1 + 1, 0, none⟩) 2 2] 40)).alloc (.cells #[.int .i64 500, .int .i64 500] 3)).alloc (.cells #[.int .i64 300, .int .i64 700] 3)).alloc (.cells #[.slice (some ⟨gp + 1 + 1 + 1 + 1 + 1 + 1 + 1, 0, none⟩) 2 2, .slice (some ⟨gp + 1 + 1 + 1 + 1 + 1 + 1 + 1 + 1, 0, none⟩) 2 2] 22)).alloc (.cells #[.slice (some ⟨gp + 1 + 1 + 1 + 1 + 1 + 1 + 1 + 1 + 1, 0, none⟩) 2 2] 40)).cell? ⟨gp + 1 + 1 + 1 + 1, 1, none⟩ = some (.int .i64 600) := hra1.cell 1
  have e5_0 : (((((((((((w.alloc (.cells #[.int .i64 0, .int .i64 100] 3)).alloc (.cells #[.int .i64 1, .int .i64 1] 3)).alloc (.cells #[.slice (some ⟨gp, 0, none⟩) 2 2, .slice (some ⟨gp + 1, 0, none⟩) 2 2] 24)).alloc (.cells #[.int .i64 500, .int .i64 500] 3)).alloc (.cells #[.int .i64 400, .int .i64 600] 3)).alloc (.cells #[.slice (some ⟨gp + 1 + 1 + 1, 0, none⟩) 2 2, .slice (some ⟨gp + 1 + 1 + 1 + 1, 0, none⟩) 2 2] 22)).alloc (.cells #[.slice (some ⟨gp + 1 + 1 + 1 + 1 + 1, 0, none⟩) 2 2] 40)).alloc (.cells #[.int .i64 500, .int .i64 500] 3)).alloc (.cells #[.int .i64 300, .int .i64 700] 3)).alloc (.cells #[.slice (some ⟨gp + 1 + 1 + 1 + 1 + 1 + 1 + 1, 0, none⟩) 2 2, .slice (some ⟨gp + 1 + 1 + 1 + 1 + 1 + 1 + 1 + 1, 0, none⟩) 2 2] 22)).alloc (.cells #[.slice (some ⟨gp + 1 + 1 + 1 + 1 + 1 + 1 + 1 + 1 + 1, 0, none⟩) 2 2] 40)).cell? ⟨gp + 1 + 1 + 1 + 1 + 1, 0, none⟩ = some (.slice (some ⟨gp + 1 + 1 + 1, 0, none⟩) 2 2) := hra2.cell 0
  have e5_1 : (((((((((((w.alloc (.cells #[.int .i64 0, .int .i64 100] 3)).alloc (.cells #[.int .i64 1, .int .i64 1] 3)).alloc (.cells #[.slice (some ⟨gp, 0, none⟩) 2 2, .slice (some ⟨gp + 1, 0, none⟩) 2 2] 24)).alloc (.cells #[.int .i64 500, .int .i64 500] 3)).alloc (.cells #[.int .i64 400, .int .i64 600] 3)).alloc (.cells #[.slice (some ⟨gp + 1 + 1 + 1, 0, none⟩) 2 2, .slice (some ⟨gp + 1 + 1 + 1 + 1, 0, none⟩) 2 2] 22)).alloc (.cells #[.slice (some ⟨gp + 1 + 1 + 1 + 1 + 1, 0, none⟩) 2 2] 40)).alloc (.cells #[.int .i64 500, .int .i64 500] 3)).alloc (.cells #[.int .i64 300, .int .i64 700] 3)).alloc (.cells #[.slice (some ⟨gp + 1 + 1 + 1 + 1 + 1 + 1 + 1, 0, none⟩) 2 2, .slice (some ⟨gp + 1 + 1 + 1 + 1 + 1 + 1 + 1 + 1, 0, none⟩) 2 2] 22)).alloc (.cells #[.slice (some ⟨gp + 1 + 1 + 1 + 1 + 1 + 1 + 1 + 1 + 1, 0, none⟩) 2 2] 40)).cell? ⟨gp + 1 + 1 + 1 + 1 + 1, 1, none⟩ = some (.slice (some ⟨gp + 1 + 1 + 1 + 1, 0, none⟩) 2 2) := hra2.cell 1
  have e6_0 : (((((((((((w.alloc (.cells #[.int .i64 0, .int .i64 100] 3)).alloc (.cells #[.int .i64 1, .int .i64 1] 3)).alloc (.cells #[.slice (some ⟨gp, 0, none⟩) 2 2, .slice (some ⟨gp + 1, 0, none⟩) 2 2] 24)).alloc (.cells #[.int .i64 500, .int .i64 500] 3)).alloc (.cells #[.int .i64 400, .int .i64 600] 3)).alloc (.cells #[.slice (some ⟨gp + 1 + 1 + 1, 0, none⟩) 2 2, .slice (some ⟨gp + 1 + 1 + 1 + 1, 0, none⟩) 2 2] 22)).alloc (.cells #[.slice (some ⟨gp + 1 + 1 + 1 + 1 + 1, 0, none⟩) 2 2] 40)).alloc (.cells #[.int .i64 500, .int .i64 500] 3)).alloc (.cells #[.int .i64 300, .int .i64 700] 3)).alloc (.cells #[.slice (some ⟨gp + 1 + 1 + 1 + 1 + 1 + 1 + 1, 0, none⟩) 2 2, .slice (some ⟨gp + 1 + 1 + 1 + 1 + 1 + 1 + 1 + 1, 0, none⟩) 2 2] 22)).alloc (.cells #[.slice (some ⟨gp + 1 + 1 + 1 + 1 + 1 + 1 + 1 + 1 + 1, 0, none⟩) 2 2] 40)).cell? ⟨gp + 1 + 1 + 1 + 1 + 1 + 1, 0, none⟩ = some (.slice (some ⟨gp + 1 + 1 + 1 + 1 + 1, 0, none⟩) 2 2) := hra.cell 0
  have e7_0 : (((((((((((w.alloc (.cells #[.int .i64 0, .int .i64 100] 3)).alloc (.cells #[.int .i64 1, .int .i64 1] 3)).alloc (.cells #[.slice (some ⟨gp, 0, none⟩) 2 2, .slice (some ⟨gp + 1, 0, none⟩) 2 2] 24)).alloc (.cells #[.int .i64 500, .int .i64 500] 3)).alloc (.cells #[.int .i64 400, .int .i64 600] 3)).alloc (.cells #[.slice (some ⟨gp + 1 + 1 + 1, 0, none⟩) 2 2, .slice (some ⟨gp + 1 + 1 + 1 + 1, 0, none⟩) 2 2] 22)).alloc (.cells #[.slice (some ⟨gp + 1 + 1 + 1 + 1 + 1, 0, none⟩) 2 2] 40)).alloc (.cells #[.int .i64 500, .int .i64 500] 3)).alloc (.cells #[.int .i64 300, .int .i64 700] 3)).alloc (.cells #[.slice (some ⟨gp + 1 + 1 + 1 + 1 + 1 + 1 + 1, 0, none⟩) 2 2, .slice (some ⟨gp + 1 + 1 + 1 + 1 + 1 + 1 + 1 + 1, 0, none⟩) 2 2] 22)).alloc (.cells #[.slice (some ⟨gp + 1 + 1 + 1 + 1 + 1 + 1 + 1 + 1 + 1, 0, none⟩) 2 2] 40)).cell? ⟨gp + 1 + 1 + 1 + 1 + 1 + 1 + 1, 0, none⟩ = some (.int .i64 500) := hrb0.cell 0
  have e7_1 : (((((((((((w.alloc (.cells #[.int .i64 0, .int .i64 100] 3)).alloc (.cells #[.int .i64 1, .int .i64 1] 3)).alloc (.cells #[.slice (some ⟨gp, 0, none⟩) 2 2, .slice (some ⟨gp + 1, 0, none⟩) 2 2] 24)).alloc (.cells #[.int .i64 500, .int .i64 500] 3)).alloc (.cells #[.int .i64 400, .int .i64 600] 3)).alloc (.cells #[.slice (some ⟨gp + 1 + 1 + 1, 0, none⟩) 2 2, .slice (some ⟨gp + 1 + 1 + 1 + 1, 0, none⟩) 2 2] 22)).alloc (.cells #[.slice (some ⟨gp + 1 + 1 + 1 + 1 + 1, 0, none⟩) 2 2] 40)).alloc (.cells #[.int .i64 500, .int .i64 500] 3)).alloc (.cells #[.int .i64 300, .int .i64 700] 3)).alloc (.cells #[.slice (some ⟨gp + 1 + 1 + 1 + 1 + 1 + 1 + 1, 0, none⟩) 2 2, .slice (some ⟨gp + 1 + 1 + 1 + 1 + 1 + 1 + 1 + 1, 0, none⟩) 2 2] 22)).alloc (.cells #[.slice (some ⟨gp + 1 + 1 + 1 + 1 + 1 + 1 + 1 + 1 + 1, 0, none⟩) 2 2] 40)).cell? ⟨gp + 1 + 1 + 1 + 1 + 1 + 1 + 1, 1, none⟩ = some (.int .i64 500) := hrb0.cell 1
  have e8_0 : (((((((((((w.alloc (.cells #[.int .i64 0, .int .i64 100] 3)).alloc (.cells #[.int .i64 1, .int .i64 1] 3)).alloc (.cells #[.slice (some ⟨gp, 0, none⟩) 2 2, .slice (some ⟨gp + 1, 0, none⟩) 2 2] 24)).alloc (.cells #[.int .i64 500, .int .i64 500] 3)).alloc (.cells #[.int .i64 400, .int .i64 600] 3)).alloc (.cells #[.slice (some ⟨gp + 1 + 1 + 1, 0, none⟩) 2 2, .slice (some ⟨gp + 1 + 1 + 1 + 1, 0, none⟩) 2 2] 22)).alloc (.cells #[.slice (some ⟨gp + 1 + 1 + 1 + 1 + 1, 0, none⟩) 2 2] 40)).alloc (.cells #[.int .i64 500, .int .i64 500] 3)).alloc (.cells #[.int .i64 300, .int .i64 700] 3)).alloc (.cells #[.slice (some ⟨gp + 1 + 1 + 1 + 1 + 1 + 1 + 1, 0, none⟩) 2 2, .slice (some ⟨gp + 1 + 1 + 1 + 1 + 1 + 1 + 1 + 1, 0, none⟩) 2 2] 22)).alloc (.cells #[.slice (some ⟨gp + 1 + 1 + 1 + 1 + 1 + 1 + 1 + 1 + 1, 0, none⟩) 2 2] 40)).cell? ⟨gp + 1 + 1 + 1 + 1 + 1 + 1 + 1 + 1, 0, none⟩ = some (.int .i64 300) := hrb1.cell 0
  have e8_1 : (((((((((((w.alloc (.cells #[.int .i64 0, .int .i64 100] 3)).alloc (.cells #[.int .i64 1, .int .i64 1] 3)).alloc (.cells #[.slice (some ⟨gp, 0, none⟩) 2 2, .slice (some ⟨gp + 1, 0, none⟩) 2 2] 24)).alloc (.cells #[.int .i64 500, .int .i64 500] 3)).alloc (.cells #[.int .i64 400, .int .i64 600] 3)).alloc (.cells #[.slice (some ⟨gp + 1 + 1 + 1, 0, none⟩) 2 2, .slice (some ⟨gp + 1 + 1 + 1 + 1, 0, none⟩) 2 2] 22)).alloc (.cells #[.slice (some ⟨gp + 1 + 1 + 1 + 1 + 1, 0, none⟩) 2 2] 40)).alloc (.cells #[.int .i64 500, .int .i64 500] 3)).alloc (.cells #[.int .i64 300, .int .i64 700] 3)).alloc (.cells #[.slice (some ⟨gp + 1 + 1 + 1 + 1 + 1 + 1 + 1, 0, none⟩) 2 2, .slice (some ⟨gp + 1 + 1 + 1 + 1 + 1 + 1 + 1 + 1, 0, none⟩) 2 2] 22)).alloc (.cells #[.slice (some ⟨gp + 1 + 1 + 1 + 1 + 1 + 1 + 1 + 1 + 1, 0, none⟩) 2 2] 40)).cell? ⟨gp + 1 + 1 + 1 + 1 + 1 + 1 + 1 + 1, 1, none⟩ = some (.int .i64 700) := hrb1.cell 1
  have e9_0 : (((((((((((w.alloc (.cells #[.int .i64 0, .int .i64 100] 3)).alloc (.cells #[.int .i64 1, .int .i64 1] 3)).alloc (.cells #[.slice (some ⟨gp, 0, none⟩) 2 2, .slice (some ⟨gp + 1, 0, none⟩) 2 2] 24)).alloc (.cells #[.int .i64 500, .int .i64 500] 3)).alloc (.cells #[.int .i64 400, .int .i64 600] 3)).alloc (.cells #[.slice (some ⟨gp + 1 + 1 + 1, 0, none⟩) 2 2, .slice (some ⟨gp + 1 + 1 + 1 + 1, 0, none⟩) 2 2] 22)).alloc (.cells #[.slice (some ⟨gp + 1 + 1 + 1 + 1 + 1, 0, none⟩) 2 2] 40)).alloc (.cells #[.int .i64 500, .int .i64 500] 3)).alloc (.cells #[.int .i64 300, .int .i64 700] 3)).alloc (.cells #[.slice (some ⟨gp + 1 + 1 + 1 + 1 + 1 + 1 + 1, 0, none⟩) 2 2, .slice (some ⟨gp + 1 + 1 + 1 + 1 + 1 + 1 + 1 + 1, 0, none⟩) 2 2] 22)).alloc (.cells #[.slice (some ⟨gp + 1 + 1 + 1 + 1 + 1 + 1 + 1 + 1 + 1, 0, none⟩) 2 2] 40)).cell? ⟨gp + 1 + 1 + 1 + 1 + 1 + 1 + 1 + 1 + 1, 0, none⟩ = some (.slice (some ⟨gp + 1 + 1 + 1 + 1 + 1 + 1 + 1, 0, none⟩) 2 2) := hrb2.cell 0
  have e9_1 : (((((((((((w.alloc (.cells #[.int .i64 0, .int .i64 100] 3)).alloc (.cells #[.int .i64 1, .int .i64 1] 3)).alloc (.cells #[.slice (some ⟨gp, 0, none⟩) 2 2, .slice (some ⟨gp + 1, 0, none⟩) 2 2] 24)).alloc (.cells #[.int .i64 500, .int .i64 500] 3)).alloc (.cells #[.int .i64 400, .int .i64 600] 3)).alloc (.cells #[.slice (some ⟨gp + 1 + 1 + 1, 0, none⟩) 2 2, .slice (some ⟨gp + 1 + 1 + 1 + 1, 0, none⟩) 2 2] 22)).alloc (.cells #[.slice (some ⟨gp + 1 + 1 + 1 + 1 + 1, 0, none⟩) 2 2] 40)).alloc (.cells #[.int .i64 500, .int .i64 500] 3)).alloc (.cells #[.int .i64 300, .int .i64 700] 3)).alloc (.cells #[.slice (some ⟨gp + 1 + 1 + 1 + 1 + 1 + 1 + 1, 0, none⟩) 2 2, .slice (some ⟨gp + 1 + 1 + 1 + 1 + 1 + 1 + 1 + 1, 0, none⟩) 2 2] 22)).alloc (.cells #[.slice (some ⟨gp + 1 + 1 + 1 + 1 + 1 + 1 + 1 + 1 + 1, 0, none⟩) 2 2] 40)).cell? ⟨gp + 1 + 1 + 1 + 1 + 1 + 1 + 1 + 1 + 1, 1, none⟩ = some (.slice (some ⟨gp + 1 + 1 + 1 + 1 + 1 + 1 + 1 + 1, 0, none⟩) 2 2) := hrb2.cell 1
  have e10_0 : (((((((((((w.alloc (.cells #[.int .i64 0, .int .i64 100] 3)).alloc (.cells #[.int .i64 1, .int .i64 1] 3)).alloc (.cells #[.slice (some ⟨gp, 0, none⟩) 2 2, .slice (some ⟨gp + 1, 0, none⟩) 2 2] 24)).alloc (.cells #[.int .i64 500, .int .i64 500] 3)).alloc (.cells #[.int .i64 400, .int .i64 600] 3)).alloc (.cells #[.slice (some ⟨gp + 1 + 1 + 1, 0, none⟩) 2 2, .slice (some ⟨gp + 1 + 1 + 1 + 1, 0, none⟩) 2 2] 22)).alloc (.cells #[.slice (some ⟨gp + 1 + 1 + 1 + 1 + 1, 0, none⟩) 2 2] 40)).alloc (.cells #[.int .i64 500, .int .i64 500] 3)).alloc (.cells #[.int .i64 300, .int .i64 700] 3)).alloc (.cells #[.slice (some ⟨gp + 1 + 1 + 1 + 1 + 1 + 1 + 1, 0, none⟩) 2 2, .slice (some ⟨gp + 1 + 1 + 1 + 1 + 1 + 1 + 1 + 1, 0, none⟩) 2 2] 22)).alloc (.cells #[.slice (some ⟨gp + 1 + 1 + 1 + 1 + 1 + 1 + 1 + 1 + 1, 0, none⟩) 2 2] 40)).cell? ⟨gp + 1 + 1 + 1 + 1 + 1 + 1 + 1 + 1 + 1 + 1, 0, none⟩ = some (.slice (some ⟨gp + 1 + 1 + 1 + 1 + 1 + 1 + 1 + 1 + 1, 0, none⟩) 2 2) := hrb.cell 0
  go_wp2_with fail
  clear e0_0 e0_1 e1_0 e1_1 e2_0 e2_1 e3_0 e3_1 e4_0 e4_1 e5_0 e5_1 e6_0 e7_0 e7_1 e8_0 e8_1 e9_0 e9_1 e10_0
  clear hgp
  generalize (((((((((((w.alloc (.cells #[.int .i64 0, .int .i64 100] 3)).alloc (.cells #[.int .i64 1, .int .i64 1] 3)).alloc (.cells #[.slice (some ⟨gp, 0, none⟩) 2 2, .slice (some ⟨gp + 1, 0, none⟩) 2 2] 24)).alloc (.cells #[.int .i64 500, .int .i64 500] 3)).alloc (.cells #[.int .i64 400, .int .i64 600] 3)).alloc (.cells #[.slice (some ⟨gp + 1 + 1 + 1, 0, none⟩) 2 2, .slice (some ⟨gp + 1 + 1 + 1 + 1, 0, none⟩) 2 2] 22)).alloc (.cells #[.slice (some ⟨gp + 1 + 1 + 1 + 1 + 1, 0, none⟩) 2 2] 40)).alloc (.cells #[.int .i64 500, .int .i64 500] 3)).alloc (.cells #[.int .i64 300, .int .i64 700] 3)).alloc (.cells #[.slice (some ⟨gp + 1 + 1 + 1 + 1 + 1 + 1 + 1, 0, none⟩) 2 2, .slice (some ⟨gp + 1 + 1 + 1 + 1 + 1 + 1 + 1 + 1, 0, none⟩) 2 2] 22)).alloc (.cells #[.slice (some ⟨gp + 1 + 1 + 1 + 1 + 1 + 1 + 1 + 1 + 1, 0, none⟩) 2 2] 40)) = x1 at *
  replace htab := htab.below hl
  replace BB : Below w.heap.size w x1 := BB.trans (hl.mono BB.size)
  clear hl
  have hp : Nums .i64 x1 (.slice (some ⟨gp, 0, none⟩) 2 2) [0, 100] := Nums.of_row (zs := [0, 100]) hrp (by unfold maxLen; simp)
  have hpr : Nums .i64 x1 (.slice (some ⟨gp + 1, 0, none⟩) 2 2) [1, 1] := Nums.of_row (zs := [1, 1]) hrr (by unfold maxLen; simp)
  have hn0 : Nums .i64 x1 (.slice (some ⟨gp + 1 + 1 + 1, 0, none⟩) 2 2) [500, 500] := Nums.of_row (zs := [500, 500]) hra0 (by unfold maxLen; simp)
  have hn1 : Nums .i64 x1 (.slice (some ⟨gp + 1 + 1 + 1 + 1, 0, none⟩) 2 2) [400, 600] := Nums.of_row (zs := [400, 600]) hra1 (by unfold maxLen; simp)
  have hma : IntsL x1 (.slice (some ⟨gp + 1 + 1 + 1 + 1 + 1, 0, none⟩) 2 2) [[500, 500], [400, 600]] := lst_lit2 hra2 hn0 hn1
  clear hn0 hn1
  have hn0 : Nums .i64 x1 (.slice (some ⟨gp + 1 + 1 + 1 + 1 + 1 + 1 + 1, 0, none⟩) 2 2) [500, 500] := Nums.of_row (zs := [500, 500]) hrb0 (by unfold maxLen; simp)
  have hn1 : Nums .i64 x1 (.slice (some ⟨gp + 1 + 1 + 1 + 1 + 1 + 1 + 1 + 1, 0, none⟩) 2 2) [300, 700] := Nums.of_row (zs := [300, 700]) hrb1 (by unfold maxLen; simp)
  have hmb : IntsL x1 (.slice (some ⟨gp + 1 + 1 + 1 + 1 + 1 + 1 + 1 + 1 + 1, 0, none⟩) 2 2) [[500, 500], [300, 700]] := lst_lit2 hrb2 hn0 hn1
  clear hn0 hn1
  clear hrp hrr hra0 hra1 hra2 hrb0 hrb1 hrb2
  have cg0 : x1.cell? ⟨gp + 1 + 1, 0, none⟩ = some (.slice (some ⟨gp, 0, none⟩) 2 2) := hrg.cell 0
  have cg1 : x1.cell? ⟨gp + 1 + 1, 1, none⟩ = some (.slice (some ⟨gp + 1, 0, none⟩) 2 2) := hrg.cell 1
  have ca0 : x1.cell? ⟨gp + 1 + 1 + 1 + 1 + 1 + 1, 0, none⟩ = some (.slice (some ⟨gp + 1 + 1 + 1 + 1 + 1, 0, none⟩) 2 2) := hra.cell 0
  have cb0 : x1.cell? ⟨gp + 1 + 1 + 1 + 1 + 1 + 1 + 1 + 1 + 1 + 1, 0, none⟩ = some (.slice (some ⟨gp + 1 + 1 + 1 + 1 + 1 + 1 + 1 + 1 + 1, 0, none⟩) 2 2) := hrb.cell 0
  have zg := hrg.lt
  have za := hra.lt
  have zb := hrb.lt
  go_wp2_with fail
  clear cg0 cg1 ca0 cb0 zg za zb
  refine (item_ok _ _ _ [0, 100] [1, 1] [[500, 500], [300, 700]] 0 Z _ hp hpr hmb hZ (by decide +kernel)).mono ?_
  rintro e x2 ⟨v4, rfl, hv4, hb⟩
  replace htab := htab.below hb
  replace hrg := hrg.keep hb
  replace hra := hra.keep hb
  replace hrb := hrb.keep hb
  replace hp := hp.below hb
  replace hpr := hpr.below hb
  replace hma := hma.below hb
  replace hmb := hmb.below hb
  replace BB : Below w.heap.size w x2 := BB.trans (hb.mono BB.size)
  clear hb
  rw [(aw_b hZ).1, (aw_b hZ).2] at hv4
  have h4' := hv4
  obtain ⟨m4, d4, e4, hm4, hd4, _, _⟩ := h4'
  subst e4
  obtain ⟨A4, k4, c4, rfl⟩ := hm4.lim1.choose_spec.1.show_
  obtain ⟨D4, l4, b4, rfl⟩ := hd4.lim1.choose_spec.1.show_
  clear hm4 hd4
  simp only [show decide ((1 : Int) < 0) = false from rfl] at hv4 ⊢
  obtain ⟨g4, hg4⟩ : ∃ g, x2.heap.size = g := ⟨_, rfl⟩
  have hr4 : Row (x2.alloc (.cells #[.bool false, .slice A4 k4 c4, .slice D4 l4 b4] 31)) g4 31 [.bool false, .slice A4 k4 c4, .slice D4 l4 b4] := row_at hg4
  have hl := lit_below x2 (.cells #[.bool false, .slice A4 k4 c4, .slice D4 l4 b4] 31)
  have og_4 : gp + 1 + 1 < g4 := by have := hrg.lt; omega
  have oa_4 : gp + 1 + 1 + 1 + 1 + 1 + 1 < g4 := by have := hra.lt; omega
  have ob_4 : gp + 1 + 1 + 1 + 1 + 1 + 1 + 1 + 1 + 1 + 1 < g4 := by have := hrb.lt; omega
  have ob_4 : w.heap.size ≤ g4 := by have := BB.size; omega
  have cg0 : x2.cell? ⟨gp + 1 + 1, 0, none⟩ = some (.slice (some ⟨gp, 0, none⟩) 2 2) := hrg.cell 0
  have cg1 : x2.cell? ⟨gp + 1 + 1, 1, none⟩ = some (.slice (some ⟨gp + 1, 0, none⟩) 2 2) := hrg.cell 1
  have ca0 : x2.cell? ⟨gp + 1 + 1 + 1 + 1 + 1 + 1, 0, none⟩ = some (.slice (some ⟨gp + 1 + 1 + 1 + 1 + 1, 0, none⟩) 2 2) := hra.cell 0
  have cb0 : x2.cell? ⟨gp + 1 + 1 + 1 + 1 + 1 + 1 + 1 + 1 + 1 + 1, 0, none⟩ = some (.slice (some ⟨gp + 1 + 1 + 1 + 1 + 1 + 1 + 1 + 1 + 1, 0, none⟩) 2 2) := hrb.cell 0
  have dg0 : (x2.alloc (.cells #[.bool false, .slice A4 k4 c4, .slice D4 l4 b4] 31)).cell? ⟨gp + 1 + 1, 0, none⟩ = some (.slice (some ⟨gp, 0, none⟩) 2 2) := (hrg.alloc _).cell 0
  have dg1 : (x2.alloc (.cells #[.bool false, .slice A4 k4 c4, .slice D4 l4 b4] 31)).cell? ⟨gp + 1 + 1, 1, none⟩ = some (.slice (some ⟨gp + 1, 0, none⟩) 2 2) := (hrg.alloc _).cell 1
  have da0 : (x2.alloc (.cells #[.bool false, .slice A4 k4 c4, .slice D4 l4 b4] 31)).cell? ⟨gp + 1 + 1 + 1 + 1 + 1 + 1, 0, none⟩ = some (.slice (some ⟨gp + 1 + 1 + 1 + 1 + 1, 0, none⟩) 2 2) := (hra.alloc _).cell 0
  have db0 : (x2.alloc (.cells #[.bool false, .slice A4 k4 c4, .slice D4 l4 b4] 31)).cell? ⟨gp + 1 + 1 + 1 + 1 + 1 + 1 + 1 + 1 + 1 + 1, 0, none⟩ = some (.slice (some ⟨gp + 1 + 1 + 1 + 1 + 1 + 1 + 1 + 1 + 1, 0, none⟩) 2 2) := (hrb.alloc _).cell 0
  have e0 : (x2.alloc (.cells #[.bool false, .slice A4 k4 c4, .slice D4 l4 b4] 31)).cell? ⟨g4, 0, none⟩ = some (.bool false) := hr4.cell 0
  have e1 : (x2.alloc (.cells #[.bool false, .slice A4 k4 c4, .slice D4 l4 b4] 31)).cell? ⟨g4, 1, none⟩ = some (.slice A4 k4 c4) := hr4.cell 1
  have e2 : (x2.alloc (.cells #[.bool false, .slice A4 k4 c4, .slice D4 l4 b4] 31)).cell? ⟨g4, 2, none⟩ = some (.slice D4 l4 b4) := hr4.cell 2
  go_wp2_with fail
  clear cg0 cg1 ca0 cb0 dg0 dg1 da0 db0 e0 e1 e2
  clear hg4
  generalize (x2.alloc (.cells #[.bool false, .slice A4 k4 c4, .slice D4 l4 b4] 31)) = x3 at *
  replace htab := htab.below hl
  replace hrg := hrg.keep hl
  replace hra := hra.keep hl
  replace hrb := hrb.keep hl
  replace hp := hp.below hl
  replace hpr := hpr.below hl
  replace hma := hma.below hl
  replace hmb := hmb.below hl
  replace hv4 := hv4.below hl
  replace BB : Below w.heap.size w x3 := BB.trans (hl.mono BB.size)
  clear hl
  have cg0 : x3.cell? ⟨gp + 1 + 1, 0, none⟩ = some (.slice (some ⟨gp, 0, none⟩) 2 2) := hrg.cell 0
  have cg1 : x3.cell? ⟨gp + 1 + 1, 1, none⟩ = some (.slice (some ⟨gp + 1, 0, none⟩) 2 2) := hrg.cell 1
  have ca0 : x3.cell? ⟨gp + 1 + 1 + 1 + 1 + 1 + 1, 0, none⟩ = some (.slice (some ⟨gp + 1 + 1 + 1 + 1 + 1, 0, none⟩) 2 2) := hra.cell 0
  have cb0 : x3.cell? ⟨gp + 1 + 1 + 1 + 1 + 1 + 1 + 1 + 1 + 1 + 1, 0, none⟩ = some (.slice (some ⟨gp + 1 + 1 + 1 + 1 + 1 + 1 + 1 + 1 + 1, 0, none⟩) 2 2) := hrb.cell 0
  have c40 : x3.cell? ⟨g4, 0, none⟩ = some (.bool false) := hr4.cell 0
  have c41 : x3.cell? ⟨g4, 1, none⟩ = some (.slice A4 k4 c4) := hr4.cell 1
  have c42 : x3.cell? ⟨g4, 2, none⟩ = some (.slice D4 l4 b4) := hr4.cell 2
  have zg := hrg.lt
  have za := hra.lt
  have zb := hrb.lt
  have z4 := hr4.lt
  go_wp2_with fail
  clear cg0 cg1 ca0 cb0 c40 c41 c42 zg za zb z4
  refine (units_ok _ _ _ [0, 100] [1, 1] [[500, 500], [300, 700]] 0 Z 1 1600 62500 1 1600 _ hp hpr hmb hZ (by decide +kernel) (aw_b hZ).1 (aw_b hZ).2 (by decide) (by decide +kernel) (by decide +kernel) (by decide) (by decide +kernel) (by decide) (by decide)).mono ?_
  rintro e x4 ⟨rfl, hb⟩
  replace htab := htab.below hb
  replace hrg := hrg.keep hb
  replace hra := hra.keep hb
  replace hrb := hrb.keep hb
  replace hp := hp.below hb
  replace hpr := hpr.below hb
  replace hma := hma.below hb
  replace hmb := hmb.below hb
  replace hv4 := hv4.below hb
  replace hr4 := hr4.keep hb
  replace BB : Below w.heap.size w x4 := BB.trans (hb.mono BB.size)
  clear hb
  rw [show ((1600 : Nat) : Int) = 1600 from rfl]
  have cg0 : x4.cell? ⟨gp + 1 + 1, 0, none⟩ = some (.slice (some ⟨gp, 0, none⟩) 2 2) := hrg.cell 0
  have cg1 : x4.cell? ⟨gp + 1 + 1, 1, none⟩ = some (.slice (some ⟨gp + 1, 0, none⟩) 2 2) := hrg.cell 1
  have ca0 : x4.cell? ⟨gp + 1 + 1 + 1 + 1 + 1 + 1, 0, none⟩ = some (.slice (some ⟨gp + 1 + 1 + 1 + 1 + 1, 0, none⟩) 2 2) := hra.cell 0
  have cb0 : x4.cell? ⟨gp + 1 + 1 + 1 + 1 + 1 + 1 + 1 + 1 + 1 + 1, 0, none⟩ = some (.slice (some ⟨gp + 1 + 1 + 1 + 1 + 1 + 1 + 1 + 1 + 1, 0, none⟩) 2 2) := hrb.cell 0
  have c40 : x4.cell? ⟨g4, 0, none⟩ = some (.bool false) := hr4.cell 0
  have c41 : x4.cell? ⟨g4, 1, none⟩ = some (.slice A4 k4 c4) := hr4.cell 1
  have c42 : x4.cell? ⟨g4, 2, none⟩ = some (.slice D4 l4 b4) := hr4.cell 2
  have zg := hrg.lt
  have za := hra.lt
  have zb := hrb.lt
  have z4 := hr4.lt
  go_wp2_with fail
  clear cg0 cg1 ca0 cb0 c40 c41 c42 zg za zb z4
  refine (qprint_mid _ 1 62500 1 62500 330 _ (hv4.ratA (by decide)) (by decide) (by decide) (by decide +kernel) (by decide +kernel) (by decide) (by decide) (by decide) htab).mono ?_
  rintro e x5 ⟨rfl, hb⟩
  replace htab := htab.below hb
  replace hrg := hrg.keep hb
  replace hra := hra.keep hb
  replace hrb := hrb.keep hb
  replace hp := hp.below hb
  replace hpr := hpr.below hb
  replace hma := hma.below hb
  replace hmb := hmb.below hb
  replace hv4 := hv4.below hb
  replace hr4 := hr4.keep hb
  replace BB : Below w.heap.size w x5 := BB.trans (hb.mono BB.size)
  clear hb
  rw [show fracText9 1 62500 = [49, 47, 54, 50, 53, 48, 48] by decide +kernel]
  clear hr4 hv4
  obtain ⟨gm, hgm⟩ : ∃ g, x5.heap.size = g := ⟨_, rfl⟩
  have hrm : Row (x5.alloc (.cells #[.slice (some ⟨gp + 1 + 1 + 1 + 1 + 1, 0, none⟩) 2 2, .slice (some ⟨gp + 1 + 1 + 1 + 1 + 1 + 1 + 1 + 1 + 1, 0, none⟩) 2 2] 40)) (gm) 40 [.slice (some ⟨gp + 1 + 1 + 1 + 1 + 1, 0, none⟩) 2 2, .slice (some ⟨gp + 1 + 1 + 1 + 1 + 1 + 1 + 1 + 1 + 1, 0, none⟩) 2 2] := row_at (w := x5) (g := gm) (by simp [hgm])
  have hl : Below x5.heap.size x5 (x5.alloc (.cells #[.slice (some ⟨gp + 1 + 1 + 1 + 1 + 1, 0, none⟩) 2 2, .slice (some ⟨gp + 1 + 1 + 1 + 1 + 1 + 1 + 1 + 1 + 1, 0, none⟩) 2 2] 40)) := lit_below x5 _
  have og_m : gp + 1 + 1 < gm := by have := hrg.lt; omega
  have oa_m : gp + 1 + 1 + 1 + 1 + 1 + 1 < gm := by have := hra.lt; omega
  have ob_m : gp + 1 + 1 + 1 + 1 + 1 + 1 + 1 + 1 + 1 + 1 < gm := by have := hrb.lt; omega
  have ob_m : w.heap.size ≤ gm := by have := BB.size; omega
  have cg0 : x5.cell? ⟨gp + 1 + 1, 0, none⟩ = some (.slice (some ⟨gp, 0, none⟩) 2 2) := hrg.cell 0
  have cg1 : x5.cell? ⟨gp + 1 + 1, 1, none⟩ = some (.slice (some ⟨gp + 1, 0, none⟩) 2 2) := hrg.cell 1
  have ca0 : x5.cell? ⟨gp + 1 + 1 + 1 + 1 + 1 + 1, 0, none⟩ = some (.slice (some ⟨gp + 1 + 1 + 1 + 1 + 1, 0, none⟩) 2 2) := hra.cell 0
  have cb0 : x5.cell? ⟨gp + 1 + 1 + 1 + 1 + 1 + 1 + 1 + 1 + 1 + 1, 0, none⟩ = some (.slice (some ⟨gp + 1 + 1 + 1 + 1 + 1 + 1 + 1 + 1 + 1, 0, none⟩) 2 2) := hrb.cell 0
  have d1_g0 : (x5.alloc (.cells #[.slice (some ⟨gp + 1 + 1 + 1 + 1 + 1, 0, none⟩) 2 2, .slice (some ⟨gp + 1 + 1 + 1 + 1 + 1 + 1 + 1 + 1 + 1, 0, none⟩) 2 2] 40)).cell? ⟨gp + 1 + 1, 0, none⟩ = some (.slice (some ⟨gp, 0, none⟩) 2 2) := (hrg.alloc _).cell 0
  have d1_g1 : (x5.alloc (.cells #[.slice (some ⟨gp + 1 + 1 + 1 + 1 + 1, 0, none⟩) 2 2, .slice (some ⟨gp + 1 + 1 + 1 + 1 + 1 + 1 + 1 + 1 + 1, 0, none⟩) 2 2] 40)).cell? ⟨gp + 1 + 1, 1, none⟩ = some (.slice (some ⟨gp + 1, 0, none⟩) 2 2) := (hrg.alloc _).cell 1
  have d1_a0 : (x5.alloc (.cells #[.slice (some ⟨gp + 1 + 1 + 1 + 1 + 1, 0, none⟩) 2 2, .slice (some ⟨gp + 1 + 1 + 1 + 1 + 1 + 1 + 1 + 1 + 1, 0, none⟩) 2 2] 40)).cell? ⟨gp + 1 + 1 + 1 + 1 + 1 + 1, 0, none⟩ = some (.slice (some ⟨gp + 1 + 1 + 1 + 1 + 1, 0, none⟩) 2 2) := (hra.alloc _).cell 0
  have d1_b0 : (x5.alloc (.cells #[.slice (some ⟨gp + 1 + 1 + 1 + 1 + 1, 0, none⟩) 2 2, .slice (some ⟨gp + 1 + 1 + 1 + 1 + 1 + 1 + 1 + 1 + 1, 0, none⟩) 2 2] 40)).cell? ⟨gp + 1 + 1 + 1 + 1 + 1 + 1 + 1 + 1 + 1 + 1, 0, none⟩ = some (.slice (some ⟨gp + 1 + 1 + 1 + 1 + 1 + 1 + 1 + 1 + 1, 0, none⟩) 2 2) := (hrb.alloc _).cell 0
  have e0_0 : (x5.alloc (.cells #[.slice (some ⟨gp + 1 + 1 + 1 + 1 + 1, 0, none⟩) 2 2, .slice (some ⟨gp + 1 + 1 + 1 + 1 + 1 + 1 + 1 + 1 + 1, 0, none⟩) 2 2] 40)).cell? ⟨gm, 0, none⟩ = some (.slice (some ⟨gp + 1 + 1 + 1 + 1 + 1, 0, none⟩) 2 2) := hrm.cell 0
  have e0_1 : (x5.alloc (.cells #[.slice (some ⟨gp + 1 + 1 + 1 + 1 + 1, 0, none⟩) 2 2, .slice (some ⟨gp + 1 + 1 + 1 + 1 + 1 + 1 + 1 + 1 + 1, 0, none⟩) 2 2] 40)).cell? ⟨gm, 1, none⟩ = some (.slice (some ⟨gp + 1 + 1 + 1 + 1 + 1 + 1 + 1 + 1 + 1, 0, none⟩) 2 2) := hrm.cell 1
  go_wp2_with fail
  clear cg0 cg1 ca0 cb0 e0_0 e0_1 d1_g0 d1_g1 d1_a0 d1_b0
  clear hgm
  generalize (x5.alloc (.cells #[.slice (some ⟨gp + 1 + 1 + 1 + 1 + 1, 0, none⟩) 2 2, .slice (some ⟨gp + 1 + 1 + 1 + 1 + 1 + 1 + 1 + 1 + 1, 0, none⟩) 2 2] 40)) = x6 at *
  replace htab := htab.below hl
  replace hrg := hrg.keep hl
  replace hra := hra.keep hl
  replace hrb := hrb.keep hl
  replace hp := hp.below hl
  replace hpr := hpr.below hl
  replace hma := hma.below hl
  replace hmb := hmb.below hl
  replace BB : Below w.heap.size w x6 := BB.trans (hl.mono BB.size)
  clear hl
  have hms : ModL x6 (.slice (some ⟨gm, 0, none⟩) 2 2) [[[500, 500], [400, 600]], [[500, 500], [300, 700]]] := lst_lit2 hrm hma hmb
  clear hrm
  have cg0 : x6.cell? ⟨gp + 1 + 1, 0, none⟩ = some (.slice (some ⟨gp, 0, none⟩) 2 2) := hrg.cell 0
  have cg1 : x6.cell? ⟨gp + 1 + 1, 1, none⟩ = some (.slice (some ⟨gp + 1, 0, none⟩) 2 2) := hrg.cell 1
  have ca0 : x6.cell? ⟨gp + 1 + 1 + 1 + 1 + 1 + 1, 0, none⟩ = some (.slice (some ⟨gp + 1 + 1 + 1 + 1 + 1, 0, none⟩) 2 2) := hra.cell 0
  have cb0 : x6.cell? ⟨gp + 1 + 1 + 1 + 1 + 1 + 1 + 1 + 1 + 1 + 1, 0, none⟩ = some (.slice (some ⟨gp + 1 + 1 + 1 + 1 + 1 + 1 + 1 + 1 + 1, 0, none⟩) 2 2) := hrb.cell 0
  have zg := hrg.lt
  have za := hra.lt
  have zb := hrb.lt
  go_wp2_with fail
  clear cg0 cg1 ca0 cb0 zg za zb
  refine (best_ok _ _ _ [0, 100] [1, 1] [[[500, 500], [400, 600]], [[500, 500], [300, 700]]] 0 Z _ hp hpr hms hZ (by decide +kernel)).mono ?_
  rintro e x7 ⟨rfl, hb⟩
  replace htab := htab.below hb
  replace hrg := hrg.keep hb
  replace hra := hra.keep hb
  replace hrb := hrb.keep hb
  replace hp := hp.below hb
  replace hpr := hpr.below hb
  replace hma := hma.below hb
  replace hmb := hmb.below hb
  replace hms := hms.below hb
  replace BB : Below w.heap.size w x7 := BB.trans (hb.mono BB.size)
  clear hb
  rw [aw_best hZ]
  clear hms
  obtain ⟨gn, hgn⟩ : ∃ g, x7.heap.size = g := ⟨_, rfl⟩
  have hrn : Row (x7.alloc (.cells #[.slice (some ⟨gp + 1 + 1 + 1 + 1 + 1 + 1 + 1 + 1 + 1, 0, none⟩) 2 2, .slice (some ⟨gp + 1 + 1 + 1 + 1 + 1 + 1 + 1 + 1 + 1, 0, none⟩) 2 2] 40)) (gn) 40 [.slice (some ⟨gp + 1 + 1 + 1 + 1 + 1 + 1 + 1 + 1 + 1, 0, none⟩) 2 2, .slice (some ⟨gp + 1 + 1 + 1 + 1 + 1 + 1 + 1 + 1 + 1, 0, none⟩) 2 2] := row_at (w := x7) (g := gn) (by simp [hgn])
  have hl : Below x7.heap.size x7 (x7.alloc (.cells #[.slice (some ⟨gp + 1 + 1 + 1 + 1 + 1 + 1 + 1 + 1 + 1, 0, none⟩) 2 2, .slice (some ⟨gp + 1 + 1 + 1 + 1 + 1 + 1 + 1 + 1 + 1, 0, none⟩) 2 2] 40)) := lit_below x7 _
  have og_n : gp + 1 + 1 < gn := by have := hrg.lt; omega
  have oa_n : gp + 1 + 1 + 1 + 1 + 1 + 1 < gn := by have := hra.lt; omega
  have ob_n : gp + 1 + 1 + 1 + 1 + 1 + 1 + 1 + 1 + 1 + 1 < gn := by have := hrb.lt; omega
  have ob_n : w.heap.size ≤ gn := by have := BB.size; omega
  have cg0 : x7.cell? ⟨gp + 1 + 1, 0, none⟩ = some (.slice (some ⟨gp, 0, none⟩) 2 2) := hrg.cell 0
  have cg1 : x7.cell? ⟨gp + 1 + 1, 1, none⟩ = some (.slice (some ⟨gp + 1, 0, none⟩) 2 2) := hrg.cell 1
  have ca0 : x7.cell? ⟨gp + 1 + 1 + 1 + 1 + 1 + 1, 0, none⟩ = some (.slice (some ⟨gp + 1 + 1 + 1 + 1 + 1, 0, none⟩) 2 2) := hra.cell 0
  have cb0 : x7.cell? ⟨gp + 1 + 1 + 1 + 1 + 1 + 1 + 1 + 1 + 1 + 1, 0, none⟩ = some (.slice (some ⟨gp + 1 + 1 + 1 + 1 + 1 + 1 + 1 + 1 + 1, 0, none⟩) 2 2) := hrb.cell 0
  have d1_g0 : (x7.alloc (.cells #[.slice (some ⟨gp + 1 + 1 + 1 + 1 + 1 + 1 + 1 + 1 + 1, 0, none⟩) 2 2, .slice (some ⟨gp + 1 + 1 + 1 + 1 + 1 + 1 + 1 + 1 + 1, 0, none⟩) 2 2] 40)).cell? ⟨gp + 1 + 1, 0, none⟩ = some (.slice (some ⟨gp, 0, none⟩) 2 2) := (hrg.alloc _).cell 0
  have d1_g1 : (x7.alloc (.cells #[.slice (some ⟨gp + 1 + 1 + 1 + 1 + 1 + 1 + 1 + 1 + 1, 0, none⟩) 2 2, .slice (some ⟨gp + 1 + 1 + 1 + 1 + 1 + 1 + 1 + 1 + 1, 0, none⟩) 2 2] 40)).cell? ⟨gp + 1 + 1, 1, none⟩ = some (.slice (some ⟨gp + 1, 0, none⟩) 2 2) := (hrg.alloc _).cell 1
  have d1_a0 : (x7.alloc (.cells #[.slice (some ⟨gp + 1 + 1 + 1 + 1 + 1 + 1 + 1 + 1 + 1, 0, none⟩) 2 2, .slice (some ⟨gp + 1 + 1 + 1 + 1 + 1 + 1 + 1 + 1 + 1, 0, none⟩) 2 2] 40)).cell? ⟨gp + 1 + 1 + 1 + 1 + 1 + 1, 0, none⟩ = some (.slice (some ⟨gp + 1 + 1 + 1 + 1 + 1, 0, none⟩) 2 2) := (hra.alloc _).cell 0
  have d1_b0 : (x7.alloc (.cells #[.slice (some ⟨gp + 1 + 1 + 1 + 1 + 1 + 1 + 1 + 1 + 1, 0, none⟩) 2 2, .slice (some ⟨gp + 1 + 1 + 1 + 1 + 1 + 1 + 1 + 1 + 1, 0, none⟩) 2 2] 40)).cell? ⟨gp + 1 + 1 + 1 + 1 + 1 + 1 + 1 + 1 + 1 + 1, 0, none⟩ = some (.slice (some ⟨gp + 1 + 1 + 1 + 1 + 1 + 1 + 1 + 1 + 1, 0, none⟩) 2 2) := (hrb.alloc _).cell 0
  have e0_0 : (x7.alloc (.cells #[.slice (some ⟨gp + 1 + 1 + 1 + 1 + 1 + 1 + 1 + 1 + 1, 0, none⟩) 2 2, .slice (some ⟨gp + 1 + 1 + 1 + 1 + 1 + 1 + 1 + 1 + 1, 0, none⟩) 2 2] 40)).cell? ⟨gn, 0, none⟩ = some (.slice (some ⟨gp + 1 + 1 + 1 + 1 + 1 + 1 + 1 + 1 + 1, 0, none⟩) 2 2) := hrn.cell 0
  have e0_1 : (x7.alloc (.cells #[.slice (some ⟨gp + 1 + 1 + 1 + 1 + 1 + 1 + 1 + 1 + 1, 0, none⟩) 2 2, .slice (some ⟨gp + 1 + 1 + 1 + 1 + 1 + 1 + 1 + 1 + 1, 0, none⟩) 2 2] 40)).cell? ⟨gn, 1, none⟩ = some (.slice (some ⟨gp + 1 + 1 + 1 + 1 + 1 + 1 + 1 + 1 + 1, 0, none⟩) 2 2) := hrn.cell 1
  go_wp2_with fail
  clear cg0 cg1 ca0 cb0 e0_0 e0_1 d1_g0 d1_g1 d1_a0 d1_b0
  clear hgn
  generalize (x7.alloc (.cells #[.slice (some ⟨gp + 1 + 1 + 1 + 1 + 1 + 1 + 1 + 1 + 1, 0, none⟩) 2 2, .slice (some ⟨gp + 1 + 1 + 1 + 1 + 1 + 1 + 1 + 1 + 1, 0, none⟩) 2 2] 40)) = x8 at *
  replace htab := htab.below hl
  replace hrg := hrg.keep hl
  replace hra := hra.keep hl
  replace hrb := hrb.keep hl
  replace hp := hp.below hl
  replace hpr := hpr.below hl
  replace hma := hma.below hl
  replace hmb := hmb.below hl
  replace BB : Below w.heap.size w x8 := BB.trans (hl.mono BB.size)
  clear hl
  have hms : ModL x8 (.slice (some ⟨gn, 0, none⟩) 2 2) [[[500, 500], [300, 700]], [[500, 500], [300, 700]]] := lst_lit2 hrn hmb hmb
  clear hrn
  have cg0 : x8.cell? ⟨gp + 1 + 1, 0, none⟩ = some (.slice (some ⟨gp, 0, none⟩) 2 2) := hrg.cell 0
  have cg1 : x8.cell? ⟨gp + 1 + 1, 1, none⟩ = some (.slice (some ⟨gp + 1, 0, none⟩) 2 2) := hrg.cell 1
  have ca0 : x8.cell? ⟨gp + 1 + 1 + 1 + 1 + 1 + 1, 0, none⟩ = some (.slice (some ⟨gp + 1 + 1 + 1 + 1 + 1, 0, none⟩) 2 2) := hra.cell 0
  have cb0 : x8.cell? ⟨gp + 1 + 1 + 1 + 1 + 1 + 1 + 1 + 1 + 1 + 1, 0, none⟩ = some (.slice (some ⟨gp + 1 + 1 + 1 + 1 + 1 + 1 + 1 + 1 + 1, 0, none⟩) 2 2) := hrb.cell 0
  have zg := hrg.lt
  have za := hra.lt
  have zb := hrb.lt
  go_wp2_with fail
  clear cg0 cg1 ca0 cb0 zg za zb
  refine (test_ok _ _ _ [0, 100] [1, 1] [[[500, 500], [300, 700]], [[500, 500], [300, 700]]] 0 Z _ hp hpr hms hZ (by decide +kernel)).mono ?_
  rintro e x9 ⟨v9, rfl, hv9, hb⟩
  replace htab := htab.below hb
  replace hrg := hrg.keep hb
  replace hra := hra.keep hb
  replace hrb := hrb.keep hb
  replace hp := hp.below hb
  replace hpr := hpr.below hb
  replace hma := hma.below hb
  replace hmb := hmb.below hb
  replace hms := hms.below hb
  replace BB : Below w.heap.size w x9 := BB.trans (hb.mono BB.size)
  clear hb
  rw [(aw_t hZ).1, (aw_t hZ).2] at hv9
  have h9' := hv9
  obtain ⟨m9, d9, e9, hm9, hd9, _, _⟩ := h9'
  subst e9
  obtain ⟨A9, k9, c9, rfl⟩ := hm9.lim1.choose_spec.1.show_
  obtain ⟨D9, l9, b9, rfl⟩ := hd9.lim1.choose_spec.1.show_
  clear hm9 hd9
  simp only [show decide ((1 : Int) < 0) = false from rfl] at hv9 ⊢
  clear hms
  obtain ⟨g9, hg9⟩ : ∃ g, x9.heap.size = g := ⟨_, rfl⟩
  have hr9 : Row (x9.alloc (.cells #[.bool false, .slice A9 k9 c9, .slice D9 l9 b9] 31)) g9 31 [.bool false, .slice A9 k9 c9, .slice D9 l9 b9] := row_at hg9
  have hl := lit_below x9 (.cells #[.bool false, .slice A9 k9 c9, .slice D9 l9 b9] 31)
  have og_9 : gp + 1 + 1 < g9 := by have := hrg.lt; omega
  have oa_9 : gp + 1 + 1 + 1 + 1 + 1 + 1 < g9 := by have := hra.lt; omega
  have ob_9 : gp + 1 + 1 + 1 + 1 + 1 + 1 + 1 + 1 + 1 + 1 < g9 := by have := hrb.lt; omega
  have ob_9 : w.heap.size ≤ g9 := by have := BB.size; omega
  have cg0 : x9.cell? ⟨gp + 1 + 1, 0, none⟩ = some (.slice (some ⟨gp, 0, none⟩) 2 2) := hrg.cell 0
  have cg1 : x9.cell? ⟨gp + 1 + 1, 1, none⟩ = some (.slice (some ⟨gp + 1, 0, none⟩) 2 2) := hrg.cell 1
  have ca0 : x9.cell? ⟨gp + 1 + 1 + 1 + 1 + 1 + 1, 0, none⟩ = some (.slice (some ⟨gp + 1 + 1 + 1 + 1 + 1, 0, none⟩) 2 2) := hra.cell 0
  have cb0 : x9.cell? ⟨gp + 1 + 1 + 1 + 1 + 1 + 1 + 1 + 1 + 1 + 1, 0, none⟩ = some (.slice (some ⟨gp + 1 + 1 + 1 + 1 + 1 + 1 + 1 + 1 + 1, 0, none⟩) 2 2) := hrb.cell 0
  have dg0 : (x9.alloc (.cells #[.bool false, .slice A9 k9 c9, .slice D9 l9 b9] 31)).cell? ⟨gp + 1 + 1, 0, none⟩ = some (.slice (some ⟨gp, 0, none⟩) 2 2) := (hrg.alloc _).cell 0
  have dg1 : (x9.alloc (.cells #[.bool false, .slice A9 k9 c9, .slice D9 l9 b9] 31)).cell? ⟨gp + 1 + 1, 1, none⟩ = some (.slice (some ⟨gp + 1, 0, none⟩) 2 2) := (hrg.alloc _).cell 1
  have da0 : (x9.alloc (.cells #[.bool false, .slice A9 k9 c9, .slice D9 l9 b9] 31)).cell? ⟨gp + 1 + 1 + 1 + 1 + 1 + 1, 0, none⟩ = some (.slice (some ⟨gp + 1 + 1 + 1 + 1 + 1, 0, none⟩) 2 2) := (hra.alloc _).cell 0
  have db0 : (x9.alloc (.cells #[.bool false, .slice A9 k9 c9, .slice D9 l9 b9] 31)).cell? ⟨gp + 1 + 1 + 1 + 1 + 1 + 1 + 1 + 1 + 1 + 1, 0, none⟩ = some (.slice (some ⟨gp + 1 + 1 + 1 + 1 + 1 + 1 + 1 + 1 + 1, 0, none⟩) 2 2) := (hrb.alloc _).cell 0
  have e0 : (x9.alloc (.cells #[.bool false, .slice A9 k9 c9, .slice D9 l9 b9] 31)).cell? ⟨g9, 0, none⟩ = some (.bool false) := hr9.cell 0
  have e1 : (x9.alloc (.cells #[.bool false, .slice A9 k9 c9, .slice D9 l9 b9] 31)).cell? ⟨g9, 1, none⟩ = some (.slice A9 k9 c9) := hr9.cell 1
  have e2 : (x9.alloc (.cells #[.bool false, .slice A9 k9 c9, .slice D9 l9 b9] 31)).cell? ⟨g9, 2, none⟩ = some (.slice D9 l9 b9) := hr9.cell 2
  go_wp2_with fail
  clear cg0 cg1 ca0 cb0 dg0 dg1 da0 db0 e0 e1 e2
  clear hg9
  generalize (x9.alloc (.cells #[.bool false, .slice A9 k9 c9, .slice D9 l9 b9] 31)) = x10 at *
  replace htab := htab.below hl
  replace hrg := hrg.keep hl
  replace hra := hra.keep hl
  replace hrb := hrb.keep hl
  replace hp := hp.below hl
  replace hpr := hpr.below hl
  replace hma := hma.below hl
  replace hmb := hmb.below hl
  replace hv9 := hv9.below hl
  replace BB : Below w.heap.size w x10 := BB.trans (hl.mono BB.size)
  clear hl
  have cg0 : x10.cell? ⟨gp + 1 + 1, 0, none⟩ = some (.slice (some ⟨gp, 0, none⟩) 2 2) := hrg.cell 0
  have cg1 : x10.cell? ⟨gp + 1 + 1, 1, none⟩ = some (.slice (some ⟨gp + 1, 0, none⟩) 2 2) := hrg.cell 1
  have ca0 : x10.cell? ⟨gp + 1 + 1 + 1 + 1 + 1 + 1, 0, none⟩ = some (.slice (some ⟨gp + 1 + 1 + 1 + 1 + 1, 0, none⟩) 2 2) := hra.cell 0
  have cb0 : x10.cell? ⟨gp + 1 + 1 + 1 + 1 + 1 + 1 + 1 + 1 + 1 + 1, 0, none⟩ = some (.slice (some ⟨gp + 1 + 1 + 1 + 1 + 1 + 1 + 1 + 1 + 1, 0, none⟩) 2 2) := hrb.cell 0
  have c90 : x10.cell? ⟨g9, 0, none⟩ = some (.bool false) := hr9.cell 0
  have c91 : x10.cell? ⟨g9, 1, none⟩ = some (.slice A9 k9 c9) := hr9.cell 1
  have c92 : x10.cell? ⟨g9, 2, none⟩ = some (.slice D9 l9 b9) := hr9.cell 2
  have zg := hrg.lt
  have za := hra.lt
  have zb := hrb.lt
  have z9 := hr9.lt
  go_wp2_with fail
  clear cg0 cg1 ca0 cb0 c90 c91 c92 zg za zb z9
  refine (qprint_mid _ 1 31250 1 31250 330 _ (hv9.ratA (by decide)) (by decide) (by decide) (by decide +kernel) (by decide +kernel) (by decide) (by decide) (by decide) htab).mono ?_
  rintro e x11 ⟨rfl, hb⟩
  replace htab := htab.below hb
  replace hrg := hrg.keep hb
  replace hra := hra.keep hb
  replace hrb := hrb.keep hb
  replace hp := hp.below hb
  replace hpr := hpr.below hb
  replace hma := hma.below hb
  replace hmb := hmb.below hb
  replace hv9 := hv9.below hb
  replace hr9 := hr9.keep hb
  replace BB : Below w.heap.size w x11 := BB.trans (hb.mono BB.size)
  clear hb
  rw [show fracText9 1 31250 = [49, 47, 51, 49, 50, 53, 48] by decide +kernel]
  clear hr9 hv9
  obtain ⟨go, hgo⟩ : ∃ g, x11.heap.size = g := ⟨_, rfl⟩
  have hro : Row (x11.alloc (.cells #[.slice (some ⟨gp + 1 + 1 + 1 + 1 + 1 + 1 + 1 + 1 + 1, 0, none⟩) 2 2, .slice (some ⟨gp + 1 + 1 + 1 + 1 + 1 + 1 + 1 + 1 + 1, 0, none⟩) 2 2] 40)) (go) 40 [.slice (some ⟨gp + 1 + 1 + 1 + 1 + 1 + 1 + 1 + 1 + 1, 0, none⟩) 2 2, .slice (some ⟨gp + 1 + 1 + 1 + 1 + 1 + 1 + 1 + 1 + 1, 0, none⟩) 2 2] := row_at (w := x11) (g := go) (by simp [hgo])
  have hl : Below x11.heap.size x11 (x11.alloc (.cells #[.slice (some ⟨gp + 1 + 1 + 1 + 1 + 1 + 1 + 1 + 1 + 1, 0, none⟩) 2 2, .slice (some ⟨gp + 1 + 1 + 1 + 1 + 1 + 1 + 1 + 1 + 1, 0, none⟩) 2 2] 40)) := lit_below x11 _
  have og_o : gp + 1 + 1 < go := by have := hrg.lt; omega
  have oa_o : gp + 1 + 1 + 1 + 1 + 1 + 1 < go := by have := hra.lt; omega
  have ob_o : gp + 1 + 1 + 1 + 1 + 1 + 1 + 1 + 1 + 1 + 1 < go := by have := hrb.lt; omega
  have ob_o : w.heap.size ≤ go := by have := BB.size; omega
  have cg0 : x11.cell? ⟨gp + 1 + 1, 0, none⟩ = some (.slice (some ⟨gp, 0, none⟩) 2 2) := hrg.cell 0
  have cg1 : x11.cell? ⟨gp + 1 + 1, 1, none⟩ = some (.slice (some ⟨gp + 1, 0, none⟩) 2 2) := hrg.cell 1
  have ca0 : x11.cell? ⟨gp + 1 + 1 + 1 + 1 + 1 + 1, 0, none⟩ = some (.slice (some ⟨gp + 1 + 1 + 1 + 1 + 1, 0, none⟩) 2 2) := hra.cell 0
  have cb0 : x11.cell? ⟨gp + 1 + 1 + 1 + 1 + 1 + 1 + 1 + 1 + 1 + 1, 0, none⟩ = some (.slice (some ⟨gp + 1 + 1 + 1 + 1 + 1 + 1 + 1 + 1 + 1, 0, none⟩) 2 2) := hrb.cell 0
  have d1_g0 : (x11.alloc (.cells #[.slice (some ⟨gp + 1 + 1 + 1 + 1 + 1 + 1 + 1 + 1 + 1, 0, none⟩) 2 2, .slice (some ⟨gp + 1 + 1 + 1 + 1 + 1 + 1 + 1 + 1 + 1, 0, none⟩) 2 2] 40)).cell? ⟨gp + 1 + 1, 0, none⟩ = some (.slice (some ⟨gp, 0, none⟩) 2 2) := (hrg.alloc _).cell 0
  have d1_g1 : (x11.alloc (.cells #[.slice (some ⟨gp + 1 + 1 + 1 + 1 + 1 + 1 + 1 + 1 + 1, 0, none⟩) 2 2, .slice (some ⟨gp + 1 + 1 + 1 + 1 + 1 + 1 + 1 + 1 + 1, 0, none⟩) 2 2] 40)).cell? ⟨gp + 1 + 1, 1, none⟩ = some (.slice (some ⟨gp + 1, 0, none⟩) 2 2) := (hrg.alloc _).cell 1
  have d1_a0 : (x11.alloc (.cells #[.slice (some ⟨gp + 1 + 1 + 1 + 1 + 1 + 1 + 1 + 1 + 1, 0, none⟩) 2 2, .slice (some ⟨gp + 1 + 1 + 1 + 1 + 1 + 1 + 1 + 1 + 1, 0, none⟩) 2 2] 40)).cell? ⟨gp + 1 + 1 + 1 + 1 + 1 + 1, 0, none⟩ = some (.slice (some ⟨gp + 1 + 1 + 1 + 1 + 1, 0, none⟩) 2 2) := (hra.alloc _).cell 0
  have d1_b0 : (x11.alloc (.cells #[.slice (some ⟨gp + 1 + 1 + 1 + 1 + 1 + 1 + 1 + 1 + 1, 0, none⟩) 2 2, .slice (some ⟨gp + 1 + 1 + 1 + 1 + 1 + 1 + 1 + 1 + 1, 0, none⟩) 2 2] 40)).cell? ⟨gp + 1 + 1 + 1 + 1 + 1 + 1 + 1 + 1 + 1 + 1, 0, none⟩ = some (.slice (some ⟨gp + 1 + 1 + 1 + 1 + 1 + 1 + 1 + 1 + 1, 0, none⟩) 2 2) := (hrb.alloc _).cell 0
  have e0_0 : (x11.alloc (.cells #[.slice (some ⟨gp + 1 + 1 + 1 + 1 + 1 + 1 + 1 + 1 + 1, 0, none⟩) 2 2, .slice (some ⟨gp + 1 + 1 + 1 + 1 + 1 + 1 + 1 + 1 + 1, 0, none⟩) 2 2] 40)).cell? ⟨go, 0, none⟩ = some (.slice (some ⟨gp + 1 + 1 + 1 + 1 + 1 + 1 + 1 + 1 + 1, 0, none⟩) 2 2) := hro.cell 0
  have e0_1 : (x11.alloc (.cells #[.slice (some ⟨gp + 1 + 1 + 1 + 1 + 1 + 1 + 1 + 1 + 1, 0, none⟩) 2 2, .slice (some ⟨gp + 1 + 1 + 1 + 1 + 1 + 1 + 1 + 1 + 1, 0, none⟩) 2 2] 40)).cell? ⟨go, 1, none⟩ = some (.slice (some ⟨gp + 1 + 1 + 1 + 1 + 1 + 1 + 1 + 1 + 1, 0, none⟩) 2 2) := hro.cell 1
  go_wp2_with fail
  clear cg0 cg1 ca0 cb0 e0_0 e0_1 d1_g0 d1_g1 d1_a0 d1_b0
  clear hgo
  generalize (x11.alloc (.cells #[.slice (some ⟨gp + 1 + 1 + 1 + 1 + 1 + 1 + 1 + 1 + 1, 0, none⟩) 2 2, .slice (some ⟨gp + 1 + 1 + 1 + 1 + 1 + 1 + 1 + 1 + 1, 0, none⟩) 2 2] 40)) = x12 at *
  replace htab := htab.below hl
  replace hrg := hrg.keep hl
  replace hra := hra.keep hl
  replace hrb := hrb.keep hl
  replace hp := hp.below hl
  replace hpr := hpr.below hl
  replace hma := hma.below hl
  replace hmb := hmb.below hl
  replace BB : Below w.heap.size w x12 := BB.trans (hl.mono BB.size)
  clear hl
  have hms : ModL x12 (.slice (some ⟨go, 0, none⟩) 2 2) [[[500, 500], [300, 700]], [[500, 500], [300, 700]]] := lst_lit2 hro hmb hmb
  clear hro
  have cg0 : x12.cell? ⟨gp + 1 + 1, 0, none⟩ = some (.slice (some ⟨gp, 0, none⟩) 2 2) := hrg.cell 0
  have cg1 : x12.cell? ⟨gp + 1 + 1, 1, none⟩ = some (.slice (some ⟨gp + 1, 0, none⟩) 2 2) := hrg.cell 1
  have ca0 : x12.cell? ⟨gp + 1 + 1 + 1 + 1 + 1 + 1, 0, none⟩ = some (.slice (some ⟨gp + 1 + 1 + 1 + 1 + 1, 0, none⟩) 2 2) := hra.cell 0
  have cb0 : x12.cell? ⟨gp + 1 + 1 + 1 + 1 + 1 + 1 + 1 + 1 + 1 + 1, 0, none⟩ = some (.slice (some ⟨gp + 1 + 1 + 1 + 1 + 1 + 1 + 1 + 1 + 1, 0, none⟩) 2 2) := hrb.cell 0
  have zg := hrg.lt
  have za := hra.lt
  have zb := hrb.lt
  go_wp2_with fail
  clear cg0 cg1 ca0 cb0 zg za zb
  refine (curve_ok _ _ _ [0, 100] [1, 1] [[[500, 500], [300, 700]], [[500, 500], [300, 700]]] Z _ hp hpr hms hZ (by decide +kernel)).mono ?_
  rintro e x13 ⟨gc, usc, rfl, hgc0, hrc, hcc, hb⟩
  replace htab := htab.below hb
  replace hrg := hrg.keep hb
  replace hra := hra.keep hb
  replace hrb := hrb.keep hb
  replace hp := hp.below hb
  replace hpr := hpr.below hb
  replace hma := hma.below hb
  replace hmb := hmb.below hb
  replace hms := hms.below hb
  replace BB : Below w.heap.size w x13 := BB.trans (hb.mono BB.size)
  clear hb
  clear hgc0
  rw [show ([0, 100] : List Int).length = 2 from rfl] at hcc ⊢
  obtain ⟨hlenc, hrcc⟩ := hcc
  obtain ⟨uac, ubc, rfl⟩ : ∃ a b, usc = [a, b] := by
    match usc, hlenc with
    | [a, b], _ => exact ⟨a, b, rfl⟩
  have hvc := hrcc 0 uac rfl
  rw [aw_c hZ] at hvc
  clear hrcc hlenc
  obtain ⟨a0, a1, a2⟩ := uac
  obtain ⟨b0, b1, b2⟩ := ubc
  clear hms
  have cg0 : x13.cell? ⟨gp + 1 + 1, 0, none⟩ = some (.slice (some ⟨gp, 0, none⟩) 2 2) := hrg.cell 0
  have cg1 : x13.cell? ⟨gp + 1 + 1, 1, none⟩ = some (.slice (some ⟨gp + 1, 0, none⟩) 2 2) := hrg.cell 1
  have ca0 : x13.cell? ⟨gp + 1 + 1 + 1 + 1 + 1 + 1, 0, none⟩ = some (.slice (some ⟨gp + 1 + 1 + 1 + 1 + 1, 0, none⟩) 2 2) := hra.cell 0
  have cb0 : x13.cell? ⟨gp + 1 + 1 + 1 + 1 + 1 + 1 + 1 + 1 + 1 + 1, 0, none⟩ = some (.slice (some ⟨gp + 1 + 1 + 1 + 1 + 1 + 1 + 1 + 1 + 1, 0, none⟩) 2 2) := hrb.cell 0
  have cc0 : x13.cell? ⟨gc, 0, none⟩ = some (a0) := hrc.cell 0
  have cc1 : x13.cell? ⟨gc, 1, none⟩ = some (a1) := hrc.cell 1
  have cc2 : x13.cell? ⟨gc, 2, none⟩ = some (a2) := hrc.cell 2
  have cc3 : x13.cell? ⟨gc, 3, none⟩ = some (b0) := hrc.cell 3
  have cc4 : x13.cell? ⟨gc, 4, none⟩ = some (b1) := hrc.cell 4
  have cc5 : x13.cell? ⟨gc, 5, none⟩ = some (b2) := hrc.cell 5
  have zg := hrg.lt
  have za := hra.lt
  have zb := hrb.lt
  have zc := hrc.lt
  go_wp2_with fail
  clear cg0 cg1 ca0 cb0 cc0 cc1 cc2 cc3 cc4 cc5 zg za zb zc
  refine (qprint_mid _ 1 31250 1 31250 330 _ (hvc.ratA (by decide)) (by decide) (by decide) (by decide +kernel) (by decide +kernel) (by decide) (by decide) (by decide) htab).mono ?_
  rintro e x14 ⟨rfl, hb⟩
  replace htab := htab.below hb
  replace hrg := hrg.keep hb
  replace hra := hra.keep hb
  replace hrb := hrb.keep hb
  replace hp := hp.below hb
  replace hpr := hpr.below hb
  replace hma := hma.below hb
  replace hmb := hmb.below hb
  replace hrc := hrc.keep hb
  replace hvc := hvc.below hb
  replace BB : Below w.heap.size w x14 := BB.trans (hb.mono BB.size)
  clear hb
  rw [show fracText9 1 31250 = [49, 47, 51, 49, 50, 53, 48] by decide +kernel]
  clear hrc hvc
  have cg0 : x14.cell? ⟨gp + 1 + 1, 0, none⟩ = some (.slice (some ⟨gp, 0, none⟩) 2 2) := hrg.cell 0
  have cg1 : x14.cell? ⟨gp + 1 + 1, 1, none⟩ = some (.slice (some ⟨gp + 1, 0, none⟩) 2 2) := hrg.cell 1
  have ca0 : x14.cell? ⟨gp + 1 + 1 + 1 + 1 + 1 + 1, 0, none⟩ = some (.slice (some ⟨gp + 1 + 1 + 1 + 1 + 1, 0, none⟩) 2 2) := hra.cell 0
  have cb0 : x14.cell? ⟨gp + 1 + 1 + 1 + 1 + 1 + 1 + 1 + 1 + 1 + 1, 0, none⟩ = some (.slice (some ⟨gp + 1 + 1 + 1 + 1 + 1 + 1 + 1 + 1 + 1, 0, none⟩) 2 2) := hrb.cell 0
  have zg := hrg.lt
  have za := hra.lt
  have zb := hrb.lt
  go_wp2_with fail
  clear cg0 cg1 ca0 cb0 zg za zb
  refine (best_no _ _ _ [0, 100] [1, 1] [] 0 _ hp hpr lst_nil (by decide +kernel)).mono ?_
  rintro e x15 ⟨rfl, hb⟩
  replace htab := htab.below hb
  replace hrg := hrg.keep hb
  replace hra := hra.keep hb
  replace hrb := hrb.keep hb
  replace hp := hp.below hb
  replace hpr := hpr.below hb
  replace hma := hma.below hb
  replace hmb := hmb.below hb
  replace BB : Below w.heap.size w x15 := BB.trans (hb.mono BB.size)
  clear hb
  rw [show bstE [0, 100] [1, 1] [] 0 = 20 by decide +kernel]
  have cg0 : x15.cell? ⟨gp + 1 + 1, 0, none⟩ = some (.slice (some ⟨gp, 0, none⟩) 2 2) := hrg.cell 0
  have cg1 : x15.cell? ⟨gp + 1 + 1, 1, none⟩ = some (.slice (some ⟨gp + 1, 0, none⟩) 2 2) := hrg.cell 1
  have ca0 : x15.cell? ⟨gp + 1 + 1 + 1 + 1 + 1 + 1, 0, none⟩ = some (.slice (some ⟨gp + 1 + 1 + 1 + 1 + 1, 0, none⟩) 2 2) := hra.cell 0
  have cb0 : x15.cell? ⟨gp + 1 + 1 + 1 + 1 + 1 + 1 + 1 + 1 + 1 + 1, 0, none⟩ = some (.slice (some ⟨gp + 1 + 1 + 1 + 1 + 1 + 1 + 1 + 1 + 1, 0, none⟩) 2 2) := hrb.cell 0
  have zg := hrg.lt
  have za := hra.lt
  have zb := hrb.lt
  go_wp2_with fail
  clear cg0 cg1 ca0 cb0 zg za zb
  refine (item_no _ _ _ [0, 100] [1, 1] [[500, 500], [300, 700]] 2 _ hp hpr hmb (by decide +kernel)).mono ?_
  rintro e x16 ⟨rfl, hb⟩
  replace htab := htab.below hb
  replace hrg := hrg.keep hb
  replace hra := hra.keep hb
  replace hrb := hrb.keep hb
  replace hp := hp.below hb
  replace hpr := hpr.below hb
  replace hma := hma.below hb
  replace hmb := hmb.below hb
  replace BB : Below w.heap.size w x16 := BB.trans (hb.mono BB.size)
  clear hb
  rw [show itemE [0, 100] [1, 1] [[500, 500], [300, 700]] 2 = 3 by decide +kernel]
  clear hp hpr hma hmb hrg hra hrb
  obtain ⟨gd, hgd⟩ : ∃ g, x16.heap.size = g := ⟨_, rfl⟩
  have hrd : Row ((((x16.alloc (.cells #[.int .i64 0] 3)).alloc (.cells #[.int .i64 1] 3)).alloc (.cells #[.int .i64 1, .int .i64 999] 3)).alloc (.cells #[.slice (some ⟨gd + 1 + 1, 0, none⟩) 2 2] 22)) (gd) 3 [.int .i64 0] := Row.alloc (Row.alloc (Row.alloc (row_at (w := x16) (g := gd) (by simp [hgd])) (.cells #[.int .i64 1] 3)) (.cells #[.int .i64 1, .int .i64 999] 3)) (.cells #[.slice (some ⟨gd + 1 + 1, 0, none⟩) 2 2] 22)
  have hre : Row ((((x16.alloc (.cells #[.int .i64 0] 3)).alloc (.cells #[.int .i64 1] 3)).alloc (.cells #[.int .i64 1, .int .i64 999] 3)).alloc (.cells #[.slice (some ⟨gd + 1 + 1, 0, none⟩) 2 2] 22)) (gd + 1) 3 [.int .i64 1] := Row.alloc (Row.alloc (row_at (w := (x16.alloc (.cells #[.int .i64 0] 3))) (g := gd + 1) (by simp [hgd])) (.cells #[.int .i64 1, .int .i64 999] 3)) (.cells #[.slice (some ⟨gd + 1 + 1, 0, none⟩) 2 2] 22)
  have hrf : Row ((((x16.alloc (.cells #[.int .i64 0] 3)).alloc (.cells #[.int .i64 1] 3)).alloc (.cells #[.int .i64 1, .int .i64 999] 3)).alloc (.cells #[.slice (some ⟨gd + 1 + 1, 0, none⟩) 2 2] 22)) (gd + 1 + 1) 3 [.int .i64 1, .int .i64 999] := Row.alloc (row_at (w := ((x16.alloc (.cells #[.int .i64 0] 3)).alloc (.cells #[.int .i64 1] 3))) (g := gd + 1 + 1) (by simp [hgd])) (.cells #[.slice (some ⟨gd + 1 + 1, 0, none⟩) 2 2] 22)
  have hrh : Row ((((x16.alloc (.cells #[.int .i64 0] 3)).alloc (.cells #[.int .i64 1] 3)).alloc (.cells #[.int .i64 1, .int .i64 999] 3)).alloc (.cells #[.slice (some ⟨gd + 1 + 1, 0, none⟩) 2 2] 22)) (gd + 1 + 1 + 1) 22 [.slice (some ⟨gd + 1 + 1, 0, none⟩) 2 2] := row_at (w := (((x16.alloc (.cells #[.int .i64 0] 3)).alloc (.cells #[.int .i64 1] 3)).alloc (.cells #[.int .i64 1, .int .i64 999] 3))) (g := gd + 1 + 1 + 1) (by simp [hgd])
  have hl : Below x16.heap.size x16 ((((x16.alloc (.cells #[.int .i64 0] 3)).alloc (.cells #[.int .i64 1] 3)).alloc (.cells #[.int .i64 1, .int .i64 999] 3)).alloc (.cells #[.slice (some ⟨gd + 1 + 1, 0, none⟩) 2 2] 22)) := lit_more (lit_more (lit_more (lit_below x16 _) _) _) _
  have ob_d : w.heap.size ≤ gd := by have := BB.size; omega
  have e0_0 : ((((x16.alloc (.cells #[.int .i64 0] 3)).alloc (.cells #[.int .i64 1] 3)).alloc (.cells #[.int .i64 1, .int .i64 999] 3)).alloc (.cells #[.slice (some ⟨gd + 1 + 1, 0, none⟩) 2 2] 22)).cell? ⟨gd, 0, none⟩ = some (.int .i64 0) := hrd.cell 0
  have e1_0 : ((((x16.alloc (.cells #[.int .i64 0] 3)).alloc (.cells #[.int .i64 1] 3)).alloc (.cells #[.int .i64 1, .int .i64 999] 3)).alloc (.cells #[.slice (some ⟨gd + 1 + 1, 0, none⟩) 2 2] 22)).cell? ⟨gd + 1, 0, none⟩ = some (.int .i64 1) := hre.cell 0
  have e2_0 : ((((x16.alloc (.cells #[.int .i64 0] 3)).alloc (.cells #[.int .i64 1] 3)).alloc (.cells #[.int .i64 1, .int .i64 999] 3)).alloc (.cells #[.slice (some ⟨gd + 1 + 1, 0, none⟩) 2 2] 22)).cell? ⟨gd + 1 + 1, 0, none⟩ = some (.int .i64 1) := hrf.cell 0
  have e2_1 : ((((x16.alloc (.cells #[.int .i64 0] 3)).alloc (.cells #[.int .i64 1] 3)).alloc (.cells #[.int .i64 1, .int .i64 999] 3)).alloc (.cells #[.slice (some ⟨gd + 1 + 1, 0, none⟩) 2 2] 22)).cell? ⟨gd + 1 + 1, 1, none⟩ = some (.int .i64 999) := hrf.cell 1
  have e3_0 : ((((x16.alloc (.cells #[.int .i64 0] 3)).alloc (.cells #[.int .i64 1] 3)).alloc (.cells #[.int .i64 1, .int .i64 999] 3)).alloc (.cells #[.slice (some ⟨gd + 1 + 1, 0, none⟩) 2 2] 22)).cell? ⟨gd + 1 + 1 + 1, 0, none⟩ = some (.slice (some ⟨gd + 1 + 1, 0, none⟩) 2 2) := hrh.cell 0
  go_wp2_with fail
  clear e0_0 e1_0 e2_0 e2_1 e3_0
  clear hgd
  generalize ((((x16.alloc (.cells #[.int .i64 0] 3)).alloc (.cells #[.int .i64 1] 3)).alloc (.cells #[.int .i64 1, .int .i64 999] 3)).alloc (.cells #[.slice (some ⟨gd + 1 + 1, 0, none⟩) 2 2] 22)) = x17 at *
  replace htab := htab.below hl
  replace BB : Below w.heap.size w x17 := BB.trans (hl.mono BB.size)
  clear hl
  have hp : Nums .i64 x17 (.slice (some ⟨gd, 0, none⟩) 1 1) [0] := Nums.of_row (zs := [0]) hrd (by unfold maxLen; simp)
  have hpr : Nums .i64 x17 (.slice (some ⟨gd + 1, 0, none⟩) 1 1) [1] := Nums.of_row (zs := [1]) hre (by unfold maxLen; simp)
  have hn0 : Nums .i64 x17 (.slice (some ⟨gd + 1 + 1, 0, none⟩) 2 2) [1, 999] := Nums.of_row (zs := [1, 999]) hrf (by unfold maxLen; simp)
  have hmc : IntsL x17 (.slice (some ⟨gd + 1 + 1 + 1, 0, none⟩) 1 1) [[1, 999]] := lst_lit1 hrh hn0
  clear hrd hre hrf hrh hn0
  go_wp2_with fail
  refine (item_ok _ _ _ [0] [1] [[1, 999]] 0 Z _ hp hpr hmc hZ (by decide +kernel)).mono ?_
  rintro e x18 ⟨v11, rfl, hv11, hb⟩
  replace htab := htab.below hb
  replace hp := hp.below hb
  replace hpr := hpr.below hb
  replace hmc := hmc.below hb
  replace BB : Below w.heap.size w x18 := BB.trans (hb.mono BB.size)
  clear hb
  rw [(aw_z hZ).1, (aw_z hZ).2] at hv11
  have h11' := hv11
  obtain ⟨m11, d11, e11, hm11, hd11, _, _⟩ := h11'
  subst e11
  obtain ⟨A11, k11, c11, rfl⟩ := hm11.lim1.choose_spec.1.show_
  obtain ⟨D11, l11, b11, rfl⟩ := hd11.lim1.choose_spec.1.show_
  clear hm11 hd11
  simp only [show decide ((0 : Int) < 0) = false from rfl] at hv11 ⊢
  obtain ⟨g11, hg11⟩ : ∃ g, x18.heap.size = g := ⟨_, rfl⟩
  have hr11 : Row (x18.alloc (.cells #[.bool false, .slice A11 k11 c11, .slice D11 l11 b11] 31)) g11 31 [.bool false, .slice A11 k11 c11, .slice D11 l11 b11] := row_at hg11
  have hl := lit_below x18 (.cells #[.bool false, .slice A11 k11 c11, .slice D11 l11 b11] 31)
  have ob_11 : w.heap.size ≤ g11 := by have := BB.size; omega
  have e0 : (x18.alloc (.cells #[.bool false, .slice A11 k11 c11, .slice D11 l11 b11] 31)).cell? ⟨g11, 0, none⟩ = some (.bool false) := hr11.cell 0
  have e1 : (x18.alloc (.cells #[.bool false, .slice A11 k11 c11, .slice D11 l11 b11] 31)).cell? ⟨g11, 1, none⟩ = some (.slice A11 k11 c11) := hr11.cell 1
  have e2 : (x18.alloc (.cells #[.bool false, .slice A11 k11 c11, .slice D11 l11 b11] 31)).cell? ⟨g11, 2, none⟩ = some (.slice D11 l11 b11) := hr11.cell 2
  go_wp2_with fail
  clear e0 e1 e2
  clear hg11
  generalize (x18.alloc (.cells #[.bool false, .slice A11 k11 c11, .slice D11 l11 b11] 31)) = x19 at *
  replace htab := htab.below hl
  replace hp := hp.below hl
  replace hpr := hpr.below hl
  replace hmc := hmc.below hl
  replace hv11 := hv11.below hl
  replace BB : Below w.heap.size w x19 := BB.trans (hl.mono BB.size)
  clear hl
  have c110 : x19.cell? ⟨g11, 0, none⟩ = some (.bool false) := hr11.cell 0
  have c111 : x19.cell? ⟨g11, 1, none⟩ = some (.slice A11 k11 c11) := hr11.cell 1
  have c112 : x19.cell? ⟨g11, 2, none⟩ = some (.slice D11 l11 b11) := hr11.cell 2
  have z11 := hr11.lt
  go_wp2_with fail
  clear c110 c111 c112 z11
  refine (qprint_zero _ 1 330 _ (hv11.ratA (by decide)) (by decide) (by decide)).mono ?_
  rintro e x20 ⟨rfl, hb⟩
  replace htab := htab.below hb
  replace hp := hp.below hb
  replace hpr := hpr.below hb
  replace hmc := hmc.below hb
  replace hv11 := hv11.below hb
  replace hr11 := hr11.keep hb
  replace BB : Below w.heap.size w x20 := BB.trans (hb.mono BB.size)
  clear hb
  have c110 : x20.cell? ⟨g11, 0, none⟩ = some (.bool false) := hr11.cell 0
  have c111 : x20.cell? ⟨g11, 1, none⟩ = some (.slice A11 k11 c11) := hr11.cell 1
  have c112 : x20.cell? ⟨g11, 2, none⟩ = some (.slice D11 l11 b11) := hr11.cell 2
  have z11 := hr11.lt
  go_wp2_with fail
  clear c110 c111 c112 z11
  go_ret
  exact ⟨rfl, BB⟩
theorem awake_any (w : World) (htab : Pow10 w) :
    Calls Tryd.prog 8 #[] w fun e w' => e = .returned (.bool true) ∧ Below w.heap.size w w' := by
  obtain ⟨Z, hZ⟩ := lam_ex
  exact awake_Z Z w hZ htab
end Go.Proofs.YtompckomogmhiaaDoor
