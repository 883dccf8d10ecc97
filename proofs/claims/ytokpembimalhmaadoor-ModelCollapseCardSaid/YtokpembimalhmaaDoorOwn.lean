/- A cell of a row of the call's own is written. No condition. -/
import Derived.Test.YtokpembimalhmaaDoorMem
namespace Go.Proofs.YtokpembimalhmaaDoor
open Go.RowKit
set_option linter.unusedVariables false

theorem own_at {w : World} {base e n : Nat} {v : Value} {xs : List Value} (h : w.ownsRow base e 1 v n xs) {i : Nat} (hi : i < n) :
    ∃ g cap, v = .slice (some ⟨g, 0, none⟩) n cap ∧ n ≤ cap ∧ cap ≤ maxLen ∧ base ≤ g ∧ g < w.heap.size ∧ w.cell? ⟨g, i, none⟩ = xs[i]? ∧ w.frozen? ⟨g, i, none⟩ = false ∧ ∀ u, (w.setCell ⟨g, i, none⟩ u).ownsRow base e 1 v n (xs.set i u) := by
  obtain ⟨hl, h⟩ := h
  rcases h with ⟨rfl, rfl⟩ | ⟨g, cap, cur, rfl, hg, hh, hnc, hm, hs, hx⟩
  · omega
  · have hlt : g < w.heap.size := by
      rcases Nat.lt_or_ge g w.heap.size with hlt | hge
      · exact hlt
      · rw [Array.getElem?_eq_none hge] at hh; cases hh
    refine ⟨g, cap, rfl, hnc, hm, hg, hlt, ?_, ?_, fun u => ⟨by simpa using hl, .inr ⟨g, cap, cur.setIfInBounds i u, rfl, hg, ?_, hnc, hm, by simpa using hs, ?_⟩⟩⟩
    · rw [cell_of_row w g i cur e (0, 0) hh, ← hx, List.getElem?_take, if_pos (by omega)]
      simp
    · simp [World.frozen?, hh]
    · simp [World.setCell, Array.getElem?_modify, hh]
    · rw [Array.toList_setIfInBounds, List.take_set, hx]
theorem Nums.own_set {w : World} {base e n : Nat} {v : Value} {zs : List Int} {i : Nat} {z : Int} (h : w.ownsRow base e 1 v n ((zs.map (Value.int .i64)).set i (.int .i64 z))) : Nums .i64 w v (zs.set i z) := by
  rw [← List.map_set] at h
  exact Nums.of_own h
/-- 'append(s, ys...)' onto a row of the call's own that is empty. -/
theorem wpList_append_sl0 {P : Program} (w : World) {ops : Array Oper} {rest : List Oper} {o : Oper} {a : Act} {Q : Exit → Act → World → Prop} (hgd : o.guard = none) (s x : Operand) (t : TypeId)
    (ho : o.op = .call { callee := .builtin .append, args := #[s, x], argTypes := #[t, t] })
    (base : Nat) (e : TypeId) (z : Value) (bytes : Nat) (ht : P.underlying t = some (.slice e)) (hinfo : (P.info? e).map (fun i => (i.zero, i.size, i.bytes)) = some (some z, 1, bytes)) (hz : z.cells.size = 1)
    (v : Value) (A : Option Addr) (m c : Nat) (ys : List Value) (hs : a.eval s = v) (hx : a.eval x = .slice A m c) (hown : w.ownsRow base e 1 v 0 []) (hr : Sl w A m ys) (h1 : ∀ u ∈ ys, u.oneCell' = true)
    (h63 : m ≤ maxLen) (hbytes : m * bytes ≤ 140737488355328) (hbase : base ≤ w.heap.size)
    (h : ∀ A' c' w', w'.ownsRow base e 1 (.slice A' m c') m ys → Below base w w' → wpList P ops Q rest (a.put o.dst (.slice A' m c')) w') : wpList P ops Q (o :: rest) a w := by
  refine wpList_append_sl w hgd s x t ho base e z bytes ht hinfo hz v 0 [] A m c ys hs hx hown hr h1 (by rw [Nat.zero_add]; exact h63) (by rw [Nat.zero_add]; exact hbytes) hbase ?_
  intro A' c' w' ho' hb'
  rw [Nat.zero_add] at ho' ⊢
  rw [List.nil_append] at ho'
  exact h A' c' w' ho' hb'
end Go.Proofs.YtokpembimalhmaaDoor
