/- PosteriorOrder. -/
import Derived.Test.YtoihjclkocffhaaDoorPoM
import Derived.Test.YtoihjclkocffhaaDoorOpenF
namespace Go.Proofs.YtoihjclkocffhaaDoor
open Go.RowKit
set_option linter.unusedVariables false

theorem bytesMdl : Tryd.prog.bytesOf 25 = 24 := by kernel_rfl
theorem modL_len {w : World} {A : Option Addr} {n c : Nat} {xs : List Mdl} (h : ModL w (.slice A n c) xs) : n = xs.length := by
  obtain ⟨_, _, _, h, _⟩ := h
  injection h
theorem step_append_sl {P : Program} (w : World) {ops : Array Oper} {o : Oper} {a : Act} {K : Act → World → Prop} {Q : Exit → Act → World → Prop} {E : Prop} (hgd : o.guard = none) (s x : Operand) (t : TypeId)
    (ho : o.op = .call { callee := .builtin .append, args := #[s, x], argTypes := #[t, t] })
    (base : Nat) (e : TypeId) (z : Value) (bytes : Nat) (ht : P.underlying t = some (.slice e)) (hinfo : (P.info? e).map (fun i => (i.zero, i.size, i.bytes)) = some (some z, 1, bytes)) (hz : z.cells.size = 1)
    (v : Value) (n : Nat) (xs : List Value) (A : Option Addr) (m c : Nat) (ys : List Value) (hs : a.eval s = v) (hx : a.eval x = .slice A m c) (hown : w.ownsRow base e 1 v n xs) (hr : Sl w A m ys) (h1 : ∀ u ∈ ys, u.oneCell' = true)
    (h63 : n + m ≤ maxLen) (hbytes : (n + m) * bytes ≤ 140737488355328) (hbase : base ≤ w.heap.size)
    (h : ∀ A' c' w', w'.ownsRow base e 1 (.slice A' (n + m) c') (n + m) (xs ++ ys) → Below base w w' → K (a.put o.dst (.slice A' (n + m) c')) w') : if Region.wanted o (yielded ops a.tmps) = true then Oper.wp P o a w K Q else E := by
  have hw : Region.wanted o (yielded ops a.tmps) = true := by simp [Region.wanted, hgd]
  rw [if_pos hw]
  obtain ⟨A', c', w', hrun, h2, h3⟩ := run_append_sl (P := P) w base t o.type e z bytes ht hinfo hz v n xs hown A m c ys hr h1 h63 hbytes hbase
  unfold Oper.wp execOp
  simp only [ho, resolve, invoke, builtin, Sem.run_bind, Sem.run_pure, Result.andThen_ok, List.map_toArray, List.map_cons, List.map_nil, hs, hx, hrun]
  exact h A' c' w' h2 h3
theorem cutA {t : TypeId} (ht : Tryd.prog.underlying t = some (.slice (Tryd.prog.elem t))) (hs1 : ∀ w, (sizeOf (Tryd.prog.elem t)).run Tryd.prog w = .ok 1 w) {w : World} {A : Option Addr} {n c k : Nat} {xs : List Value} (h : Sl w A n xs) (hk : k ≤ n) (hc : n ≤ c) :
    ∃ X, (∀ w', (Instr.sliceAt t (.slice A n c) none (some (.int .i64 (k : Int))) none).run Tryd.prog w' = .ok (.slice X k c) w') ∧ (∀ w', (Instr.slice t (.slice A n c) none (some (.int .i64 (k : Int))) none).run Tryd.prog w' = .ok (.slice X k c) w') ∧ Sl w X k (xs.take k) := by
  have key : ∀ w', (Instr.slice t (.slice A n c) none (some (.int .i64 (k : Int))) none).run Tryd.prog w' = .ok (.slice (if c = 0 then A else A.map (·.add 0)) k c) w' := by
    intro w'
    rw [run_slice_h w' t A n c ht .i64 k (by omega) (by omega), hs1]
    simp [sliced]
  refine ⟨_, fun w' => by rw [run_sliceAt_slice w' t _ _ _ _ ht]; exact key w', key, ?_⟩
  have := h.cut (k := 0) (m := k) (c := c) (by omega) hc
  simpa using this
theorem cutB {t : TypeId} (ht : Tryd.prog.underlying t = some (.slice (Tryd.prog.elem t))) (hs1 : ∀ w, (sizeOf (Tryd.prog.elem t)).run Tryd.prog w = .ok 1 w) {w : World} {A : Option Addr} {n c k : Nat} {xs : List Value} (h : Sl w A n xs) (hk : k ≤ n) (hc : n ≤ c) :
    ∃ X, (∀ w', (Instr.sliceAt t (.slice A n c) (some (.int .i64 (k : Int))) none none).run Tryd.prog w' = .ok (.slice X (n - k) (c - k)) w') ∧ (∀ w', (Instr.slice t (.slice A n c) (some (.int .i64 (k : Int))) none none).run Tryd.prog w' = .ok (.slice X (n - k) (c - k)) w') ∧ Sl w X (n - k) (xs.drop k) := by
  have key : ∀ w', (Instr.slice t (.slice A n c) (some (.int .i64 (k : Int))) none none).run Tryd.prog w' = .ok (.slice (if c = k then A else A.map (·.add k)) (n - k) (c - k)) w' := by
    intro w'
    rw [run_slice_l w' t A n c ht .i64 k (by omega) (by omega), hs1]
    simp [sliced]
  refine ⟨_, fun w' => by rw [run_sliceAt_slice w' t _ _ _ _ ht]; exact key w', key, ?_⟩
  have := h.cut (k := k) (m := n - k) (c := c) (by omega) hc
  rwa [List.take_of_length_le (by rw [List.length_drop, h.1]; omega)] at this
theorem turn_get {α : Type} (l : List α) {n a : Nat} (hl : l.length = n) (ha : a ≤ n) (j : Nat) : (l.drop a ++ l.take a)[j]? = if j < n - a then l[a + j]? else if j - (n - a) < a then l[j - (n - a)]? else none := by
  by_cases h : j < n - a
  · rw [if_pos h, List.getElem?_append_left (by rw [List.length_drop]; omega), List.getElem?_drop]
  · rw [if_neg h, List.getElem?_append_right (by rw [List.length_drop]; omega), List.length_drop, hl, List.getElem?_take]
theorem els_turn {α : Type} {R : Value → α → Prop} {d : α} {us : List Value} {xs : List α} {n a : Nat} (hu : us.length = n) (hx : xs.length = n) (ha : a ≤ n) (h : ∀ i u, us[i]? = some u → R u (xs.getD i d)) : ∀ j u, (us.drop a ++ us.take a)[j]? = some u → R u ((xs.drop a ++ xs.take a).getD j d) := by
  intro j u hj
  rw [turn_get us hu ha] at hj
  rw [List.getD_eq_getElem?_getD, turn_get xs hx ha]
  by_cases h1 : j < n - a
  · rw [if_pos h1] at hj ⊢
    have := h _ _ hj
    rwa [List.getD_eq_getElem?_getD] at this
  · rw [if_neg h1] at hj ⊢
    by_cases h2 : j - (n - a) < a
    · rw [if_pos h2] at hj ⊢
      have := h _ _ hj
      rwa [List.getD_eq_getElem?_getD] at this
    · rw [if_neg h2] at hj; cases hj
theorem turn_len {α : Type} (l : List α) {a : Nat} (h : a ≤ l.length) : (l.drop a ++ l.take a).length = l.length := by
  rw [List.length_append, List.length_drop, List.length_take]; omega
theorem zip_turn (ms : List Mdl) (ks : List Int) (a : Nat) (hl : ks.length = ms.length) (ha : a ≤ ms.length) : (ms.drop a ++ ms.take a).zip (ks.drop a ++ ks.take a) = (ms.zip ks).drop a ++ (ms.zip ks).take a := by
  rw [List.zip_append (by rw [List.length_drop, List.length_drop, hl])]
  simp only [List.zip_eq_zipWith, List.drop_zipWith, List.take_zipWith]
theorem postE_turn (ps rs : List Int) (ms : List Mdl) (ks : List Int) (a : Nat) (hl : ks.length = ms.length) (ha : a ≤ ms.length) :
    (postE ps rs ms ks = 0 ↔ postE ps rs (ms.drop a ++ ms.take a) (ks.drop a ++ ks.take a) = 0) ∧ (postE ps rs ms ks = 0 → allW ps rs (ms.drop a ++ ms.take a) (ks.drop a ++ ks.take a) = allW ps rs ms ks) := by
  have e1 := turn_len ms ha
  have e2 := turn_len ks (show a ≤ ks.length by omega)
  have hs : ms.zip ks = (ms.zip ks).take a ++ (ms.zip ks).drop a := (List.take_append_drop _ _).symm
  have hE : postE ps rs ms ks = 0 ↔ postE ps rs (ms.drop a ++ ms.take a) (ks.drop a ++ ks.take a) = 0 := by
    unfold postE
    rw [e1, e2, zip_turn ms ks a hl ha]
    split
    · exact Iff.rfl
    · split
      · exact Iff.rfl
      · split
        · exact Iff.rfl
        · rw [← allE_turn, ← hs]
  refine ⟨hE, fun h => ?_⟩
  unfold allW
  rw [if_pos h, if_pos (hE.1 h), zip_turn ms ks a hl ha, ← allF_turn, ← hs]
theorem Below.mono2 {B : Nat} {a b c : World} (h : Below B b c) (hB : B ≤ a.heap.size) (hab : True := trivial) : Below B b c := h
set_option maxRecDepth 100000 in
set_option maxHeartbeats 8000000 in
theorem lord_ok (pv rv mv kv : Value) (ps rs : List Int) (ms : List Mdl) (ks : List Int) (w : World) (hp : Nums .i64 w pv ps) (hr : Nums .i64 w rv rs) (hm : ModL w mv ms) (hk : Nums .i64 w kv ks) (a : Nat) (ha : a ≤ 255) (hsz : ms.length * 24 ≤ 140737488351232) (hl : ks.length = ms.length) (ha2 : a ≤ ms.length) (hE : postE ps rs ms ks = 0) :
    Calls Tryd.prog 6 #[.agg #[pv, rv], mv, kv, .int .u8 (a : Int)] w fun e w' => e = .returned (.bool true) ∧ Below w.heap.size w w' := by
  obtain ⟨p1, p2⟩ := postE_turn ps rs ms ks a hl ha2
  have HE1 := Lib.hid hE
  have HE2 := Lib.hid (p1.1 hE)
  have HAW := Lib.hid (p2 hE)
  clear p1 p2 hE
  have HP := Lib.hid hp
  have HR := Lib.hid hr
  have HM := Lib.hid hm
  have HK := Lib.hid hk
  obtain ⟨PA, pc, rfl, hpc, hpm, hps⟩ := hp
  obtain ⟨RV, vc, rfl, hvc, hvm, hvs⟩ := hr
  obtain ⟨MA, mc, us, rfl, hmc, hmm, hms, hmu⟩ := hm
  obtain ⟨KA, kc, rfl, hkc, hkm, hks⟩ := hk
  unfold maxLen at hmm hkm
  obtain ⟨n, hn⟩ : ∃ n, ms.length = n := ⟨_, rfl⟩
  have HN := Lib.hid hn
  have han : a ≤ n := by omega
  have hkn : ks.length = n := hl.trans hn
  have hone : ∀ u ∈ us, u.oneCell' = true := fun u hu => by
    obtain ⟨j, hj, rfl⟩ := List.getElem_of_mem hu
    obtain ⟨_, _, _, e, _⟩ := hmu j _ (List.getElem?_eq_getElem hj)
    rw [e]; rfl
  have hone1 : ∀ u ∈ us.drop a, u.oneCell' = true := fun u hu => hone u (List.mem_of_mem_drop hu)
  have hone2 : ∀ u ∈ us.take a, u.oneCell' = true := fun u hu => hone u (List.mem_of_mem_take hu)
  have honk : ∀ u ∈ ks.map (Value.int .i64), u.oneCell' = true := fun u hu => by
    obtain ⟨z, _, rfl⟩ := List.mem_map.1 hu
    rfl
  have hone3 : ∀ u ∈ (ks.map (Value.int .i64)).drop a, u.oneCell' = true := fun u hu => honk u (List.mem_of_mem_drop hu)
  have hone4 : ∀ u ∈ (ks.map (Value.int .i64)).take a, u.oneCell' = true := fun u hu => honk u (List.mem_of_mem_take hu)
  have HMU := Lib.hid hmu
  clear hmu hone honk hl
  rw [hn] at hms hmc hsz HM
  rw [hkn] at hks hkc HK
  rw [hn, hkn]
  clear hn hkn
  obtain ⟨XM1, cu1, cu2, sM1⟩ := cutB (t := 35) Tryd.underlying35 (fun _ => by kernel_rfl) hms han hmc
  obtain ⟨XM2, cu3, cu4, sM2⟩ := cutA (t := 35) Tryd.underlying35 (fun _ => by kernel_rfl) hms han hmc
  obtain ⟨XK1, cu5, cu6, sK1⟩ := cutB (t := 32) Tryd.underlying32 (fun _ => by kernel_rfl) hks han hkc
  obtain ⟨XK2, cu7, cu8, sK2⟩ := cutA (t := 32) Tryd.underlying32 (fun _ => by kernel_rfl) hks han hkc
  have t1 : ((n : Int) != (n : Int)) = false := by simp
  have t2 : decide ((n : Int) < (a : Int)) = false := decide_eq_false (by omega)
  have t3 : decide (n < a) = false := decide_eq_false (by omega)
  have waa : IntKind.i64.wrap (a : Int) = (a : Int) := by rw [IntKind.wrap_i64]; omega
  obtain ⟨W0, hW0⟩ : ∃ W0 : World, W0 = w.alloc (.cells #[.slice PA ps.length pc, .slice RV rs.length vc] 34) := ⟨_, rfl⟩
  have r0 : Row W0 w.heap.size 34 [.slice PA ps.length pc, .slice RV rs.length vc] := by
    rw [hW0]
    have := Row.new w 34 [.slice PA ps.length pc, .slice RV rs.length vc]
    simpa using this
  have B0 : Below w.heap.size w W0 := by rw [hW0]; exact ((Below.refl _ _).alloc (Nat.le_refl _) _)
  go_enter Tryd.func6, Tryd.ntmps6
  go_wp2_with fail
  rw [← hW0]
  clear hW0
  have BB := B0
  have hr3 := r0
  clear B0 r0
  have zz3 := hr3.lt
  have qc0 : W0.cell? ⟨w.heap.size, 0, none⟩ = some (.slice PA ps.length pc) := hr3.cell 0
  have qc1 : W0.cell? ⟨w.heap.size, 1, none⟩ = some (.slice RV rs.length vc) := hr3.cell 1
  have hownN : ((W0.alloc (.cells #[] 25)).drew).ownsRow W0.heap.size 25 1 (.slice (some ⟨W0.heap.size, 0, none⟩) 0 0) 0 [] := own_nul W0 25
  have hbN : Below W0.heap.size W0 ((W0.alloc (.cells #[] 25)).drew) := (lit_below W0 (.cells #[] 25)).drew
  have sA1 := (sM1.below BB).below hbN
  go_region_law (first
    | (refine step_append_sl _ (by rfl) (.tmp 31) (.tmp 34) 35 (by rfl) W0.heap.size 25 (.agg #[.slice none 0 0]) 24 Tryd.underlying35 infoMdl rfl _ 0 [] XM1 (n - a) (mc - a) (us.drop a) (by rfl) (by rfl) hownN sA1 hone1 (by unfold maxLen; omega) (by omega) hbN.size ?_; intro A5 c5 w5 hown5 hb5; simp only [Nat.zero_add, List.nil_append] at hown5; have hbW := hbN.trans hb5; have sB2 := (sM2.below BB).below hbW; have hbw := hbW.size)
    | (refine step_append_sl _ (by rfl) (.tmp 35) (.tmp 38) 35 (by rfl) W0.heap.size 25 (.agg #[.slice none 0 0]) 24 Tryd.underlying35 infoMdl rfl _ _ _ XM2 a mc (us.take a) (by rfl) (by rfl) hown5 sB2 hone2 (by unfold maxLen; omega) (by omega) hbw ?_; intro A6 c6 w6 hown6 hb6))
  all_goals
    have hb := hbW.trans hb6
    have hn6 : n - a + a = n := by omega
    rw [hn6] at hown6
    try rw [hn6]
    have hr3' := hr3.keep hb
    have BB6 := BB.trans (hb.mono BB.size)
    have hmO : ModL w6 (.slice A6 n c6) (ms.drop a ++ ms.take a) := lst_own (R := IntsL) (d := []) hown6 (by rw [turn_len ms (by rw [HN.out]; exact han), HN.out]) (els_turn hms.1 HN.out han fun j u h => (HMU.out j u h).below BB6)
    clear hown6 hown5 hownN hbN sA1 sB2 qc0 qc1 zz3
    go_wp2_with fail
    have hownN : ((w6.alloc (.cells #[] 3)).drew).ownsRow w6.heap.size 3 1 (.slice (some ⟨w6.heap.size, 0, none⟩) 0 0) 0 [] := own_nul w6 3
    have hbN : Below w6.heap.size w6 ((w6.alloc (.cells #[] 3)).drew) := (lit_below w6 (.cells #[] 3)).drew
    have sA1 := (sK1.below BB6).below hbN
    go_region_law (first
      | (refine step_append_sl _ (by rfl) (.tmp 40) (.tmp 43) 32 (by rfl) w6.heap.size 3 (.int .i64 0) 8 Tryd.underlying32 infoInt rfl _ 0 [] XK1 (n - a) (kc - a) ((ks.map (Value.int .i64)).drop a) (by rfl) (by rfl) hownN sA1 hone3 (by unfold maxLen; omega) (by omega) hbN.size ?_; intro A7 c7 w7 hown7 hb7; simp only [Nat.zero_add, List.nil_append] at hown7; have hbW7 := hbN.trans hb7; have sB2 := (sK2.below BB6).below hbW7; have hbw7 := hbW7.size)
      | (refine step_append_sl _ (by rfl) (.tmp 44) (.tmp 47) 32 (by rfl) w6.heap.size 3 (.int .i64 0) 8 Tryd.underlying32 infoInt rfl _ _ _ XK2 a kc ((ks.map (Value.int .i64)).take a) (by rfl) (by rfl) hown7 sB2 hone4 (by unfold maxLen; omega) (by omega) hbw7 ?_; intro A8 c8 w8 hown8 hb8))
    all_goals
      have hb := hbW7.trans hb8
      rw [hn6] at hown8
      try rw [hn6]
      replace hr3' := hr3'.keep hb
      replace hmO := hmO.below hb
      have BB := BB6.trans (hb.mono BB6.size)
      have hkO : Nums .i64 w8 (.slice A8 n c8) (ks.drop a ++ ks.take a) := by
        rw [← List.map_drop, ← List.map_take, ← List.map_append] at hown8
        exact Nums.of_own hown8
      clear hown8 hown7 hownN hbN sA1 sB2 cu1 cu2 cu3 cu4 cu5 cu6 cu7 cu8
      clear hb
      have c30 : w8.cell? ⟨w.heap.size, 0, none⟩ = some (.slice PA ps.length pc) := hr3'.cell 0
      have c31 : w8.cell? ⟨w.heap.size, 1, none⟩ = some (.slice RV rs.length vc) := hr3'.cell 1
      have z3 := hr3'.lt
      go_wp2_with fail
      clear c30 c31 z3
      refine (all_u _ _ _ _ ps rs ms ks _ (HP.out.below BB) (HR.out.below BB) (HM.out.below BB) (HK.out.below BB)).mono ?_
      rintro e x41 ⟨A3, n3, c3, rfl, hv3, hb⟩
      replace hr3' := hr3'.keep hb
      replace hmO := hmO.below hb
      replace hkO := hkO.below hb
      replace BB : Below w.heap.size w x41 := BB.trans (hb.mono BB.size)
      clear hb
      rw [HE1.out]
      have c30 : x41.cell? ⟨w.heap.size, 0, none⟩ = some (.slice PA ps.length pc) := hr3'.cell 0
      have c31 : x41.cell? ⟨w.heap.size, 1, none⟩ = some (.slice RV rs.length vc) := hr3'.cell 1
      have z3 := hr3'.lt
      go_wp2_with fail
      clear c30 c31 z3
      refine (all_u _ _ _ _ ps rs (ms.drop a ++ ms.take a) (ks.drop a ++ ks.take a) _ (HP.out.below BB) (HR.out.below BB) hmO hkO).mono ?_
      rintro e x42 ⟨A4, n4, c4, rfl, hv4, hb⟩
      replace hr3' := hr3'.keep hb
      replace hmO := hmO.below hb
      replace hkO := hkO.below hb
      replace hv3 := hv3.below hb
      replace BB : Below w.heap.size w x42 := BB.trans (hb.mono BB.size)
      clear hb
      rw [HE2.out]
      rw [HAW.out] at hv4
      have c30 : x42.cell? ⟨w.heap.size, 0, none⟩ = some (.slice PA ps.length pc) := hr3'.cell 0
      have c31 : x42.cell? ⟨w.heap.size, 1, none⟩ = some (.slice RV rs.length vc) := hr3'.cell 1
      have z3 := hr3'.lt
      go_wp2_with fail
      clear c30 c31 z3
      refine (requal_yes _ _ _ _ _ _ hv3 hv4).mono ?_
      rintro e x43 ⟨rfl, hb⟩
      replace hr3' := hr3'.keep hb
      replace hmO := hmO.below hb
      replace hkO := hkO.below hb
      replace hv3 := hv3.below hb
      replace hv4 := hv4.below hb
      replace BB : Below w.heap.size w x43 := BB.trans (hb.mono BB.size)
      clear hb
      have c30 : x43.cell? ⟨w.heap.size, 0, none⟩ = some (.slice PA ps.length pc) := hr3'.cell 0
      have c31 : x43.cell? ⟨w.heap.size, 1, none⟩ = some (.slice RV rs.length vc) := hr3'.cell 1
      have z3 := hr3'.lt
      go_wp2_with fail
      clear c30 c31 z3
      refine (awake_any _).mono ?_
      rintro e x44 ⟨rfl, hb⟩
      replace hr3' := hr3'.keep hb
      replace hmO := hmO.below hb
      replace hkO := hkO.below hb
      replace hv3 := hv3.below hb
      replace hv4 := hv4.below hb
      replace BB : Below w.heap.size w x44 := BB.trans (hb.mono BB.size)
      clear hb
      have c30 : x44.cell? ⟨w.heap.size, 0, none⟩ = some (.slice PA ps.length pc) := hr3'.cell 0
      have c31 : x44.cell? ⟨w.heap.size, 1, none⟩ = some (.slice RV rs.length vc) := hr3'.cell 1
      have z3 := hr3'.lt
      go_wp2_with fail
      clear c30 c31 z3
      go_ret
      exact ⟨rfl, BB⟩
set_option maxRecDepth 100000 in
set_option maxHeartbeats 8000000 in
theorem lord_no (pv rv mv kv : Value) (ps rs : List Int) (ms : List Mdl) (ks : List Int) (w : World) (hp : Nums .i64 w pv ps) (hr : Nums .i64 w rv rs) (hm : ModL w mv ms) (hk : Nums .i64 w kv ks) (a : Nat) (ha : a ≤ 255) (hsz : ms.length * 24 ≤ 140737488351232) (hl : ks.length = ms.length) (ha2 : a ≤ ms.length) (hE : postE ps rs ms ks ≠ 0) :
    Calls Tryd.prog 6 #[.agg #[pv, rv], mv, kv, .int .u8 (a : Int)] w fun e w' => e = .returned (.bool true) ∧ Below w.heap.size w w' := by
  obtain ⟨p1, p2⟩ := postE_turn ps rs ms ks a hl ha2
  obtain ⟨E1, hE1⟩ : ∃ E, postE ps rs ms ks = E := ⟨_, rfl⟩
  obtain ⟨E2, hE2⟩ : ∃ E, postE ps rs (ms.drop a ++ ms.take a) (ks.drop a ++ ks.take a) = E := ⟨_, rfl⟩
  have hn1 : (E1 != 0) = true := by rw [bne_iff_ne, ← hE1]; exact hE
  have hn2 : (E2 != 0) = true := by rw [bne_iff_ne, ← hE2]; exact fun h => hE (p1.2 h)
  have HE1 := Lib.hid hE1
  have HE2 := Lib.hid hE2
  clear p1 p2 hE hE1 hE2
  have HP := Lib.hid hp
  have HR := Lib.hid hr
  have HM := Lib.hid hm
  have HK := Lib.hid hk
  obtain ⟨PA, pc, rfl, hpc, hpm, hps⟩ := hp
  obtain ⟨RV, vc, rfl, hvc, hvm, hvs⟩ := hr
  obtain ⟨MA, mc, us, rfl, hmc, hmm, hms, hmu⟩ := hm
  obtain ⟨KA, kc, rfl, hkc, hkm, hks⟩ := hk
  unfold maxLen at hmm hkm
  obtain ⟨n, hn⟩ : ∃ n, ms.length = n := ⟨_, rfl⟩
  have HN := Lib.hid hn
  have han : a ≤ n := by omega
  have hkn : ks.length = n := hl.trans hn
  have hone : ∀ u ∈ us, u.oneCell' = true := fun u hu => by
    obtain ⟨j, hj, rfl⟩ := List.getElem_of_mem hu
    obtain ⟨_, _, _, e, _⟩ := hmu j _ (List.getElem?_eq_getElem hj)
    rw [e]; rfl
  have hone1 : ∀ u ∈ us.drop a, u.oneCell' = true := fun u hu => hone u (List.mem_of_mem_drop hu)
  have hone2 : ∀ u ∈ us.take a, u.oneCell' = true := fun u hu => hone u (List.mem_of_mem_take hu)
  have honk : ∀ u ∈ ks.map (Value.int .i64), u.oneCell' = true := fun u hu => by
    obtain ⟨z, _, rfl⟩ := List.mem_map.1 hu
    rfl
  have hone3 : ∀ u ∈ (ks.map (Value.int .i64)).drop a, u.oneCell' = true := fun u hu => honk u (List.mem_of_mem_drop hu)
  have hone4 : ∀ u ∈ (ks.map (Value.int .i64)).take a, u.oneCell' = true := fun u hu => honk u (List.mem_of_mem_take hu)
  have HMU := Lib.hid hmu
  clear hmu hone honk hl
  rw [hn] at hms hmc hsz HM
  rw [hkn] at hks hkc HK
  rw [hn, hkn]
  clear hn hkn
  obtain ⟨XM1, cu1, cu2, sM1⟩ := cutB (t := 35) Tryd.underlying35 (fun _ => by kernel_rfl) hms han hmc
  obtain ⟨XM2, cu3, cu4, sM2⟩ := cutA (t := 35) Tryd.underlying35 (fun _ => by kernel_rfl) hms han hmc
  obtain ⟨XK1, cu5, cu6, sK1⟩ := cutB (t := 32) Tryd.underlying32 (fun _ => by kernel_rfl) hks han hkc
  obtain ⟨XK2, cu7, cu8, sK2⟩ := cutA (t := 32) Tryd.underlying32 (fun _ => by kernel_rfl) hks han hkc
  have t1 : ((n : Int) != (n : Int)) = false := by simp
  have t2 : decide ((n : Int) < (a : Int)) = false := decide_eq_false (by omega)
  have t3 : decide (n < a) = false := decide_eq_false (by omega)
  have waa : IntKind.i64.wrap (a : Int) = (a : Int) := by rw [IntKind.wrap_i64]; omega
  obtain ⟨W0, hW0⟩ : ∃ W0 : World, W0 = w.alloc (.cells #[.slice PA ps.length pc, .slice RV rs.length vc] 34) := ⟨_, rfl⟩
  have r0 : Row W0 w.heap.size 34 [.slice PA ps.length pc, .slice RV rs.length vc] := by
    rw [hW0]
    have := Row.new w 34 [.slice PA ps.length pc, .slice RV rs.length vc]
    simpa using this
  have B0 : Below w.heap.size w W0 := by rw [hW0]; exact ((Below.refl _ _).alloc (Nat.le_refl _) _)
  go_enter Tryd.func6, Tryd.ntmps6
  go_wp2_with fail
  rw [← hW0]
  clear hW0
  have BB := B0
  have hr3 := r0
  clear B0 r0
  have zz3 := hr3.lt
  have qc0 : W0.cell? ⟨w.heap.size, 0, none⟩ = some (.slice PA ps.length pc) := hr3.cell 0
  have qc1 : W0.cell? ⟨w.heap.size, 1, none⟩ = some (.slice RV rs.length vc) := hr3.cell 1
  have hownN : ((W0.alloc (.cells #[] 25)).drew).ownsRow W0.heap.size 25 1 (.slice (some ⟨W0.heap.size, 0, none⟩) 0 0) 0 [] := own_nul W0 25
  have hbN : Below W0.heap.size W0 ((W0.alloc (.cells #[] 25)).drew) := (lit_below W0 (.cells #[] 25)).drew
  have sA1 := (sM1.below BB).below hbN
  go_region_law (first
    | (refine step_append_sl _ (by rfl) (.tmp 31) (.tmp 34) 35 (by rfl) W0.heap.size 25 (.agg #[.slice none 0 0]) 24 Tryd.underlying35 infoMdl rfl _ 0 [] XM1 (n - a) (mc - a) (us.drop a) (by rfl) (by rfl) hownN sA1 hone1 (by unfold maxLen; omega) (by omega) hbN.size ?_; intro A5 c5 w5 hown5 hb5; simp only [Nat.zero_add, List.nil_append] at hown5; have hbW := hbN.trans hb5; have sB2 := (sM2.below BB).below hbW; have hbw := hbW.size)
    | (refine step_append_sl _ (by rfl) (.tmp 35) (.tmp 38) 35 (by rfl) W0.heap.size 25 (.agg #[.slice none 0 0]) 24 Tryd.underlying35 infoMdl rfl _ _ _ XM2 a mc (us.take a) (by rfl) (by rfl) hown5 sB2 hone2 (by unfold maxLen; omega) (by omega) hbw ?_; intro A6 c6 w6 hown6 hb6))
  all_goals
    have hb := hbW.trans hb6
    have hn6 : n - a + a = n := by omega
    rw [hn6] at hown6
    try rw [hn6]
    have hr3' := hr3.keep hb
    have BB6 := BB.trans (hb.mono BB.size)
    have hmO : ModL w6 (.slice A6 n c6) (ms.drop a ++ ms.take a) := lst_own (R := IntsL) (d := []) hown6 (by rw [turn_len ms (by rw [HN.out]; exact han), HN.out]) (els_turn hms.1 HN.out han fun j u h => (HMU.out j u h).below BB6)
    clear hown6 hown5 hownN hbN sA1 sB2 qc0 qc1 zz3
    go_wp2_with fail
    have hownN : ((w6.alloc (.cells #[] 3)).drew).ownsRow w6.heap.size 3 1 (.slice (some ⟨w6.heap.size, 0, none⟩) 0 0) 0 [] := own_nul w6 3
    have hbN : Below w6.heap.size w6 ((w6.alloc (.cells #[] 3)).drew) := (lit_below w6 (.cells #[] 3)).drew
    have sA1 := (sK1.below BB6).below hbN
    go_region_law (first
      | (refine step_append_sl _ (by rfl) (.tmp 40) (.tmp 43) 32 (by rfl) w6.heap.size 3 (.int .i64 0) 8 Tryd.underlying32 infoInt rfl _ 0 [] XK1 (n - a) (kc - a) ((ks.map (Value.int .i64)).drop a) (by rfl) (by rfl) hownN sA1 hone3 (by unfold maxLen; omega) (by omega) hbN.size ?_; intro A7 c7 w7 hown7 hb7; simp only [Nat.zero_add, List.nil_append] at hown7; have hbW7 := hbN.trans hb7; have sB2 := (sK2.below BB6).below hbW7; have hbw7 := hbW7.size)
      | (refine step_append_sl _ (by rfl) (.tmp 44) (.tmp 47) 32 (by rfl) w6.heap.size 3 (.int .i64 0) 8 Tryd.underlying32 infoInt rfl _ _ _ XK2 a kc ((ks.map (Value.int .i64)).take a) (by rfl) (by rfl) hown7 sB2 hone4 (by unfold maxLen; omega) (by omega) hbw7 ?_; intro A8 c8 w8 hown8 hb8))
    all_goals
      have hb := hbW7.trans hb8
      rw [hn6] at hown8
      try rw [hn6]
      replace hr3' := hr3'.keep hb
      replace hmO := hmO.below hb
      have BB := BB6.trans (hb.mono BB6.size)
      have hkO : Nums .i64 w8 (.slice A8 n c8) (ks.drop a ++ ks.take a) := by
        rw [← List.map_drop, ← List.map_take, ← List.map_append] at hown8
        exact Nums.of_own hown8
      clear hown8 hown7 hownN hbN sA1 sB2 cu1 cu2 cu3 cu4 cu5 cu6 cu7 cu8
      clear hb
      have c30 : w8.cell? ⟨w.heap.size, 0, none⟩ = some (.slice PA ps.length pc) := hr3'.cell 0
      have c31 : w8.cell? ⟨w.heap.size, 1, none⟩ = some (.slice RV rs.length vc) := hr3'.cell 1
      have z3 := hr3'.lt
      go_wp2_with fail
      clear c30 c31 z3
      refine (all_u _ _ _ _ ps rs ms ks _ (HP.out.below BB) (HR.out.below BB) (HM.out.below BB) (HK.out.below BB)).mono ?_
      rintro e x41 ⟨A3, n3, c3, rfl, hv3, hb⟩
      replace hr3' := hr3'.keep hb
      replace hmO := hmO.below hb
      replace hkO := hkO.below hb
      replace BB : Below w.heap.size w x41 := BB.trans (hb.mono BB.size)
      clear hb
      rw [HE1.out]
      have c30 : x41.cell? ⟨w.heap.size, 0, none⟩ = some (.slice PA ps.length pc) := hr3'.cell 0
      have c31 : x41.cell? ⟨w.heap.size, 1, none⟩ = some (.slice RV rs.length vc) := hr3'.cell 1
      have z3 := hr3'.lt
      go_wp2_with fail
      clear c30 c31 z3
      refine (all_u _ _ _ _ ps rs (ms.drop a ++ ms.take a) (ks.drop a ++ ks.take a) _ (HP.out.below BB) (HR.out.below BB) hmO hkO).mono ?_
      rintro e x42 ⟨A4, n4, c4, rfl, hv4, hb⟩
      replace hr3' := hr3'.keep hb
      replace hmO := hmO.below hb
      replace hkO := hkO.below hb
      replace hv3 := hv3.below hb
      replace BB : Below w.heap.size w x42 := BB.trans (hb.mono BB.size)
      clear hb
      rw [HE2.out]
      have c30 : x42.cell? ⟨w.heap.size, 0, none⟩ = some (.slice PA ps.length pc) := hr3'.cell 0
      have c31 : x42.cell? ⟨w.heap.size, 1, none⟩ = some (.slice RV rs.length vc) := hr3'.cell 1
      have z3 := hr3'.lt
      go_wp2_with fail
      clear c30 c31 z3
      refine (awake_any _).mono ?_
      rintro e x43 ⟨rfl, hb⟩
      replace hr3' := hr3'.keep hb
      replace hmO := hmO.below hb
      replace hkO := hkO.below hb
      replace hv3 := hv3.below hb
      replace hv4 := hv4.below hb
      replace BB : Below w.heap.size w x43 := BB.trans (hb.mono BB.size)
      clear hb
      have c30 : x43.cell? ⟨w.heap.size, 0, none⟩ = some (.slice PA ps.length pc) := hr3'.cell 0
      have c31 : x43.cell? ⟨w.heap.size, 1, none⟩ = some (.slice RV rs.length vc) := hr3'.cell 1
      have z3 := hr3'.lt
      go_wp2_with fail
      clear c30 c31 z3
      go_ret
      exact ⟨rfl, BB⟩
set_option maxRecDepth 100000 in
set_option maxHeartbeats 4000000 in
theorem lord_any (pv rv mv kv : Value) (ps rs : List Int) (ms : List Mdl) (ks : List Int) (w : World) (hp : Nums .i64 w pv ps) (hr : Nums .i64 w rv rs) (hm : ModL w mv ms) (hk : Nums .i64 w kv ks) (a : Nat) (ha : a ≤ 255) (hsz : ms.length * 24 ≤ 140737488351232) :
    Calls Tryd.prog 6 #[.agg #[pv, rv], mv, kv, .int .u8 (a : Int)] w fun e w' => e = .returned (.bool true) ∧ Below w.heap.size w w' := by
  by_cases hl : ks.length = ms.length
  · by_cases ha2 : a ≤ ms.length
    · by_cases hE : postE ps rs ms ks = 0
      · exact lord_ok pv rv mv kv ps rs ms ks w hp hr hm hk a ha hsz hl ha2 hE
      · exact lord_no pv rv mv kv ps rs ms ks w hp hr hm hk a ha hsz hl ha2 hE
    · have t1 : ((ks.length : Int) != (ms.length : Int)) = false := by rw [hl]; simp
      have t2 : decide ((ms.length : Int) < (a : Int)) = true := decide_eq_true (by omega)
      have t3 : decide (ms.length < a) = true := decide_eq_true (by omega)
      have waa : IntKind.i64.wrap (a : Int) = (a : Int) := by rw [IntKind.wrap_i64]; omega
      have HP := Lib.hid hp
      have HR := Lib.hid hr
      have HM := Lib.hid hm
      have HK := Lib.hid hk
      obtain ⟨PA, pc, rfl, hpc, hpm, hps⟩ := hp
      obtain ⟨RV, vc, rfl, hvc, hvm, hvs⟩ := hr
      obtain ⟨MA, mc, us, rfl, hmc, hmm, hms, hmu⟩ := hm
      obtain ⟨KA, kc, rfl, hkc, hkm, hks⟩ := hk
      unfold maxLen at hmm hkm
      clear hms hmu hks hl ha2
      obtain ⟨W0, hW0⟩ : ∃ W0 : World, W0 = w.alloc (.cells #[.slice PA ps.length pc, .slice RV rs.length vc] 34) := ⟨_, rfl⟩
      have r0 : Row W0 w.heap.size 34 [.slice PA ps.length pc, .slice RV rs.length vc] := by
        rw [hW0]
        have := Row.new w 34 [.slice PA ps.length pc, .slice RV rs.length vc]
        simpa using this
      have B0 : Below w.heap.size w W0 := by rw [hW0]; exact ((Below.refl _ _).alloc (Nat.le_refl _) _)
      go_enter Tryd.func6, Tryd.ntmps6
      go_wp2_with fail
      rw [← hW0]
      clear hW0
      have BB := B0
      have hr3 := r0
      clear B0 r0
      refine (awake_any _).mono ?_
      rintro e x1 ⟨rfl, hb⟩
      replace hr3 := hr3.keep hb
      replace BB : Below w.heap.size w x1 := BB.trans (hb.mono BB.size)
      clear hb
      have c30 : x1.cell? ⟨w.heap.size, 0, none⟩ = some (.slice PA ps.length pc) := hr3.cell 0
      have c31 : x1.cell? ⟨w.heap.size, 1, none⟩ = some (.slice RV rs.length vc) := hr3.cell 1
      have z3 := hr3.lt
      go_wp2_with fail
      clear c30 c31 z3
      go_ret
      exact ⟨rfl, BB⟩
  · have t1 : ((ks.length : Int) != (ms.length : Int)) = true := by rw [bne_iff_ne]; omega
    have HP := Lib.hid hp
    have HR := Lib.hid hr
    have HM := Lib.hid hm
    have HK := Lib.hid hk
    obtain ⟨PA, pc, rfl, hpc, hpm, hps⟩ := hp
    obtain ⟨RV, vc, rfl, hvc, hvm, hvs⟩ := hr
    obtain ⟨MA, mc, us, rfl, hmc, hmm, hms, hmu⟩ := hm
    obtain ⟨KA, kc, rfl, hkc, hkm, hks⟩ := hk
    unfold maxLen at hmm hkm
    clear hms hmu hks hl
    obtain ⟨W0, hW0⟩ : ∃ W0 : World, W0 = w.alloc (.cells #[.slice PA ps.length pc, .slice RV rs.length vc] 34) := ⟨_, rfl⟩
    have r0 : Row W0 w.heap.size 34 [.slice PA ps.length pc, .slice RV rs.length vc] := by
      rw [hW0]
      have := Row.new w 34 [.slice PA ps.length pc, .slice RV rs.length vc]
      simpa using this
    have B0 : Below w.heap.size w W0 := by rw [hW0]; exact ((Below.refl _ _).alloc (Nat.le_refl _) _)
    go_enter Tryd.func6, Tryd.ntmps6
    go_wp2_with fail
    rw [← hW0]
    clear hW0
    have BB := B0
    have hr3 := r0
    clear B0 r0
    refine (awake_any _).mono ?_
    rintro e x1 ⟨rfl, hb⟩
    replace hr3 := hr3.keep hb
    replace BB : Below w.heap.size w x1 := BB.trans (hb.mono BB.size)
    clear hb
    have c30 : x1.cell? ⟨w.heap.size, 0, none⟩ = some (.slice PA ps.length pc) := hr3.cell 0
    have c31 : x1.cell? ⟨w.heap.size, 1, none⟩ = some (.slice RV rs.length vc) := hr3.cell 1
    have z3 := hr3.lt
    go_wp2_with fail
    clear c30 c31 z3
    go_ret
    exact ⟨rfl, BB⟩
end Go.Proofs.YtoihjclkocffhaaDoor
