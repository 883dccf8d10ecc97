/- EstimateModes, EstimateLikeliest. -/
import Derived.Test.YtfoleamcaflfeaaDoorEsW
import Derived.Test.YtfoleamcaflfeaaDoorEsK
namespace Go.Proofs.YtfoleamcaflfeaaDoor
open Go.RowKit
set_option linter.unusedVariables false
set_option maxRecDepth 100000

theorem bytesMdl : Tryd.prog.bytesOf 99 = 24 := by kernel_rfl
theorem modL_len {w : World} {A : Option Addr} {n c : Nat} {xs : List Mdl} (h : ModL w (.slice A n c) xs) : n = xs.length := by
  obtain ⟨_, _, _, h, _⟩ := h
  injection h
set_option maxHeartbeats 8000000 in
theorem lmodes_any (wv pv rv mv kv : Value) (ns : List Nat) (L : Nat) (ps rs : List Int) (ms : List Mdl) (ks : List Int) (w : World) (hw : Wts w wv ns L) (hL : L ≤ 35184372088800) (hp : Nums .i64 w pv ps) (hr : Nums .i64 w rv rs) (hm : ModL w mv ms) (hk : Nums .i64 w kv ks) (htab : Pow10 w) :
    Calls Tryd.prog 7 #[wv, .agg #[pv, rv], mv, kv] w fun e w' => e = .returned (.bool true) ∧ Below w.heap.size w w' := by
  have HW := Lib.hid hw
  have HP := Lib.hid hp
  have HR := Lib.hid hr
  have HM := Lib.hid hm
  have HK := Lib.hid hk
  obtain ⟨V1, hV1⟩ : ∃ x, likV ps rs ms ks = x := ⟨_, rfl⟩
  obtain ⟨E1, hE1⟩ : ∃ x, likE ps rs ms ks = x := ⟨_, rfl⟩
  have HV1 := Lib.hid hV1
  have HE1 := Lib.hid hE1
  clear hV1 hE1
  obtain ⟨WA, wc, wus, rfl, _, _, _, _⟩ := hw
  obtain ⟨PA, pc, rfl, _, _, _⟩ := hp
  obtain ⟨RV, vc, rfl, _, _, _⟩ := hr
  obtain ⟨MA, mc, mus, rfl, _, _, _, _⟩ := hm
  obtain ⟨KA, kc, rfl, _, _, _⟩ := hk
  obtain ⟨W0, hW0⟩ : ∃ W0 : World, W0 = w.alloc (.cells #[.slice PA ps.length pc, .slice RV rs.length vc] 37) := ⟨_, rfl⟩
  have r0 : Row W0 w.heap.size 37 [.slice PA ps.length pc, .slice RV rs.length vc] := by
    rw [hW0]
    have := Row.new w 37 [.slice PA ps.length pc, .slice RV rs.length vc]
    simpa using this
  have B0 : Below w.heap.size w W0 := by rw [hW0]; exact ((Below.refl _ _).alloc (Nat.le_refl _) _)
  go_enter Tryd.func7, Tryd.ntmps7
  go_wp2_with fail
  rw [← hW0]
  clear hW0
  have BB := B0
  have hr5 := r0
  clear B0 r0
  replace htab := htab.below BB
  refine (emode_any _ ns L _ (HW.out.below BB) hL).mono ?_
  rintro e x1 ⟨rfl, hb⟩
  replace hr5 := hr5.keep hb
  replace htab := htab.below hb
  replace BB : Below w.heap.size w x1 := BB.trans (hb.mono BB.size)
  clear hb
  have c50 : x1.cell? ⟨w.heap.size, 0, none⟩ = some (.slice PA ps.length pc) := hr5.cell 0
  have c51 : x1.cell? ⟨w.heap.size, 1, none⟩ = some (.slice RV rs.length vc) := hr5.cell 1
  have z5 := hr5.lt
  go_wp2_with fail
  clear c50 c51 z5
  refine (rmode_any _ ns L _ (HW.out.below BB) hL).mono ?_
  rintro e x2 ⟨rfl, hb⟩
  replace hr5 := hr5.keep hb
  replace htab := htab.below hb
  replace BB : Below w.heap.size w x2 := BB.trans (hb.mono BB.size)
  clear hb
  have c50 : x2.cell? ⟨w.heap.size, 0, none⟩ = some (.slice PA ps.length pc) := hr5.cell 0
  have c51 : x2.cell? ⟨w.heap.size, 1, none⟩ = some (.slice RV rs.length vc) := hr5.cell 1
  have z5 := hr5.lt
  go_wp2_with fail
  clear c50 c51 z5
  refine (elik_any _ _ _ _ ps rs ms ks _ (HP.out.below BB) (HR.out.below BB) (HM.out.below BB) (HK.out.below BB)).mono ?_
  rintro e x3 ⟨rfl, hb⟩
  replace hr5 := hr5.keep hb
  replace htab := htab.below hb
  replace BB : Below w.heap.size w x3 := BB.trans (hb.mono BB.size)
  clear hb
  rw [HV1.out, HE1.out]
  have c50 : x3.cell? ⟨w.heap.size, 0, none⟩ = some (.slice PA ps.length pc) := hr5.cell 0
  have c51 : x3.cell? ⟨w.heap.size, 1, none⟩ = some (.slice RV rs.length vc) := hr5.cell 1
  have z5 := hr5.lt
  go_wp2_with fail
  clear c50 c51 z5
  refine (rlik_any _ _ _ _ ps rs ms ks _ (HP.out.below BB) (HR.out.below BB) (HM.out.below BB) (HK.out.below BB)).mono ?_
  rintro e x4 ⟨rfl, hb⟩
  replace hr5 := hr5.keep hb
  replace htab := htab.below hb
  replace BB : Below w.heap.size w x4 := BB.trans (hb.mono BB.size)
  clear hb
  rw [HV1.out, HE1.out]
  have c50 : x4.cell? ⟨w.heap.size, 0, none⟩ = some (.slice PA ps.length pc) := hr5.cell 0
  have c51 : x4.cell? ⟨w.heap.size, 1, none⟩ = some (.slice RV rs.length vc) := hr5.cell 1
  have z5 := hr5.lt
  go_wp2_with fail
  clear c50 c51 z5
  refine (awake_any _ htab).mono ?_
  rintro e x5 ⟨rfl, hb⟩
  replace hr5 := hr5.keep hb
  replace htab := htab.below hb
  replace BB : Below w.heap.size w x5 := BB.trans (hb.mono BB.size)
  clear hb
  have c50 : x5.cell? ⟨w.heap.size, 0, none⟩ = some (.slice PA ps.length pc) := hr5.cell 0
  have c51 : x5.cell? ⟨w.heap.size, 1, none⟩ = some (.slice RV rs.length vc) := hr5.cell 1
  have z5 := hr5.lt
  go_wp2_with fail
  clear c50 c51 z5
  go_ret
  exact ⟨rfl, BB⟩

theorem likE_zero {ps rs : List Int} {ms : List Mdl} {ks : List Int} (h : likE ps rs ms ks = 0) : gridE ps rs = 0 ∧ postE ps (onesL ps) ms ks = 0 ∧ chkS (flatW ps ms ks) = 0 := by
  unfold likE at h
  split at h
  · omega
  · split at h
    · omega
    · rename_i h1 h2
      exact ⟨by simpa using h1, by simpa using h2, h⟩
theorem likV_ok {ps rs : List Int} {ms : List Mdl} {ks : List Int} (h : likE ps rs ms ks = 0) : likV ps rs ms ks = modeV (flatW ps ms ks) := by
  obtain ⟨h1, h2, _⟩ := likE_zero h
  unfold likV
  rw [if_neg (by simpa using h1), if_neg (by simpa using h2)]
theorem likV_free {ps rs rs' : List Int} {ms : List Mdl} {ks : List Int} (h : likE ps rs ms ks = 0) (h' : likE ps rs' ms ks = 0) : likV ps rs ms ks = likV ps rs' ms ks := by
  rw [likV_ok h, likV_ok h']
theorem flat_len {ps : List Int} {ms : List Mdl} {ks : List Int} (h : postE ps (onesL ps) ms ks = 0) : (flatW ps ms ks).length = ps.length := by
  unfold flatW allW
  rw [if_pos h, allF_len, natsOf_len, onesL, List.length_replicate]
theorem modeV_lt {ns : List Nat} (h : chkS ns = 0) : modeV ns < ns.length := by
  obtain ⟨_, h2⟩ := chkS_zero h
  unfold modeV
  rw [if_pos h]
  refine bestI_lt ns _ ?_
  rcases ns with _ | ⟨x, ns⟩
  · simp at h2
  · simp
theorem likV_lt {ps rs : List Int} {ms : List Mdl} {ks : List Int} (h : likE ps rs ms ks = 0) : likV ps rs ms ks < ps.length := by
  obtain ⟨_, h2, h3⟩ := likE_zero h
  rw [likV_ok h, ← flat_len h2]
  exact modeV_lt h3
/-- As many missing responses as there are models. -/
def noneL (ms : List Mdl) : List Int := List.replicate ms.length (-1)
theorem noneL_miss {ms : List Mdl} {z : Mdl × Int} (h : z ∈ ms.zip (noneL ms)) : missK z.2 = true := by
  have := (List.of_mem_zip (a := z.1) (b := z.2) h).2
  unfold noneL at this
  rw [List.eq_of_mem_replicate this]
  rfl
theorem allF_none : ∀ (zs : List (Mdl × Int)) (ns : List Nat), (∀ z ∈ zs, missK z.2 = true) → allF ns zs = ns
  | [], ns, _ => rfl
  | z :: zs, ns, h => by
    show allF (updF z.1 z.2 ns) zs = ns
    rw [updF_miss (h z (by simp))]
    exact allF_none zs ns fun y hy => h y (by simp [hy])
theorem zip_has {ms : List Mdl} {ks : List Int} (hl : ks.length = ms.length) {m : Mdl} (h : m ∈ ms) : ∃ k, (m, k) ∈ ms.zip ks := by
  obtain ⟨i, hi, rfl⟩ := List.getElem_of_mem h
  refine ⟨ks[i]'(by omega), ?_⟩
  have hz : i < (ms.zip ks).length := by rw [List.length_zip]; omega
  have : (ms.zip ks)[i] = (ms[i], ks[i]'(by omega)) := List.getElem_zip
  rw [← this]
  exact List.getElem_mem hz
theorem post_none {ps : List Int} {ms : List Mdl} {ks : List Int} (h : postE ps (onesL ps) ms ks = 0) : postE ps (onesL ps) ms (noneL ms) = 0 := by
  obtain ⟨h1, h2, h3, h4⟩ := postE_zero h
  have hl : (noneL ms).length = ms.length := by unfold noneL; rw [List.length_replicate]
  unfold postE
  rw [if_neg (by simpa using h1), if_neg (by simpa using hl), if_neg (by omega), allE_iff]
  intro z hz
  obtain ⟨kk, hk⟩ := zip_has h2 (List.of_mem_zip (a := z.1) (b := z.2) hz).1
  have := (allE_iff _ _).1 h4 _ hk
  obtain ⟨u1, u2, _⟩ := updE_zero this
  exact updE_miss u1 u2 (noneL_miss hz)
theorem flat_none {ps : List Int} {ms : List Mdl} (h : postE ps (onesL ps) ms (noneL ms) = 0) : flatW ps ms (noneL ms) = List.replicate ps.length 1 := by
  unfold flatW allW
  rw [if_pos h, allF_none _ _ fun z hz => noneL_miss hz]
  unfold natsOf onesL
  rw [List.map_replicate]
  rfl
theorem grid_len {ps rs : List Int} (h : gridE ps rs = 0) : 0 < ps.length ∧ ps.length ≤ 21 := by
  obtain ⟨h1, h2, _⟩ := gridE_zero h
  exact ⟨by omega, by omega⟩
theorem likE_none {ps rs : List Int} {ms : List Mdl} {ks : List Int} (h : likE ps rs ms ks = 0) : likE ps rs ms (noneL ms) = 0 := by
  obtain ⟨h1, h2, h3⟩ := likE_zero h
  have h4 := post_none h2
  have h5 := grid_len h1
  unfold likE
  rw [if_neg (by simpa using h1), if_neg (by simpa using h4), flat_none h4]
  unfold chkS
  rw [if_neg (by rw [List.length_replicate]; omega), if_neg (by rw [List.sum_replicate_nat]; omega)]
theorem bestI_first {ns : List Nat} (h : ∀ i, ns.getD i 0 ≤ ns.getD 0 0) : ∀ j, bestI ns j = 0
  | 0 => rfl
  | j + 1 => by
    unfold bestI
    rw [bestI_first h j, if_neg (by have := h j; omega)]
theorem likV_none {ps rs : List Int} {ms : List Mdl} (h : likE ps rs ms (noneL ms) = 0) : likV ps rs ms (noneL ms) = 0 := by
  obtain ⟨h1, h2, h3⟩ := likE_zero h
  rw [likV_ok h, flat_none h2]
  unfold modeV
  split
  · refine bestI_first (fun i => ?_) _
    rw [List.getD_eq_getElem?_getD, List.getD_eq_getElem?_getD, List.getElem?_replicate, List.getElem?_replicate]
    split
    · rw [if_pos (by omega)]; simp
    · simp
  · rfl

set_option maxHeartbeats 32000000 in
theorem llik_any (pv rv qv sv mv kv : Value) (ps rs qs ss : List Int) (ms : List Mdl) (ks : List Int) (w : World) (hp : Nums .i64 w pv ps) (hr : Nums .i64 w rv rs) (hq : Nums .i64 w qv qs) (hs : Nums .i64 w sv ss) (hm : ModL w mv ms) (hk : Nums .i64 w kv ks) (htab : Pow10 w) (hsm : ms.length * 8 ≤ 140737488355328) :
    Calls Tryd.prog 8 #[.agg #[pv, rv], .agg #[qv, sv], mv, kv] w fun e w' => e = .returned (.bool true) ∧ Below w.heap.size w w' := by
  have HP := Lib.hid hp
  have HR := Lib.hid hr
  have HS := Lib.hid hs
  have HM := Lib.hid hm
  have HK := Lib.hid hk
  have hf1 : likE ps rs ms ks = 0 → likV ps rs ms ks < ps.length ∧ likE ps rs ms (noneL ms) = 0 := fun h => ⟨likV_lt h, likE_none h⟩
  have hf2 : likE ps rs ms ks = 0 → likE ps ss ms ks = 0 → likV ps ss ms ks = likV ps rs ms ks := fun h h' => likV_free h' h
  have hf3 : likE ps rs ms (noneL ms) = 0 → likV ps rs ms (noneL ms) = 0 := likV_none
  obtain ⟨V1, hV1⟩ : ∃ x, likV ps rs ms ks = x := ⟨_, rfl⟩
  obtain ⟨E1, hE1⟩ : ∃ x, likE ps rs ms ks = x := ⟨_, rfl⟩
  obtain ⟨V2, hV2⟩ : ∃ x, likV ps ss ms ks = x := ⟨_, rfl⟩
  obtain ⟨E2, hE2⟩ : ∃ x, likE ps ss ms ks = x := ⟨_, rfl⟩
  obtain ⟨V3, hV3⟩ : ∃ x, likV ps rs ms (noneL ms) = x := ⟨_, rfl⟩
  obtain ⟨E3, hE3⟩ : ∃ x, likE ps rs ms (noneL ms) = x := ⟨_, rfl⟩
  rw [hV1, hE1, hE3] at hf1
  rw [hV1, hE1, hV2, hE2] at hf2
  rw [hV3, hE3] at hf3
  have HV1 := Lib.hid hV1
  have HE1 := Lib.hid hE1
  have HV2 := Lib.hid hV2
  have HE2 := Lib.hid hE2
  have HV3 := Lib.hid hV3
  have HE3 := Lib.hid hE3
  have HF1 := Lib.hid hf1
  have HF2 := Lib.hid hf2
  have HF3 := Lib.hid hf3
  clear hV1 hE1 hV2 hE2 hV3 hE3 hf1 hf2 hf3
  obtain ⟨PA, pc, rfl, _, _, _⟩ := hp
  obtain ⟨RV, vc, rfl, _, _, _⟩ := hr
  obtain ⟨QA, qc, rfl, _, _, _⟩ := hq
  obtain ⟨SV, sc, rfl, _, _, _⟩ := hs
  obtain ⟨MA, mc, mus, rfl, _, hmm, _, _⟩ := hm
  obtain ⟨KA, kc, rfl, _, _, _⟩ := hk
  unfold maxLen at hmm
  obtain ⟨n, hn⟩ : ∃ n, ms.length = n := ⟨_, rfl⟩
  have HN := Lib.hid hn
  rw [hn] at HM ⊢
  have hmn : n * 8 ≤ 140737488355328 := hn ▸ hsm
  clear hn
  obtain ⟨W0, hW0⟩ : ∃ W0 : World, W0 = (w.alloc (.cells #[.slice PA ps.length pc, .slice RV rs.length vc] 37)).alloc (.cells #[.slice QA qs.length qc, .slice SV ss.length sc] 37) := ⟨_, rfl⟩
  have r0 : Row W0 w.heap.size 37 [.slice PA ps.length pc, .slice RV rs.length vc] := by
    rw [hW0]
    have := Row.alloc (Row.new w 37 [.slice PA ps.length pc, .slice RV rs.length vc]) (.cells #[.slice QA qs.length qc, .slice SV ss.length sc] 37)
    simpa using this
  have r1 : Row W0 (w.heap.size + 1) 37 [.slice QA qs.length qc, .slice SV ss.length sc] := by
    rw [hW0]
    have := Row.new (w.alloc (.cells #[.slice PA ps.length pc, .slice RV rs.length vc] 37)) 37 [.slice QA qs.length qc, .slice SV ss.length sc]
    simpa using this
  have B0 : Below w.heap.size w W0 := by rw [hW0]; exact (((Below.refl _ _).alloc (Nat.le_refl _) _).alloc (by simp) _)
  go_enter Tryd.func8, Tryd.ntmps8
  go_wp2_with fail
  rw [← hW0]
  clear hW0
  have BB := B0
  have hr4 := r0
  have hr5 := r1
  clear B0 r0 r1
  replace htab := htab.below BB
  refine (elik_any _ _ _ _ ps rs ms ks _ (HP.out.below BB) (HR.out.below BB) (HM.out.below BB) (HK.out.below BB)).mono ?_
  rintro e x1 ⟨rfl, hb⟩
  replace hr4 := hr4.keep hb
  replace hr5 := hr5.keep hb
  replace htab := htab.below hb
  replace BB : Below w.heap.size w x1 := BB.trans (hb.mono BB.size)
  clear hb
  rw [HV1.out, HE1.out]
  by_cases hE1 : E1 = 0
  · subst hE1
    obtain ⟨hV1, rfl⟩ := HF1.out rfl
    obtain rfl := HF3.out rfl
    replace HF2 := Lib.hid (HF2.out rfl)
    have u1 : ¬ ((ps.length : Int) ≤ (V1 : Int)) := by omega
    have u4 : ¬ ((V1 : Int) < 0) := by omega
    have u5 : decide ((ps.length : Int) ≤ (V1 : Int)) = false := decide_eq_false u1
    by_cases hA : rs.length = ss.length
    · have tA : ((rs.length : Int) == (ss.length : Int)) = true := by rw [beq_iff_eq]; omega
      by_cases hB : ps.length = qs.length
      · have tB : ((ps.length : Int) == (qs.length : Int)) = true := by rw [beq_iff_eq]; omega
        clear hA hB
        obtain ⟨g11, hg11⟩ : ∃ g, x1.heap.size = g := ⟨_, rfl⟩
        have hr11 : Row (x1.alloc (.cells #[.slice PA ps.length pc, .slice SV ss.length sc] 37)) g11 37 [.slice PA ps.length pc, .slice SV ss.length sc] := row_at hg11
        have hl := lit_below x1 (.cells #[.slice PA ps.length pc, .slice SV ss.length sc] 37)
        have o4_11 : w.heap.size < g11 := by have := hr4.lt; omega
        have o5_11 : w.heap.size + 1 < g11 := by have := hr5.lt; omega
        have ob_11 : w.heap.size ≤ g11 := by have := BB.size; omega
        have c40 : x1.cell? ⟨w.heap.size, 0, none⟩ = some (.slice PA ps.length pc) := hr4.cell 0
        have c41 : x1.cell? ⟨w.heap.size, 1, none⟩ = some (.slice RV rs.length vc) := hr4.cell 1
        have c50 : x1.cell? ⟨w.heap.size + 1, 0, none⟩ = some (.slice QA qs.length qc) := hr5.cell 0
        have c51 : x1.cell? ⟨w.heap.size + 1, 1, none⟩ = some (.slice SV ss.length sc) := hr5.cell 1
        have d40 : (x1.alloc (.cells #[.slice PA ps.length pc, .slice SV ss.length sc] 37)).cell? ⟨w.heap.size, 0, none⟩ = some (.slice PA ps.length pc) := (hr4.alloc _).cell 0
        have d41 : (x1.alloc (.cells #[.slice PA ps.length pc, .slice SV ss.length sc] 37)).cell? ⟨w.heap.size, 1, none⟩ = some (.slice RV rs.length vc) := (hr4.alloc _).cell 1
        have d50 : (x1.alloc (.cells #[.slice PA ps.length pc, .slice SV ss.length sc] 37)).cell? ⟨w.heap.size + 1, 0, none⟩ = some (.slice QA qs.length qc) := (hr5.alloc _).cell 0
        have d51 : (x1.alloc (.cells #[.slice PA ps.length pc, .slice SV ss.length sc] 37)).cell? ⟨w.heap.size + 1, 1, none⟩ = some (.slice SV ss.length sc) := (hr5.alloc _).cell 1
        have e0 : (x1.alloc (.cells #[.slice PA ps.length pc, .slice SV ss.length sc] 37)).cell? ⟨g11, 0, none⟩ = some (.slice PA ps.length pc) := hr11.cell 0
        have e1 : (x1.alloc (.cells #[.slice PA ps.length pc, .slice SV ss.length sc] 37)).cell? ⟨g11, 1, none⟩ = some (.slice SV ss.length sc) := hr11.cell 1
        go_wp2_with fail
        clear c40 c41 c50 c51 d40 d41 d50 d51 e0 e1
        clear hg11
        generalize (x1.alloc (.cells #[.slice PA ps.length pc, .slice SV ss.length sc] 37)) = x11 at *
        replace hr4 := hr4.keep hl
        replace hr5 := hr5.keep hl
        replace htab := htab.below hl
        replace BB : Below w.heap.size w x11 := BB.trans (hl.mono BB.size)
        clear hl
        refine (elik_any _ _ _ _ ps ss ms ks _ (HP.out.below BB) (HS.out.below BB) (HM.out.below BB) (HK.out.below BB)).mono ?_
        rintro e x12 ⟨rfl, hb⟩
        replace hr4 := hr4.keep hb
        replace hr5 := hr5.keep hb
        replace htab := htab.below hb
        replace hr11 := hr11.keep hb
        replace BB : Below w.heap.size w x12 := BB.trans (hb.mono BB.size)
        clear hb
        rw [HV2.out, HE2.out]
        clear hr11 tA tB
        by_cases hE2 : E2 = 0
        · subst hE2
          obtain rfl := HF2.out rfl
          have c40 : x12.cell? ⟨w.heap.size, 0, none⟩ = some (.slice PA ps.length pc) := hr4.cell 0
          have c41 : x12.cell? ⟨w.heap.size, 1, none⟩ = some (.slice RV rs.length vc) := hr4.cell 1
          have c50 : x12.cell? ⟨w.heap.size + 1, 0, none⟩ = some (.slice QA qs.length qc) := hr5.cell 0
          have c51 : x12.cell? ⟨w.heap.size + 1, 1, none⟩ = some (.slice SV ss.length sc) := hr5.cell 1
          have z4 := hr4.lt
          have z5 := hr5.lt
          go_wp2_with fail
          clear c40 c41 c50 c51 z4 z5
          obtain ⟨wl, hwl⟩ : ∃ x, x = x12 := ⟨_, rfl⟩
          subst hwl
          go_loopw [14, 65] (fun v i wr => ∃ (k : Nat) (V : Option Addr) (cv : Nat), k ≤ n ∧ i = .int .i64 (k : Int) ∧ v = .slice V k cv ∧ wr.ownsRow wl.heap.size 3 1 (.slice V k cv) k (List.replicate k (.int .i64 (-1))) ∧ Below wl.heap.size wl wr) (fun _ i _ => n - (intOf i).toNat)
          case atStart => exact ⟨0, _, 0, by omega, rfl, rfl, ⟨rfl, .inl ⟨rfl, rfl⟩⟩, Below.refl _ _⟩
          case round =>
            obtain ⟨k, V, cv, hk, rfl, rfl, hown, BQ⟩ := hrel
            by_cases hlt : k < n
            · have hltI : (k : Int) < (n : Int) := by omega
              go_wp2_with (at_builtin; refine wpList_append_oneG _ rfl (.tmp 67) (.tmp 68) 35 rfl wl.heap.size 3 (.int .i64 0) 8 Tryd.underlying35 infoInt rfl (.slice V k cv) k (List.replicate k (.int .i64 (-1))) (.int .i64 (-1)) rfl rfl hown rfl (by unfold maxLen; omega) (by omega) BQ.size ?_; intro A' c3 w3 hown3 hb3 hg3 hr3)
              go_roundw
              case rel => exact ⟨k + 1, A', c3, by omega, by go_num, rfl, by rw [List.replicate_succ']; exact hown3, BQ.trans hb3⟩
              case measure => simp [intOf]; omega
            · obtain rfl : k = n := by omega
              have hltI : ¬ (k : Int) < (k : Int) := by omega
              replace hr4 := hr4.keep BQ
              replace hr5 := hr5.keep BQ
              replace htab := htab.below BQ
              have hno : Nums .i64 wr (.slice V k cv) (noneL ms) := by
                have hown' : wr.ownsRow wl.heap.size 3 1 (.slice V k cv) k ((noneL ms).map (Value.int .i64)) := by unfold noneL; rw [HN.out, List.map_replicate]; exact hown
                exact Nums.of_own hown'
              replace BB : Below w.heap.size w wr := BB.trans (BQ.mono BB.size)
              clear BQ hown
              have c40 : wr.cell? ⟨w.heap.size, 0, none⟩ = some (.slice PA ps.length pc) := hr4.cell 0
              have c41 : wr.cell? ⟨w.heap.size, 1, none⟩ = some (.slice RV rs.length vc) := hr4.cell 1
              have c50 : wr.cell? ⟨w.heap.size + 1, 0, none⟩ = some (.slice QA qs.length qc) := hr5.cell 0
              have c51 : wr.cell? ⟨w.heap.size + 1, 1, none⟩ = some (.slice SV ss.length sc) := hr5.cell 1
              have z4 := hr4.lt
              have z5 := hr5.lt
              go_wp2_with fail
              clear c40 c41 c50 c51 z4 z5
              refine (elik_any _ _ _ _ ps rs ms (noneL ms) _ (HP.out.below BB) (HR.out.below BB) (HM.out.below BB) hno).mono ?_
              rintro e x31 ⟨rfl, hb⟩
              replace hr4 := hr4.keep hb
              replace hr5 := hr5.keep hb
              replace htab := htab.below hb
              replace BB : Below w.heap.size w x31 := BB.trans (hb.mono BB.size)
              clear hb
              rw [HV3.out, HE3.out]
              have c40 : x31.cell? ⟨w.heap.size, 0, none⟩ = some (.slice PA ps.length pc) := hr4.cell 0
              have c41 : x31.cell? ⟨w.heap.size, 1, none⟩ = some (.slice RV rs.length vc) := hr4.cell 1
              have c50 : x31.cell? ⟨w.heap.size + 1, 0, none⟩ = some (.slice QA qs.length qc) := hr5.cell 0
              have c51 : x31.cell? ⟨w.heap.size + 1, 1, none⟩ = some (.slice SV ss.length sc) := hr5.cell 1
              have z4 := hr4.lt
              have z5 := hr5.lt
              go_wp2_with fail
              clear c40 c41 c50 c51 z4 z5
              refine (awake_any _ htab).mono ?_
              rintro e x51 ⟨rfl, hb⟩
              replace hr4 := hr4.keep hb
              replace hr5 := hr5.keep hb
              replace htab := htab.below hb
              replace BB : Below w.heap.size w x51 := BB.trans (hb.mono BB.size)
              clear hb
              have c40 : x51.cell? ⟨w.heap.size, 0, none⟩ = some (.slice PA ps.length pc) := hr4.cell 0
              have c41 : x51.cell? ⟨w.heap.size, 1, none⟩ = some (.slice RV rs.length vc) := hr4.cell 1
              have c50 : x51.cell? ⟨w.heap.size + 1, 0, none⟩ = some (.slice QA qs.length qc) := hr5.cell 0
              have c51 : x51.cell? ⟨w.heap.size + 1, 1, none⟩ = some (.slice SV ss.length sc) := hr5.cell 1
              have z4 := hr4.lt
              have z5 := hr5.lt
              go_wp2_with fail
              clear c40 c41 c50 c51 z4 z5
              go_ret
              exact ⟨rfl, BB⟩
        · have u2 : (E2 == 0) = false := by rw [beq_eq_false_iff_ne]; exact hE2
          have c40 : x12.cell? ⟨w.heap.size, 0, none⟩ = some (.slice PA ps.length pc) := hr4.cell 0
          have c41 : x12.cell? ⟨w.heap.size, 1, none⟩ = some (.slice RV rs.length vc) := hr4.cell 1
          have c50 : x12.cell? ⟨w.heap.size + 1, 0, none⟩ = some (.slice QA qs.length qc) := hr5.cell 0
          have c51 : x12.cell? ⟨w.heap.size + 1, 1, none⟩ = some (.slice SV ss.length sc) := hr5.cell 1
          have z4 := hr4.lt
          have z5 := hr5.lt
          go_wp2_with fail
          clear c40 c41 c50 c51 z4 z5
          obtain ⟨wl, hwl⟩ : ∃ x, x = x12 := ⟨_, rfl⟩
          subst hwl
          go_loopw [14, 65] (fun v i wr => ∃ (k : Nat) (V : Option Addr) (cv : Nat), k ≤ n ∧ i = .int .i64 (k : Int) ∧ v = .slice V k cv ∧ wr.ownsRow wl.heap.size 3 1 (.slice V k cv) k (List.replicate k (.int .i64 (-1))) ∧ Below wl.heap.size wl wr) (fun _ i _ => n - (intOf i).toNat)
          case atStart => exact ⟨0, _, 0, by omega, rfl, rfl, ⟨rfl, .inl ⟨rfl, rfl⟩⟩, Below.refl _ _⟩
          case round =>
            obtain ⟨k, V, cv, hk, rfl, rfl, hown, BQ⟩ := hrel
            by_cases hlt : k < n
            · have hltI : (k : Int) < (n : Int) := by omega
              go_wp2_with (at_builtin; refine wpList_append_oneG _ rfl (.tmp 67) (.tmp 68) 35 rfl wl.heap.size 3 (.int .i64 0) 8 Tryd.underlying35 infoInt rfl (.slice V k cv) k (List.replicate k (.int .i64 (-1))) (.int .i64 (-1)) rfl rfl hown rfl (by unfold maxLen; omega) (by omega) BQ.size ?_; intro A' c3 w3 hown3 hb3 hg3 hr3)
              go_roundw
              case rel => exact ⟨k + 1, A', c3, by omega, by go_num, rfl, by rw [List.replicate_succ']; exact hown3, BQ.trans hb3⟩
              case measure => simp [intOf]; omega
            · obtain rfl : k = n := by omega
              have hltI : ¬ (k : Int) < (k : Int) := by omega
              replace hr4 := hr4.keep BQ
              replace hr5 := hr5.keep BQ
              replace htab := htab.below BQ
              have hno : Nums .i64 wr (.slice V k cv) (noneL ms) := by
                have hown' : wr.ownsRow wl.heap.size 3 1 (.slice V k cv) k ((noneL ms).map (Value.int .i64)) := by unfold noneL; rw [HN.out, List.map_replicate]; exact hown
                exact Nums.of_own hown'
              replace BB : Below w.heap.size w wr := BB.trans (BQ.mono BB.size)
              clear BQ hown
              have c40 : wr.cell? ⟨w.heap.size, 0, none⟩ = some (.slice PA ps.length pc) := hr4.cell 0
              have c41 : wr.cell? ⟨w.heap.size, 1, none⟩ = some (.slice RV rs.length vc) := hr4.cell 1
              have c50 : wr.cell? ⟨w.heap.size + 1, 0, none⟩ = some (.slice QA qs.length qc) := hr5.cell 0
              have c51 : wr.cell? ⟨w.heap.size + 1, 1, none⟩ = some (.slice SV ss.length sc) := hr5.cell 1
              have z4 := hr4.lt
              have z5 := hr5.lt
              go_wp2_with fail
              clear c40 c41 c50 c51 z4 z5
              refine (elik_any _ _ _ _ ps rs ms (noneL ms) _ (HP.out.below BB) (HR.out.below BB) (HM.out.below BB) hno).mono ?_
              rintro e x31 ⟨rfl, hb⟩
              replace hr4 := hr4.keep hb
              replace hr5 := hr5.keep hb
              replace htab := htab.below hb
              replace BB : Below w.heap.size w x31 := BB.trans (hb.mono BB.size)
              clear hb
              rw [HV3.out, HE3.out]
              have c40 : x31.cell? ⟨w.heap.size, 0, none⟩ = some (.slice PA ps.length pc) := hr4.cell 0
              have c41 : x31.cell? ⟨w.heap.size, 1, none⟩ = some (.slice RV rs.length vc) := hr4.cell 1
              have c50 : x31.cell? ⟨w.heap.size + 1, 0, none⟩ = some (.slice QA qs.length qc) := hr5.cell 0
              have c51 : x31.cell? ⟨w.heap.size + 1, 1, none⟩ = some (.slice SV ss.length sc) := hr5.cell 1
              have z4 := hr4.lt
              have z5 := hr5.lt
              go_wp2_with fail
              clear c40 c41 c50 c51 z4 z5
              refine (awake_any _ htab).mono ?_
              rintro e x51 ⟨rfl, hb⟩
              replace hr4 := hr4.keep hb
              replace hr5 := hr5.keep hb
              replace htab := htab.below hb
              replace BB : Below w.heap.size w x51 := BB.trans (hb.mono BB.size)
              clear hb
              have c40 : x51.cell? ⟨w.heap.size, 0, none⟩ = some (.slice PA ps.length pc) := hr4.cell 0
              have c41 : x51.cell? ⟨w.heap.size, 1, none⟩ = some (.slice RV rs.length vc) := hr4.cell 1
              have c50 : x51.cell? ⟨w.heap.size + 1, 0, none⟩ = some (.slice QA qs.length qc) := hr5.cell 0
              have c51 : x51.cell? ⟨w.heap.size + 1, 1, none⟩ = some (.slice SV ss.length sc) := hr5.cell 1
              have z4 := hr4.lt
              have z5 := hr5.lt
              go_wp2_with fail
              clear c40 c41 c50 c51 z4 z5
              go_ret
              exact ⟨rfl, BB⟩
      · have tB : ((ps.length : Int) == (qs.length : Int)) = false := by rw [beq_eq_false_iff_ne]; omega
        clear hA hB
        have c40 : x1.cell? ⟨w.heap.size, 0, none⟩ = some (.slice PA ps.length pc) := hr4.cell 0
        have c41 : x1.cell? ⟨w.heap.size, 1, none⟩ = some (.slice RV rs.length vc) := hr4.cell 1
        have c50 : x1.cell? ⟨w.heap.size + 1, 0, none⟩ = some (.slice QA qs.length qc) := hr5.cell 0
        have c51 : x1.cell? ⟨w.heap.size + 1, 1, none⟩ = some (.slice SV ss.length sc) := hr5.cell 1
        have z4 := hr4.lt
        have z5 := hr5.lt
        go_wp2_with fail
        clear c40 c41 c50 c51 z4 z5
        obtain ⟨wl, hwl⟩ : ∃ x, x = x1 := ⟨_, rfl⟩
        subst hwl
        go_loopw [14, 65] (fun v i wr => ∃ (k : Nat) (V : Option Addr) (cv : Nat), k ≤ n ∧ i = .int .i64 (k : Int) ∧ v = .slice V k cv ∧ wr.ownsRow wl.heap.size 3 1 (.slice V k cv) k (List.replicate k (.int .i64 (-1))) ∧ Below wl.heap.size wl wr) (fun _ i _ => n - (intOf i).toNat)
        case atStart => exact ⟨0, _, 0, by omega, rfl, rfl, ⟨rfl, .inl ⟨rfl, rfl⟩⟩, Below.refl _ _⟩
        case round =>
          obtain ⟨k, V, cv, hk, rfl, rfl, hown, BQ⟩ := hrel
          by_cases hlt : k < n
          · have hltI : (k : Int) < (n : Int) := by omega
            go_wp2_with (at_builtin; refine wpList_append_oneG _ rfl (.tmp 67) (.tmp 68) 35 rfl wl.heap.size 3 (.int .i64 0) 8 Tryd.underlying35 infoInt rfl (.slice V k cv) k (List.replicate k (.int .i64 (-1))) (.int .i64 (-1)) rfl rfl hown rfl (by unfold maxLen; omega) (by omega) BQ.size ?_; intro A' c3 w3 hown3 hb3 hg3 hr3)
            go_roundw
            case rel => exact ⟨k + 1, A', c3, by omega, by go_num, rfl, by rw [List.replicate_succ']; exact hown3, BQ.trans hb3⟩
            case measure => simp [intOf]; omega
          · obtain rfl : k = n := by omega
            have hltI : ¬ (k : Int) < (k : Int) := by omega
            replace hr4 := hr4.keep BQ
            replace hr5 := hr5.keep BQ
            replace htab := htab.below BQ
            have hno : Nums .i64 wr (.slice V k cv) (noneL ms) := by
              have hown' : wr.ownsRow wl.heap.size 3 1 (.slice V k cv) k ((noneL ms).map (Value.int .i64)) := by unfold noneL; rw [HN.out, List.map_replicate]; exact hown
              exact Nums.of_own hown'
            replace BB : Below w.heap.size w wr := BB.trans (BQ.mono BB.size)
            clear BQ hown
            have c40 : wr.cell? ⟨w.heap.size, 0, none⟩ = some (.slice PA ps.length pc) := hr4.cell 0
            have c41 : wr.cell? ⟨w.heap.size, 1, none⟩ = some (.slice RV rs.length vc) := hr4.cell 1
            have c50 : wr.cell? ⟨w.heap.size + 1, 0, none⟩ = some (.slice QA qs.length qc) := hr5.cell 0
            have c51 : wr.cell? ⟨w.heap.size + 1, 1, none⟩ = some (.slice SV ss.length sc) := hr5.cell 1
            have z4 := hr4.lt
            have z5 := hr5.lt
            go_wp2_with fail
            clear c40 c41 c50 c51 z4 z5
            refine (elik_any _ _ _ _ ps rs ms (noneL ms) _ (HP.out.below BB) (HR.out.below BB) (HM.out.below BB) hno).mono ?_
            rintro e x31 ⟨rfl, hb⟩
            replace hr4 := hr4.keep hb
            replace hr5 := hr5.keep hb
            replace htab := htab.below hb
            replace BB : Below w.heap.size w x31 := BB.trans (hb.mono BB.size)
            clear hb
            rw [HV3.out, HE3.out]
            have c40 : x31.cell? ⟨w.heap.size, 0, none⟩ = some (.slice PA ps.length pc) := hr4.cell 0
            have c41 : x31.cell? ⟨w.heap.size, 1, none⟩ = some (.slice RV rs.length vc) := hr4.cell 1
            have c50 : x31.cell? ⟨w.heap.size + 1, 0, none⟩ = some (.slice QA qs.length qc) := hr5.cell 0
            have c51 : x31.cell? ⟨w.heap.size + 1, 1, none⟩ = some (.slice SV ss.length sc) := hr5.cell 1
            have z4 := hr4.lt
            have z5 := hr5.lt
            go_wp2_with fail
            clear c40 c41 c50 c51 z4 z5
            refine (awake_any _ htab).mono ?_
            rintro e x51 ⟨rfl, hb⟩
            replace hr4 := hr4.keep hb
            replace hr5 := hr5.keep hb
            replace htab := htab.below hb
            replace BB : Below w.heap.size w x51 := BB.trans (hb.mono BB.size)
            clear hb
            have c40 : x51.cell? ⟨w.heap.size, 0, none⟩ = some (.slice PA ps.length pc) := hr4.cell 0
            have c41 : x51.cell? ⟨w.heap.size, 1, none⟩ = some (.slice RV rs.length vc) := hr4.cell 1
            have c50 : x51.cell? ⟨w.heap.size + 1, 0, none⟩ = some (.slice QA qs.length qc) := hr5.cell 0
            have c51 : x51.cell? ⟨w.heap.size + 1, 1, none⟩ = some (.slice SV ss.length sc) := hr5.cell 1
            have z4 := hr4.lt
            have z5 := hr5.lt
            go_wp2_with fail
            clear c40 c41 c50 c51 z4 z5
            go_ret
            exact ⟨rfl, BB⟩
    · have tA : ((rs.length : Int) == (ss.length : Int)) = false := by rw [beq_eq_false_iff_ne]; omega
      clear hA
      have c40 : x1.cell? ⟨w.heap.size, 0, none⟩ = some (.slice PA ps.length pc) := hr4.cell 0
      have c41 : x1.cell? ⟨w.heap.size, 1, none⟩ = some (.slice RV rs.length vc) := hr4.cell 1
      have c50 : x1.cell? ⟨w.heap.size + 1, 0, none⟩ = some (.slice QA qs.length qc) := hr5.cell 0
      have c51 : x1.cell? ⟨w.heap.size + 1, 1, none⟩ = some (.slice SV ss.length sc) := hr5.cell 1
      have z4 := hr4.lt
      have z5 := hr5.lt
      go_wp2_with fail
      clear c40 c41 c50 c51 z4 z5
      obtain ⟨wl, hwl⟩ : ∃ x, x = x1 := ⟨_, rfl⟩
      subst hwl
      go_loopw [14, 65] (fun v i wr => ∃ (k : Nat) (V : Option Addr) (cv : Nat), k ≤ n ∧ i = .int .i64 (k : Int) ∧ v = .slice V k cv ∧ wr.ownsRow wl.heap.size 3 1 (.slice V k cv) k (List.replicate k (.int .i64 (-1))) ∧ Below wl.heap.size wl wr) (fun _ i _ => n - (intOf i).toNat)
      case atStart => exact ⟨0, _, 0, by omega, rfl, rfl, ⟨rfl, .inl ⟨rfl, rfl⟩⟩, Below.refl _ _⟩
      case round =>
        obtain ⟨k, V, cv, hk, rfl, rfl, hown, BQ⟩ := hrel
        by_cases hlt : k < n
        · have hltI : (k : Int) < (n : Int) := by omega
          go_wp2_with (at_builtin; refine wpList_append_oneG _ rfl (.tmp 67) (.tmp 68) 35 rfl wl.heap.size 3 (.int .i64 0) 8 Tryd.underlying35 infoInt rfl (.slice V k cv) k (List.replicate k (.int .i64 (-1))) (.int .i64 (-1)) rfl rfl hown rfl (by unfold maxLen; omega) (by omega) BQ.size ?_; intro A' c3 w3 hown3 hb3 hg3 hr3)
          go_roundw
          case rel => exact ⟨k + 1, A', c3, by omega, by go_num, rfl, by rw [List.replicate_succ']; exact hown3, BQ.trans hb3⟩
          case measure => simp [intOf]; omega
        · obtain rfl : k = n := by omega
          have hltI : ¬ (k : Int) < (k : Int) := by omega
          replace hr4 := hr4.keep BQ
          replace hr5 := hr5.keep BQ
          replace htab := htab.below BQ
          have hno : Nums .i64 wr (.slice V k cv) (noneL ms) := by
            have hown' : wr.ownsRow wl.heap.size 3 1 (.slice V k cv) k ((noneL ms).map (Value.int .i64)) := by unfold noneL; rw [HN.out, List.map_replicate]; exact hown
            exact Nums.of_own hown'
          replace BB : Below w.heap.size w wr := BB.trans (BQ.mono BB.size)
          clear BQ hown
          have c40 : wr.cell? ⟨w.heap.size, 0, none⟩ = some (.slice PA ps.length pc) := hr4.cell 0
          have c41 : wr.cell? ⟨w.heap.size, 1, none⟩ = some (.slice RV rs.length vc) := hr4.cell 1
          have c50 : wr.cell? ⟨w.heap.size + 1, 0, none⟩ = some (.slice QA qs.length qc) := hr5.cell 0
          have c51 : wr.cell? ⟨w.heap.size + 1, 1, none⟩ = some (.slice SV ss.length sc) := hr5.cell 1
          have z4 := hr4.lt
          have z5 := hr5.lt
          go_wp2_with fail
          clear c40 c41 c50 c51 z4 z5
          refine (elik_any _ _ _ _ ps rs ms (noneL ms) _ (HP.out.below BB) (HR.out.below BB) (HM.out.below BB) hno).mono ?_
          rintro e x31 ⟨rfl, hb⟩
          replace hr4 := hr4.keep hb
          replace hr5 := hr5.keep hb
          replace htab := htab.below hb
          replace BB : Below w.heap.size w x31 := BB.trans (hb.mono BB.size)
          clear hb
          rw [HV3.out, HE3.out]
          have c40 : x31.cell? ⟨w.heap.size, 0, none⟩ = some (.slice PA ps.length pc) := hr4.cell 0
          have c41 : x31.cell? ⟨w.heap.size, 1, none⟩ = some (.slice RV rs.length vc) := hr4.cell 1
          have c50 : x31.cell? ⟨w.heap.size + 1, 0, none⟩ = some (.slice QA qs.length qc) := hr5.cell 0
          have c51 : x31.cell? ⟨w.heap.size + 1, 1, none⟩ = some (.slice SV ss.length sc) := hr5.cell 1
          have z4 := hr4.lt
          have z5 := hr5.lt
          go_wp2_with fail
          clear c40 c41 c50 c51 z4 z5
          refine (awake_any _ htab).mono ?_
          rintro e x51 ⟨rfl, hb⟩
          replace hr4 := hr4.keep hb
          replace hr5 := hr5.keep hb
          replace htab := htab.below hb
          replace BB : Below w.heap.size w x51 := BB.trans (hb.mono BB.size)
          clear hb
          have c40 : x51.cell? ⟨w.heap.size, 0, none⟩ = some (.slice PA ps.length pc) := hr4.cell 0
          have c41 : x51.cell? ⟨w.heap.size, 1, none⟩ = some (.slice RV rs.length vc) := hr4.cell 1
          have c50 : x51.cell? ⟨w.heap.size + 1, 0, none⟩ = some (.slice QA qs.length qc) := hr5.cell 0
          have c51 : x51.cell? ⟨w.heap.size + 1, 1, none⟩ = some (.slice SV ss.length sc) := hr5.cell 1
          have z4 := hr4.lt
          have z5 := hr5.lt
          go_wp2_with fail
          clear c40 c41 c50 c51 z4 z5
          go_ret
          exact ⟨rfl, BB⟩
  · have u1 : (E1 == 0) = false := by rw [beq_eq_false_iff_ne]; exact hE1
    by_cases hA : rs.length = ss.length
    · have tA : ((rs.length : Int) == (ss.length : Int)) = true := by rw [beq_iff_eq]; omega
      by_cases hB : ps.length = qs.length
      · have tB : ((ps.length : Int) == (qs.length : Int)) = true := by rw [beq_iff_eq]; omega
        clear hA hB
        obtain ⟨g11, hg11⟩ : ∃ g, x1.heap.size = g := ⟨_, rfl⟩
        have hr11 : Row (x1.alloc (.cells #[.slice PA ps.length pc, .slice SV ss.length sc] 37)) g11 37 [.slice PA ps.length pc, .slice SV ss.length sc] := row_at hg11
        have hl := lit_below x1 (.cells #[.slice PA ps.length pc, .slice SV ss.length sc] 37)
        have o4_11 : w.heap.size < g11 := by have := hr4.lt; omega
        have o5_11 : w.heap.size + 1 < g11 := by have := hr5.lt; omega
        have ob_11 : w.heap.size ≤ g11 := by have := BB.size; omega
        have c40 : x1.cell? ⟨w.heap.size, 0, none⟩ = some (.slice PA ps.length pc) := hr4.cell 0
        have c41 : x1.cell? ⟨w.heap.size, 1, none⟩ = some (.slice RV rs.length vc) := hr4.cell 1
        have c50 : x1.cell? ⟨w.heap.size + 1, 0, none⟩ = some (.slice QA qs.length qc) := hr5.cell 0
        have c51 : x1.cell? ⟨w.heap.size + 1, 1, none⟩ = some (.slice SV ss.length sc) := hr5.cell 1
        have d40 : (x1.alloc (.cells #[.slice PA ps.length pc, .slice SV ss.length sc] 37)).cell? ⟨w.heap.size, 0, none⟩ = some (.slice PA ps.length pc) := (hr4.alloc _).cell 0
        have d41 : (x1.alloc (.cells #[.slice PA ps.length pc, .slice SV ss.length sc] 37)).cell? ⟨w.heap.size, 1, none⟩ = some (.slice RV rs.length vc) := (hr4.alloc _).cell 1
        have d50 : (x1.alloc (.cells #[.slice PA ps.length pc, .slice SV ss.length sc] 37)).cell? ⟨w.heap.size + 1, 0, none⟩ = some (.slice QA qs.length qc) := (hr5.alloc _).cell 0
        have d51 : (x1.alloc (.cells #[.slice PA ps.length pc, .slice SV ss.length sc] 37)).cell? ⟨w.heap.size + 1, 1, none⟩ = some (.slice SV ss.length sc) := (hr5.alloc _).cell 1
        have e0 : (x1.alloc (.cells #[.slice PA ps.length pc, .slice SV ss.length sc] 37)).cell? ⟨g11, 0, none⟩ = some (.slice PA ps.length pc) := hr11.cell 0
        have e1 : (x1.alloc (.cells #[.slice PA ps.length pc, .slice SV ss.length sc] 37)).cell? ⟨g11, 1, none⟩ = some (.slice SV ss.length sc) := hr11.cell 1
        go_wp2_with fail
        clear c40 c41 c50 c51 d40 d41 d50 d51 e0 e1
        clear hg11
        generalize (x1.alloc (.cells #[.slice PA ps.length pc, .slice SV ss.length sc] 37)) = x11 at *
        replace hr4 := hr4.keep hl
        replace hr5 := hr5.keep hl
        replace htab := htab.below hl
        replace BB : Below w.heap.size w x11 := BB.trans (hl.mono BB.size)
        clear hl
        refine (elik_any _ _ _ _ ps ss ms ks _ (HP.out.below BB) (HS.out.below BB) (HM.out.below BB) (HK.out.below BB)).mono ?_
        rintro e x12 ⟨rfl, hb⟩
        replace hr4 := hr4.keep hb
        replace hr5 := hr5.keep hb
        replace htab := htab.below hb
        replace hr11 := hr11.keep hb
        replace BB : Below w.heap.size w x12 := BB.trans (hb.mono BB.size)
        clear hb
        rw [HV2.out, HE2.out]
        clear hr11 tA tB
        have c40 : x12.cell? ⟨w.heap.size, 0, none⟩ = some (.slice PA ps.length pc) := hr4.cell 0
        have c41 : x12.cell? ⟨w.heap.size, 1, none⟩ = some (.slice RV rs.length vc) := hr4.cell 1
        have c50 : x12.cell? ⟨w.heap.size + 1, 0, none⟩ = some (.slice QA qs.length qc) := hr5.cell 0
        have c51 : x12.cell? ⟨w.heap.size + 1, 1, none⟩ = some (.slice SV ss.length sc) := hr5.cell 1
        have z4 := hr4.lt
        have z5 := hr5.lt
        go_wp2_with fail
        clear c40 c41 c50 c51 z4 z5
        obtain ⟨wl, hwl⟩ : ∃ x, x = x12 := ⟨_, rfl⟩
        subst hwl
        go_loopw [14, 65] (fun v i wr => ∃ (k : Nat) (V : Option Addr) (cv : Nat), k ≤ n ∧ i = .int .i64 (k : Int) ∧ v = .slice V k cv ∧ wr.ownsRow wl.heap.size 3 1 (.slice V k cv) k (List.replicate k (.int .i64 (-1))) ∧ Below wl.heap.size wl wr) (fun _ i _ => n - (intOf i).toNat)
        case atStart => exact ⟨0, _, 0, by omega, rfl, rfl, ⟨rfl, .inl ⟨rfl, rfl⟩⟩, Below.refl _ _⟩
        case round =>
          obtain ⟨k, V, cv, hk, rfl, rfl, hown, BQ⟩ := hrel
          by_cases hlt : k < n
          · have hltI : (k : Int) < (n : Int) := by omega
            go_wp2_with (at_builtin; refine wpList_append_oneG _ rfl (.tmp 67) (.tmp 68) 35 rfl wl.heap.size 3 (.int .i64 0) 8 Tryd.underlying35 infoInt rfl (.slice V k cv) k (List.replicate k (.int .i64 (-1))) (.int .i64 (-1)) rfl rfl hown rfl (by unfold maxLen; omega) (by omega) BQ.size ?_; intro A' c3 w3 hown3 hb3 hg3 hr3)
            go_roundw
            case rel => exact ⟨k + 1, A', c3, by omega, by go_num, rfl, by rw [List.replicate_succ']; exact hown3, BQ.trans hb3⟩
            case measure => simp [intOf]; omega
          · obtain rfl : k = n := by omega
            have hltI : ¬ (k : Int) < (k : Int) := by omega
            replace hr4 := hr4.keep BQ
            replace hr5 := hr5.keep BQ
            replace htab := htab.below BQ
            have hno : Nums .i64 wr (.slice V k cv) (noneL ms) := by
              have hown' : wr.ownsRow wl.heap.size 3 1 (.slice V k cv) k ((noneL ms).map (Value.int .i64)) := by unfold noneL; rw [HN.out, List.map_replicate]; exact hown
              exact Nums.of_own hown'
            replace BB : Below w.heap.size w wr := BB.trans (BQ.mono BB.size)
            clear BQ hown
            have c40 : wr.cell? ⟨w.heap.size, 0, none⟩ = some (.slice PA ps.length pc) := hr4.cell 0
            have c41 : wr.cell? ⟨w.heap.size, 1, none⟩ = some (.slice RV rs.length vc) := hr4.cell 1
            have c50 : wr.cell? ⟨w.heap.size + 1, 0, none⟩ = some (.slice QA qs.length qc) := hr5.cell 0
            have c51 : wr.cell? ⟨w.heap.size + 1, 1, none⟩ = some (.slice SV ss.length sc) := hr5.cell 1
            have z4 := hr4.lt
            have z5 := hr5.lt
            go_wp2_with fail
            clear c40 c41 c50 c51 z4 z5
            refine (elik_any _ _ _ _ ps rs ms (noneL ms) _ (HP.out.below BB) (HR.out.below BB) (HM.out.below BB) hno).mono ?_
            rintro e x31 ⟨rfl, hb⟩
            replace hr4 := hr4.keep hb
            replace hr5 := hr5.keep hb
            replace htab := htab.below hb
            replace BB : Below w.heap.size w x31 := BB.trans (hb.mono BB.size)
            clear hb
            rw [HV3.out, HE3.out]
            by_cases hE3 : E3 = 0
            · subst hE3
              obtain rfl := HF3.out rfl
              have c40 : x31.cell? ⟨w.heap.size, 0, none⟩ = some (.slice PA ps.length pc) := hr4.cell 0
              have c41 : x31.cell? ⟨w.heap.size, 1, none⟩ = some (.slice RV rs.length vc) := hr4.cell 1
              have c50 : x31.cell? ⟨w.heap.size + 1, 0, none⟩ = some (.slice QA qs.length qc) := hr5.cell 0
              have c51 : x31.cell? ⟨w.heap.size + 1, 1, none⟩ = some (.slice SV ss.length sc) := hr5.cell 1
              have z4 := hr4.lt
              have z5 := hr5.lt
              go_wp2_with fail
              clear c40 c41 c50 c51 z4 z5
              refine (awake_any _ htab).mono ?_
              rintro e x51 ⟨rfl, hb⟩
              replace hr4 := hr4.keep hb
              replace hr5 := hr5.keep hb
              replace htab := htab.below hb
              replace BB : Below w.heap.size w x51 := BB.trans (hb.mono BB.size)
              clear hb
              have c40 : x51.cell? ⟨w.heap.size, 0, none⟩ = some (.slice PA ps.length pc) := hr4.cell 0
              have c41 : x51.cell? ⟨w.heap.size, 1, none⟩ = some (.slice RV rs.length vc) := hr4.cell 1
              have c50 : x51.cell? ⟨w.heap.size + 1, 0, none⟩ = some (.slice QA qs.length qc) := hr5.cell 0
              have c51 : x51.cell? ⟨w.heap.size + 1, 1, none⟩ = some (.slice SV ss.length sc) := hr5.cell 1
              have z4 := hr4.lt
              have z5 := hr5.lt
              go_wp2_with fail
              clear c40 c41 c50 c51 z4 z5
              go_ret
              exact ⟨rfl, BB⟩
            · have u3 : (E3 != 0) = true := by rw [bne_iff_ne]; exact hE3
              have c40 : x31.cell? ⟨w.heap.size, 0, none⟩ = some (.slice PA ps.length pc) := hr4.cell 0
              have c41 : x31.cell? ⟨w.heap.size, 1, none⟩ = some (.slice RV rs.length vc) := hr4.cell 1
              have c50 : x31.cell? ⟨w.heap.size + 1, 0, none⟩ = some (.slice QA qs.length qc) := hr5.cell 0
              have c51 : x31.cell? ⟨w.heap.size + 1, 1, none⟩ = some (.slice SV ss.length sc) := hr5.cell 1
              have z4 := hr4.lt
              have z5 := hr5.lt
              go_wp2_with fail
              clear c40 c41 c50 c51 z4 z5
              refine (awake_any _ htab).mono ?_
              rintro e x51 ⟨rfl, hb⟩
              replace hr4 := hr4.keep hb
              replace hr5 := hr5.keep hb
              replace htab := htab.below hb
              replace BB : Below w.heap.size w x51 := BB.trans (hb.mono BB.size)
              clear hb
              have c40 : x51.cell? ⟨w.heap.size, 0, none⟩ = some (.slice PA ps.length pc) := hr4.cell 0
              have c41 : x51.cell? ⟨w.heap.size, 1, none⟩ = some (.slice RV rs.length vc) := hr4.cell 1
              have c50 : x51.cell? ⟨w.heap.size + 1, 0, none⟩ = some (.slice QA qs.length qc) := hr5.cell 0
              have c51 : x51.cell? ⟨w.heap.size + 1, 1, none⟩ = some (.slice SV ss.length sc) := hr5.cell 1
              have z4 := hr4.lt
              have z5 := hr5.lt
              go_wp2_with fail
              clear c40 c41 c50 c51 z4 z5
              go_ret
              exact ⟨rfl, BB⟩
      · have tB : ((ps.length : Int) == (qs.length : Int)) = false := by rw [beq_eq_false_iff_ne]; omega
        clear hA hB
        have c40 : x1.cell? ⟨w.heap.size, 0, none⟩ = some (.slice PA ps.length pc) := hr4.cell 0
        have c41 : x1.cell? ⟨w.heap.size, 1, none⟩ = some (.slice RV rs.length vc) := hr4.cell 1
        have c50 : x1.cell? ⟨w.heap.size + 1, 0, none⟩ = some (.slice QA qs.length qc) := hr5.cell 0
        have c51 : x1.cell? ⟨w.heap.size + 1, 1, none⟩ = some (.slice SV ss.length sc) := hr5.cell 1
        have z4 := hr4.lt
        have z5 := hr5.lt
        go_wp2_with fail
        clear c40 c41 c50 c51 z4 z5
        obtain ⟨wl, hwl⟩ : ∃ x, x = x1 := ⟨_, rfl⟩
        subst hwl
        go_loopw [14, 65] (fun v i wr => ∃ (k : Nat) (V : Option Addr) (cv : Nat), k ≤ n ∧ i = .int .i64 (k : Int) ∧ v = .slice V k cv ∧ wr.ownsRow wl.heap.size 3 1 (.slice V k cv) k (List.replicate k (.int .i64 (-1))) ∧ Below wl.heap.size wl wr) (fun _ i _ => n - (intOf i).toNat)
        case atStart => exact ⟨0, _, 0, by omega, rfl, rfl, ⟨rfl, .inl ⟨rfl, rfl⟩⟩, Below.refl _ _⟩
        case round =>
          obtain ⟨k, V, cv, hk, rfl, rfl, hown, BQ⟩ := hrel
          by_cases hlt : k < n
          · have hltI : (k : Int) < (n : Int) := by omega
            go_wp2_with (at_builtin; refine wpList_append_oneG _ rfl (.tmp 67) (.tmp 68) 35 rfl wl.heap.size 3 (.int .i64 0) 8 Tryd.underlying35 infoInt rfl (.slice V k cv) k (List.replicate k (.int .i64 (-1))) (.int .i64 (-1)) rfl rfl hown rfl (by unfold maxLen; omega) (by omega) BQ.size ?_; intro A' c3 w3 hown3 hb3 hg3 hr3)
            go_roundw
            case rel => exact ⟨k + 1, A', c3, by omega, by go_num, rfl, by rw [List.replicate_succ']; exact hown3, BQ.trans hb3⟩
            case measure => simp [intOf]; omega
          · obtain rfl : k = n := by omega
            have hltI : ¬ (k : Int) < (k : Int) := by omega
            replace hr4 := hr4.keep BQ
            replace hr5 := hr5.keep BQ
            replace htab := htab.below BQ
            have hno : Nums .i64 wr (.slice V k cv) (noneL ms) := by
              have hown' : wr.ownsRow wl.heap.size 3 1 (.slice V k cv) k ((noneL ms).map (Value.int .i64)) := by unfold noneL; rw [HN.out, List.map_replicate]; exact hown
              exact Nums.of_own hown'
            replace BB : Below w.heap.size w wr := BB.trans (BQ.mono BB.size)
            clear BQ hown
            have c40 : wr.cell? ⟨w.heap.size, 0, none⟩ = some (.slice PA ps.length pc) := hr4.cell 0
            have c41 : wr.cell? ⟨w.heap.size, 1, none⟩ = some (.slice RV rs.length vc) := hr4.cell 1
            have c50 : wr.cell? ⟨w.heap.size + 1, 0, none⟩ = some (.slice QA qs.length qc) := hr5.cell 0
            have c51 : wr.cell? ⟨w.heap.size + 1, 1, none⟩ = some (.slice SV ss.length sc) := hr5.cell 1
            have z4 := hr4.lt
            have z5 := hr5.lt
            go_wp2_with fail
            clear c40 c41 c50 c51 z4 z5
            refine (elik_any _ _ _ _ ps rs ms (noneL ms) _ (HP.out.below BB) (HR.out.below BB) (HM.out.below BB) hno).mono ?_
            rintro e x31 ⟨rfl, hb⟩
            replace hr4 := hr4.keep hb
            replace hr5 := hr5.keep hb
            replace htab := htab.below hb
            replace BB : Below w.heap.size w x31 := BB.trans (hb.mono BB.size)
            clear hb
            rw [HV3.out, HE3.out]
            by_cases hE3 : E3 = 0
            · subst hE3
              obtain rfl := HF3.out rfl
              have c40 : x31.cell? ⟨w.heap.size, 0, none⟩ = some (.slice PA ps.length pc) := hr4.cell 0
              have c41 : x31.cell? ⟨w.heap.size, 1, none⟩ = some (.slice RV rs.length vc) := hr4.cell 1
              have c50 : x31.cell? ⟨w.heap.size + 1, 0, none⟩ = some (.slice QA qs.length qc) := hr5.cell 0
              have c51 : x31.cell? ⟨w.heap.size + 1, 1, none⟩ = some (.slice SV ss.length sc) := hr5.cell 1
              have z4 := hr4.lt
              have z5 := hr5.lt
              go_wp2_with fail
              clear c40 c41 c50 c51 z4 z5
              refine (awake_any _ htab).mono ?_
              rintro e x51 ⟨rfl, hb⟩
              replace hr4 := hr4.keep hb
              replace hr5 := hr5.keep hb
              replace htab := htab.below hb
              replace BB : Below w.heap.size w x51 := BB.trans (hb.mono BB.size)
              clear hb
              have c40 : x51.cell? ⟨w.heap.size, 0, none⟩ = some (.slice PA ps.length pc) := hr4.cell 0
              have c41 : x51.cell? ⟨w.heap.size, 1, none⟩ = some (.slice RV rs.length vc) := hr4.cell 1
              have c50 : x51.cell? ⟨w.heap.size + 1, 0, none⟩ = some (.slice QA qs.length qc) := hr5.cell 0
              have c51 : x51.cell? ⟨w.heap.size + 1, 1, none⟩ = some (.slice SV ss.length sc) := hr5.cell 1
              have z4 := hr4.lt
              have z5 := hr5.lt
              go_wp2_with fail
              clear c40 c41 c50 c51 z4 z5
              go_ret
              exact ⟨rfl, BB⟩
            · have u3 : (E3 != 0) = true := by rw [bne_iff_ne]; exact hE3
              have c40 : x31.cell? ⟨w.heap.size, 0, none⟩ = some (.slice PA ps.length pc) := hr4.cell 0
              have c41 : x31.cell? ⟨w.heap.size, 1, none⟩ = some (.slice RV rs.length vc) := hr4.cell 1
              have c50 : x31.cell? ⟨w.heap.size + 1, 0, none⟩ = some (.slice QA qs.length qc) := hr5.cell 0
              have c51 : x31.cell? ⟨w.heap.size + 1, 1, none⟩ = some (.slice SV ss.length sc) := hr5.cell 1
              have z4 := hr4.lt
              have z5 := hr5.lt
              go_wp2_with fail
              clear c40 c41 c50 c51 z4 z5
              refine (awake_any _ htab).mono ?_
              rintro e x51 ⟨rfl, hb⟩
              replace hr4 := hr4.keep hb
              replace hr5 := hr5.keep hb
              replace htab := htab.below hb
              replace BB : Below w.heap.size w x51 := BB.trans (hb.mono BB.size)
              clear hb
              have c40 : x51.cell? ⟨w.heap.size, 0, none⟩ = some (.slice PA ps.length pc) := hr4.cell 0
              have c41 : x51.cell? ⟨w.heap.size, 1, none⟩ = some (.slice RV rs.length vc) := hr4.cell 1
              have c50 : x51.cell? ⟨w.heap.size + 1, 0, none⟩ = some (.slice QA qs.length qc) := hr5.cell 0
              have c51 : x51.cell? ⟨w.heap.size + 1, 1, none⟩ = some (.slice SV ss.length sc) := hr5.cell 1
              have z4 := hr4.lt
              have z5 := hr5.lt
              go_wp2_with fail
              clear c40 c41 c50 c51 z4 z5
              go_ret
              exact ⟨rfl, BB⟩
    · have tA : ((rs.length : Int) == (ss.length : Int)) = false := by rw [beq_eq_false_iff_ne]; omega
      clear hA
      have c40 : x1.cell? ⟨w.heap.size, 0, none⟩ = some (.slice PA ps.length pc) := hr4.cell 0
      have c41 : x1.cell? ⟨w.heap.size, 1, none⟩ = some (.slice RV rs.length vc) := hr4.cell 1
      have c50 : x1.cell? ⟨w.heap.size + 1, 0, none⟩ = some (.slice QA qs.length qc) := hr5.cell 0
      have c51 : x1.cell? ⟨w.heap.size + 1, 1, none⟩ = some (.slice SV ss.length sc) := hr5.cell 1
      have z4 := hr4.lt
      have z5 := hr5.lt
      go_wp2_with fail
      clear c40 c41 c50 c51 z4 z5
      obtain ⟨wl, hwl⟩ : ∃ x, x = x1 := ⟨_, rfl⟩
      subst hwl
      go_loopw [14, 65] (fun v i wr => ∃ (k : Nat) (V : Option Addr) (cv : Nat), k ≤ n ∧ i = .int .i64 (k : Int) ∧ v = .slice V k cv ∧ wr.ownsRow wl.heap.size 3 1 (.slice V k cv) k (List.replicate k (.int .i64 (-1))) ∧ Below wl.heap.size wl wr) (fun _ i _ => n - (intOf i).toNat)
      case atStart => exact ⟨0, _, 0, by omega, rfl, rfl, ⟨rfl, .inl ⟨rfl, rfl⟩⟩, Below.refl _ _⟩
      case round =>
        obtain ⟨k, V, cv, hk, rfl, rfl, hown, BQ⟩ := hrel
        by_cases hlt : k < n
        · have hltI : (k : Int) < (n : Int) := by omega
          go_wp2_with (at_builtin; refine wpList_append_oneG _ rfl (.tmp 67) (.tmp 68) 35 rfl wl.heap.size 3 (.int .i64 0) 8 Tryd.underlying35 infoInt rfl (.slice V k cv) k (List.replicate k (.int .i64 (-1))) (.int .i64 (-1)) rfl rfl hown rfl (by unfold maxLen; omega) (by omega) BQ.size ?_; intro A' c3 w3 hown3 hb3 hg3 hr3)
          go_roundw
          case rel => exact ⟨k + 1, A', c3, by omega, by go_num, rfl, by rw [List.replicate_succ']; exact hown3, BQ.trans hb3⟩
          case measure => simp [intOf]; omega
        · obtain rfl : k = n := by omega
          have hltI : ¬ (k : Int) < (k : Int) := by omega
          replace hr4 := hr4.keep BQ
          replace hr5 := hr5.keep BQ
          replace htab := htab.below BQ
          have hno : Nums .i64 wr (.slice V k cv) (noneL ms) := by
            have hown' : wr.ownsRow wl.heap.size 3 1 (.slice V k cv) k ((noneL ms).map (Value.int .i64)) := by unfold noneL; rw [HN.out, List.map_replicate]; exact hown
            exact Nums.of_own hown'
          replace BB : Below w.heap.size w wr := BB.trans (BQ.mono BB.size)
          clear BQ hown
          have c40 : wr.cell? ⟨w.heap.size, 0, none⟩ = some (.slice PA ps.length pc) := hr4.cell 0
          have c41 : wr.cell? ⟨w.heap.size, 1, none⟩ = some (.slice RV rs.length vc) := hr4.cell 1
          have c50 : wr.cell? ⟨w.heap.size + 1, 0, none⟩ = some (.slice QA qs.length qc) := hr5.cell 0
          have c51 : wr.cell? ⟨w.heap.size + 1, 1, none⟩ = some (.slice SV ss.length sc) := hr5.cell 1
          have z4 := hr4.lt
          have z5 := hr5.lt
          go_wp2_with fail
          clear c40 c41 c50 c51 z4 z5
          refine (elik_any _ _ _ _ ps rs ms (noneL ms) _ (HP.out.below BB) (HR.out.below BB) (HM.out.below BB) hno).mono ?_
          rintro e x31 ⟨rfl, hb⟩
          replace hr4 := hr4.keep hb
          replace hr5 := hr5.keep hb
          replace htab := htab.below hb
          replace BB : Below w.heap.size w x31 := BB.trans (hb.mono BB.size)
          clear hb
          rw [HV3.out, HE3.out]
          by_cases hE3 : E3 = 0
          · subst hE3
            obtain rfl := HF3.out rfl
            have c40 : x31.cell? ⟨w.heap.size, 0, none⟩ = some (.slice PA ps.length pc) := hr4.cell 0
            have c41 : x31.cell? ⟨w.heap.size, 1, none⟩ = some (.slice RV rs.length vc) := hr4.cell 1
            have c50 : x31.cell? ⟨w.heap.size + 1, 0, none⟩ = some (.slice QA qs.length qc) := hr5.cell 0
            have c51 : x31.cell? ⟨w.heap.size + 1, 1, none⟩ = some (.slice SV ss.length sc) := hr5.cell 1
            have z4 := hr4.lt
            have z5 := hr5.lt
            go_wp2_with fail
            clear c40 c41 c50 c51 z4 z5
            refine (awake_any _ htab).mono ?_
            rintro e x51 ⟨rfl, hb⟩
            replace hr4 := hr4.keep hb
            replace hr5 := hr5.keep hb
            replace htab := htab.below hb
            replace BB : Below w.heap.size w x51 := BB.trans (hb.mono BB.size)
            clear hb
            have c40 : x51.cell? ⟨w.heap.size, 0, none⟩ = some (.slice PA ps.length pc) := hr4.cell 0
            have c41 : x51.cell? ⟨w.heap.size, 1, none⟩ = some (.slice RV rs.length vc) := hr4.cell 1
            have c50 : x51.cell? ⟨w.heap.size + 1, 0, none⟩ = some (.slice QA qs.length qc) := hr5.cell 0
            have c51 : x51.cell? ⟨w.heap.size + 1, 1, none⟩ = some (.slice SV ss.length sc) := hr5.cell 1
            have z4 := hr4.lt
            have z5 := hr5.lt
            go_wp2_with fail
            clear c40 c41 c50 c51 z4 z5
            go_ret
            exact ⟨rfl, BB⟩
          · have u3 : (E3 != 0) = true := by rw [bne_iff_ne]; exact hE3
            have c40 : x31.cell? ⟨w.heap.size, 0, none⟩ = some (.slice PA ps.length pc) := hr4.cell 0
            have c41 : x31.cell? ⟨w.heap.size, 1, none⟩ = some (.slice RV rs.length vc) := hr4.cell 1
            have c50 : x31.cell? ⟨w.heap.size + 1, 0, none⟩ = some (.slice QA qs.length qc) := hr5.cell 0
            have c51 : x31.cell? ⟨w.heap.size + 1, 1, none⟩ = some (.slice SV ss.length sc) := hr5.cell 1
            have z4 := hr4.lt
            have z5 := hr5.lt
            go_wp2_with fail
            clear c40 c41 c50 c51 z4 z5
            refine (awake_any _ htab).mono ?_
            rintro e x51 ⟨rfl, hb⟩
            replace hr4 := hr4.keep hb
            replace hr5 := hr5.keep hb
            replace htab := htab.below hb
            replace BB : Below w.heap.size w x51 := BB.trans (hb.mono BB.size)
            clear hb
            have c40 : x51.cell? ⟨w.heap.size, 0, none⟩ = some (.slice PA ps.length pc) := hr4.cell 0
            have c41 : x51.cell? ⟨w.heap.size, 1, none⟩ = some (.slice RV rs.length vc) := hr4.cell 1
            have c50 : x51.cell? ⟨w.heap.size + 1, 0, none⟩ = some (.slice QA qs.length qc) := hr5.cell 0
            have c51 : x51.cell? ⟨w.heap.size + 1, 1, none⟩ = some (.slice SV ss.length sc) := hr5.cell 1
            have z4 := hr4.lt
            have z5 := hr5.lt
            go_wp2_with fail
            clear c40 c41 c50 c51 z4 z5
            go_ret
            exact ⟨rfl, BB⟩
end Go.Proofs.YtfoleamcaflfeaaDoor
