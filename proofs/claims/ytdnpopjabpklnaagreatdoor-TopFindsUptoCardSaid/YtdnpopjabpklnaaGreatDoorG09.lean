/- Contracts and plain laws that the proof of the top laws uses (G09). No condition beyond those stated. -/
import Derived.Test.YtdnpopjabpklnaaGreatDoorG01
import Derived.Test.YtdnpopjabpklnaaGreatDoorTqK
import Derived.RangeFuncBox
import Derived.RangeFuncLeaves
import Derived.OwnWalkIn
import Derived.TacticsInMore
import Derived.LoopNIn
import Derived.LoopIn
set_option maxRecDepth 100000
set_option maxHeartbeats 64000000
set_option linter.all false
namespace Go.Proofs.YtdnpopjabpklnaaGreatDoor
section
open Go.RowKit Go.Shelf Go.Maps Go.Sort
open Tryz
def r5 {α:Type} (F:Fence) (n:Nat) (P:Program) (g:Nat) (lb:Array Value) (enc:α→Value) (S:List α→Prop) (N:Nat) (w:World):Prop:=
 ∀(l:Nat) (J:List α→World→Prop) (W:World),(∀xs W',J xs W'→Below w.heap.size w W')→Below w.heap.size w W→AbidesFrom W.heap.size J→
  (∀pre x W1,J pre W1→pre.length<N→YieldAt F (n - 1) P l #[enc x] W1 fun e W'=>e=.returned (.bool true)∧J (pre++ [x]) W'∧KeepsWalks W1 W')→
  J [] W→
  CallsIn F n P g (#[.func (.yield l) #[] #[]]++lb) W fun e W'=>(∃v,e=.returned v)∧∃xs,S xs∧J xs W'
section
variable {P:Program} {ρ:Ren}
theorem Dx (L:SlLaysZI.n11 P ρ) (F:Fence) (n:Nat) (yB:F.fn (ρ.f 11)) (CH:F.round=none) (hn:2≤n) (g:Nat) (lb:Array Value) (WE:F.fn g) (eg:∀args w,(callFunc g args).run P w=.ok (.enter g args) w)
  (S:List Int→Prop) (N:Nat) (hN:N≤maxLen) (WH:N*8≤140737488355328) (w:World) (L6:r5 F (n - 1) P g lb encZ S N w):
  CallsIn F n P (ρ.f 11) #[.slice none 0 0,.func (.func g) #[] lb] w fun e w'=>∃(v:Value) (ss:List Int),e=.returned v∧S ss∧w'.ownsRow w.heap.size (ρ.t 26) 1 v ss.length (ss.map encZ)∧(v=.slice none 0 0↔ss=[])∧Below w.heap.size w w':=by
 have h1:1≤n:=by omega
 have mixed:=L.mixed;have t0:=L.t0;have a0:=L.a0;have z0:=L.z0;have v0:=L.v0;have t24:=L.t24;have a24:=L.a24;have z24:=L.z24;have v24:=L.v24;have t26:=L.t26;have a26:=L.a26;have z26:=L.z26;have v26:=L.v26;have t28:=L.t28;have a28:=L.a28;have z28:=L.z28;have v28:=L.v28
 have cu:ρ.t 24≠ρ.t 26:=fun e=>by have h:=L.t24;rw[e,L.t26] at h;cases h
 have u0:=run_underlying L.t0;have u24:=run_underlying L.t24;have u26:=run_underlying L.t26;have u28:=run_underlying L.t28;obtain⟨_,_,FG⟩:=L.f11;refine callsIn_of_wp_marks FG rfl yB ?_ CH;simp only[SlBodyZ.n11_ntmps ρ,List.size_toArray,List.length_cons,List.length_nil,Nat.reduceAdd,Nat.reduceSub,Array.replicate_succ,Array.replicate_zero,List.push_toArray,List.append_toArray,List.nil_append,List.cons_append]
 gi_wp2
 refine wpIn_rangeFunc ?_;intro fn I6;rw[CH];obtain⟨W0,hW0⟩:∃W0,w.alloc (.cells #[.slice none 0 0] (ρ.t 24))=W0:=⟨_,rfl⟩
 have xu:W0.heap.size=w.heap.size+1:=by rw[←hW0];simp
 have tv:W0.heap[w.heap.size]? =some (.cells #[.slice none 0 0] (ρ.t 24) (0,0)):=by rw[←hW0];exact World.alloc_heap_new w _
 have kl:Below w.heap.size w W0:=by rw[←hW0];exact(Below.refl _ w).alloc (Nat.le_refl _) _
 rw[hW0];obtain⟨W1,mc⟩:∃W1,(W0.alloc (.deferred (some []))).alloc (.loop (AnyZI.apRec ρ fn (.func (.func g) #[] lb) w.heap.size W0.heap.size .ready none))=W1:=⟨_,rfl⟩
 have hold:∀k,k<W0.heap.size→W1.heap[k]? =W0.heap[k]? :=fun k hk=>by
  rw[←mc];exact(Below.heap_alloc _ _ k (by simp;omega)).trans (Below.heap_alloc _ _ k hk)
 have aC:Below w.heap.size w W1:=by rw[←mc];exact(kl.alloc kl.size _).alloc (by have:=kl.size;simp;omega) _
 have Em:W1.heap.size=W0.heap.size+2:=by rw[←mc];simp
 have hM:AnyZI.ApAt ρ w fn (.func (.func g) #[] lb) w.heap.size (W0.heap.size+1) W0.heap.size [] W1:=
  ⟨⟨_,(hold w.heap.size (by omega)).trans tv,⟨rfl,.inl ⟨rfl,rfl⟩⟩,by simp⟩,
  by rw[←mc];have:=World.alloc_heap_new (W0.alloc (.deferred (some []))) (.loop (AnyZI.apRec ρ fn (.func (.func g) #[] lb) w.heap.size W0.heap.size .ready none));rwa [World.size_alloc] at this,
  by rw[←mc];exact(Below.heap_alloc _ _ _ (by simp)).trans (World.alloc_heap_new W0 _),aC⟩
 refine⟨W0.heap.size+1,[{target:=.collected W0.heap.size,args:=#[]}],W1,{target:=.fn (.func g) lb,args:=#[.func (.yield (W0.heap.size+1)) #[] #[]]},W1,g,
  #[.func (.yield (W0.heap.size+1)) #[] #[]]++lb,W1,?_,?_,?_,?_,fun _=>h1,?_⟩
 ·rw[←mc];exact run_enterLoop_outer _ _ _ _ _
 ·simp[resolve,go_sem]
 ·intro f' hf';simp[Target.leads] at hf';subst hf';exact WE
 ·simp[invoke,go_sem,eg]
 ·refine(L6 (W0.heap.size+1) (AnyZI.ApAt ρ w fn (.func (.func g) #[] lb) w.heap.size (W0.heap.size+1) W0.heap.size) W1 (fun xs W h=>h.below) aC (AnyZI.ap_abides ρ _ _ _ _ _ _ _ aC.size)
   (fun pre x W hJ hl=>AnyZI.apYield {L with} F (n - 1 - 1) w fn I6 _ w.heap.size (W0.heap.size+1) W0.heap.size (by omega) (by omega) (by omega) (Nat.le_refl _) (by omega) N hN WH pre x W hJ hl) hM).mono ?_
  rintro e W2 ⟨⟨v0,rfl⟩,ss,hS,h2⟩;obtain⟨v,hv,mA,Ed⟩:=h2.box;have nR:=run_endLoop (P:=P) h2.L (by simp[AnyZI.apRec]);obtain⟨W3,yH⟩:∃W3,W2.putObj (W0.heap.size+1) (.loop {AnyZI.apRec ρ fn (.func (.func g) #[] lb) w.heap.size W0.heap.size .ready none with state:=.exhausted})=W3:=⟨_,rfl⟩;rw[yH] at nR
  have mg:W2.grownBy W3 (some (W0.heap.size+1)):=by rw[←yH];exact grownBy_putObj_a _ _ _
  have T_:W3.heap[w.heap.size]? =some (.cells #[v] (ρ.t 24) (0,0)):=by rw[←yH];exact(World.putObj_heap_other (by omega)).trans hv
  have hK3:W3.heap[W0.heap.size]? =some (.deferred (some [])):=by rw[←yH];exact(World.putObj_heap_other (by omega)).trans h2.K
  have XO:=mA.kept mg (ownsRow_ne_a mA h2.L (fun cur e=>by first|cases e|exact cu (Obj.cells.inj e).2.1));have eE:Below w.heap.size w W3:=h2.below.grown mg h2.below.size (fun k e=>by cases e;omega);obtain⟨hc3,hf3⟩:=cell_of_box_a T_;clear yH;refine⟨none,W3,nR,?_⟩
  gi_wp2
  rw[←xu];refine⟨by simp,.inl ⟨_,_,rfl,run_takeDeferred hK3,?_⟩⟩;exact⟨_,results_tmp rfl _ _ _,v,ss,rfl,hS,XO.kept (grownBy_putObj_a _ _ _) (ownsRow_ne_a XO hK3 (fun cur e=>by first|cases e|exact cu (Obj.cells.inj e).2.1)),Ed,eE.grown (grownBy_putObj_a _ _ _) eE.size (fun k e=>by cases e;omega)⟩
theorem II (L:SlLaysZI.n8 P ρ) (F:Fence) (n:Nat) (h8:F.fn (ρ.f 8)) (yB:F.fn (ρ.f 11)) (CH:F.round=none) (hn:3≤n) (g:Nat) (lb:Array Value) (WE:F.fn g) (eg:∀args w,(callFunc g args).run P w=.ok (.enter g args) w)
  (S:List Int→Prop) (N:Nat) (hN:N≤maxLen) (WH:N*8≤140737488355328) (w:World) (L6:r5 F (n - 1 - 1) P g lb encZ S N w):
  CallsIn F n P (ρ.f 8) #[.func (.func g) #[] lb] w fun e w'=>∃(v:Value) (ss:List Int),e=.returned v∧S ss∧w'.ownsRow w.heap.size (ρ.t 26) 1 v ss.length (ss.map encZ)∧(v=.slice none 0 0↔ss=[])∧Below w.heap.size w w':=by
 have h1:1≤n:=by omega
 have iA:∀args w,(callFunc (ρ.f 11) args).run P w=.ok (.enter (ρ.f 11) args) w:=L.f11.enters rfl;have mixed:=L.mixed;have t0:=L.t0;have a0:=L.a0;have z0:=L.z0;have v0:=L.v0;have t24:=L.t24;have a24:=L.a24;have z24:=L.z24;have v24:=L.v24;have t26:=L.t26;have a26:=L.a26;have z26:=L.z26;have v26:=L.v26;have t28:=L.t28;have a28:=L.a28;have z28:=L.z28;have v28:=L.v28;have u0:=run_underlying L.t0;have u24:=run_underlying L.t24;have u26:=run_underlying L.t26;have u28:=run_underlying L.t28;obtain⟨_,_,FG⟩:=L.f8;refine callsIn_of_wp FG rfl h8 ?_ CH;simp only[SlBodyZ.n8_ntmps ρ,List.size_toArray,List.length_cons,List.length_nil,Nat.reduceAdd,Nat.reduceSub,Array.replicate_succ,Array.replicate_zero,List.push_toArray,List.append_toArray,List.nil_append,List.cons_append]
 gi_wp2_with (gi_at_fn (ρ.f 11);refine(Dx {L with} F (n - 1) yB CH (by omega) g lb WE eg S N hN WH _ L6).mono ?_;rintro e w' ⟨v,ss,rfl,hS,mA,Ed,hb⟩)
 go_ret
 exact⟨v,ss,rfl,hS,mA,Ed,hb⟩
theorem Np (L:SlLaysZI.n6 P ρ) (F:Fence) (n:Nat) (h6:F.fn (ρ.f 6)) (h8:F.fn (ρ.f 8)) (h9:F.fn (ρ.f 9)) (yB:F.fn (ρ.f 11)) (CH:F.round=none) (hn:4≤n) (XQ:AnyZI.SortsIn P ρ F (n - 1)) (e9:∀args w,(callFunc (ρ.f 9) args).run P w=.ok (.enter (ρ.f 9) args) w) (g:Nat) (lb:Array Value) (WE:F.fn g) (eg:∀args w,(callFunc g args).run P w=.ok (.enter g args) w)
  (S:List Int→Prop) (N:Nat) (hN:N≤maxLen) (WH:N*8≤140737488355328) (w:World) (hSN:∀ss,S ss→ss.length≤N) (L6:r5 F (n - 1 - 1 - 1) P g lb encZ S N w):
  CallsIn F n P (ρ.f 6) #[.func (.func g) #[] lb] w fun e w'=>∃(v:Value) (ss:List Int),e=.returned v∧S ss∧
   w'.ownsRow w.heap.size (ρ.t 26) 1 v ss.length ((ss.mergeSort (fun x y=>decide (x≤y))).map encZ)∧(v=.slice none 0 0↔ss=[])∧Below w.heap.size w w':=by
 have h1:1≤n:=by omega
 have e8:∀args w,(callFunc (ρ.f 8) args).run P w=.ok (.enter (ρ.f 8) args) w:=L.f8.enters rfl;have mixed:=L.mixed;have t0:=L.t0;have a0:=L.a0;have z0:=L.z0;have v0:=L.v0;have t24:=L.t24;have a24:=L.a24;have z24:=L.z24;have v24:=L.v24;have t26:=L.t26;have a26:=L.a26;have z26:=L.z26;have v26:=L.v26;have t28:=L.t28;have a28:=L.a28;have z28:=L.z28;have v28:=L.v28;have u0:=run_underlying L.t0;have u24:=run_underlying L.t24;have u26:=run_underlying L.t26;have u28:=run_underlying L.t28;obtain⟨_,_,FG⟩:=L.f6;refine callsIn_of_wp FG rfl h6 ?_ CH;simp only[SlBodyZ.n6_ntmps ρ,List.size_toArray,List.length_cons,List.length_nil,Nat.reduceAdd,Nat.reduceSub,Array.replicate_succ,Array.replicate_zero,List.push_toArray,List.append_toArray,List.nil_append,List.cons_append]
 gi_wp2_with (gi_at_fn (ρ.f 8);refine(II {L with} F (n - 1) h8 yB CH (by omega) g lb WE eg _ N hN WH _ L6).mono ?_;rintro e W ⟨v,ss,rfl,hS,mA,Ed,hb⟩)
 rcases mA.2 with ⟨rfl,hz⟩|⟨gb,cap,cur,rfl,fD,jx,r1,r2,r3,r4⟩
 ·
  have hss:ss=[]:=List.eq_nil_of_length_eq_zero hz;subst hss
  gi_wp2_with (gi_at_fn (ρ.f 9);refine(XQ.2 none 0 W).mono ?_;rintro e w' ⟨rfl,rfl⟩)
  go_ret
  exact⟨.slice none 0 0,[],rfl,hS,by simpa using mA,by simp,hb⟩
 ·have hH:Holds encZ W gb 0 ss.toArray:=holds_of_block_i jx (by simpa using r4);have jW:gb<W.heap.size:=(Array.getElem?_eq_some_iff.1 jx).1
  have cM:ss.length<4611686018427387904:=by have:=hSN ss hS;unfold maxLen at hN;omega
  have cS:=XQ.1 gb 0 cap ss W hH jW cM
  gi_wp2_with (gi_at_fn (ρ.f 9);refine cS.mono ?_;rintro e w' ⟨rfl,nn,os,rfl⟩)
  go_ret
  exact⟨_,ss,rfl,hS,ownsRow_sorted_i (by simp) fD jx r1 r2 r3,Ed,hb.grown (grownBy_sorted_i _) hb.size (fun j hj=>by cases hj;exact fD)⟩
end
section
attribute [local go_sem] Oper.semAt_some
def re {α:Type} (f:Nat→α) (k:Nat):List α:=(List.range k).map f
theorem Nv {α:Type} (f:Nat→α) (k:Nat):re f (k+1)=re f k++ [f k]:=by simp[re,List.range_succ]
theorem Gl {α:Type} (f:Nat→α) (k:Nat):(re f k).length=k:=by simp[re]
theorem Qu (zs:List Int):re (fun j=>zs[j]?.getD 0) zs.length=zs:=by
 apply List.ext_getElem
 ·simp[re]
 ·intro i h1 h2
  simp[re,h2]
theorem Zn (F:Fence) (n:Nat) (h7:F.fn 172) (CH:F.round=none) (hn:1≤n) (l Bs n₀ b off len cap:Nat) (zs:List Int) (aev:len*8≤140737488351232) (hb:b<n₀) (w0:World) (rH:n₀≤w0.heap.size) (J:List Int→World→Prop) (hJB:∀xs W,J xs W→Below w0.heap.size w0 W)
  (hY:∀pre x W,J pre W→pre.length<len→YieldAt F (n - 1) prog l #[.int .i64 x] W fun e W'=>
   e=.returned (.bool true)∧J (pre++ [x]) W'∧KeepsWalks W W')
  (W:World) (fm:W.cell? ⟨Bs,0,none⟩=some (.slice (some ⟨b,off,none⟩) len cap)) (hc:∀j,j<len→w0.cell? ⟨b,off+j,none⟩=some (.int .i64 (zs[j]?.getD 0))) (h0:J [] W):
  CallsIn F n prog 172 #[.func (.yield l) #[] #[],.pointer (some ⟨Bs,0,none⟩)] W fun e W'=>(∃v,e=.returned v)∧
   ∃ys,ys=re (fun j=>zs[j]?.getD 0) len∧J ys W':=by
 refine callsIn_of_wp func172 rfl h7 ?_ CH;simp only[ntmps172,List.size_toArray,List.length_cons,List.length_nil,Nat.reduceAdd,Nat.reduceSub,Array.replicate_succ,Array.replicate_zero,List.push_toArray,List.append_toArray,List.nil_append,List.cons_append]
 gi_wp2
 gi_loopw [7] (fun i wr=>∃k:Nat,k≤len∧i=.int .i64 k∧J (re (fun j=>zs[j]?.getD 0) k) wr)
  (fun i _=>len - (intOf i).toNat)
 case atStart=>exact⟨0,Nat.zero_le _,rfl,h0⟩
 case round=>
  obtain⟨k,hk,rfl,WG⟩:=hrel
  have hcx:k<len→wr.cell? ⟨b,off+k,none⟩=some (.int .i64 (zs[k]?.getD 0)):=fun h=>((hJB _ _ WG).cell (p:=⟨b,off+k,none⟩) (Nat.lt_of_lt_of_le hb rH)).trans (hc k h)
  by_cases aS:k<len
  ·obtain⟨fn,tmps,assign,body,hy,hR⟩:=hY _ (zs[k]?.getD 0) wr WG (by rw[Gl];exact aS);have ae5:=hcx aS
   gi_wp2
   refine hR.mono ?_;rintro e W3 ⟨rfl,hJ3,CA⟩
   gi_wp2
   go_roundw
   case rel=>exact⟨k+1,by omega,by simp,by rw[Nv];exact hJ3⟩
   case measure=>simp[intOf];omega
  ·obtain rfl:k=len:=by omega
   gi_wp2
   go_end0
   exact⟨⟨_,rfl⟩,_,rfl,WG⟩
theorem J_ (F:Fence) (n:Nat) (h7:F.fn 172) (CH:F.round=none) (l Bs:Nat) (A:Option Addr) (c:Nat) (J:List Int→World→Prop) (W:World) (fm:W.cell? ⟨Bs,0,none⟩=some (.slice A 0 c)) (h0:J [] W):
  CallsIn F n prog 172 #[.func (.yield l) #[] #[],.pointer (some ⟨Bs,0,none⟩)] W fun e W'=>(∃v,e=.returned v)∧J [] W':=by
 refine callsIn_of_wp func172 rfl h7 ?_ CH;simp only[ntmps172,List.size_toArray,List.length_cons,List.length_nil,Nat.reduceAdd,Nat.reduceSub,Array.replicate_succ,Array.replicate_zero,List.push_toArray,List.append_toArray,List.nil_append,List.cons_append]
 gi_wp2
 gi_loopw [7] (fun i wr=>i=.int .i64 0∧J [] wr) (fun _ _=>0)
 case atStart=>exact⟨rfl,h0⟩
 case round=>
  obtain⟨rfl,WG⟩:=hrel
  gi_wp2
  go_end0
  exact⟨⟨_,rfl⟩,WG⟩
end
theorem Ny (A:Option Addr) (n c:Nat) (w:World):
  Calls prog 115 #[.slice A n c] w fun e w'=>e=.returned (.func (.func 172) #[] #[.pointer (some ⟨w.heap.size,0,none⟩)])∧w'=w.alloc (.cells #[.slice A n c] 22):=by
 go_enter func115,ntmps115
 go_wp2_with fail
 go_ret
 exact⟨rfl,rfl⟩
theorem Zd (m:Nat):AnyZI.SortsIn prog wL Fence.wide m:=
 ⟨fun N1 off cap ss W hH hblk cM=>callsIn_wide.2 (slices_Sort_int N1 off cap ss W hH hblk cM),
 fun p cap W=>callsIn_wide.2 (slices_Sort_int_none p cap W)⟩
theorem Nx (B:Nat) (A:Option Addr) (n c:Nat) (zs:List Int) (w:World) (hs:Sl w A n (zs.map (Value.int .i64))) (hB:w.cell? ⟨B,0,none⟩=some (.slice A n c)) (hn:n≤1100000):
  r5 Fence.wide 2 prog 172 #[.pointer (some ⟨B,0,none⟩)] encZ (fun ys=>ys=zs) n w:=fun l J W hJB hW _ hY h0=>by
 have hBl:B<w.heap.size:=block_lt_of_cell hB;have hB':=(hW.cell (p:=⟨B,0,none⟩) hBl).trans hB;obtain⟨hl,dQ⟩:=hs;rw[List.length_map] at hl
 by_cases h:0<n
 ·obtain⟨b,o,rfl,hc⟩:=dQ h
  have gu:∀j,j<n→w.cell? ⟨b,o+j,none⟩=some (.int .i64 (zs[j]?.getD 0)):=fun j hj=>by
   refine hc j _ ?_;rw[List.getElem?_map,List.getElem?_eq_getElem (by omega)];rfl
  have hb:b<w.heap.size:=block_lt_of_cell (gu 0 h);refine(Zn Fence.wide 2 trivial rfl (by decide) l B w.heap.size b o n c zs (by omega) hb w (Nat.le_refl _) J hJB hY W hB' gu h0).mono ?_;rintro e W' ⟨he,ys,rfl,hj⟩;exact⟨he,_,by rw[←hl];exact Qu zs,hj⟩
 ·obtain rfl:n=0:=by omega
  have hz:zs=[]:=List.eq_nil_of_length_eq_zero hl;subst hz;refine(J_ Fence.wide 2 trivial rfl l B A c J W hB' h0).mono ?_;rintro e W' ⟨he,hj⟩;exact⟨he,[],rfl,hj⟩
theorem Nq (B:Nat) (A:Option Addr) (n c:Nat) (zs:List Int) (w:World) (hs:Sl w A n (zs.map (Value.int .i64))) (hB:w.cell? ⟨B,0,none⟩=some (.slice A n c)) (hn:n≤1100000):
  Calls prog 114 #[.func (.func 172) #[] #[.pointer (some ⟨B,0,none⟩)]] w fun e w'=>∃A' c',e=.returned (.slice A' n c')∧dF w' A' n 1 ((kJ zs).map (Value.int .i64))∧Below w.heap.size w w':=by
 refine(callsIn_wide (n:=5)).1 ?_
 have hl:zs.length=n:=by simpa using hs.1
 have cS:=Np U' Fence.wide 5 trivial trivial trivial trivial rfl (by omega) (Zd _) (enters_of func50 (by kernel_rfl) rfl) 172 #[.pointer (some ⟨B,0,none⟩)] trivial (enters_of func172 (by kernel_rfl) rfl) (fun ys=>ys=zs) n (by unfold maxLen;omega) (by omega) w (fun ss h=>by rw[h,hl];exact Nat.le_refl _) (Nx B A n c zs w hs hB hn);refine CallsIn.mono cS ?_;rintro e w' ⟨v,ss,rfl,rfl,mA,_,hb⟩;rw[hl] at mA;obtain⟨A',c',rfl,_,_,hS⟩:=Sl.fK mA;exact⟨A',c',rfl,Sl.jZ hS,hb⟩
end
end Go.Proofs.YtdnpopjabpklnaaGreatDoor
