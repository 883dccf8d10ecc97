/- Contracts and plain laws that the proof of the top laws uses (RdH). No condition beyond those stated. -/
import Derived.Test.YtdnpopjabpklnaaGreatDoorG21
set_option maxRecDepth 100000
set_option maxHeartbeats 64000000
set_option linter.all false
namespace Go.Proofs.YtdnpopjabpklnaaGreatDoor
section
open Go.RowKit
open Tryz
def tF (base:Nat) (w:World) (A:Option Addr) (k c:Nat) (bY:List aA):Prop:=∃Cs:List (List Value),Cs.length=k∧(∀C∈Cs,C.length=17)∧w.ownsRow base 47 17 (.slice A k c) k Cs.flatten∧∀(i:Nat) (C:List Value) (x:aA),Cs[i]? =some C→bY[i]? =some x→cy base w C x
theorem cy.kp {L:List Nat} {w w':World} {base:Nat} {C:List Value} {it:aA} (h:cy base w C it) (K:Kp L w w') (hL:∀x∈L,x<base):cy base w' C it:=by
 obtain⟨vo,vc,vt,va,e,a1,a2,a3,a4⟩:=h;exact⟨vo,vc,vt,va,e,Kp.own a1 K hL,Kp.own a2 K hL,Kp.own a3 K hL,Kp.own a4 K hL⟩
theorem tF.kp {L:List Nat} {w w':World} {base k c:Nat} {A:Option Addr} {bY:List aA} (h:tF base w A k c bY) (K:Kp L w w') (hL:∀x∈L,x<base):tF base w' A k c bY:=by
 obtain⟨Cs,h1,h2,h3,h4⟩:=h;exact⟨Cs,h1,h2,Kp.own h3 K hL,fun i C x a b=>(h4 i C x a b).kp K hL⟩
theorem tF.Jq {w:World} {base k c:Nat} {A:Option Addr} {bY:List aA} (h:tF base w A k c bY) (hk:k≤bY.length):ib w A k (bY.take k):=by
 obtain⟨Cs,h1,h2,h3,h4⟩:=h;refine⟨Cs,h1,by rw[List.length_take,Nat.min_eq_left hk],bZ h3,fun i D it a b=>?_⟩
 have hi:i<k:=by have:=(List.getElem?_eq_some_iff.1 a).1;omega
 rw[List.getElem?_take,if_pos hi] at b;exact(h4 i D it a b).s_
theorem tF.snoc {w':World} {base k c':Nat} {A':Option Addr} {bY:List aA} {it:aA} {C:List Value} {Cs:List (List Value)} (h1:Cs.length=k) (h2:∀C∈Cs,C.length=17)
  (ho:w'.ownsRow base 47 17 (.slice A' (k+1) c') (k+1) (Cs.flatten++C)) (h4:∀(i:Nat) (C:List Value) (x:aA),Cs[i]? =some C→bY[i]? =some x→cy base w' C x) (hC:cy base w' C it) (hx:bY[k]? =some it):tF base w' A' (k+1) c' bY:=by
 refine⟨Cs++ [C],by simp[h1],fun D hD=>?_,by simpa using ho,fun i D x a b=>?_⟩
 ·rcases List.mem_append.1 hD with hD|hD
  ·exact h2 D hD
  ·rw[List.mem_singleton] at hD;subst hD;exact hC.len
 ·rcases Nat.lt_or_ge i k with hi|hi
  ·rw[List.getElem?_append_left (by omega)] at a;exact h4 i D x a b
  ·rw[List.getElem?_append_right (by omega)] at a
   have I9:i=k:=by
    rcases Nat.eq_or_lt_of_le hi with h|h
    ·exact h.symm
    ·rw[List.getElem?_eq_none (by simp;omega)] at a;cases a
   subst I9;rw[h1,Nat.sub_self] at a;rw[hx] at b;simp only[List.getElem?_cons_zero,Option.some.injEq] at a b;subst a b;exact hC
theorem Ov (l:List aA) (k:Nat) (it:aA) (h:l[k]? =some it):(l.take (k+1)).flatMap eu=(l.take k).flatMap eu++eu it:=by
 rw[List.take_add_one,h,List.flatMap_append];simp
theorem Ou (l:List aA) (k:Nat) (it:aA) (h:l[k]? =some it):(l.drop k).flatMap eu=eu it++(l.drop (k+1)).flatMap eu:=by
 obtain⟨hk,rfl⟩:=List.getElem?_eq_some_iff.1 h;rw[List.drop_eq_getElem_cons hk,List.flatMap_cons]
def Oq (l:List aA) (k:Nat):List (List UInt8):=[vS]++(l.take k).flatMap eu
def Oo (l:List aA) (k:Nat):List (List UInt8):=(l.drop k).flatMap eu
theorem Tz (l:List aA) (k:Nat) (it:aA) (h:l[k]? =some it):Oq l (k+1)=Oq l k++eu it:=by unfold Oq;rw[Ov l k it h,List.append_assoc]
theorem Ty (l:List aA) (k:Nat) (it:aA) (h:l[k]? =some it):Oo l k=eu it++Oo l (k+1):=Ou l k it h
theorem Wq {l:List aA} {k:Nat} (h:l.length≤k):Oo l k=[]:=by unfold Oo;rw[List.drop_of_length_le h];rfl
theorem Ws {l:List aA} {k:Nat} (h:l.length≤k):Oq l k=fT l:=by unfold Oq fT;rw[List.take_of_length_le h];rfl
theorem F8 (it:aA) (t:List (List UInt8)):eu it++t=jN it::(iz it++(cF it++ [ki])++t):=by rw[py];simp
theorem Po (B:Nat) (w:World) (g:Nat) (T:ByteArray) (bY:List aA) (hR:Row w g 95 (Y9 T 0 0 ⟨#[]⟩ 0)) (hT:r6 T [] (gD bY)) (hv:∀it∈bY,fb it=0) (po:(bY.map (·.id)).Nodup) (TH:bY.length≤50) (hE:Env B w) (hB:B≤g):
  Calls prog 27 #[.pointer (some ⟨g,0,none⟩)] w fun e w'=>∃A c,e=.returned (.tuple #[.slice A bY.length c,.int .i64 0])∧tF w.heap.size w' A bY.length c bY∧Kp [g] w w':=by
 have xi:=hR.lt;have aaP:=xZ B w g T ⟨#[]⟩ 0 0 [] (gD bY) hR hT (by decide) (by decide) hE hB;obtain⟨n,hN⟩:∃n,bY.length=n:=⟨_,rfl⟩;rw[hN] at TH ⊢;have HN:=Lib.hid hN;have HV:=Lib.hid hv;have SQ:=Lib.hid po;have HT:=Lib.hid hT;clear hN hv po hT hR hE
 go_enter func27,ntmps27
 go_wp2_with fail
 with_reducible refine aaP.mono ?_
 clear aaP;rintro e w1 ⟨rfl,HR,KK⟩;have HR:Rd B w1 g T [] (vS::(Oo bY 0++ [hU bY])):=HR;have fE:w1.cell? ⟨g,3,none⟩=some (.string ⟨#[101,120,97,109,98,111,97,114,100,32,49]⟩):=HR.line
 go_wp2_with fail
 with_reducible refine(oZ HR).mono ?_
 clear HR fE;rintro e w2 ⟨rfl,HR,K⟩;replace KK:=KK.trans K;replace HR:Rd B w2 g T (Oq bY 0) (Oo bY 0++ [hU bY]):=HR;clear K
 go_wp2_with fail
 go_loopw [4] (fun v wr=>∃(k:Nat) (A:Option Addr) (c:Nat),k≤n∧v=.slice A k c∧tF w.heap.size wr A k c bY∧Rd B wr g T (Oq bY k) (Oo bY k++ [hU bY])∧Kp [g] w wr) (fun v _=>n - uW v)
 case atStart=>exact⟨0,none,0,Nat.zero_le _,rfl,⟨[],rfl,by simp,World.ownsRow_nil _ _ _ _,by simp⟩,HR,KK⟩
 case round=>
  clear HR KK;obtain⟨k,A,c,hk,rfl,aft,HR,KK⟩:=hrel
  by_cases aS:k<n
  ·obtain⟨it,hx⟩:∃it,bY[k]? =some it:=⟨_,List.getElem?_eq_getElem (by rw[HN.out];exact aS)⟩;have HX:=Lib.hid hx;have HFT:=Lib.hid (Tz bY k it hx);rw[Ty bY k it hx,List.append_assoc] at HR;have vY:=HR;rw[F8] at vY;have fE:=vY.line
   have oU:Calls prog 68 #[.string (ag (jN it)),.string ⟨#[105,116,101,109,32]⟩] wr fun e w'=>e=.returned (.bool true)∧w'=wr:=by
    have:=strings_HasPrefix (ag (jN it)) ⟨#[105,116,101,109,32]⟩ wr;unfold jN at this ⊢;rw[bM,show(ByteArray.mk #[105,116,101,109,32]).data.toList=eG++ [32] from rfl,xh eG eG _ _ (by decide) (by decide),decide_eq_true rfl] at this;exact this
   clear hx vY
   go_wp2_with fail
   with_reducible refine oU.mono ?_
   rintro e wr ⟨rfl,rfl⟩;clear oU fE
   go_wp2_with fail
   have HI:Hid (∀W,Kp [g] wr W→ib W A k (bY.take k)):=fun W hK=>(aft.kp hK (fun x hx=>by rw[List.mem_singleton] at hx;subst hx;exact xi)).Jq (by rw[HN.out];exact hk)
   have th:Hid (∀x∈bY.take k,x.id≠it.id):=fun x hx e=>Me bY k it HX.out SQ.out (by rw[←e];unfold Es;exact List.mem_map_of_mem hx)
   have Sa:k≤50:=by omega
   with_reducible refine(Uk B _ g T _ _ A k c _ it (HV.out it (List.mem_of_getElem? HX.out)) HI.out Sa th.out HR).mono ?_
   clear HR HI th;rintro e w3 ⟨CC,rfl,IC,HR,K⟩;replace aft:=aft.kp K (fun x hx=>by rw[List.mem_singleton] at hx;subst hx;exact xi);replace IC:=IC.lower KK.size;replace KK:=KK.trans K;have wh:w.heap.size≤w3.heap.size:=KK.size;clear K;obtain⟨vo,vc,vt,va,rfl,P1,P2,P3,P4⟩:=IC;obtain⟨X1,y1,rfl,_,_⟩:=aj P1;obtain⟨X2,y2,rfl,_,_⟩:=aj P2;obtain⟨X3,y3,rfl,_,_⟩:=aj P3;obtain⟨X4,y4,rfl,_,_⟩:=aj P4;obtain⟨Cs,Al,lV,a_,dZ⟩:=aft
   have nb:∀u∈([.int .i64 it.id,.int .i64 it.bj,.int .i64 it.kind,.string it.aW,.slice X1 it.opts.length y1,.slice X2 it.cA.length y2,.int .i64 it.value,.int .i64 it.de,.slice X3 it.texts.length y3,.int .i64 it.aP,.string it.code,.int .i64 it.bz,.int .i64 it.bB,.int .i64 it.words,.int .i64 it.ay,.slice X4 it.af.length y4,.int .i64 it.aH]:List Value),u.oneCell'=true:=by simp[Value.oneCell']
   unfold fS;have aL:=trivial
   go_wp2_with (first
    |(clear cz;(refine cv (by rfl) (.tmp 34) (.tmp 36) 36 (by rfl) w.heap.size 47 _ 17 216 underlying36 rM rfl (by decide) (.slice A k c) k Cs.flatten (some ⟨x5.heap.size,0,none⟩) 1 1 [.int .i64 it.id,.int .i64 it.bj,.int .i64 it.kind,.string it.aW,.slice X1 it.opts.length y1,.slice X2 it.cA.length y2,.int .i64 it.value,.int .i64 it.de,.slice X3 it.texts.length y3,.int .i64 it.aP,.string it.code,.int .i64 it.bz,.int .i64 it.bB,.int .i64 it.words,.int .i64 it.ay,.slice X4 it.af.length y4,.int .i64 it.aH] (by rfl) (by rfl) d_ ⟨rfl,fun _=>⟨_,_,rfl,(Row.new x5 47 [.int .i64 it.id,.int .i64 it.bj,.int .i64 it.kind,.string it.aW,.slice X1 it.opts.length y1,.slice X2 it.cA.length y2,.int .i64 it.value,.int .i64 it.de,.slice X3 it.texts.length y3,.int .i64 it.aP,.string it.code,.int .i64 it.bz,.int .i64 it.bB,.int .i64 it.words,.int .i64 it.ay,.slice X4 it.af.length y4,.int .i64 it.aH]).cl⟩⟩ nb (by unfold maxLen;omega) (by omega) T8 ?_);intro v6 w6 yO Aq;have cY:=trivial)
    |(clear bC;(with_reducible refine ak ?_ aU R5 rfl ?_);rfl;have cz:=trivial)
    |(clear aJ;(with_reducible refine av (C:=[.int .i64 it.id,.int .i64 it.bj,.int .i64 it.kind,.string it.aW,.slice X1 it.opts.length y1,.slice X2 it.cA.length y2,.int .i64 it.value,.int .i64 it.de,.slice X3 it.texts.length y3,.int .i64 it.aP,.string it.code,.int .i64 it.bz,.int .i64 it.bB,.int .i64 it.words,.int .i64 it.ay,.slice X4 it.af.length y4,.int .i64 it.aH]) ?_ ?_ aU R5 rfl rfl nb ?_);rfl;rfl;clear R5;intro x5 R5 P5;have cp:=ek.trans (P5.below (Nat.le_of_eq pP));have pq:=I a_ cp;have T8:w.heap.size≤(x5.alloc (.cells #[.int .i64 it.id,.int .i64 it.bj,.int .i64 it.kind,.string it.aW,.slice X1 it.opts.length y1,.slice X2 it.cA.length y2,.int .i64 it.value,.int .i64 it.de,.slice X3 it.texts.length y3,.int .i64 it.aP,.string it.code,.int .i64 it.bz,.int .i64 it.bB,.int .i64 it.words,.int .i64 it.ay,.slice X4 it.af.length y4,.int .i64 it.aH] 47)).heap.size:=Nat.le_trans wh (Nat.le_trans cp.size (ai x5 _).size);have d_:(x5.alloc (.cells #[.int .i64 it.id,.int .i64 it.bj,.int .i64 it.kind,.string it.aW,.slice X1 it.opts.length y1,.slice X2 it.cA.length y2,.int .i64 it.value,.int .i64 it.de,.slice X3 it.texts.length y3,.int .i64 it.aP,.string it.code,.int .i64 it.bz,.int .i64 it.bB,.int .i64 it.words,.int .i64 it.ay,.slice X4 it.af.length y4,.int .i64 it.aH] 47)).ownsRow w.heap.size 47 17 (.slice A k c) k Cs.flatten:=bN pq _;have iw:Below w3.heap.size w3 (x5.alloc (.cells #[.int .i64 it.id,.int .i64 it.bj,.int .i64 it.kind,.string it.aW,.slice X1 it.opts.length y1,.slice X2 it.cA.length y2,.int .i64 it.value,.int .i64 it.de,.slice X3 it.texts.length y3,.int .i64 it.aP,.string it.code,.int .i64 it.bz,.int .i64 it.bB,.int .i64 it.words,.int .i64 it.ay,.slice X4 it.af.length y4,.int .i64 it.aH] 47)):=cp.trans ((ai x5 _).mono cp.size);clear ek P5;have bC:=trivial)
    |(clear aL;(with_reducible refine bu (Z:=Pm) fY vT ?_);intro x4 g5 pP R5 ek;have aJ:=trivial))
   try clear cY
   clear R5 nb pP cp pq;generalize (x5.alloc (.cells #[.int .i64 it.id,.int .i64 it.bj,.int .i64 it.kind,.string it.aW,.slice X1 it.opts.length y1,.slice X2 it.cA.length y2,.int .i64 it.value,.int .i64 it.de,.slice X3 it.texts.length y3,.int .i64 it.aP,.string it.code,.int .i64 it.bz,.int .i64 it.bB,.int .i64 it.words,.int .i64 it.ay,.slice X4 it.af.length y4,.int .i64 it.aH] 47))=xa at*;obtain⟨X6,y6,rfl,_,_⟩:=aj yO;have kt:=dN d_ Aq;have rE:=(iw.mono wh).trans (bG d_ Aq (Nat.le_refl _) T8);have kt0:=ah.ab (t:=47) iw;have IC3:cy w.heap.size w3 [.int .i64 it.id,.int .i64 it.bj,.int .i64 it.kind,.string it.aW,.slice X1 it.opts.length y1,.slice X2 it.cA.length y2,.int .i64 it.value,.int .i64 it.de,.slice X3 it.texts.length y3,.int .i64 it.aP,.string it.code,.int .i64 it.bz,.int .i64 it.bB,.int .i64 it.words,.int .i64 it.ay,.slice X4 it.af.length y4,.int .i64 it.aH] it:=⟨_,_,_,_,rfl,P1,P2,P3,P4⟩;have IC6:=(IC3.aa kt0).aa kt
   have HIN:∀(i:Nat) (C:List Value) (x:aA),Cs[i]? =some C→bY[i]? =some x→cy w.heap.size w6 C x:=fun i C x a b=>((dZ i C x a b).aa kt0 (by decide) (by decide)).aa kt (by decide) (by decide)
   have IS6:=tF.snoc Al lV yO HIN IC6 HX.out;have NN:=HR.e_ rE xi;rw[←HFT.out] at NN;have S5:=KK.e_ rE
   have hms:n - uW (.slice X6 (k+1) y6)<n - uW (.slice A k c):=by show n - (k+1)<n - k;omega
   exact⟨⟨k+1,X6,y6,aS,rfl,IS6,NN,S5⟩,hms⟩
  ·obtain rfl:k=n:=by omega
   rw[Wq (Nat.le_of_eq HN.out),List.nil_append,Ws (Nat.le_of_eq HN.out)] at HR;have fE:=HR.line
   have oU:Calls prog 68 #[.string (ag (hU bY)),.string ⟨#[105,116,101,109,32]⟩] wr fun e w'=>e=.returned (.bool false)∧w'=wr:=by
    have:=strings_HasPrefix (ag (hU bY)) ⟨#[105,116,101,109,32]⟩ wr;unfold hU at this ⊢;rw[bM,show(ByteArray.mk #[105,116,101,109,32]).data.toList=eG++ [32] from rfl,xh og eG _ _ (by decide) (by decide),decide_eq_false (by decide)] at this;exact this
   obtain⟨hh,Xi⟩:∃hh,hh=ll kK (bf (fT bY)):=⟨_,rfl⟩
   have Jd:hh<18446744073709551616:=by rw[Xi];exact Lf _ (by unfold kK;decide) _
   have tf:Calls prog 70 #[.string (ag (hU bY)),.string ⟨#[100,105,103,101,115,116,32]⟩] wr fun e w'=>e=.returned (.tuple #[.string (ag (jg hh)),.bool true])∧w'=wr:=by
    have:=strings_CutPrefix (ag (hU bY)) ⟨#[100,105,103,101,115,116,32]⟩ wr;unfold hU at this ⊢;rw[bM,show(ByteArray.mk #[100,105,103,101,115,116,32]).data.toList=og++ [32] from rfl,(jE og _).1,(jE og _).2,←Xi] at this;rw[←Xi];exact this
   have HHE:=Lib.hid Xi;clear Xi;have HDP:=Li (ag (jg hh)) hh wr Jd (bM _);clear aS
   go_wp2_with fail
   with_reducible refine oU.mono ?_
   rintro e wr ⟨rfl,rfl⟩;clear oU
   go_wp2_with fail
   with_reducible refine tf.mono ?_
   rintro e wr ⟨rfl,rfl⟩;clear tf fE
   go_wp2_with fail
   with_reducible refine HDP.mono ?_
   rintro e wr ⟨rfl,rfl⟩;clear HDP
   go_wp2_with fail
   obtain⟨⟨num,h0,h1,h2,h3⟩,_,_⟩:=HR;obtain⟨BT,Lq⟩:∃BT,BT=bf (fT bY):=⟨_,rfl⟩;obtain⟨m,hm⟩:∃m,m=BT.length:=⟨_,rfl⟩;have hml:=G9 h2;have hts:=h2.size
   have T6:sB (fT bY) [hU bY]=T.size:=by
    have:=h2.len;rw[im,List.length_append,List.length_singleton] at this;unfold sB;exact this.symm
   have Xa:T.extract 0 m=ag BT:=oQ (by
    rw[nE,List.drop_zero,h2.text,eL,←Lq,hm,List.take_left])
   rw[T6] at h3;rw[←Lq,←hm] at h3 hml;have c0:=U (h3.cell 0);have c1:=U (h3.cell 1)
   have hHH:Hid (ll kK BT=hh):=by unfold Hid;rw[HHE.out,Lq]
   obtain⟨s0,xu⟩:∃s0,s0=kK:=⟨_,rfl⟩;rw[←xu] at hHH;have HS0:=Lib.hid xu;have HM:=Lib.hid hm;have NP:=Lib.hid h3;obtain⟨bb,cb,w4,TM,qV,gn⟩:=Bb wr.drew (ag BT);rw[eD,bM,←hm] at qV;rw[eD,←hm] at TM
   have tu:m≤1000000000:=by omega
   clear Lq hm h0 h1 h2 h3 xu T6
   go_region_with ((go_at_call 24;(with_reducible refine(Lh _ _ _ BT s0 HS0.out _ qV HM.out tu).mono ?_);rintro e w5 ⟨rfl,rfl⟩))
   all_goals
    have hq:((hh:Int) !=((ll s0 BT:Nat):Int))=false:=by rw[hHH.out];exact bne_self_eq_false _
    have iB:Below wr.heap.size wr w5:=(Below.refl wr.heap.size wr).drew.trans gn;have Vx:=NP.out.keep iB;have d0:=U (Vx.cell 0);have d2:=U (Vx.cell 2);have IO5:=aft.kp (Kp.ab (L:=[g]) iB) (fun x hx=>by rw[List.mem_singleton] at hx;subst hx;exact xi);have KK5:=KK.trans (Kp.ab iB);clear aft KK TM qV gn iB Vx c0 c1
    go_wp2_with fail
    go_quiet (fail)
    go_wp2_with fail
    go_ret2
    exact⟨A,c,rfl,IO5.kp (L:=[]) ⟨rfl,rfl,rfl,Nat.le_refl _,fun _ _ _=>rfl⟩ (fun x hx=>by cases hx),Kp.drewN KK5 _⟩
theorem EU (T:ByteArray) (bY:List aA) (w:World) (hT:T=ag (bf (gD bY))) (hv:∀it∈bY,fb it=0) (po:(bY.map (·.id)).Nodup) (TH:bY.length≤50) (hm:jl w) (ht:Id.lk w) (hp:Id.lS w):
  Calls prog 8 #[.string T] w fun e w'=>∃A c,e=.returned (.tuple #[.slice A bY.length c,.int .i64 0,.int .i64 0])∧tF w.heap.size w' A bY.length c bY∧Below w.heap.size w w':=by
 have hTX:=YY (fun it hi=>jH (hv it hi)) TH (T:=T) (by rw[hT];exact bM _);have cM:=hTX.size;have hE:=Env.of hm ht hp;have ph:=ai w (.cells #[.string T,.int .i64 0,.int .i64 0,.string ⟨#[]⟩,.int .i64 0] 95);have HIT:=Po w.heap.size (w.alloc (.cells #[.string T,.int .i64 0,.int .i64 0,.string ⟨#[]⟩,.int .i64 0] 95)) w.heap.size T bY (Row.new w 95 [.string T,.int .i64 0,.int .i64 0,.string ⟨#[]⟩,.int .i64 0]) hTX hv po TH (hE.keep ph) (Nat.le_refl _);have uF:=ph.size;clear hT hTX hv po TH hm ht hp hE
 go_enter func8,ntmps8
 go_wp2_with fail
 with_reducible refine HIT.mono ?_
 clear HIT;rintro e w2 ⟨A,c,rfl,aft,KK⟩
 go_wp2_with fail
 go_ret3
 exact⟨A,c,rfl,by
  obtain⟨Cs,h1,h2,h3,h4⟩:=aft
  exact⟨Cs,h1,h2,aX h3 uF,fun i C x a b=>(h4 i C x a b).lower uF⟩,ph.trans (KK.below uF (fun x hx=>by rw[List.mem_singleton] at hx;omega))⟩
end
end Go.Proofs.YtdnpopjabpklnaaGreatDoor
