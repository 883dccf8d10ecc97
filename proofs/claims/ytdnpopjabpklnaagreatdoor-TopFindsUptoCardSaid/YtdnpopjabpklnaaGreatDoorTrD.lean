/- Contracts and plain laws that the proof of the top laws uses (TrD). No condition beyond those stated. -/
import Derived.Test.YtdnpopjabpklnaaGreatDoorG12
set_option maxRecDepth 100000
set_option maxHeartbeats 64000000
set_option linter.all false
namespace Go.Proofs.YtdnpopjabpklnaaGreatDoor
section
open Go.RowKit
open Tryz
def zJ (b:cK) (c:eH):Prop:=sJ c.il 1=true∧fb c.item=0∧c.item.bj=1∧b.entries=[]∧pJ b.dJ c.item.code=true∧c.item.af=[]
theorem M6 {it:aA} (h:fb it=0):∀z∈it.af,1≤z∧z≤9999999:=fun z hz=>kT (jH h).BQ z hz
theorem Om (q:Int):fR [] q= -1:=rfl
theorem UB {base q:Nat} {w:World} {LL:List Value} {it:aA} {us:Int} (h:Row w q 47 LL) (hO:cy base w LL it) (hq:base≤q):dn base w [.slice (some ⟨q,0,none⟩) 1 1,.int .i64 1,.int .i64 us,.slice none 0 0,.slice none 0 0,.slice none 0 0,.slice none 0 0] (lu it us):=by
 refine⟨_,_,_,_,_,rfl,⟨[LL],rfl,by simpa using hO.len,⟨by simp[hO.len,lu],.inr ⟨q,1,LL.toArray,rfl,hq,h,Nat.le_refl _,by simp[maxLen],by simp[hO.len],?_⟩⟩,?_⟩,db.nil _ _,db.nil _ _,World.ownsRow_nil _ _ _ _,⟨[],rfl,World.ownsRow_nil _ _ _ _,by simp⟩⟩
 ·show LL.toArray.toList.take (1*17)=[LL].flatten
  rw[List.flatten_cons,List.flatten_nil,List.append_nil,List.toList_toArray,Nat.one_mul,List.take_of_length_le (by rw[hO.len];exact Nat.le_refl _)]
 ·intro i C x h1 h2
  cases i with
  |zero=>
   simp only[List.getElem?_cons_zero,Option.some.injEq,lu] at h1 h2;subst h1 h2;exact hO
  |succ i=>simp at h1
theorem Rp {P:Prop} (h:P:=by
 refine cT (by kernel_rfl) 7 (fun _=>none) (fun wx=>Row wx g1 72 D∧Row wx g7 39 [.int .i64 1,.int .i64 c.user,.slice none 0 0,.slice none 0 0,.slice none 0 0]∧Below w8.heap.size w8 wx) (fun _ w w'=>Below w.heap.size w w') _ (fun j v w w' i _ h hR=>fC bQ (fun _ _ _ _ _=>trivial) i v w w' h hR) (by kernel_rfl) (by kernel_rfl) (fun _ _ h=>by cases h) ⟨R1.drew,R7.drew,(Below.refl _ _).drew⟩ ?_ ?_
 ·clear bQ;refine⟨fun _ a wx hG hr hb K hK=>?_,?_⟩
  ·have e1:=aq (hb 3);rw[if_pos (by rfl)];unfold Oper.wp execOp
   go_simp
   exact hK _ _ rfl hG (Below.refl _ _)
  refine⟨fun _ a wx hG hr hb K hK=>?_,?_⟩
  ·have e:=aM (hr 0 78);rw[if_pos (by rfl)];unfold Oper.wp execOp;exact uN e aU hG.1 tn lV (hK _ _ rfl hG (Below.refl _ _))
  refine⟨fun _ a wx hG hr hb K hK=>?_,?_⟩
  ·have e1:=aq (hr 1 79);rw[if_pos (by rfl)];unfold Oper.wp execOp
   go_simp
   refine(tf wx hG.2.2).mono ?_;rintro e w' ⟨CC,rfl,hO,aY⟩;replace hO:=hO.lower (Nat.le_trans z8 hG.2.2.size);obtain⟨vo,vc,vt,va,rfl,P1,P2,P3,P4⟩:=id hO;obtain⟨X1,y1,rfl,_,_⟩:=aj P1;obtain⟨X2,y2,rfl,_,_⟩:=aj P2;obtain⟨X3,y3,rfl,_,_⟩:=aj P3;obtain⟨X4,y4,rfl,_,_⟩:=aj P4;exact hK _ _ ⟨X1,y1,X2,y2,X3,y3,X4,y4,hO,rfl⟩ ⟨hG.1.keep aY,hG.2.1.keep aY,hG.2.2.trans (aY.mono hG.2.2.size)⟩ aY
  refine⟨fun _ a wx hG hr hb K hK=>?_,?_⟩
  ·rw[if_pos (by rfl)];unfold Oper.wp execOp;obtain⟨X1,y1,X2,y2,X3,y3,X4,y4,hO,e1⟩:=hr 2 80;rw[bR] at e1
   go_simp
   have aY:=ai wx (.cells #[.int .i64 c.item.id,.int .i64 c.item.bj,.int .i64 c.item.kind,.string c.item.aW,.slice X1 c.item.opts.length y1,.slice X2 c.item.cA.length y2,.int .i64 c.item.value,.int .i64 c.item.de,.slice X3 c.item.texts.length y3,.int .i64 c.item.aP,.string c.item.code,.int .i64 c.item.bz,.int .i64 c.item.bB,.int .i64 c.item.words,.int .i64 c.item.ay,.slice X4 c.item.af.length y4,.int .i64 c.item.aH] 47);exact hK _ _ ⟨wx.heap.size,X1,y1,X2,y2,X3,y3,X4,y4,⟨Row.new wx 47 [.int .i64 c.item.id,.int .i64 c.item.bj,.int .i64 c.item.kind,.string c.item.aW,.slice X1 c.item.opts.length y1,.slice X2 c.item.cA.length y2,.int .i64 c.item.value,.int .i64 c.item.de,.slice X3 c.item.texts.length y3,.int .i64 c.item.aP,.string c.item.code,.int .i64 c.item.bz,.int .i64 c.item.bB,.int .i64 c.item.words,.int .i64 c.item.ay,.slice X4 c.item.af.length y4,.int .i64 c.item.aH],cy.aa (t:=31) hO (ah.ab aY),hG.2.2.size⟩,rfl⟩ ⟨hG.1.keep aY,hG.2.1.keep aY,hG.2.2.trans (aY.mono hG.2.2.size)⟩ aY
  refine⟨fun _ a wx hG hr hb K hK=>?_,?_⟩
  ·have e:=aM (hb 7);rw[if_pos (by rfl)];unfold Oper.wp execOp;exact kh e bd hG.2.1 rfl (hK _ _ rfl hG (Below.refl _ _))
  refine⟨fun _ a wx hG hr hb K hK=>?_,?_⟩
  ·rw[if_pos (by rfl)];unfold Oper.wp execOp;obtain⟨q,X1,y1,X2,y2,X3,y3,X4,y4,⟨h1,h2,h3⟩,e1⟩:=hr 3 81;rw[bR] at e1;have e2:=aq (hr 4 82)
   go_simp
   exact hK _ _ ⟨q,X1,y1,X2,y2,X3,y3,X4,y4,⟨h1,h2,h3⟩,rfl⟩ hG (Below.refl _ _)
  refine⟨fun _ a wx hG hr hb K hK=>?_,?_⟩
  ·rw[if_pos (by rfl)];unfold Oper.wp execOp;refine vJ gY ?_;rintro w' p Z hp hZ hR aY;exact hK _ _ ⟨p,Z,⟨hR,hZ,by have:=hG.2.2.size;omega⟩,rfl⟩ ⟨hG.1.keep aY,hG.2.1.keep aY,hG.2.2.trans (aY.mono hG.2.2.size)⟩ aY
  exact⟨fun h=>absurd h (by decide),trivial⟩
 ·intro v wx oo AA hA ho hG hV K hK
  simp[dh,bD,List.range,List.range.loop,Act.put] at hA
  obtain⟨p,Z,⟨RP,hZ,hp⟩,e6⟩:=hV 6 (by decide) rfl;have e0:=aM (hV 0 (by decide) rfl);have e1:=aM (hV 1 (by decide) rfl);obtain⟨_,_,_,_,_,_,_,_,_,e2⟩:=hV 2 (by decide) rfl;obtain⟨_,_,_,_,_,_,_,_,_,_,e3⟩:=hV 3 (by decide) rfl;have e4:=aM (hV 4 (by decide) rfl);obtain⟨q,X1,y1,X2,y2,X3,y3,X4,y4,⟨RQ,hIO,hq⟩,e5⟩:=hV 5 (by decide) rfl;rw[e6,e0,e1,e2,e3,e4,e5] at hA;subst hA;clear hV bQ e6 e0 e1 e2 e3 e4 e5;have bU:some _=some oo:=ho
  injection bU with bU
  subst bU;clear ho;rw[if_pos (by rfl)];refine sF (g:=p) (t:=44) (C:=[.slice (some ⟨q,0,none⟩) 1 1,.int .i64 1,.int .i64 c.user,.slice none 0 0,.slice none 0 0,.slice none 0 0,.slice none 0 0]) (Z:=Z) ?_ ?_ cN RP rfl hZ (by simp[Value.oneCell']) ?_
  ·rfl
  ·rfl
  intro w9 NU P9;refine hK _ _ ?_;have kt:=P9.aa RP.ty;have hqp:q≠p:=dE.ne RQ.ty RP.ty (by decide);have RQ9:=P9.row RQ hqp;replace hIO:=cy.aa (t:=44) hIO kt;have eU:=hG.2.2.trans (P9.below hp);clear hG kt P9 RP RQ hK tf;replace RB:=RB.keep eU;replace R1:=R1.keep eU;replace R7:=R7.keep eU;replace O1:=I O1 eU;replace O2:=I O2 eU;replace O3:=I O3 eU;replace O4:=I O4 eU;replace O6:=I O6 eU;replace BB:=az BB eU;have zq:w0.heap.size≤q:=Nat.le_trans z8 hq
  replace dZ:∀(i:Nat) (C:List Value) (y:aB),Cs[i]? =some C→b.entries[i]? =some y→dn w0.heap.size w9 C y:=fun i C y h1 h2=>(dZ i C y h1 h2).aa (t:=31) (ah.ab eU) (by decide) (by decide) (by decide) (by decide) (by decide)
  replace a_:=I a_ eU;clear eU;have dx:=U (RB.cell 0);have dA:=U (RB.cell 1);have dB:=U (RB.cell 2);have dC:=U (RB.cell 3);have dt:=U (RB.cell 4);have dD:=U (RB.cell 5);have di:=U (RB.cell 6);have aeR:=U (NU.cell 0);have aeS:=U (NU.cell 1);have aeT:=U (NU.cell 2);have aeU:=U (NU.cell 3);have aeV:=U (NU.cell 4);have aeW:=U (NU.cell 5);have aeX:=U (NU.cell 6)
  have FO:∀u∈Cs.flatten,u.oneCell'=true:=by
   intro u hu;rw[List.mem_flatten] at hu;obtain⟨C,hC,hu⟩:=hu;obtain⟨i,hi,rfl⟩:=List.mem_iff_getElem.1 hC;exact(dZ i _ _ (List.getElem?_eq_getElem hi) (List.getElem?_eq_getElem (by have:=Ht.out;omega:i<b.entries.length))).one u hu
  have S6:(w9.alloc (.cells #[.slice (some ⟨q,0,none⟩) 1 1,.int .i64 1,.int .i64 c.user,.slice none 0 0,.slice none 0 0,.slice none 0 0,.slice none 0 0] 44)).drew.ownsRow w0.heap.size 44 7 (.slice A5 n5 c5) n5 Cs.flatten:=fF (jO (bN a_ (.cells #[.slice (some ⟨q,0,none⟩) 1 1,.int .i64 1,.int .i64 c.user,.slice none 0 0,.slice none 0 0,.slice none 0 0,.slice none 0 0] 44))) mL.out;have ya:Row (w9.alloc (.cells #[.slice (some ⟨q,0,none⟩) 1 1,.int .i64 1,.int .i64 c.user,.slice none 0 0,.slice none 0 0,.slice none 0 0,.slice none 0 0] 44)).drew w9.heap.size 44 [.slice (some ⟨q,0,none⟩) 1 1,.int .i64 1,.int .i64 c.user,.slice none 0 0,.slice none 0 0,.slice none 0 0,.slice none 0 0]:=(Row.new w9 44 [.slice (some ⟨q,0,none⟩) 1 1,.int .i64 1,.int .i64 c.user,.slice none 0 0,.slice none 0 0,.slice none 0 0,.slice none 0 0]).drew
  have sw:(Value.slice A5 n5 c5).ownBlock≠some w9.heap.size:=fun e=>by have:=(a_.lt _ e).2;omega
  have H3:Row (w9.alloc (.cells #[.slice (some ⟨q,0,none⟩) 1 1,.int .i64 1,.int .i64 c.user,.slice none 0 0,.slice none 0 0,.slice none 0 0,.slice none 0 0] 44)).drew g 31 [.int .i64 b.now,.slice A1 n1 c1,.slice A2 n2 c2,.slice A3 n3 c3,.slice A4 n4 c4,.slice A5 n5 c5,.slice A6 n6 c6]:=(Row.alloc RB _).drew;have e2a:(w9.alloc (.cells #[.slice (some ⟨q,0,none⟩) 1 1,.int .i64 1,.int .i64 c.user,.slice none 0 0,.slice none 0 0,.slice none 0 0,.slice none 0 0] 44)).drew.cell? ⟨g,5,none⟩=some (.slice A5 n5 c5):=H3.cell 5;have cM:w0.heap.size≤(w9.alloc (.cells #[.slice (some ⟨q,0,none⟩) 1 1,.int .i64 1,.int .i64 c.user,.slice none 0 0,.slice none 0 0,.slice none 0 0,.slice none 0 0] 44)).drew.heap.size:=(bL (al BB _)).size
  have uj:∀u∈([.slice (some ⟨q,0,none⟩) 1 1,.int .i64 1,.int .i64 c.user,.slice none 0 0,.slice none 0 0,.slice none 0 0,.slice none 0 0]:List Value),u.oneCell'=true:=by simp[Value.oneCell']
  try rw[vL]
  go_wp2_with fail
  go_region_law (first
   |(go_simp;go_at_call 89;(with_reducible refine(Mj w0.heap.size (.slice A5 n5 c5) n5 k _ [.slice (some ⟨q,0,none⟩) 1 1,.int .i64 1,.int .i64 c.user,.slice none 0 0,.slice none 0 0,.slice none 0 0,.slice none 0 0] w9.heap.size _ S6 ya rfl FO uj nW yN sw cM).mono ?_);rintro e wi ⟨v9,rfl,O5n,I7⟩;obtain⟨X9,y9,rfl,my9,_⟩:=aj O5n;have kt:=dN S6 I7;have wV:=H3.aa kt;have e2:=wV.cell 5;have f2:=wV.frozen 5;simp only[List.getElem?_cons_zero,List.getElem?_cons_succ] at e2))
  all_goals
   have P3:=cH.set wi g 5 (.slice X9 (n5+1) y9);have iT:=P3.aa wV.ty;have S8:Row (wi.setCell ⟨g,5,none⟩ (.slice X9 (n5+1) y9)) g 31 [.int .i64 b.now,.slice A1 n1 c1,.slice A2 n2 c2,.slice A3 n3 c3,.slice A4 n4 c4,.slice X9 (n5+1) y9,.slice A6 n6 c6]:=wV.cE 5 _;have ka:ah 44 w9 (w9.alloc (.cells #[.slice (some ⟨q,0,none⟩) 1 1,.int .i64 1,.int .i64 c.user,.slice none 0 0,.slice none 0 0,.slice none 0 0,.slice none 0 0] 44)).drew:=ah.ab (ai w9 (.cells #[.slice (some ⟨q,0,none⟩) 1 1,.int .i64 1,.int .i64 c.user,.slice none 0 0,.slice none 0 0,.slice none 0 0,.slice none 0 0] 44)).drew;have k2:=ka.trans kt;replace O1:=iT.own (k2.own O1);replace O2:=iT.own (k2.own O2);replace O3:=iT.own (k2.own O3);replace O4:=iT.own (k2.own O4);replace O6:=iT.own (k2.own O6);have ho:=iT.own O5n;have xS:=((BB.alloc BB.size (.cells #[.slice (some ⟨q,0,none⟩) 1 1,.int .i64 1,.int .i64 c.user,.slice none 0 0,.slice none 0 0,.slice none 0 0,.slice none 0 0] 44)).drew.trans (bG S6 I7 (Nat.le_refl _) cM)).trans (P3.below hg);have RQF:=(RQ9.aa k2).aa iT;have hIF:=cy.aa (cy.aa hIO k2) iT
   have adk:∀(i:Nat) (C:List Value) (y:aB),Cs[i]? =some C→b.entries[i]? =some y→dn w0.heap.size (wi.setCell ⟨g,5,none⟩ (.slice X9 (n5+1) y9)) C y:=fun i C y h1 h2=>((dZ i C y h1 h2).aa k2 (by decide) (by decide) (by decide) (by decide) (by decide)).aa iT (by decide) (by decide) (by decide) (by decide) (by decide)
   go_wp2_with fail
   go_ret
   have ab_:dn w0.heap.size (wi.setCell ⟨g,5,none⟩ (.slice X9 (n5+1) y9)) [.slice (some ⟨q,0,none⟩) 1 1,.int .i64 1,.int .i64 c.user,.slice none 0 0,.slice none 0 0,.slice none 0 0,.slice none 0 0] (lu c.item c.user):=UB RQF hIF zq
   have hOE:ej w0.heap.size (wi.setCell ⟨g,5,none⟩ (.slice X9 (n5+1) y9)) (.slice X9 (n5+1) y9) (gj b.entries k (lu c.item c.user)):=
    F_ Ht.out HC7.out (by have:=mL.out;omega) rfl (fF ho (by rw[mL.out])) adk ab_ aaR.out (fun C hC e=>by
     have h1:=HVQ.out C hC q e
     omega)
   refine⟨0,rfl,xS,fun _=>⟨_,_,Hs.create k (by have:=mL.out;omega) HV.out NL.out rfl,fun h=>?_,S8,_,_,_,_,_,_,rfl,O1,O2,O3,O4,hOE,O6⟩,fun _=>rfl⟩
   rw[h,xE]):P:=h
theorem Rq {P:Prop} (h:P:=by
 refine List.forall_mem_cons.2 ⟨fun _ _ _ h _=>h,List.forall_mem_cons.2 ⟨fun _ _ _ h _=>h,List.forall_mem_cons.2 ⟨fun v w w' ⟨X1,y1,X2,y2,X3,y3,X4,y4,h1,e⟩ hb=>⟨X1,y1,X2,y2,X3,y3,X4,y4,cy.aa (t:=31) h1 (ah.ab hb),e⟩,List.forall_mem_cons.2 ⟨fun v w w' ⟨q,X1,y1,X2,y2,X3,y3,X4,y4,⟨h1,h2,h3⟩,e⟩ hb=>⟨q,X1,y1,X2,y2,X3,y3,X4,y4,⟨h1.keep hb,cy.aa (t:=31) h2 (ah.ab hb),h3⟩,e⟩,List.forall_mem_cons.2 ⟨fun _ _ _ h _=>h,List.forall_mem_cons.2 ⟨fun v w w' ⟨q,X1,y1,X2,y2,X3,y3,X4,y4,⟨h1,h2,h3⟩,e⟩ hb=>⟨q,X1,y1,X2,y2,X3,y3,X4,y4,⟨h1.keep hb,cy.aa (t:=31) h2 (ah.ab hb),h3⟩,e⟩,List.forall_mem_cons.2 ⟨fun v w w' ⟨p,Z,⟨h1,h2,h3⟩,e⟩ hb=>⟨p,Z,⟨h1.keep hb,h2,h3⟩,e⟩,(fun _ h=>by cases h)⟩⟩⟩⟩⟩⟩⟩):P:=h
theorem Rs {P:Prop} (h:P:=by
 intro C hC q hq;obtain⟨i,hi,rfl⟩:=List.mem_iff_getElem.1 hC
 exact(vj (dZ i _ _ (List.getElem?_eq_getElem hi) (List.getElem?_eq_getElem (by omega:i<b.entries.length))) q hq).2):P:=h
theorem Lb (t g:Nat) (b:cK) (c:eH) (C D:List Value) (w0 w:World) (kl:Below w0.heap.size w0 w) (hg:w0.heap.size≤g) (hR:Row w g 31 C) (hO:cZ w0.heap.size w C b) (hI:gL t b) (ht:t≤1000) (hD:je w0 D c) (hc:lR c) (hm:jl w0) (om:rh w0) (hu:1≤c.user∧c.user≤9999999) (O':0≤c.time):
  Calls prog 39 #[.pointer (some ⟨g,0,none⟩),.agg D.toArray] w (fH w0 g b c (zJ b c) (fun b'=>b.entries=[]→b'= {b with entries:=[lu c.item c.user]})):=by
 obtain⟨A1,n1,c1,A2,n2,c2,A3,n3,c3,A4,n4,c4,A5,n5,c5,A6,n6,c6,rfl,O1,O2,O3,O4,O5,O6,q1,q2,q3,q4,q5,q6,m3,m4,m5,m6⟩:=hO.open_;obtain⟨nO,_,d1,d2,d3,_,_,_,_,_,_,_,_,_,_⟩:=ko hD;have BB:=kl;have RB:=hR
 have CA:n3≤1000:=by have:=hI.dJ;omega
 have Eb:n4≤1000:=by have:=hI.af;omega
 have tt:n5≤1000:=by have:=hI.entries;omega
 have pQ:n6≤1000:=by have:=hI.ft;omega
 have pj:n3≤1100000:=by have:=hI.dJ;omega
 have CD:n4≤1100000:=by have:=hI.af;omega
 have yN:n5≤1100000:=by have:=hI.entries;omega
 have wg:n6≤1100000:=by have:=hI.ft;omega
 have ri:=Lib.hid q3;have pL:=Lib.hid q4;have mL:=Lib.hid q5;have Fw:=Lib.hid q6;have HI:=Lib.hid hI;clear hR q1 q2 q3 q4 q5 q6 hI;obtain⟨CI,tn,lV,uq,d7,d8,_⟩:=GO hD
 go_enter func39,ntmps39
 have aL:=trivial
 go_wp2_with (first
  |(clear aJ;(with_reducible refine ak ?_ fp R1 nO ?_);rfl;have bC:=trivial)
  |(clear aL;(with_reducible refine ao (C:=D) ?_ ?_);rfl;intro x1 g1 aR R1 aw;have vI:=h_ RB aR;have eV:=jq BB aR;replace RB:=RB.keep aw;replace O1:=I O1 aw;replace O2:=I O2 aw;replace O3:=I O3 aw;replace O4:=I O4 aw;replace O6:=I O6 aw;replace O5:=O5.aa (t:=31) (ah.ab aw);replace BB:=az BB aw;have bJ:=ae R1 d1;have aI:=ae R1 d2;have fO:=ae R1 d7;have bK:=ae R1 d8;clear aw aR;have aJ:=trivial))
 try clear bC
 refine(rD D c.il 1 _ d2).mono ?_;rintro r x2 ⟨rfl,aF⟩;replace RB:=RB.keep aF;replace R1:=R1.keep aF;replace O1:=I O1 aF;replace O2:=I O2 aF;replace O3:=I O3 aF;replace O4:=I O4 aF;replace O6:=I O6 aF;replace O5:=O5.aa (t:=31) (ah.ab aF);replace BB:=az BB aF;clear bJ aI fO bK;have bJ:=ae R1 d1;have aI:=ae R1 d2;have fO:=ae R1 d7;have bK:=ae R1 d8;clear aF;obtain⟨rb,FX⟩:∃rb,rb=sJ c.il 1:=⟨_,rfl⟩;rw[←FX];have HRB:=Lib.hid FX;clear FX
 cases rb with
 |false=>
  go_wp2_with fail
  go_ret
  exact fH.err (by decide) (fun h=>by have:=HRB.out;rw[h.1] at this;cases this) BB
 |true=>
 have aL:=trivial
 go_wp2_with (first|(clear aL;(with_reducible refine sN ?_ aU R1 tn lV ?_);rfl;have aJ:=trivial))
 clear aJ;refine(sP CI c.item _ (uq.below BB) hc.item hc.Qj (jl.below hm BB)).mono ?_;rintro r x3 ⟨rfl,bh⟩;replace RB:=RB.keep bh;replace R1:=R1.keep bh;replace O1:=I O1 bh;replace O2:=I O2 bh;replace O3:=I O3 bh;replace O4:=I O4 bh;replace O6:=I O6 bh;replace O5:=O5.aa (t:=31) (ah.ab bh);replace BB:=az BB bh;clear bJ aI fO bK;have bJ:=ae R1 d1;have aI:=ae R1 d2;have fO:=ae R1 d7;have bK:=ae R1 d8;clear bh
 by_cases tv:fb c.item=0
 case neg=>
  have HM:Hid (¬zJ b c):=fun h=>tv h.2.1
  generalize fb c.item=ve at*;have HV:=Lib.hid tv
  go_wp2_with fail
  go_ret
  exact fH.err HV.out HM.out BB
 rw[tv];have HV:=Lib.hid tv;clear tv
 by_cases wI:c.item.bj=1
 case neg=>
  go_wp2_with fail
  go_ret
  exact fH.err (by decide) (fun h=>wI h.2.2.1) BB
 rw[wI] at d8 bK;clear wI
 go_wp2_with fail
 have dx:=U (RB.cell 0);have dA:=U (RB.cell 1);have dB:=U (RB.cell 2);have dC:=U (RB.cell 3);have dt:=U (RB.cell 4);have dD:=U (RB.cell 5);have di:=U (RB.cell 6);have zl:=RB.lt;have z1:=R1.lt;have OB:cZ w0.heap.size x3 [.int .i64 b.now,.slice A1 n1 c1,.slice A2 n2 c2,.slice A3 n3 c3,.slice A4 n4 c4,.slice A5 n5 c5,.slice A6 n6 c6] b:=⟨_,_,_,_,_,_,rfl,O1,O2,O3,O4,O5,O6⟩
 have wR:=fun W (hb:Below x3.heap.size x3 W)=>m_ [.int .i64 b.now,.slice A1 n1 c1,.slice A2 n2 c2,.slice A3 n3 c3,.slice A4 n4 c4,.slice A5 n5 c5,.slice A6 n6 c6] b c.item.id W ((OB.below hb).lower (Nat.zero_le _))
 obtain⟨fi,rF⟩:∃fi,fi=fR b.entries c.item.id:=⟨_,rfl⟩;rw[←rF] at wR;have tg:=Lib.hid rF;clear rF OB
 go_region_held3 (fun w'=>w'.cell? ⟨g,0,none⟩=some (.int .i64 b.now)∧w'.cell? ⟨g,1,none⟩=some (.slice A1 n1 c1)∧w'.cell? ⟨g,2,none⟩=some (.slice A2 n2 c2)∧w'.cell? ⟨g,3,none⟩=some (.slice A3 n3 c3)∧w'.cell? ⟨g,4,none⟩=some (.slice A4 n4 c4)∧w'.cell? ⟨g,5,none⟩=some (.slice A5 n5 c5)∧w'.cell? ⟨g,6,none⟩=some (.slice A6 n6 c6)∧w'.cell? ⟨g1,7,none⟩=some (.int .i64 c.item.id))
  ((with_reducible refine And.intro (aT zl dx ?_) (And.intro (aT zl dA ?_) (And.intro (aT zl dB ?_) (And.intro (aT zl dC ?_) (And.intro (aT zl dt ?_) (And.intro (aT zl dD ?_) (And.intro (aT zl di ?_) (aT z1 fO ?_))))))))<;>((repeat(first|with_reducible exact Below.refl _ _|with_reducible refine ar ax ?_|with_reducible refine ar aC ?_|with_reducible refine al ?_ _|with_reducible refine bL ?_));done))
  (first
   |(go_at_call 32;((with_reducible refine(wR _ ?_).mono ?_);(repeat(first|with_reducible exact Below.refl _ _|with_reducible refine ar ax ?_|with_reducible refine ar aC ?_|with_reducible refine al ?_ _|with_reducible refine bL ?_));rintro e wa ⟨rfl,aC⟩)))
 replace aC:=fU aC;clear wR zl z1;replace RB:=RB.keep aC;replace R1:=R1.keep aC;replace O1:=I O1 aC;replace O2:=I O2 aC;replace O3:=I O3 aC;replace O4:=I O4 aC;replace O6:=I O6 aC;replace O5:=O5.aa (t:=31) (ah.ab aC);replace BB:=az BB aC;clear dx dA dB dC dt dD di bJ aI fO bK;clear aC
 by_cases DZ:0≤fi
 case pos=>
  have HM:Hid (¬zJ b c):=fun h=>by have:=tg.out;rw[h.2.2.2.1,Om] at this;omega
  go_wp2_with fail
  go_ret
  exact fH.err (by decide) HM.out BB
 have dx:=U (RB.cell 0);have dA:=U (RB.cell 1);have dB:=U (RB.cell 2);have dC:=U (RB.cell 3);have dt:=U (RB.cell 4);have dD:=U (RB.cell 5);have di:=U (RB.cell 6);have bJ:=ae R1 d1;have aI:=ae R1 d2;have fO:=ae R1 d7;have bK:=ae R1 d8
 have NL:Hid (fR b.entries c.item.id<0):=by unfold Hid;rw[←tg.out];omega
 clear tg
 by_cases Wx:(200:Int)≤(n5:Int)
 case pos=>
  have HM:Hid (¬zJ b c):=fun h=>by(have h5:=mL.out;rw[h.2.2.2.1] at h5;simp at h5;omega)
  go_wp2_with fail
  go_ret
  exact fH.err (by decide) HM.out BB
 go_wp2_with fail
 have S3:=kE.jZ O3 ri.out;have S4:=jI.jZ O4 pL.out;have TJ:=hD.below BB;have XM:=M6 HV.out;have Xs:=HI.out.aZ
 have NO:=fun W (hb:Below wa.heap.size wa W)=>sZ [.int .i64 b.now,.slice A1 n1 c1,.slice A2 n2 c2,.slice A3 n3 c3,.slice A4 n4 c4,.slice A5 n5 c5,.slice A6 n6 c6] D A3 A4 n3 c3 n4 c4 b.dJ b.af c W rfl rfl rfl (S3.below (by decide) hb) (S4.below (by decide) hb) ri.out pL.out pj CD (TJ.below hb) hc.item O' XM Xs
 clear S3 S4 TJ XM Xs
 have bQ:∀p∈([
   (fun v _=>v=.pointer (some ⟨g,0,none⟩)),
  (fun v _=>v=.pointer (some ⟨g,0,none⟩)),
  (fun v _=>v=.agg (([.int .i64 b.now,.slice A1 n1 c1,.slice A2 n2 c2,.slice A3 n3 c3,.slice A4 n4 c4,.slice A5 n5 c5,.slice A6 n6 c6]:List Value)).toArray),
  (fun v _=>v=.agg D.toArray),
  (fun v _=>∃z:Int,(pJ b.dJ c.item.code=true→c.item.af=[]→z=0)∧v=.int .i64 z)]:List (Value→World→Prop)),∀v w w',p v w→Below w.heap.size w w'→p v w':=by
  refine List.forall_mem_cons.2 ⟨fun _ _ _ h _=>h,List.forall_mem_cons.2 ⟨fun _ _ _ h _=>h,List.forall_mem_cons.2 ⟨fun _ _ _ h _=>h,List.forall_mem_cons.2 ⟨fun _ _ _ h _=>h,List.forall_mem_cons.2 ⟨fun _ _ _ h _=>h,(fun _ h=>by cases h)⟩⟩⟩⟩⟩
 refine cT (by kernel_rfl) 5 (fun _=>none) (fun wx=>Row wx g 31 [.int .i64 b.now,.slice A1 n1 c1,.slice A2 n2 c2,.slice A3 n3 c3,.slice A4 n4 c4,.slice A5 n5 c5,.slice A6 n6 c6]∧Row wx g1 72 D∧Below wa.heap.size wa wx) (fun _ w w'=>Below w.heap.size w w') _ (fun j v w w' i _ h hR=>fC bQ (fun _ _ _ _ _=>trivial) i v w w' h hR) (by kernel_rfl) (by kernel_rfl) (fun _ _ h=>by cases h) ⟨RB.drew,R1.drew,(Below.refl _ _).drew⟩ ?_ ?_
 ·clear bQ;refine⟨fun _ a wx hG hr hb K hK=>?_,?_⟩
  ·have e1:=aq (hb 0);rw[if_pos (by rfl)];unfold Oper.wp execOp
   go_simp
   exact hK _ _ rfl hG (Below.refl _ _)
  refine⟨fun _ a wx hG hr hb K hK=>?_,?_⟩
  ·have e1:=aq (hr 0 38);rw[if_pos (by rfl)];unfold Oper.wp execOp
   go_simp
   exact hK _ _ rfl hG (Below.refl _ _)
  refine⟨fun _ a wx hG hr hb K hK=>?_,?_⟩
  ·have e:=aM (hr 1 39);rw[if_pos (by rfl)];unfold Oper.wp execOp;exact kh e aN hG.1 rfl (hK _ _ rfl hG (Below.refl _ _))
  refine⟨fun _ a wx hG hr hb K hK=>?_,?_⟩
  ·have e:=aM (hb 3);rw[if_pos (by rfl)];unfold Oper.wp execOp;exact kh e fp hG.2.1 nO (hK _ _ rfl hG (Below.refl _ _))
  refine⟨fun _ a wx hG hr hb K hK=>?_,?_⟩
  ·have e1:=aq (hr 2 40);have e2:=aq (hr 3 41);rw[if_pos (by rfl)];unfold Oper.wp execOp
   go_simp
   refine(NO wx hG.2.2).mono ?_;rintro e w' ⟨⟨z,rfl,hz⟩,aY⟩;exact hK _ _ ⟨z,hz,rfl⟩ ⟨hG.1.keep aY,hG.2.1.keep aY,hG.2.2.trans (aY.mono hG.2.2.size)⟩ aY
  exact⟨fun h=>absurd h (by decide),trivial⟩
 ·intro v wx oo AA hA ho hG hV K hK
  simp[dh,bD,List.range,List.range.loop,Act.put] at hA
  have e0:=aM (hV 0 (by decide) rfl);have e1:=aM (hV 1 (by decide) rfl);have e2:=aM (hV 2 (by decide) rfl);have e3:=aM (hV 3 (by decide) rfl);obtain⟨z,hz,e4⟩:=hV 4 (by decide) rfl;rw[e0,e1,e2,e3,e4] at hA;subst hA;clear hV bQ e0 e1 e2 e3 e4;have bU:some _=some oo:=ho
  injection bU with bU
  subst bU;clear ho;rw[if_pos (by rfl)];unfold Oper.wp execOp
  go_simp
  refine hK _ _ ?_;have ey:=hG.2.2;replace RB:=RB.keep ey;replace R1:=R1.keep ey;replace O1:=I O1 ey;replace O2:=I O2 ey;replace O3:=I O3 ey;replace O4:=I O4 ey;replace O6:=I O6 ey;replace O5:=O5.aa (t:=31) (ah.ab ey);replace BB:=az BB ey;clear dx dA dB dC dt dD di bJ aI fO bK;clear hG ey NO hK;have HZ:=Lib.hid hz;clear hz
  by_cases cD:z=0
  case neg=>
   have HM:Hid (¬zJ b c):=fun h=>cD (HZ.out h.2.2.2.2.1 h.2.2.2.2.2)
   go_wp2_with fail
   go_ret
   exact fH.err cD HM.out BB
  subst cD;clear HZ;have dx:=U (RB.cell 0);have dA:=U (RB.cell 1);have dB:=U (RB.cell 2);have dC:=U (RB.cell 3);have dt:=U (RB.cell 4);have dD:=U (RB.cell 5);have di:=U (RB.cell 6);have bJ:=ae R1 d1;have aI:=ae R1 d2;have fO:=ae R1 d7;have bK:=ae R1 d8
  go_wp2_with fail
  refine(U1 c.user _ hu.1 hu.2).mono ?_;rintro r x4 ⟨rfl,ek⟩;replace RB:=RB.keep ek;replace R1:=R1.keep ek;replace O1:=I O1 ek;replace O2:=I O2 ek;replace O3:=I O3 ek;replace O4:=I O4 ek;replace O6:=I O6 ek;replace O5:=O5.aa (t:=31) (ah.ab ek);replace BB:=az BB ek;clear dx dA dB dC dt dD di bJ aI fO bK;have dx:=U (RB.cell 0);have dA:=U (RB.cell 1);have dB:=U (RB.cell 2);have dC:=U (RB.cell 3);have dt:=U (RB.cell 4);have dD:=U (RB.cell 5);have di:=U (RB.cell 6);have bJ:=ae R1 d1;have aI:=ae R1 d2;have fO:=ae R1 d7;have bK:=ae R1 d8;clear ek;have bC:=trivial
  go_wp2_with (first
   |(clear cz;(with_reducible refine av (C:=[.int .i64 1,.int .i64 c.user,.slice none 0 0,.slice none 0 0,.slice none 0 0]) ?_ ?_ bd R7 rfl adS (by simp[Value.oneCell']) ?_);rfl;rfl;have bg:=R7.ty;clear R7;intro x6 R7 dY;have kt:=dY.aa bg;replace RB:=dY.row RB;replace R1:=dY.row R1;replace O1:=kt.own O1;replace O2:=kt.own O2;replace O3:=kt.own O3;replace O4:=kt.own O4;replace O6:=kt.own O6;replace O5:=O5.aa kt;replace BB:=BB.trans (dY.below EP);clear dx dA dB dC dt dD di bJ aI fO bK;have dx:=U (RB.cell 0);have dA:=U (RB.cell 1);have dB:=U (RB.cell 2);have dC:=U (RB.cell 3);have dt:=U (RB.cell 4);have dD:=U (RB.cell 5);have di:=U (RB.cell 6);have bJ:=ae R1 d1;have aI:=ae R1 d2;have fO:=ae R1 d7;have bK:=ae R1 d8;clear dY kt bg;have cY:=trivial)
   |(clear bC;(with_reducible refine cR lZ ?_);intro x5 g7 Z7 ug adS R7 cp;have aeC:g≠g7:=(by have:=RB.lt;omega);have aey:g1≠g7:=(by have:=R1.lt;omega);have EP:w0.heap.size≤g7:=(by have:=BB.size;omega);replace RB:=RB.keep cp;replace R1:=R1.keep cp;replace O1:=I O1 cp;replace O2:=I O2 cp;replace O3:=I O3 cp;replace O4:=I O4 cp;replace O6:=I O6 cp;replace O5:=O5.aa (t:=31) (ah.ab cp);replace BB:=az BB cp;clear dx dA dB dC dt dD di bJ aI fO bK;have dx:=U (RB.cell 0);have dA:=U (RB.cell 1);have dB:=U (RB.cell 2);have dC:=U (RB.cell 3);have dt:=U (RB.cell 4);have dD:=U (RB.cell 5);have di:=U (RB.cell 6);have bJ:=ae R1 d1;have aI:=ae R1 d2;have fO:=ae R1 d7;have bK:=ae R1 d8;clear cp ug;have cz:=trivial))
  try clear cY
  have dx:=U (RB.cell 0);have dA:=U (RB.cell 1);have dB:=U (RB.cell 2);have dC:=U (RB.cell 3);have dt:=U (RB.cell 4);have dD:=U (RB.cell 5);have di:=U (RB.cell 6);clear dx dA dB dC dt di bJ aI bK
  go_loopw [9] (fun i wr=>∃k:Nat,k≤n5∧i=.int .i64 k∧Below x6.heap.size x6 wr) (fun i _=>n5 - (intOf i).toNat)
  case atStart=>exact⟨0,Nat.zero_le _,rfl,Below.refl _ _⟩
  case round=>
   obtain⟨k,hk,rfl,fw⟩:=hrel;have zl:=RB.lt;have z1:=R1.lt;have e5:wr.cell? ⟨g,5,none⟩=some (.slice A5 n5 c5):=(fw.cell (p:=⟨g,5,none⟩) zl).trans dD;have e7:wr.cell? ⟨g1,7,none⟩=some (.int .i64 c.item.id):=(fw.cell (p:=⟨g1,7,none⟩) z1).trans fO
   have kx:(k:Int)<(n5:Int)∨¬((k:Int)<(n5:Int)):=by omega
   rcases kx with aS|aS
   ·have hx:b.entries[k]? =some (b.entries[k]'(by have:=mL.out;omega)):=List.getElem?_eq_getElem _;obtain⟨gE,cap,Ce,hs,_,_,_,dW,_,aO,hR⟩:=(ej.BJ O5).get hx;generalize b.entries[k]'(by have:=mL.out;omega)=e at hR
    injection hs with Em uF wh
    subst Em;clear uF wh hx;replace hR:=hR.aa (t:=31) (ah.ab fw);obtain⟨E1,b1,E2,b2,E3,b3,E4,b4,E5,b5,rfl,hm,_⟩:=hR.out;unfold ig at hR aO;replace aO:=aO.below fw dW.lt;have zE:=Nat.lt_of_lt_of_le dW.lt fw.size;have zl':=Nat.lt_of_lt_of_le zl fw.size;have Ve:=Nat.lt_of_lt_of_le z1 fw.size;have yh:wr.cell? ⟨gE,k*7,none⟩=some (.slice E1 e.aD.length b1):=aO 0 _ rfl;have vV:wr.cell? ⟨gE,k*7+1,none⟩=some (.int .i64 e.state):=aO 1 _ rfl;have yj:wr.cell? ⟨gE,k*7+2,none⟩=some (.int .i64 e.bF):=aO 2 _ rfl;have yk:wr.cell? ⟨gE,k*7+3,none⟩=some (.slice E2 e.b_.length b2):=aO 3 _ rfl;have yl:wr.cell? ⟨gE,k*7+4,none⟩=some (.slice E3 e.fair.length b3):=aO 4 _ rfl;have yn:wr.cell? ⟨gE,k*7+5,none⟩=some (.slice E4 e.log.length b4):=aO 5 _ rfl;have yp:wr.cell? ⟨gE,k*7+6,none⟩=some (.slice E5 e.rows.length b5):=aO 6 _ rfl;have W7:decide ((k:Int)<(n5:Int))=true:=decide_eq_true aS
    have HNb:=fun W (hb:Below wr.heap.size wr W)=>qE [.slice E1 e.aD.length b1,.int .i64 e.state,.int .i64 e.bF,.slice E2 e.b_.length b2,.slice E3 e.fair.length b3,.slice E4 e.log.length b4,.slice E5 e.rows.length b5] e W ((hR.aa (t:=31) (ah.ab hb)).lower (Nat.zero_le _))
    generalize du e=ie at HNb;clear aO hR hm
    go_wp2_with fail
    go_region_held3 (fun w'=>w'.cell? ⟨g,5,none⟩=some (.slice (some ⟨gE,0,none⟩) n5 c5)∧w'.cell? ⟨gE,k*7,none⟩=some (.slice E1 e.aD.length b1)∧w'.cell? ⟨gE,k*7+1,none⟩=some (.int .i64 e.state)∧w'.cell? ⟨gE,k*7+2,none⟩=some (.int .i64 e.bF)∧w'.cell? ⟨gE,k*7+3,none⟩=some (.slice E2 e.b_.length b2)∧w'.cell? ⟨gE,k*7+4,none⟩=some (.slice E3 e.fair.length b3)∧w'.cell? ⟨gE,k*7+5,none⟩=some (.slice E4 e.log.length b4)∧w'.cell? ⟨gE,k*7+6,none⟩=some (.slice E5 e.rows.length b5)∧w'.cell? ⟨g1,7,none⟩=some (.int .i64 c.item.id))
     ((with_reducible refine And.intro (aT zl' e5 ?_) (And.intro (aT zE yh ?_) (And.intro (aT zE vV ?_) (And.intro (aT zE yj ?_) (And.intro (aT zE yk ?_) (And.intro (aT zE yl ?_) (And.intro (aT zE yn ?_) (And.intro (aT zE yp ?_) (aT Ve e7 ?_)))))))))<;>((repeat(first|with_reducible exact Below.refl _ _|with_reducible refine ar ax ?_|with_reducible refine ar aC ?_|with_reducible refine al ?_ _|with_reducible refine bL ?_));done))
     (first|(go_at_call 74;((with_reducible refine(HNb _ ?_).mono ?_);(repeat(first|with_reducible exact Below.refl _ _|with_reducible refine ar ax ?_|with_reducible refine ar aC ?_|with_reducible refine al ?_ _|with_reducible refine bL ?_));rintro e wa ⟨rfl,aC⟩)))
    replace aC:=fw.trans ((fU aC).mono fw.size);clear e5 e7 HNb yh vV yj yk yl yn yp
    by_cases ph:ie<c.item.id
    ·have Xr:decide (ie<c.item.id)=true:=decide_eq_true ph
     go_wp2_with fail
     exact⟨⟨k+1,by omega,by go_num,aC⟩,by simp[intOf];omega⟩
    ·have Xr:decide (ie<c.item.id)=false:=decide_eq_false ph
     go_wp2_with fail
     generalize (some (⟨gE,0,none⟩:Addr))=A5 at*;have eY:=aC;generalize wa=w8 at eY ⊢;clear aC fw
     have nW:k≤n5:=by omega
     replace RB:=RB.keep eY;replace R1:=R1.keep eY;replace R7:=R7.keep eY;replace O1:=I O1 eY;replace O2:=I O2 eY;replace O3:=I O3 eY;replace O4:=I O4 eY;replace O6:=I O6 eY;replace O5:=O5.aa (t:=31) (ah.ab eY);replace BB:=az BB eY;clear eY;have tn:=tn
     have tf:=fun W (hb:Below w8.heap.size w8 W)=>gI CI c.item W ((uq.below BB).below hb) hc.item
     have z8:=BB.size;obtain⟨Cs,Al,jo,a_,dZ,nQ⟩:=O5
     have XY:∀C∈Cs,∀q,dm C=some q→q<w8.heap.size:=by
      exact Rs
     have HVQ:=Lib.hid XY;have aaR:=Lib.hid nQ;have HC7:=Lib.hid jo;have Ht:=Lib.hid Al;clear XY nQ jo Al
     have bQ:∀p∈([
       (fun v _=>v=.pointer (some ⟨g1,7,none⟩)),
  (fun v _=>v=.agg CI.toArray),
  (fun v w=>∃(X1:Option Addr) (y1:Nat) (X2:Option Addr) (y2:Nat) (X3:Option Addr) (y3:Nat) (X4:Option Addr) (y4:Nat),cy w0.heap.size w [.int .i64 c.item.id,.int .i64 c.item.bj,.int .i64 c.item.kind,.string c.item.aW,.slice X1 c.item.opts.length y1,.slice X2 c.item.cA.length y2,.int .i64 c.item.value,.int .i64 c.item.de,.slice X3 c.item.texts.length y3,.int .i64 c.item.aP,.string c.item.code,.int .i64 c.item.bz,.int .i64 c.item.bB,.int .i64 c.item.words,.int .i64 c.item.ay,.slice X4 c.item.af.length y4,.int .i64 c.item.aH] c.item∧v=.agg #[.int .i64 c.item.id,.int .i64 c.item.bj,.int .i64 c.item.kind,.string c.item.aW,.slice X1 c.item.opts.length y1,.slice X2 c.item.cA.length y2,.int .i64 c.item.value,.int .i64 c.item.de,.slice X3 c.item.texts.length y3,.int .i64 c.item.aP,.string c.item.code,.int .i64 c.item.bz,.int .i64 c.item.bB,.int .i64 c.item.words,.int .i64 c.item.ay,.slice X4 c.item.af.length y4,.int .i64 c.item.aH]),
  (fun v w=>∃(q:Nat) (X1:Option Addr) (y1:Nat) (X2:Option Addr) (y2:Nat) (X3:Option Addr) (y3:Nat) (X4:Option Addr) (y4:Nat),(Row w q 47 [.int .i64 c.item.id,.int .i64 c.item.bj,.int .i64 c.item.kind,.string c.item.aW,.slice X1 c.item.opts.length y1,.slice X2 c.item.cA.length y2,.int .i64 c.item.value,.int .i64 c.item.de,.slice X3 c.item.texts.length y3,.int .i64 c.item.aP,.string c.item.code,.int .i64 c.item.bz,.int .i64 c.item.bB,.int .i64 c.item.words,.int .i64 c.item.ay,.slice X4 c.item.af.length y4,.int .i64 c.item.aH]∧cy w0.heap.size w [.int .i64 c.item.id,.int .i64 c.item.bj,.int .i64 c.item.kind,.string c.item.aW,.slice X1 c.item.opts.length y1,.slice X2 c.item.cA.length y2,.int .i64 c.item.value,.int .i64 c.item.de,.slice X3 c.item.texts.length y3,.int .i64 c.item.aP,.string c.item.code,.int .i64 c.item.bz,.int .i64 c.item.bB,.int .i64 c.item.words,.int .i64 c.item.ay,.slice X4 c.item.af.length y4,.int .i64 c.item.aH] c.item∧w8.heap.size≤q)∧v=.slice (some ⟨q,0,none⟩) 1 1),
  (fun v _=>v=.agg (([.int .i64 1,.int .i64 c.user,.slice none 0 0,.slice none 0 0,.slice none 0 0]:List Value)).toArray),
  (fun v w=>∃(q:Nat) (X1:Option Addr) (y1:Nat) (X2:Option Addr) (y2:Nat) (X3:Option Addr) (y3:Nat) (X4:Option Addr) (y4:Nat),(Row w q 47 [.int .i64 c.item.id,.int .i64 c.item.bj,.int .i64 c.item.kind,.string c.item.aW,.slice X1 c.item.opts.length y1,.slice X2 c.item.cA.length y2,.int .i64 c.item.value,.int .i64 c.item.de,.slice X3 c.item.texts.length y3,.int .i64 c.item.aP,.string c.item.code,.int .i64 c.item.bz,.int .i64 c.item.bB,.int .i64 c.item.words,.int .i64 c.item.ay,.slice X4 c.item.af.length y4,.int .i64 c.item.aH]∧cy w0.heap.size w [.int .i64 c.item.id,.int .i64 c.item.bj,.int .i64 c.item.kind,.string c.item.aW,.slice X1 c.item.opts.length y1,.slice X2 c.item.cA.length y2,.int .i64 c.item.value,.int .i64 c.item.de,.slice X3 c.item.texts.length y3,.int .i64 c.item.aP,.string c.item.code,.int .i64 c.item.bz,.int .i64 c.item.bB,.int .i64 c.item.words,.int .i64 c.item.ay,.slice X4 c.item.af.length y4,.int .i64 c.item.aH] c.item∧w8.heap.size≤q)∧v=.agg #[.slice (some ⟨q,0,none⟩) 1 1,.int .i64 1,.int .i64 c.user,.slice none 0 0,.slice none 0 0,.slice none 0 0,.slice none 0 0]),
  (fun v w=>∃(p:Nat) (Z:List Value),(Row w p 44 Z∧Z.length=7∧w8.heap.size≤p)∧v=.pointer (some ⟨p,0,none⟩))]:List (Value→World→Prop)),∀v w w',p v w→Below w.heap.size w w'→p v w':=by
      exact Rq
     exact Rp
   ·have hdf:decide (k<n5)=false:=decide_eq_false (by omega)
    go_wp2_with fail
    go_quiet (fail)
    go_wp2_with fail
    have eY:=cr fw nq;obtain⟨w8,Aw⟩:∃w8,w8=wr.drewN nq:=⟨_,rfl⟩;rw[←Aw] at eY;rw[←Aw];clear Aw fw
    have nW:k≤n5:=by omega
    replace RB:=RB.keep eY;replace R1:=R1.keep eY;replace R7:=R7.keep eY;replace O1:=I O1 eY;replace O2:=I O2 eY;replace O3:=I O3 eY;replace O4:=I O4 eY;replace O6:=I O6 eY;replace O5:=O5.aa (t:=31) (ah.ab eY);replace BB:=az BB eY;clear eY;have tn:=tn
    have tf:=fun W (hb:Below w8.heap.size w8 W)=>gI CI c.item W ((uq.below BB).below hb) hc.item
    have z8:=BB.size;obtain⟨Cs,Al,jo,a_,dZ,nQ⟩:=O5
    have XY:∀C∈Cs,∀q,dm C=some q→q<w8.heap.size:=by
     exact Rs
    have HVQ:=Lib.hid XY;have aaR:=Lib.hid nQ;have HC7:=Lib.hid jo;have Ht:=Lib.hid Al;clear XY nQ jo Al
    have bQ:∀p∈([
      (fun v _=>v=.pointer (some ⟨g1,7,none⟩)),
  (fun v _=>v=.agg CI.toArray),
  (fun v w=>∃(X1:Option Addr) (y1:Nat) (X2:Option Addr) (y2:Nat) (X3:Option Addr) (y3:Nat) (X4:Option Addr) (y4:Nat),cy w0.heap.size w [.int .i64 c.item.id,.int .i64 c.item.bj,.int .i64 c.item.kind,.string c.item.aW,.slice X1 c.item.opts.length y1,.slice X2 c.item.cA.length y2,.int .i64 c.item.value,.int .i64 c.item.de,.slice X3 c.item.texts.length y3,.int .i64 c.item.aP,.string c.item.code,.int .i64 c.item.bz,.int .i64 c.item.bB,.int .i64 c.item.words,.int .i64 c.item.ay,.slice X4 c.item.af.length y4,.int .i64 c.item.aH] c.item∧v=.agg #[.int .i64 c.item.id,.int .i64 c.item.bj,.int .i64 c.item.kind,.string c.item.aW,.slice X1 c.item.opts.length y1,.slice X2 c.item.cA.length y2,.int .i64 c.item.value,.int .i64 c.item.de,.slice X3 c.item.texts.length y3,.int .i64 c.item.aP,.string c.item.code,.int .i64 c.item.bz,.int .i64 c.item.bB,.int .i64 c.item.words,.int .i64 c.item.ay,.slice X4 c.item.af.length y4,.int .i64 c.item.aH]),
  (fun v w=>∃(q:Nat) (X1:Option Addr) (y1:Nat) (X2:Option Addr) (y2:Nat) (X3:Option Addr) (y3:Nat) (X4:Option Addr) (y4:Nat),(Row w q 47 [.int .i64 c.item.id,.int .i64 c.item.bj,.int .i64 c.item.kind,.string c.item.aW,.slice X1 c.item.opts.length y1,.slice X2 c.item.cA.length y2,.int .i64 c.item.value,.int .i64 c.item.de,.slice X3 c.item.texts.length y3,.int .i64 c.item.aP,.string c.item.code,.int .i64 c.item.bz,.int .i64 c.item.bB,.int .i64 c.item.words,.int .i64 c.item.ay,.slice X4 c.item.af.length y4,.int .i64 c.item.aH]∧cy w0.heap.size w [.int .i64 c.item.id,.int .i64 c.item.bj,.int .i64 c.item.kind,.string c.item.aW,.slice X1 c.item.opts.length y1,.slice X2 c.item.cA.length y2,.int .i64 c.item.value,.int .i64 c.item.de,.slice X3 c.item.texts.length y3,.int .i64 c.item.aP,.string c.item.code,.int .i64 c.item.bz,.int .i64 c.item.bB,.int .i64 c.item.words,.int .i64 c.item.ay,.slice X4 c.item.af.length y4,.int .i64 c.item.aH] c.item∧w8.heap.size≤q)∧v=.slice (some ⟨q,0,none⟩) 1 1),
  (fun v _=>v=.agg (([.int .i64 1,.int .i64 c.user,.slice none 0 0,.slice none 0 0,.slice none 0 0]:List Value)).toArray),
  (fun v w=>∃(q:Nat) (X1:Option Addr) (y1:Nat) (X2:Option Addr) (y2:Nat) (X3:Option Addr) (y3:Nat) (X4:Option Addr) (y4:Nat),(Row w q 47 [.int .i64 c.item.id,.int .i64 c.item.bj,.int .i64 c.item.kind,.string c.item.aW,.slice X1 c.item.opts.length y1,.slice X2 c.item.cA.length y2,.int .i64 c.item.value,.int .i64 c.item.de,.slice X3 c.item.texts.length y3,.int .i64 c.item.aP,.string c.item.code,.int .i64 c.item.bz,.int .i64 c.item.bB,.int .i64 c.item.words,.int .i64 c.item.ay,.slice X4 c.item.af.length y4,.int .i64 c.item.aH]∧cy w0.heap.size w [.int .i64 c.item.id,.int .i64 c.item.bj,.int .i64 c.item.kind,.string c.item.aW,.slice X1 c.item.opts.length y1,.slice X2 c.item.cA.length y2,.int .i64 c.item.value,.int .i64 c.item.de,.slice X3 c.item.texts.length y3,.int .i64 c.item.aP,.string c.item.code,.int .i64 c.item.bz,.int .i64 c.item.bB,.int .i64 c.item.words,.int .i64 c.item.ay,.slice X4 c.item.af.length y4,.int .i64 c.item.aH] c.item∧w8.heap.size≤q)∧v=.agg #[.slice (some ⟨q,0,none⟩) 1 1,.int .i64 1,.int .i64 c.user,.slice none 0 0,.slice none 0 0,.slice none 0 0,.slice none 0 0]),
  (fun v w=>∃(p:Nat) (Z:List Value),(Row w p 44 Z∧Z.length=7∧w8.heap.size≤p)∧v=.pointer (some ⟨p,0,none⟩))]:List (Value→World→Prop)),∀v w w',p v w→Below w.heap.size w w'→p v w':=by
     exact Rq
    exact Rp
end
end Go.Proofs.YtdnpopjabpklnaaGreatDoor
