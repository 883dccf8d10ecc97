/- Contracts and plain laws that the proof of the top laws uses (TrF). No condition beyond those stated. -/
import Derived.Test.YtdnpopjabpklnaaGreatDoorG12
set_option maxRecDepth 100000
set_option maxHeartbeats 64000000
set_option linter.all false
namespace Go.Proofs.YtdnpopjabpklnaaGreatDoor
section
open Go.RowKit
open Tryz
theorem Rt {P:Prop} (h:P:=by
 have c0:wx.cell? ⟨gE,k*7,none⟩=some (.slice (some ⟨gV,0,none⟩) (m+1) b1):=hG.2.2.1 0 _ rfl;rw[if_pos (by rfl)];unfold Oper.wp execOp
 go_simp
 exact hK _ _ rfl hG (Below.refl _ _)):P:=h
theorem Gg (t g:Nat) (b:cK) (c:eH) (C D:List Value) (w0 w:World) (kl:Below w0.heap.size w0 w) (hg:w0.heap.size≤g) (hR:Row w g 31 C) (hO:cZ w0.heap.size w C b) (hI:gL t b) (ht:t≤1000) (hD:je w0 D c) (hc:lR c) (hm:jl w0) (om:rh w0):
  Calls prog 43 #[.pointer (some ⟨g,0,none⟩),.agg D.toArray] w (fH w0 g b c (False) (fun _=>True)):=by
 obtain⟨A1,n1,c1,A2,n2,c2,A3,n3,c3,A4,n4,c4,A5,n5,c5,A6,n6,c6,rfl,O1,O2,O3,O4,O5,O6,q1,q2,q3,q4,q5,q6,m3,m4,m5,m6⟩:=hO.open_;obtain⟨nO,_,d1,d2,_,d4,_,_,_,_,_,_,_,_,_⟩:=ko hD;have BB:=kl;have RB:=hR
 have CA:n3≤1000:=by have:=hI.dJ;omega
 have Eb:n4≤1000:=by have:=hI.af;omega
 have tt:n5≤1000:=by have:=hI.entries;omega
 have pQ:n6≤1000:=by have:=hI.ft;omega
 have ix:n1≤1100000:=by have:=hI.aP;omega
 have pj:n3≤1100000:=by have:=hI.dJ;omega
 have CD:n4≤1100000:=by have:=hI.af;omega
 have yN:n5≤1100000:=by have:=hI.entries;omega
 have wg:n6≤1100000:=by have:=hI.ft;omega
 have ri:=Lib.hid q3;have pL:=Lib.hid q4;have mL:=Lib.hid q5;have Fw:=Lib.hid q6;have HI:=Lib.hid hI;clear hR q1 q2 q3 q4 q5 q6 hI;obtain⟨AM,nM,kM,hCM,d31,hRM,hMk⟩:=Oa hD
 have hnM:nM≤1100000:=by rw[←hRM.1];exact hc.rows
 go_enter func43,ntmps43
 have aL:=trivial
 go_wp2_with (first
  |(clear aJ;(with_reducible refine ak ?_ fp R1 nO ?_);rfl;have bC:=trivial)
  |(clear aL;(with_reducible refine ao (C:=D) ?_ ?_);rfl;intro x1 g1 aR R1 aw;have vI:=h_ RB aR;have eV:=jq BB aR;replace RB:=RB.keep aw;replace O1:=I O1 aw;replace O2:=I O2 aw;replace O3:=I O3 aw;replace O4:=I O4 aw;replace O6:=I O6 aw;replace O5:=O5.aa (t:=31) (ah.ab aw);replace BB:=az BB aw;have bJ:=ae R1 d1;have aI:=ae R1 d2;have aK:=ae R1 d4;clear aw aR;have aJ:=trivial))
 try clear bC
 refine(rD D c.il 8 _ d2).mono ?_;rintro r x2 ⟨rfl,aF⟩;replace RB:=RB.keep aF;replace R1:=R1.keep aF;replace O1:=I O1 aF;replace O2:=I O2 aF;replace O3:=I O3 aF;replace O4:=I O4 aF;replace O6:=I O6 aF;replace O5:=O5.aa (t:=31) (ah.ab aF);replace BB:=az BB aF;clear bJ aI aK;have bJ:=ae R1 d1;have aI:=ae R1 d2;have aK:=ae R1 d4;clear aF;generalize sJ c.il 8=rb at*
 cases rb with
 |false=>
  go_wp2_with fail
  go_ret
  exact fH.err (by decide) (fun h=>h) BB
 |true=>
 go_wp2_with fail
 have dx:=U (RB.cell 0);have dA:=U (RB.cell 1);have dB:=U (RB.cell 2);have dC:=U (RB.cell 3);have dt:=U (RB.cell 4);have dD:=U (RB.cell 5);have di:=U (RB.cell 6);have zl:=RB.lt;have z1:=R1.lt;have OB:cZ w0.heap.size x2 [.int .i64 b.now,.slice A1 n1 c1,.slice A2 n2 c2,.slice A3 n3 c3,.slice A4 n4 c4,.slice A5 n5 c5,.slice A6 n6 c6] b:=⟨_,_,_,_,_,_,rfl,O1,O2,O3,O4,O5,O6⟩
 have wR:=fun W (hb:Below x2.heap.size x2 W)=>m_ [.int .i64 b.now,.slice A1 n1 c1,.slice A2 n2 c2,.slice A3 n3 c3,.slice A4 n4 c4,.slice A5 n5 c5,.slice A6 n6 c6] b c.id W ((OB.below hb).lower (Nat.zero_le _))
 obtain⟨fi,rF⟩:∃fi,fi=fR b.entries c.id:=⟨_,rfl⟩;rw[←rF] at wR;have tg:=Lib.hid rF;clear rF OB
 go_region_held3 (fun w'=>w'.cell? ⟨g,0,none⟩=some (.int .i64 b.now)∧w'.cell? ⟨g,1,none⟩=some (.slice A1 n1 c1)∧w'.cell? ⟨g,2,none⟩=some (.slice A2 n2 c2)∧w'.cell? ⟨g,3,none⟩=some (.slice A3 n3 c3)∧w'.cell? ⟨g,4,none⟩=some (.slice A4 n4 c4)∧w'.cell? ⟨g,5,none⟩=some (.slice A5 n5 c5)∧w'.cell? ⟨g,6,none⟩=some (.slice A6 n6 c6)∧w'.cell? ⟨g1,4,none⟩=some (.int .i64 c.id))
  ((with_reducible refine And.intro (aT zl dx ?_) (And.intro (aT zl dA ?_) (And.intro (aT zl dB ?_) (And.intro (aT zl dC ?_) (And.intro (aT zl dt ?_) (And.intro (aT zl dD ?_) (And.intro (aT zl di ?_) (aT z1 aK ?_))))))))<;>((repeat(first|with_reducible exact Below.refl _ _|with_reducible refine ar ax ?_|with_reducible refine ar aC ?_|with_reducible refine al ?_ _|with_reducible refine bL ?_));done))
  (first
   |(go_at_call 32;((with_reducible refine(wR _ ?_).mono ?_);(repeat(first|with_reducible exact Below.refl _ _|with_reducible refine ar ax ?_|with_reducible refine ar aC ?_|with_reducible refine al ?_ _|with_reducible refine bL ?_));rintro r wa ⟨rfl,aC⟩)))
 replace aC:=fU aC;clear wR zl z1;replace RB:=RB.keep aC;replace R1:=R1.keep aC;replace O1:=I O1 aC;replace O2:=I O2 aC;replace O3:=I O3 aC;replace O4:=I O4 aC;replace O6:=I O6 aC;replace O5:=O5.aa (t:=31) (ah.ab aC);replace BB:=az BB aC;clear dx dA dB dC dt dD di bJ aI aK;clear aC
 by_cases DZ:fi<0
 case pos=>
  go_wp2_with fail
  go_ret
  exact fH.err (by decide) (fun h=>h) BB
 obtain⟨k,e,Cy,sr,hid,tv,gA⟩:=qv (es:=b.entries) (q:=c.id) (by rw[←tg.out];omega);have D_:=tg.out.trans Cy;clear tg Cy;subst D_;clear DZ
 have DZ:¬((k:Int)<0):=by omega
 obtain⟨gE,E1,b1,E2,b2,E3,b3,E4,b4,E5,b5,Cs,OF,HE⟩:=qu O5 sr;clear O5;subst OF;obtain⟨m,hm⟩:∃m,e.aD.length=m+1:=⟨e.aD.length - 1,by omega⟩;obtain⟨gV,it,CL,rfl,hx,uC,Bo,aO,Cp,mu,FU,hVt,hVb,aC⟩:=AV HE hm;have EI:=HI.out.entry e (List.mem_of_getElem? sr);obtain⟨iv,ish,isz⟩:=EI.item it uC;have ipt:=(jH iv).aP
 have nW:(k:Int)<(n5:Int):=by rw[mL.out];omega
 have W7:decide ((k:Int)<(n5:Int))=true:=decide_eq_true nW
 have m45:m≤1100000:=by have:=EI.aD;omega
 have th:=Lib.hid hid;have QE:=Lib.hid Bo;have zG:=Lib.hid hm;have HX:=Lib.hid hx;have Kg:=Lib.hid sr;have Kf:=Lib.hid EI;have HIV:=Lib.hid iv;clear hid Bo hm hx sr uC EI iv tv gA aC;have dx:=U (RB.cell 0);have dA:=U (RB.cell 1);have dB:=U (RB.cell 2);have dC:=U (RB.cell 3);have dt:=U (RB.cell 4);have dD:=U (RB.cell 5);have di:=U (RB.cell 6);have bJ:=ae R1 d1;have aI:=ae R1 d2;have aK:=ae R1 d4;have dp:=HE.cl.1;unfold dP at dp;rw[zG.out] at dp;have yh:wa.cell? ⟨gE,k*7,none⟩=some (.slice (some ⟨gV,0,none⟩) (m+1) b1):=dp 0 _ rfl;have vV:wa.cell? ⟨gE,k*7+1,none⟩=some (.int .i64 e.state):=dp 1 _ rfl;have yj:wa.cell? ⟨gE,k*7+2,none⟩=some (.int .i64 e.bF):=dp 2 _ rfl;have yk:wa.cell? ⟨gE,k*7+3,none⟩=some (.slice E2 e.b_.length b2):=dp 3 _ rfl;have yl:wa.cell? ⟨gE,k*7+4,none⟩=some (.slice E3 e.fair.length b3):=dp 4 _ rfl;have yn:wa.cell? ⟨gE,k*7+5,none⟩=some (.slice E4 e.log.length b4):=dp 5 _ rfl;have yp:wa.cell? ⟨gE,k*7+6,none⟩=some (.slice E5 e.rows.length b5):=dp 6 _ rfl;clear dp;generalize I3:e.state=st at vV;have HES:=Lib.hid I3;clear I3
 by_cases h4:st=4∨st=5∨st=6
 case neg=>
  go_wp2_with fail
  all_goals first
   |(exfalso;omega)
   |exact absurd (Or.inl ‹_›) h4
   |exact absurd (Or.inr (Or.inl ‹_›)) h4
   |exact absurd (Or.inr (Or.inr ‹_›)) h4
   |(have q:= ‹((st !=4)=false∨(st !=5)=false)∨(st !=6)=false›;simp only[bne_eq_false_iff_eq] at q;exfalso;omega)
   |(go_ret;exact fH.err (by decide) (fun h=>h) BB)
 rcases h4 with rfl|rfl|rfl
 all_goals
  go_wp2_with fail
  clear yh vV yj yk yl yn yp;have dp:=HE.cl.1;unfold dP at dp;rw[zG.out] at dp
  have ux:Cl wa gE (k*7) [.slice (some ⟨gV,0,none⟩) (m+1) b1]:=by have:=dp.part 0 1;exact this
  clear dp
  have HSU:=fun W (hb:Below wa.heap.size wa W)=>Qo [.int .i64 b.now,.slice A1 n1 c1,.slice A2 n2 c2,.slice A3 n3 c3,.slice A4 n4 c4,.slice (some ⟨gE,0,none⟩) n5 c5,.slice A6 n6 c6] CL A1 AM n1 c1 nM kM it c.rows W rfl rfl (by have:=HI.out.aP;have:=ix;omega) (mu.below hb) ⟨by omega,by omega⟩ ((hRM.below BB).below hb) hMk hnM
  have bQ:∀p∈([
    (fun v _=>v=.pointer (some ⟨g,0,none⟩)),
  (fun v _=>v=.pointer (some ⟨g,0,none⟩)),
  (fun v _=>v=.agg (([.int .i64 b.now,.slice A1 n1 c1,.slice A2 n2 c2,.slice A3 n3 c3,.slice A4 n4 c4,.slice (some ⟨gE,0,none⟩) n5 c5,.slice A6 n6 c6]:List Value)).toArray),
  (fun v _=>v=.pointer (some ⟨gE,k*7,none⟩)),
  (fun v _=>v=.pointer (some ⟨gE,k*7,none⟩)),
  (fun v _=>v=.pointer (some ⟨gE,k*7,none⟩)),
  (fun v _=>v=.slice (some ⟨gV,0,none⟩) (m+1) b1),
  (fun v _=>v=.pointer (some ⟨gE,k*7,none⟩)),
  (fun v _=>v=.pointer (some ⟨gE,k*7,none⟩)),
  (fun v _=>v=.pointer (some ⟨gE,k*7,none⟩)),
  (fun v _=>v=.slice (some ⟨gV,0,none⟩) (m+1) b1),
  (fun v _=>v=.int .i64 ((m+1:Nat):Int)),
  (fun v _=>v=.int .i64 (m:Int)),
  (fun v _=>v=.pointer (some ⟨gV,m*17,none⟩)),
  (fun v _=>v=.agg CL.toArray),
  (fun v _=>v=.pointer (some ⟨g1,31,none⟩)),
  (fun v _=>v=.agg ([.slice AM nM kM]:List Value).toArray),
  (fun v _=>∃z:Int,v=.int .i64 z)]:List (Value→World→Prop)),∀v w w',p v w→Below w.heap.size w w'→p v w':=by
   refine List.forall_mem_cons.2 ⟨fun _ _ _ h _=>h,List.forall_mem_cons.2 ⟨fun _ _ _ h _=>h,List.forall_mem_cons.2 ⟨fun _ _ _ h _=>h,List.forall_mem_cons.2 ⟨fun _ _ _ h _=>h,List.forall_mem_cons.2 ⟨fun _ _ _ h _=>h,List.forall_mem_cons.2 ⟨fun _ _ _ h _=>h,List.forall_mem_cons.2 ⟨fun _ _ _ h _=>h,List.forall_mem_cons.2 ⟨fun _ _ _ h _=>h,List.forall_mem_cons.2 ⟨fun _ _ _ h _=>h,List.forall_mem_cons.2 ⟨fun _ _ _ h _=>h,List.forall_mem_cons.2 ⟨fun _ _ _ h _=>h,List.forall_mem_cons.2 ⟨fun _ _ _ h _=>h,List.forall_mem_cons.2 ⟨fun _ _ _ h _=>h,List.forall_mem_cons.2 ⟨fun _ _ _ h _=>h,List.forall_mem_cons.2 ⟨fun _ _ _ h _=>h,List.forall_mem_cons.2 ⟨fun _ _ _ h _=>h,List.forall_mem_cons.2 ⟨fun _ _ _ h _=>h,List.forall_mem_cons.2 ⟨fun _ _ _ h _=>h,(fun _ h=>by cases h)⟩⟩⟩⟩⟩⟩⟩⟩⟩⟩⟩⟩⟩⟩⟩⟩⟩⟩
  refine cT (by kernel_rfl) 18 (fun _=>none) (fun wx=>Row wx g 31 [.int .i64 b.now,.slice A1 n1 c1,.slice A2 n2 c2,.slice A3 n3 c3,.slice A4 n4 c4,.slice (some ⟨gE,0,none⟩) n5 c5,.slice A6 n6 c6]∧Row wx g1 72 D∧Cl wx gE (k*7) [.slice (some ⟨gV,0,none⟩) (m+1) b1]∧Cl wx gV (m*17) CL∧Below wa.heap.size wa wx) (fun _ w w'=>Below w.heap.size w w') _ (fun j v w w' i _ h hR=>fC bQ (fun _ _ _ _ _=>trivial) i v w w' h hR) (by kernel_rfl) (by kernel_rfl) (fun _ _ h=>by cases h) ⟨RB.drew,R1.drew,fun j u hu=>ux j u hu,fun j u hu=>aO j u hu,(Below.refl _ _).drew⟩ ?_ ?_
  ·clear bQ;refine⟨fun _ a wx hG hr hb K hK=>?_,?_⟩
   ·have e1:=aq (hb 0);rw[if_pos (by rfl)];unfold Oper.wp execOp
    go_simp
    exact hK _ _ rfl hG (Below.refl _ _)
   refine⟨fun _ a wx hG hr hb K hK=>?_,?_⟩
   ·have e1:=aq (hr 0 41);rw[if_pos (by rfl)];unfold Oper.wp execOp
    go_simp
    exact hK _ _ rfl hG (Below.refl _ _)
   refine⟨fun _ a wx hG hr hb K hK=>?_,?_⟩
   ·have e:=aM (hr 1 42);rw[if_pos (by rfl)];unfold Oper.wp execOp;exact kh e aN hG.1 rfl (hK _ _ rfl hG (Below.refl _ _))
   refine⟨fun _ a wx hG hr hb K hK=>?_,?_⟩
   ·have e1:=aq (hb 6);rw[if_pos (by rfl)];unfold Oper.wp execOp
    go_simp
    exact hK _ _ rfl hG (Below.refl _ _)
   refine⟨fun _ a wx hG hr hb K hK=>?_,?_⟩
   ·have e1:=aq (hr 3 44);rw[if_pos (by rfl)];unfold Oper.wp execOp
    go_simp
    exact hK _ _ rfl hG (Below.refl _ _)
   refine⟨fun _ a wx hG hr hb K hK=>?_,?_⟩
   ·have e1:=aq (hr 4 45);rw[if_pos (by rfl)];unfold Oper.wp execOp
    go_simp
    exact hK _ _ rfl hG (Below.refl _ _)
   refine⟨fun _ a wx hG hr hb K hK=>?_,?_⟩
   ·have e1:=aq (hr 5 46);exact Rt
   refine⟨fun _ a wx hG hr hb K hK=>?_,?_⟩
   ·have e1:=aq (hb 6);rw[if_pos (by rfl)];unfold Oper.wp execOp
    go_simp
    exact hK _ _ rfl hG (Below.refl _ _)
   refine⟨fun _ a wx hG hr hb K hK=>?_,?_⟩
   ·have e1:=aq (hr 7 48);rw[if_pos (by rfl)];unfold Oper.wp execOp
    go_simp
    exact hK _ _ rfl hG (Below.refl _ _)
   refine⟨fun _ a wx hG hr hb K hK=>?_,?_⟩
   ·have e1:=aq (hr 8 49);rw[if_pos (by rfl)];unfold Oper.wp execOp
    go_simp
    exact hK _ _ rfl hG (Below.refl _ _)
   refine⟨fun _ a wx hG hr hb K hK=>?_,?_⟩
   ·have e1:=aq (hr 9 50);exact Rt
   refine⟨fun _ a wx hG hr hb K hK=>?_,?_⟩
   ·have e1:=aq (hr 10 51);rw[if_pos (by rfl)];unfold Oper.wp execOp
    go_simp
    exact hK _ _ rfl hG (Below.refl _ _)
   refine⟨fun _ a wx hG hr hb K hK=>?_,?_⟩
   ·have e1:=aq (hr 11 52);rw[if_pos (by rfl)];unfold Oper.wp execOp
    have Ax:IntKind.i64.wrap (m:Int)=(m:Int):=by rw[IntKind.wrap_i64];omega
    go_simp
    refine hK _ _ ?_ hG (Below.refl _ _)
    first|rfl|(simp only[Ax];done)|(rw[Ax];done)
   refine⟨fun _ a wx hG hr hb K hK=>?_,?_⟩
   ·have e1:=aq (hr 6 47);have e2:=aq (hr 12 53);rw[if_pos (by rfl)];unfold Oper.wp execOp
    go_simp
    rw[if_pos (by omega)];exact hK _ _ rfl hG (Below.refl _ _)
   refine⟨fun _ a wx hG hr hb K hK=>?_,?_⟩
   ·have e:=aM (hr 13 54);rw[if_pos (by rfl)];unfold Oper.wp execOp;exact sE e aU hG.2.2.2.1 Cp (hK _ _ rfl hG (Below.refl _ _))
   refine⟨fun _ a wx hG hr hb K hK=>?_,?_⟩
   ·have e1:=aq (hb 3);rw[if_pos (by rfl)];unfold Oper.wp execOp
    go_simp
    exact hK _ _ rfl hG (Below.refl _ _)
   refine⟨fun _ a wx hG hr hb K hK=>?_,?_⟩
   ·have e:=aM (hr 15 56);rw[if_pos (by rfl)];unfold Oper.wp execOp;exact uN e lG hG.2.1 hCM rfl (hK _ _ rfl hG (Below.refl _ _))
   refine⟨fun _ a wx hG hr hb K hK=>?_,?_⟩
   ·have e1:=aq (hr 2 43);have e2:=aq (hr 14 55);have e3:=aq (hr 16 57);rw[if_pos (by rfl)];unfold Oper.wp execOp
    go_simp
    refine(HSU wx hG.2.2.2.2).mono ?_;rintro e' w' ⟨⟨z,rfl⟩,aY⟩;exact hK _ _ ⟨z,rfl⟩ ⟨hG.1.keep aY,hG.2.1.keep aY,hG.2.2.1.below aY (hG.2.2.1.lt Nat.zero_lt_one),hG.2.2.2.1.below aY (hG.2.2.2.1.lt (by rw[Cp];decide)),hG.2.2.2.2.trans (aY.mono hG.2.2.2.2.size)⟩ aY
   exact⟨fun h=>absurd h (by decide),trivial⟩
  ·intro v wx oo AA hA ho hG hV K hK
   simp[dh,bD,List.range,List.range.loop,Act.put] at hA
   have e0:=aM (hV 0 (by decide) rfl);have e1:=aM (hV 1 (by decide) rfl);have e2:=aM (hV 2 (by decide) rfl);have e3:=aM (hV 3 (by decide) rfl);have e4:=aM (hV 4 (by decide) rfl);have e5:=aM (hV 5 (by decide) rfl);have e6:=aM (hV 6 (by decide) rfl);have e7:=aM (hV 7 (by decide) rfl);have e8:=aM (hV 8 (by decide) rfl);have e9:=aM (hV 9 (by decide) rfl);have ic:=aM (hV 10 (by decide) rfl);have iA:=aM (hV 11 (by decide) rfl);have mM:=aM (hV 12 (by decide) rfl);have pO:=aM (hV 13 (by decide) rfl);have vW:=aM (hV 14 (by decide) rfl);have xb:=aM (hV 15 (by decide) rfl);have Ai:=aM (hV 16 (by decide) rfl);obtain⟨z,DJ⟩:=hV 17 (by decide) rfl;rw[e0,e1,e2,e3,e4,e5,e6,e7,e8,e9,ic,iA,mM,pO,vW,xb,Ai,DJ] at hA;subst hA;clear hV bQ e0 e1 e2 e3 e4 e5 e6 e7 e8 e9 ic iA mM pO vW xb Ai DJ;have bU:some _=some oo:=ho
   injection bU with bU
   subst bU;clear ho;rw[if_pos (by rfl)];unfold Oper.wp execOp
   go_simp
   refine hK _ _ ?_;have ey:=hG.2.2.2.2;replace RB:=RB.keep ey;replace R1:=R1.keep ey;replace O1:=I O1 ey;replace O2:=I O2 ey;replace O3:=I O3 ey;replace O4:=I O4 ey;replace O6:=I O6 ey;replace HE:=HE.aa (t:=31) (ah.ab ey);replace BB:=az BB ey;clear dx dA dB dC dt dD di bJ aI aK;clear hG ey HSU hK ux
   by_cases cD:z=0
   case neg=>
    go_wp2_with fail
    go_ret
    exact fH.err cD (fun h=>h) BB
   subst cD;have dx:=U (RB.cell 0);have dA:=U (RB.cell 1);have dB:=U (RB.cell 2);have dC:=U (RB.cell 3);have dt:=U (RB.cell 4);have dD:=U (RB.cell 5);have di:=U (RB.cell 6);have bJ:=ae R1 d1;have aI:=ae R1 d2;have aK:=ae R1 d4;have bC:=trivial
   go_wp2_with (first
    |(clear bC;(with_reducible refine sN ?_ lG R1 hCM rfl ?_);rfl;have cz:=trivial))
   try clear cz
   refine(kr AM nM kM c.rows _ (hRM.below BB) hnM).mono ?_;rintro r x3 ⟨vm,rfl,HVM,bh⟩;obtain⟨us,ul,uo,ui⟩:=HVM;obtain⟨X,y,rfl,_,_⟩:=aj uo;have HVM:i' w0.heap.size x3 (.slice X c.rows.length y) c.rows:=i'.lower ⟨us,ul,uo,ui⟩ BB.size;clear ul uo ui;replace RB:=RB.keep bh;replace R1:=R1.keep bh;replace O1:=I O1 bh;replace O2:=I O2 bh;replace O3:=I O3 bh;replace O4:=I O4 bh;replace O6:=I O6 bh;replace HE:=HE.aa (t:=31) (ah.ab bh);replace BB:=az BB bh;clear dx dA dB dC dt dD di bJ aI aK;have dx:=U (RB.cell 0);have dA:=U (RB.cell 1);have dB:=U (RB.cell 2);have dC:=U (RB.cell 3);have dt:=U (RB.cell 4);have dD:=U (RB.cell 5);have di:=U (RB.cell 6);have bJ:=ae R1 d1;have aI:=ae R1 d2;have aK:=ae R1 d4;clear bh;have pS:=trivial
   go_wp2_with (first|(clear pS;(with_reducible refine vO (j:=6) (D:=[.slice X c.rows.length y]) ?_ rfl ?_ lG HE rfl (by simp) (by simp[Value.oneCell']) ?_);rfl;rfl;intro w9 yS))
   go_ret
   have P9:=yS.1;have kt:=P9.aa HE.cl.2.1;have cu:g≠gE:=dE.ne RB.ty HE.cl.2.1 (by decide);obtain⟨p1,p2,p3,p4,p5⟩:=jf HE.entry;have hq:=yS.at_ (e':= {e with rows:=c.rows}) HE (by simp) ⟨_,_,_,_,_,rfl,p1.aa kt,kt.own p2,kt.own p3,kt.own p4,HVM.aa kt⟩ (Or.inl rfl);exact oG (BB.trans (P9.below HE.cl.2.2)) (P9.row RB cu) (kt.own O1) (kt.own O2) (kt.own O3) (kt.own O4) (kt.own O6) hq rfl Kg.out (Or.inl rfl) ⟨Nat.le_succ _,Nat.le_succ _,Nat.le_succ _,Or.inr (Or.inr rfl)⟩
end
end Go.Proofs.YtdnpopjabpklnaaGreatDoor
