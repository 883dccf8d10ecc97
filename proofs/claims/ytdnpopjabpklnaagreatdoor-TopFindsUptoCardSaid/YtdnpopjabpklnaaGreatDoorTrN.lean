/- Contracts and plain laws that the proof of the top laws uses (TrN). No condition beyond those stated. -/
import Derived.Test.YtdnpopjabpklnaaGreatDoorG14
set_option maxRecDepth 100000
set_option maxHeartbeats 64000000
set_option linter.all false
namespace Go.Proofs.YtdnpopjabpklnaaGreatDoor
section
open Go.RowKit
open Tryz
theorem Ru {P:Prop} (h:P:=by
 have c0:wx.cell? ⟨gE,k*7,none⟩=some (.slice (some ⟨gV,0,none⟩) (m+1) b1):=hG.1 0 _ rfl;rw[if_pos (by rfl)];unfold Oper.wp execOp
 go_simp
 exact hK _ _ rfl hG (Below.refl _ _)):P:=h
theorem VN (t g:Nat) (b:cK) (c:eH) (C D:List Value) (w0 w:World) (kl:Below w0.heap.size w0 w) (hg:w0.heap.size≤g) (hR:Row w g 31 C) (hO:cZ w0.heap.size w C b) (hI:gL t b) (ht:t≤1000) (hD:je w0 D c) (hc:lR c) (hm:jl w0) (om:rh w0):
  Calls prog 41 #[.pointer (some ⟨g,0,none⟩),.agg D.toArray] w (fH w0 g b c (False) (fun _=>True)):=by
 obtain⟨A1,n1,c1,A2,n2,c2,A3,n3,c3,A4,n4,c4,A5,n5,c5,A6,n6,c6,rfl,O1,O2,O3,O4,O5,O6,q1,q2,q3,q4,q5,q6,m3,m4,m5,m6⟩:=hO.open_;obtain⟨nO,_,d1,d2,d3,d4,_,d6,_,_,_,_,_,_,_⟩:=ko hD;have BB:=kl;have RB:=hR
 have CA:n3≤1000:=by have:=hI.dJ;omega
 have Eb:n4≤1000:=by have:=hI.af;omega
 have tt:n5≤1000:=by have:=hI.entries;omega
 have pQ:n6≤1000:=by have:=hI.ft;omega
 have ix:n1≤1100000:=by have:=hI.aP;omega
 have pj:n3≤1100000:=by have:=hI.dJ;omega
 have CD:n4≤1100000:=by have:=hI.af;omega
 have yN:n5≤1100000:=by have:=hI.entries;omega
 have wg:n6≤1100000:=by have:=hI.ft;omega
 have ri:=Lib.hid q3;have pL:=Lib.hid q4;have mL:=Lib.hid q5;have Fw:=Lib.hid q6;have HI:=Lib.hid hI;clear hR q1 q2 q3 q4 q5 q6 hI
 go_enter func41,ntmps41
 have aL:=trivial
 go_wp2_with (first
  |(clear aL;(with_reducible refine ao (C:=D) ?_ ?_);rfl;intro x1 g1 aR R1 aw;have vI:=h_ RB aR;have eV:=jq BB aR;replace RB:=RB.keep aw;replace O1:=I O1 aw;replace O2:=I O2 aw;replace O3:=I O3 aw;replace O4:=I O4 aw;replace O6:=I O6 aw;replace O5:=O5.aa (t:=31) (ah.ab aw);replace BB:=az BB aw;have bJ:=ae R1 d1;have aI:=ae R1 d2;have eo:=ae R1 d3;have aK:=ae R1 d4;have eQ:=ae R1 d6;clear aw aR;have aJ:=trivial))
 try clear aJ
 have dx:=U (RB.cell 0);have dA:=U (RB.cell 1);have dB:=U (RB.cell 2);have dC:=U (RB.cell 3);have dt:=U (RB.cell 4);have dD:=U (RB.cell 5);have di:=U (RB.cell 6);have zl:=RB.lt;have z1:=R1.lt;have OB:cZ w0.heap.size x1 [.int .i64 b.now,.slice A1 n1 c1,.slice A2 n2 c2,.slice A3 n3 c3,.slice A4 n4 c4,.slice A5 n5 c5,.slice A6 n6 c6] b:=⟨_,_,_,_,_,_,rfl,O1,O2,O3,O4,O5,O6⟩
 have wR:=fun W (hb:Below x1.heap.size x1 W)=>m_ [.int .i64 b.now,.slice A1 n1 c1,.slice A2 n2 c2,.slice A3 n3 c3,.slice A4 n4 c4,.slice A5 n5 c5,.slice A6 n6 c6] b c.id W ((OB.below hb).lower (Nat.zero_le _))
 obtain⟨fi,rF⟩:∃fi,fi=fR b.entries c.id:=⟨_,rfl⟩;rw[←rF] at wR;have tg:=Lib.hid rF;clear rF OB
 go_region_held3 (fun w'=>w'.cell? ⟨g,0,none⟩=some (.int .i64 b.now)∧w'.cell? ⟨g,1,none⟩=some (.slice A1 n1 c1)∧w'.cell? ⟨g,2,none⟩=some (.slice A2 n2 c2)∧w'.cell? ⟨g,3,none⟩=some (.slice A3 n3 c3)∧w'.cell? ⟨g,4,none⟩=some (.slice A4 n4 c4)∧w'.cell? ⟨g,5,none⟩=some (.slice A5 n5 c5)∧w'.cell? ⟨g,6,none⟩=some (.slice A6 n6 c6)∧w'.cell? ⟨g1,4,none⟩=some (.int .i64 c.id))
  ((with_reducible refine And.intro (aT zl dx ?_) (And.intro (aT zl dA ?_) (And.intro (aT zl dB ?_) (And.intro (aT zl dC ?_) (And.intro (aT zl dt ?_) (And.intro (aT zl dD ?_) (And.intro (aT zl di ?_) (aT z1 aK ?_))))))))<;>((repeat(first|with_reducible exact Below.refl _ _|with_reducible refine ar ax ?_|with_reducible refine ar aC ?_|with_reducible refine al ?_ _|with_reducible refine bL ?_));done))
  (first
   |(go_at_call 32;((with_reducible refine(wR _ ?_).mono ?_);(repeat(first|with_reducible exact Below.refl _ _|with_reducible refine ar ax ?_|with_reducible refine ar aC ?_|with_reducible refine al ?_ _|with_reducible refine bL ?_));rintro r wa ⟨rfl,aC⟩)))
 replace aC:=fU aC;clear wR zl z1;replace RB:=RB.keep aC;replace R1:=R1.keep aC;replace O1:=I O1 aC;replace O2:=I O2 aC;replace O3:=I O3 aC;replace O4:=I O4 aC;replace O6:=I O6 aC;replace O5:=O5.aa (t:=31) (ah.ab aC);replace BB:=az BB aC;clear dx dA dB dC dt dD di bJ aI eo aK eQ;clear aC
 by_cases DZ:fi<0
 case pos=>
  go_wp2_with fail
  go_ret
  exact fH.err (by decide) (fun h=>h) BB
 obtain⟨k,e,Cy,sr,hid,tv,gA⟩:=qv (es:=b.entries) (q:=c.id) (by rw[←tg.out];omega);have D_:=tg.out.trans Cy;clear tg Cy;subst D_;clear DZ
 have DZ:¬((k:Int)<0):=by omega
 obtain⟨gE,E1,b1,E2,b2,E3,b3,E4,b4,E5,b5,Cs,OF,HE⟩:=qu O5 sr;clear O5;subst OF;obtain⟨m,hm⟩:∃m,e.aD.length=m+1:=⟨e.aD.length - 1,by omega⟩;obtain⟨gV,it,CL,rfl,hx,uC,Bo,aO,Cp,mu,FU,hVt,hVb,aC⟩:=AV HE hm;have EI:=HI.out.entry e (List.mem_of_getElem? sr);obtain⟨iv,ish,isz⟩:=EI.item it uC;have ipt:=(jH iv).aP
 have nW:(k:Int)<(n5:Int):=by rw[mL.out];omega
 have W7:decide ((k:Int)<(n5:Int))=true:=decide_eq_true nW
 have m45:m≤1100000:=by have:=EI.aD;omega
 have th:=Lib.hid hid;have QE:=Lib.hid Bo;have zG:=Lib.hid hm;have HX:=Lib.hid hx;have Kg:=Lib.hid sr;have Kf:=Lib.hid EI;have HIV:=Lib.hid iv;clear hid Bo hm hx sr uC EI iv tv gA aC;have dx:=U (RB.cell 0);have dA:=U (RB.cell 1);have dB:=U (RB.cell 2);have dC:=U (RB.cell 3);have dt:=U (RB.cell 4);have dD:=U (RB.cell 5);have di:=U (RB.cell 6);have bJ:=ae R1 d1;have aI:=ae R1 d2;have eo:=ae R1 d3;have aK:=ae R1 d4;have eQ:=ae R1 d6;have dp:=HE.cl.1;unfold dP at dp;rw[zG.out] at dp;have yh:wa.cell? ⟨gE,k*7,none⟩=some (.slice (some ⟨gV,0,none⟩) (m+1) b1):=dp 0 _ rfl;have vV:wa.cell? ⟨gE,k*7+1,none⟩=some (.int .i64 e.state):=dp 1 _ rfl;have yj:wa.cell? ⟨gE,k*7+2,none⟩=some (.int .i64 e.bF):=dp 2 _ rfl;have yk:wa.cell? ⟨gE,k*7+3,none⟩=some (.slice E2 e.b_.length b2):=dp 3 _ rfl;have yl:wa.cell? ⟨gE,k*7+4,none⟩=some (.slice E3 e.fair.length b3):=dp 4 _ rfl;have yn:wa.cell? ⟨gE,k*7+5,none⟩=some (.slice E4 e.log.length b4):=dp 5 _ rfl;have yp:wa.cell? ⟨gE,k*7+6,none⟩=some (.slice E5 e.rows.length b5):=dp 6 _ rfl;clear dp;clear yh vV yj yk yl yn yp dx dA dB dC dt di
 go_wp2_with fail
 have dp:=HE.cl.1;unfold dP at dp;rw[zG.out] at dp
 have ux:Cl wa gE (k*7) [.slice (some ⟨gV,0,none⟩) (m+1) b1]:=by have:=dp.part 0 1;exact this
 clear dp
 have bQ:∀p∈([
   (fun v _=>v=.pointer (some ⟨gE,k*7,none⟩)),
  (fun v _=>v=.pointer (some ⟨gE,k*7,none⟩)),
  (fun v _=>v=.pointer (some ⟨gE,k*7,none⟩)),
  (fun v _=>v=.slice (some ⟨gV,0,none⟩) (m+1) b1),
  (fun v _=>v=.pointer (some ⟨gE,k*7,none⟩)),
  (fun v _=>v=.pointer (some ⟨gE,k*7,none⟩)),
  (fun v _=>v=.pointer (some ⟨gE,k*7,none⟩)),
  (fun v _=>v=.slice (some ⟨gV,0,none⟩) (m+1) b1),
  (fun v _=>v=.int .i64 ((m+1:Nat):Int)),
  (fun v _=>v=.int .i64 (m:Int)),
  (fun v _=>v=.pointer (some ⟨gV,m*17,none⟩)),
  (fun v _=>v=.agg CL.toArray),
  (fun v w=>∃(p:Nat) (Z:List Value),(Row w p 47 Z∧Z.length=17∧wa.heap.size≤p)∧v=.pointer (some ⟨p,0,none⟩))]:List (Value→World→Prop)),∀v w w',p v w→Below w.heap.size w w'→p v w':=by
  refine List.forall_mem_cons.2 ⟨fun _ _ _ h _=>h,List.forall_mem_cons.2 ⟨fun _ _ _ h _=>h,List.forall_mem_cons.2 ⟨fun _ _ _ h _=>h,List.forall_mem_cons.2 ⟨fun _ _ _ h _=>h,List.forall_mem_cons.2 ⟨fun _ _ _ h _=>h,List.forall_mem_cons.2 ⟨fun _ _ _ h _=>h,List.forall_mem_cons.2 ⟨fun _ _ _ h _=>h,List.forall_mem_cons.2 ⟨fun _ _ _ h _=>h,List.forall_mem_cons.2 ⟨fun _ _ _ h _=>h,List.forall_mem_cons.2 ⟨fun _ _ _ h _=>h,List.forall_mem_cons.2 ⟨fun _ _ _ h _=>h,List.forall_mem_cons.2 ⟨fun _ _ _ h _=>h,List.forall_mem_cons.2 ⟨fun v w w' ⟨p,Z,⟨h1,h2,h3⟩,e⟩ hb=>⟨p,Z,⟨h1.keep hb,h2,h3⟩,e⟩,(fun _ h=>by cases h)⟩⟩⟩⟩⟩⟩⟩⟩⟩⟩⟩⟩⟩
 refine cT (by kernel_rfl) 13 (fun _=>none) (fun wx=>Cl wx gE (k*7) [.slice (some ⟨gV,0,none⟩) (m+1) b1]∧Cl wx gV (m*17) CL∧Below wa.heap.size wa wx) (fun _ w w'=>Below w.heap.size w w') _ (fun j v w w' i _ h hR=>fC bQ (fun _ _ _ _ _=>trivial) i v w w' h hR) (by kernel_rfl) (by kernel_rfl) (fun _ _ h=>by cases h) ⟨fun j u hu=>ux j u hu,fun j u hu=>aO j u hu,(Below.refl _ _).drew⟩ ?_ ?_
 ·clear bQ;refine⟨fun _ a wx hG hr hb K hK=>?_,?_⟩
  ·have e1:=aq (hb 6);rw[if_pos (by rfl)];unfold Oper.wp execOp
   go_simp
   exact hK _ _ rfl hG (Below.refl _ _)
  refine⟨fun _ a wx hG hr hb K hK=>?_,?_⟩
  ·have e1:=aq (hr 0 24);rw[if_pos (by rfl)];unfold Oper.wp execOp
   go_simp
   exact hK _ _ rfl hG (Below.refl _ _)
  refine⟨fun _ a wx hG hr hb K hK=>?_,?_⟩
  ·have e1:=aq (hr 1 25);rw[if_pos (by rfl)];unfold Oper.wp execOp
   go_simp
   exact hK _ _ rfl hG (Below.refl _ _)
  refine⟨fun _ a wx hG hr hb K hK=>?_,?_⟩
  ·have e1:=aq (hr 2 26);exact Ru
  refine⟨fun _ a wx hG hr hb K hK=>?_,?_⟩
  ·have e1:=aq (hb 6);rw[if_pos (by rfl)];unfold Oper.wp execOp
   go_simp
   exact hK _ _ rfl hG (Below.refl _ _)
  refine⟨fun _ a wx hG hr hb K hK=>?_,?_⟩
  ·have e1:=aq (hr 4 28);rw[if_pos (by rfl)];unfold Oper.wp execOp
   go_simp
   exact hK _ _ rfl hG (Below.refl _ _)
  refine⟨fun _ a wx hG hr hb K hK=>?_,?_⟩
  ·have e1:=aq (hr 5 29);rw[if_pos (by rfl)];unfold Oper.wp execOp
   go_simp
   exact hK _ _ rfl hG (Below.refl _ _)
  refine⟨fun _ a wx hG hr hb K hK=>?_,?_⟩
  ·have e1:=aq (hr 6 30);exact Ru
  refine⟨fun _ a wx hG hr hb K hK=>?_,?_⟩
  ·have e1:=aq (hr 7 31);rw[if_pos (by rfl)];unfold Oper.wp execOp
   go_simp
   exact hK _ _ rfl hG (Below.refl _ _)
  refine⟨fun _ a wx hG hr hb K hK=>?_,?_⟩
  ·have e1:=aq (hr 8 32);rw[if_pos (by rfl)];unfold Oper.wp execOp
   have Ax:IntKind.i64.wrap (m:Int)=(m:Int):=by rw[IntKind.wrap_i64];omega
   go_simp
   refine hK _ _ ?_ hG (Below.refl _ _)
   first|rfl|(simp only[Ax];done)|(rw[Ax];done)
  refine⟨fun _ a wx hG hr hb K hK=>?_,?_⟩
  ·have e1:=aq (hr 3 27);have e2:=aq (hr 9 33);rw[if_pos (by rfl)];unfold Oper.wp execOp
   go_simp
   rw[if_pos (by omega)];exact hK _ _ rfl hG (Below.refl _ _)
  refine⟨fun _ a wx hG hr hb K hK=>?_,?_⟩
  ·have e:=aM (hr 10 34);rw[if_pos (by rfl)];unfold Oper.wp execOp;exact sE e aU hG.2.1 Cp (hK _ _ rfl hG (Below.refl _ _))
  refine⟨fun _ a wx hG hr hb K hK=>?_,?_⟩
  ·rw[if_pos (by rfl)];refine vJ fY ?_;rintro w' p Z hp hZ hR aY;exact hK _ _ ⟨p,Z,⟨hR,hZ,by have:=hG.2.2.size;omega⟩,rfl⟩ ⟨hG.1.below aY (hG.1.lt Nat.zero_lt_one),hG.2.1.below aY (hG.2.1.lt (by rw[Cp];decide)),hG.2.2.trans (aY.mono hG.2.2.size)⟩ aY
  exact⟨fun h=>absurd h (by decide),trivial⟩
 ·intro v wx oo AA hA ho hG hV K hK
  simp[dh,bD,List.range,List.range.loop,Act.put] at hA
  obtain⟨p,Z,⟨RP,hZ,hp⟩,mM⟩:=hV 12 (by decide) rfl;have e0:=aM (hV 0 (by decide) rfl);have e1:=aM (hV 1 (by decide) rfl);have e2:=aM (hV 2 (by decide) rfl);have e3:=aM (hV 3 (by decide) rfl);have e4:=aM (hV 4 (by decide) rfl);have e5:=aM (hV 5 (by decide) rfl);have e6:=aM (hV 6 (by decide) rfl);have e7:=aM (hV 7 (by decide) rfl);have e8:=aM (hV 8 (by decide) rfl);have e9:=aM (hV 9 (by decide) rfl);have ic:=aM (hV 10 (by decide) rfl);have iA:=aM (hV 11 (by decide) rfl);rw[mM,e0,e1,e2,e3,e4,e5,e6,e7,e8,e9,ic,iA] at hA;subst hA;clear hV mM e0 e1 e2 e3 e4 e5 e6 e7 e8 e9 ic iA
  try clear bQ
  have bU:some _=some oo:=ho
  injection bU with bU
  subst bU;clear ho;rw[if_pos (by rfl)];refine sF (g:=p) (t:=47) (C:=CL) (Z:=Z) ?_ ?_ aU RP Cp hZ mu.one ?_
  ·rfl
  ·rfl
  intro w9 R7 P9;refine hK _ _ ?_;have eU:=hG.2.2.trans (P9.below hp);clear hG P9 RP hK ux;replace RB:=RB.keep eU;replace R1:=R1.keep eU;replace O1:=I O1 eU;replace O2:=I O2 eU;replace O3:=I O3 eU;replace O4:=I O4 eU;replace O6:=I O6 eU;replace HE:=HE.aa (t:=31) (ah.ab eU);replace BB:=az BB eU;clear dD bJ aI eo aK eQ;have qz:=aO.below eU FU;clear aO;have aO:=qz;have LK:=Nat.lt_of_lt_of_le FU eU.size;replace mu:=mu.below eU;clear FU qz;have FU:=LK;clear LK eU;have YO:g≠p:=dE.ne RB.ty R7.ty (by decide);have YL:g1≠p:=dE.ne R1.ty R7.ty (by decide);have dp:=HE.cl.1;unfold dP at dp;rw[zG.out] at dp;have yh:w9.cell? ⟨gE,k*7,none⟩=some (.slice (some ⟨gV,0,none⟩) (m+1) b1):=dp 0 _ rfl;have vV:w9.cell? ⟨gE,k*7+1,none⟩=some (.int .i64 e.state):=dp 1 _ rfl;have yj:w9.cell? ⟨gE,k*7+2,none⟩=some (.int .i64 e.bF):=dp 2 _ rfl;have yk:w9.cell? ⟨gE,k*7+3,none⟩=some (.slice E2 e.b_.length b2):=dp 3 _ rfl;have yl:w9.cell? ⟨gE,k*7+4,none⟩=some (.slice E3 e.fair.length b3):=dp 4 _ rfl;have yn:w9.cell? ⟨gE,k*7+5,none⟩=some (.slice E4 e.log.length b4):=dp 5 _ rfl;have yp:w9.cell? ⟨gE,k*7+6,none⟩=some (.slice E5 e.rows.length b5):=dp 6 _ rfl;clear dp;obtain⟨i2,_⟩:=Ew mu;have c_:=ae R7 i2;have eQ:=ae R1 d6;obtain⟨ac,d6b⟩:∃ac,D[6]? =some (.int .i64 ac):=⟨_,d6⟩;clear d6
  go_wp2_with fail
  all_goals first
   |(go_ret;exact fH.err (by decide) (fun h=>h) BB)
   |skip
  all_goals
   clear yh vV yj yk yl yn yp c_ eQ;have dp:=HE.cl.1;unfold dP at dp
   skip
   have I0:Cl w9 gE (k*7+1) [.int .i64 e.state,.int .i64 e.bF,.slice E2 e.b_.length b2,.slice E3 e.fair.length b3,.slice E4 e.log.length b4]:=by have:=dp.part 1 5;exact this
   clear dp;obtain⟨pV,pa,pf,pl,pm⟩:=jf HE.entry;have S2:=bZ pa;have S3:=bZ pf;have S4:=bZ pl;have L2:=Kf.out.b_;have L3:=Kf.out.fair;have L4:=Kf.out.log
   have Vw:=fun W (hb:Below w9.heap.size w9 W)=>BO e.state e.bF (ac) c.user c.il c.time E2 E3 E4 e.b_.length e.fair.length e.log.length b2 b3 b4 e.b_ e.fair e.log W (S2.below (by decide) hb) (S3.below (by decide) hb) (S4.below (by decide) hb) rfl rfl rfl (by omega) (by omega) (by omega)
   clear S2 S3 S4 pV pa pf pl pm L2 L3 L4;have z8:=BB.size;have RB8:=RB;have VE:=R1;have LB:=I0;have YI:=I0.lt (by simp)
   refine fl (by kernel_rfl) 14 (fun i=>none) (fun wx=>Row wx g1 72 D∧Cl wx gE (k*7+1) [.int .i64 e.state,.int .i64 e.bF,.slice E2 e.b_.length b2,.slice E3 e.fair.length b3,.slice E4 e.log.length b4]∧Below w9.heap.size w9 wx) (fun j w w'=>jb w0.heap.size e.b_.length e.fair.length e.log.length w9.heap.size 13 j w w') [
     (fun v _=>v=.pointer (some ⟨gE,k*7,none⟩)),
  (fun v _=>v=.pointer (some ⟨gE,k*7,none⟩)),
  (fun v _=>v=.pointer (some ⟨gE,k*7+1,none⟩)),
  (fun v _=>v=.agg ([.int .i64 e.state,.int .i64 e.bF,.slice E2 e.b_.length b2,.slice E3 e.fair.length b3,.slice E4 e.log.length b4]:List Value).toArray),
  (fun v _=>v=.agg D.toArray),
  (fun v _=>v=.pointer (some ⟨g1,6,none⟩)),
  (fun v _=>v=.int .i64 ac),
  (fun v _=>v=.agg (mi ⟨ac,c.user,c.il,c.time⟩).toArray),
  (fun v w=>∃(R:List Value) (z:Int),(R.length=5∧(∀u∈R,u.oneCell'=true)∧mh w0.heap.size e.b_.length e.fair.length e.log.length w R)∧v=.tuple #[.agg R.toArray,.int .i64 z]),
  (fun v w=>∃(R:List Value) (z:Int),(R.length=5∧(∀u∈R,u.oneCell'=true)∧mh w0.heap.size e.b_.length e.fair.length e.log.length w R)∧v=.tuple #[.agg R.toArray,.int .i64 z]),
  (fun v w=>∃(R:List Value),(R.length=5∧(∀u∈R,u.oneCell'=true)∧mh w0.heap.size e.b_.length e.fair.length e.log.length w R)∧v=.agg R.toArray),
  (fun v _=>∃z:Int,v=.int .i64 z),
  (fun v w=>∃p:Nat,qQ w0.heap.size e.b_.length e.fair.length e.log.length w9.heap.size w p∧v=.pointer (some ⟨p,0,none⟩)),
  (fun _ _=>True)] (fun j v w w' i bE hd hc h hR=>?_) (by kernel_rfl) (by kernel_rfl) (fun a b h=>by(try dsimp only at h);(repeat' split at h)<;>first|(injection h with h;omega)|cases h) ⟨R1.drew,fun j u hu=>I0 j u hu,(Below.refl _ _).drew⟩ ?_ ?_
   ·match i,bE,hd,hc,h with
    |0,bE,hd,hc,h=>exact h
    |1,bE,hd,hc,h=>exact h
    |2,bE,hd,hc,h=>exact h
    |3,bE,hd,hc,h=>exact h
    |4,bE,hd,hc,h=>exact h
    |5,bE,hd,hc,h=>exact h
    |6,bE,hd,hc,h=>exact h
    |7,bE,hd,hc,h=>exact h
    |8,bE,hd,hc,h=>obtain⟨R,z,⟨a1,a2,a3⟩,e⟩:=h;exact⟨R,z,⟨a1,a2,a3.aa hR.2.1⟩,e⟩
    |9,bE,hd,hc,h=>obtain⟨R,z,⟨a1,a2,a3⟩,e⟩:=h;exact⟨R,z,⟨a1,a2,a3.aa hR.2.1⟩,e⟩
    |10,bE,hd,hc,h=>obtain⟨R,⟨a1,a2,a3⟩,e⟩:=h;exact⟨R,⟨a1,a2,a3.aa hR.2.1⟩,e⟩
    |11,bE,hd,hc,h=>exact h
    |12,bE,hd,hc,h=>obtain⟨p,a1,e⟩:=h;exact⟨p,hR.2.2 p a1,e⟩
    |13,bE,hd,hc,h=>trivial
    |n+14,_,_,_,_=>trivial
   ·refine⟨fun _ a wx hG hr hb K hK=>?_,?_⟩
    ·have e1:=aq (hb 6);rw[if_pos (by rfl)];unfold Oper.wp execOp
     go_simp
     exact hK _ _ rfl hG (jb.of (Below.refl _ _))
    refine⟨fun _ a wx hG hr hb K hK=>?_,?_⟩
    ·have e1:=aq (hr 0 54);rw[if_pos (by rfl)];unfold Oper.wp execOp
     go_simp
     exact hK _ _ rfl hG (jb.of (Below.refl _ _))
    refine⟨fun _ a wx hG hr hb K hK=>?_,?_⟩
    ·have e1:=aq (hr 1 55);rw[if_pos (by rfl)];unfold Oper.wp execOp
     go_simp
     exact hK _ _ rfl hG (jb.of (Below.refl _ _))
    refine⟨fun _ a wx hG hr hb K hK=>?_,?_⟩
    ·have e:=aM (hr 2 56);rw[if_pos (by rfl)];unfold Oper.wp execOp;exact sE e bd hG.2.1 rfl (hK _ _ rfl hG (jb.of (Below.refl _ _)))
    refine⟨fun _ a wx hG hr hb K hK=>?_,?_⟩
    ·have e:=aM (hb 3);rw[if_pos (by rfl)];unfold Oper.wp execOp;exact kh e fp hG.1 nO (hK _ _ rfl hG (jb.of (Below.refl _ _)))
    refine⟨fun _ a wx hG hr hb K hK=>?_,?_⟩
    ·have e1:=aq (hb 3);rw[if_pos (by rfl)];unfold Oper.wp execOp
     go_simp
     exact hK _ _ rfl hG (jb.of (Below.refl _ _))
    refine⟨fun _ a wx hG hr hb K hK=>?_,?_⟩
    ·have e1:=aq (hr 5 59);have c0:wx.cell? ⟨g1,6,none⟩=some (.int .i64 ac):=(hG.1.cell 6).trans (d6b);rw[if_pos (by rfl)];unfold Oper.wp execOp
     go_simp
     exact hK _ _ rfl hG (jb.of (Below.refl _ _))
    refine⟨fun _ a wx hG hr hb K hK=>?_,?_⟩
    ·have e1:=aq (hr 4 58);have e2:=aq (hr 6 60);rw[if_pos (by rfl)];unfold Oper.wp execOp
     go_simp
     refine(A8 D c.user c.il c.time (ac) wx d1 d2 d3).mono ?_;rintro e' w' ⟨rfl,aY⟩;exact hK _ _ rfl ⟨hG.1.keep aY,hG.2.1.below aY (hG.2.1.lt (by simp)),hG.2.2.trans (aY.mono hG.2.2.size)⟩ (jb.of aY)
    refine⟨fun _ a wx hG hr hb K hK=>?_,?_⟩
    ·have e1:=aq (hr 3 57);have e2:=aq (hr 7 61);rw[if_pos (by rfl)];unfold Oper.wp execOp
     go_simp
     refine(Vw wx hG.2.2).mono ?_;rintro e' w' ⟨R,z,hl,h1,rfl,aY,hR⟩;exact hK _ _ ⟨R,z,⟨hl,h1,hR.lower (Nat.le_trans z8 hG.2.2.size)⟩,rfl⟩ ⟨hG.1.keep aY,hG.2.1.below aY (hG.2.1.lt (by simp)),hG.2.2.trans (aY.mono hG.2.2.size)⟩ (jb.of aY)
    refine⟨fun _ a wx hG hr hb K hK=>?_,?_⟩
    ·rw[if_pos (by rfl)];unfold Oper.wp execOp;obtain⟨R,z,hh,e1⟩:=hr 8 62;rw[bR] at e1
     go_simp
     exact hK _ _ ⟨R,z,hh,rfl⟩ hG (jb.of (Below.refl _ _))
    refine⟨fun _ a wx hG hr hb K hK=>?_,?_⟩
    ·rw[if_pos (by rfl)];unfold Oper.wp execOp;obtain⟨R,z,hh,e1⟩:=hr 9 53;rw[bR] at e1
     go_simp
     exact hK _ _ ⟨R,hh,rfl⟩ hG (jb.of (Below.refl _ _))
    refine⟨fun _ a wx hG hr hb K hK=>?_,?_⟩
    ·rw[if_pos (by rfl)];unfold Oper.wp execOp;obtain⟨R,z,hh,e1⟩:=hr 9 53;rw[bR] at e1
     go_simp
     exact hK _ _ ⟨z,rfl⟩ hG (jb.of (Below.refl _ _))
    refine⟨fun _ a wx hG hr hb K hK=>?_,?_⟩
    ·rw[if_pos (by rfl)];refine MN sQ lZ ?_;rintro w' p hp hR aY;exact hK _ _ ⟨p,⟨_,hR,rfl,by simp[Value.oneCell'],mh.zero _ _ _ _ _,by have:=hG.2.2.size;omega⟩,rfl⟩ ⟨hG.1.keep aY,hG.2.1.below aY (hG.2.1.lt (by simp)),hG.2.2.trans (aY.mono hG.2.2.size)⟩ (jb.of aY)
    refine⟨fun _ a wx hG hr hb K hK=>?_,?_⟩
    ·rw[if_pos (by rfl)];obtain⟨p,hp,e1⟩:=hr 12 8;obtain⟨R,⟨hl,h1,hR⟩,e2⟩:=hr 10 63;obtain⟨R0,q1,q2,q3,q4,q5⟩:=id hp;refine sF (g:=p) (t:=39) (C:=R) (Z:=R0) e1 e2 bd q1 hl q2 h1 ?_;intro w' Ej hP;have F:=hG.2.2.trans (hP.below q5);have dW:=q1.ty;have I':=hP.aa dW;exact hK _ _ trivial ⟨VE.keep F,LB.below F YI,F⟩ ⟨fun h=>absurd rfl h,I',fun p' CG=>CG.st hP dW Ej hl h1 (hR.aa I')⟩
    exact⟨fun h=>absurd h (by decide),trivial⟩
   ·intro v wx oo AA hA ho hG hV K hK
    simp[dh,bD,List.range,List.range.loop,Act.put] at hA
    obtain⟨p8,hp8,mM⟩:=hV 12 (by decide) rfl;obtain⟨_,_,_,e9⟩:=hV 9 (by decide) rfl;have e0:=aM (hV 0 (by decide) rfl);have e1:=aM (hV 1 (by decide) rfl);have e2:=aM (hV 2 (by decide) rfl);have e3:=aM (hV 3 (by decide) rfl);have e4:=aM (hV 4 (by decide) rfl);have e5:=aM (hV 5 (by decide) rfl);have e6:=aM (hV 6 (by decide) rfl);have e7:=aM (hV 7 (by decide) rfl);obtain⟨_,_,_,e8⟩:=hV 8 (by decide) rfl;obtain⟨_,_,ic⟩:=hV 10 (by decide) rfl;obtain⟨z,iA⟩:=hV 11 (by decide) rfl;rw[mM,e9,e0,e1,e2,e3,e4,e5,e6,e7,e8,ic,iA] at hA;subst hA;clear hV mM e9 e0 e1 e2 e3 e4 e5 e6 e7 e8 ic iA
    try clear bQ
    have bU:some _=some oo:=ho
    injection bU with bU
    subst bU;clear ho;rw[if_pos (by rfl)];unfold Oper.wp execOp
    go_simp
    refine hK _ _ ?_;have ey:=hG.2.2;obtain⟨R,R8,WI,TK,hRO,hlo⟩:=hp8;replace RB:=RB.keep ey;replace R1:=R1.keep ey;replace O1:=I O1 ey;replace O2:=I O2 ey;replace O3:=I O3 ey;replace O4:=I O4 ey;replace O6:=I O6 ey;replace HE:=HE.aa (t:=31) (ah.ab ey);replace BB:=az BB ey;clear hG ey Vw hK I0 LB RB8 VE YI;have o8:w0.heap.size≤p8:=Nat.le_trans z8 hlo
    by_cases cD:z=0
    case neg=>
     go_wp2_with fail
     go_ret
     exact fH.err cD (fun h=>h) BB
    subst cD;obtain⟨st,au,va,vf,vl,zs,fs,log,rfl,o1,o2,o3,l1,l2,l3⟩:=hRO;have pS:=trivial
    go_wp2_with (first|(clear mU;(with_reducible refine vO (j:=1) (D:=[.int .i64 st,.int .i64 au,va,vf,vl]) ?_ rfl ?_ bd HE rfl (by simp) TK ?_);rfl;rfl;intro w9 yS)|(clear pS;(with_reducible refine ak ?_ bd R8 WI ?_);rfl;have mU:=trivial))
    go_ret
    have P9:=yS.1;have kt:=P9.aa HE.cl.2.1;have cu:g≠gE:=dE.ne RB.ty HE.cl.2.1 (by decide);obtain⟨p1,p2,p3,p4,p5⟩:=jf HE.entry;have hq:=yS.at_ (e':= {e with state:=st,bF:=au,b_:=zs,fair:=fs,log:=log}) HE (by simp) ⟨_,_,_,_,_,rfl,p1.aa kt,kt.own o1,kt.own o2,kt.own o3,p5.aa kt⟩ (Or.inl rfl);exact oG (BB.trans (P9.below HE.cl.2.2)) (P9.row RB cu) (kt.own O1) (kt.own O2) (kt.own O3) (kt.own O4) (kt.own O6) hq rfl Kg.out (Or.inl rfl) ⟨l1,l2,l3,Or.inl rfl⟩
end
end Go.Proofs.YtdnpopjabpklnaaGreatDoor
