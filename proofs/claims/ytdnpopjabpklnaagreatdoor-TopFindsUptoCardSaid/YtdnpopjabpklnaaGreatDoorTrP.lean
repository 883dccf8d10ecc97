/- Contracts and plain laws that the proof of the top laws uses (TrP). No condition beyond those stated. -/
import Derived.Test.YtdnpopjabpklnaaGreatDoorG14
import Derived.Test.YtdnpopjabpklnaaGreatDoorTrD
set_option maxRecDepth 100000
set_option maxHeartbeats 64000000
set_option linter.all false
namespace Go.Proofs.YtdnpopjabpklnaaGreatDoor
section
open Go.RowKit
open Tryz
theorem Ih {P:Prop} (h:P:=by
 rw[if_pos (by rfl)];unfold Oper.wp execOp;obtain⟨CC,⟨hO,oh⟩,e1⟩:=hr 7 116;rw[bR] at e1;obtain⟨vo,vc,vt,va,rfl,_⟩:=id hO;unfold fS at e1
 go_simp
 have aY:=ai wx (.cells (fS c.item vo vc vt va).toArray 47)
 exact hK _ _ ⟨wx.heap.size,_,⟨Row.new wx 47 (fS c.item vo vc vt va),cy.aa (t:=31) hO (ah.ab aY),oh⟩,rfl⟩ ⟨hG.1.keep aY,hG.2.1.below aY (hG.2.1.lt Nat.zero_lt_one),hG.2.2.1.below aY,hG.2.2.2.1.trans (ah.ab aY),I hG.2.2.2.2.1 aY,hG.2.2.2.2.2.trans (aY.mono hG.2.2.2.2.2.size)⟩ ⟨fun _=>aY,ah.ab aY⟩):P:=h
theorem Rv {P:Prop} (h:P:=by
 have pS:=trivial
 go_wp2_with (first|(clear pS;(with_reducible refine vO (j:=6) (D:=[.slice none 0 0]) ?_ rfl ?_ lG Hv rfl (by simp) (by simp[Value.oneCell']) ?_);rfl;rfl;intro wz abD))
 go_ret
 have PZ:=abD.1;have kz:=PZ.aa Hv.cl.2.1;have hnz:g≠gE:=dE.ne Kw.ty Hv.cl.2.1 (by decide);obtain⟨vv,va,vf,vl,vm,heq,q1,q2,q3,q4,q5⟩:=Hv.entry
 have HEZ:=abD.at_ (e':= {ee with aD:=ee.aD++ [c.item],rows:=[]}) Hv (by simp) (by
  have hx:ff (dP ee (some ⟨gV,0,none⟩) b1 F2 f2 F3 f3 F4 f4 F5 f5) 0 [Value.slice X (m+1+1) y]=ig {ee with aD:=ee.aD++ [c.item]} vv va vf vl vm:=heq;rw[hx]
  exact⟨vv,va,vf,vl,.slice none 0 0,rfl,q1.aa kz,kz.own q2,kz.own q3,kz.own q4,⟨[],rfl,World.ownsRow_nil _ _ _ _,by simp⟩⟩) (Or.inl rfl)
 exact oG (xS.trans (PZ.below Hv.cl.2.2)) (PZ.row Kw hnz) (kz.own O1) (kz.own O2) (kz.own O3) (kz.own O4) (kz.own O6) HEZ (by rw[I3,List.set_set]) Kg.out (Or.inr ⟨HV.out,HIC.out.trans QE.out.symm,by rw[Pc]⟩) ⟨Jf.1,Jf.2.1,Jf.2.2.1,Or.inr (Or.inl rfl)⟩):P:=h
theorem Ii {P:Prop} (h:P:=by
 have e1:=aq (hr 6 115);rw[if_pos (by rfl)];unfold Oper.wp execOp
 go_simp
 refine(SK wx hG.2.2.2.2.2).mono ?_;rintro e' w' ⟨CC,rfl,hO,aY⟩
 exact hK _ _ ⟨CC,⟨hO.lower hG.2.2.2.2.2.size,hO.len⟩,rfl⟩ ⟨hG.1.keep aY,hG.2.1.below aY (hG.2.1.lt Nat.zero_lt_one),hG.2.2.1.below aY,hG.2.2.2.1.trans (ah.ab aY),I hG.2.2.2.2.1 aY,hG.2.2.2.2.2.trans (aY.mono hG.2.2.2.2.2.size)⟩ ⟨fun _=>aY,ah.ab aY⟩):P:=h
theorem Ij {P:Prop} (h:P:=by
 refine⟨fun _ a wx hG hr hb K hK=>?_,?_⟩
 ·have e1:=aq (hr 0 109);rw[if_pos (by rfl)];unfold Oper.wp execOp
  go_simp
  exact hK _ _ rfl hG ⟨fun _=>Below.refl _ _,ah.refl _ _⟩
 refine⟨fun _ a wx hG hr hb K hK=>?_,?_⟩
 ·have e1:=aq (hr 10 119);rw[if_pos (by rfl)];unfold Oper.wp execOp
  go_simp
  exact hK _ _ rfl hG ⟨fun _=>Below.refl _ _,ah.refl _ _⟩
 exact⟨fun h=>absurd h (by decide),trivial⟩):P:=h
theorem vz {P:Prop} (h:P:=by
 have e1:=aq (hb 6);rw[if_pos (by rfl)];unfold Oper.wp execOp
 go_simp
 exact hK _ _ rfl hG ⟨fun _=>Below.refl _ _,ah.refl _ _⟩):P:=h
theorem Ik {P:Prop} (h:P:=by
 rcases o9.2 with ⟨h0,_⟩|⟨gx,cx,cux,h0,_⟩
 ·injection h0 with _ h0;omega
 ·injection h0 with h0
  subst h0
  rcases iw with h0|h0
  ·injection h0 with h0;left;simp only at h0;rw[h0]
  ·right;injection h0 with h0;exact⟨gx,rfl,by have:=c4.1;have:=lI.1;simp only at h0;omega⟩):P:=h
theorem Il {P:Prop} (h:P:=by
 have e1:=aq (hr 3 112);have c0:wx.cell? ⟨gE,k*7,none⟩=some (.slice (some ⟨gV,0,none⟩) (m+1) b1):=hG.2.1 0 _ rfl;rw[if_pos (by rfl)];unfold Oper.wp execOp
 go_simp
 exact hK _ _ rfl hG ⟨fun _=>Below.refl _ _,ah.refl _ _⟩):P:=h
theorem Im {P:Prop} (h:P:=by
 have e:=aM (hr 5 114);rw[if_pos (by rfl)];unfold Oper.wp execOp
 exact uN e aU hG.1 tn lV (hK _ _ rfl hG ⟨fun _=>Below.refl _ _,ah.refl _ _⟩)):P:=h
theorem Io {P:Prop} (h:P:=by
 have e1:=aq (hr 2 111);rw[if_pos (by rfl)];unfold Oper.wp execOp
 go_simp
 exact hK _ _ rfl hG ⟨fun _=>Below.refl _ _,ah.refl _ _⟩):P:=h
theorem Ip {P:Prop} (h:P:=by
 have e1:=aq (hr 1 110);rw[if_pos (by rfl)];unfold Oper.wp execOp
 go_simp
 exact hK _ _ rfl hG ⟨fun _=>Below.refl _ _,ah.refl _ _⟩):P:=h
theorem Dt {P:Prop} (h:P:=by
 have e1:=aq (hb 3);rw[if_pos (by rfl)];unfold Oper.wp execOp
 go_simp
 exact hK _ _ rfl hG ⟨fun _=>Below.refl _ _,ah.refl _ _⟩):P:=h
theorem Du {P:Prop} (h:P:=by
 exact hK _ _ ⟨X,y,CC,⟨o9,⟨c7,oh⟩,c8⟩,rfl⟩ ⟨c1,c2,c3,c4,oo9,c6⟩ ⟨fun h=>absurd rfl h,gB⟩):P:=h
theorem KC {P:Prop} (h:P:=by
 go_wp2_with fail
 go_ret
 exact oG xS Kw O1 O2 O3 O4 O6 Hv (I3 _) Kg.out (Or.inr ⟨HV.out,HIC.out.trans QE.out.symm,by rw[Pc]⟩) ⟨Jf.1,Jf.2.1,Jf.2.2.1,Or.inl Jf.2.2.2⟩):P:=h
theorem KD {P:Prop} (h:P:=by
 have c0:wx.cell? ⟨gE,k*7,none⟩=some (.slice (some ⟨gV,0,none⟩) (m+1) b1):=hG.1 0 _ rfl;rw[if_pos (by rfl)];unfold Oper.wp execOp
 go_simp
 exact hK _ _ rfl hG (Below.refl _ _)):P:=h
theorem Nc (t g:Nat) (b:cK) (c:eH) (C D:List Value) (w0 w:World) (kl:Below w0.heap.size w0 w) (hg:w0.heap.size≤g) (hR:Row w g 31 C) (hO:cZ w0.heap.size w C b) (hI:gL t b) (ht:t≤1000) (hD:je w0 D c) (hc:lR c) (hm:jl w0) (om:rh w0) (O':0≤c.time):
  Calls prog 40 #[.pointer (some ⟨g,0,none⟩),.agg D.toArray] w (fH w0 g b c (False) (fun _=>True)):=by
 obtain⟨A1,n1,c1,A2,n2,c2,A3,n3,c3,A4,n4,c4,A5,n5,c5,A6,n6,c6,rfl,O1,O2,O3,O4,O5,O6,q1,q2,q3,q4,q5,q6,m3,m4,m5,m6⟩:=hO.open_;obtain⟨nO,_,d1,d2,d3,_,_,_,_,_,_,_,_,_,_⟩:=ko hD;have BB:=kl;have RB:=hR
 have CA:n3≤1000:=by have:=hI.dJ;omega
 have Eb:n4≤1000:=by have:=hI.af;omega
 have tt:n5≤1000:=by have:=hI.entries;omega
 have pQ:n6≤1000:=by have:=hI.ft;omega
 have ix:n1≤1100000:=by have:=hI.aP;omega
 have pj:n3≤1100000:=by have:=hI.dJ;omega
 have CD:n4≤1100000:=by have:=hI.af;omega
 have yN:n5≤1100000:=by have:=hI.entries;omega
 have wg:n6≤1100000:=by have:=hI.ft;omega
 have ri:=Lib.hid q3;have pL:=Lib.hid q4;have mL:=Lib.hid q5;have Fw:=Lib.hid q6;have HI:=Lib.hid hI;clear hR q1 q2 q3 q4 q5 q6 hI;obtain⟨CI,tn,lV,uq,d7,d8,_⟩:=GO hD
 go_enter func40,ntmps40
 have aL:=trivial
 go_wp2_with (first
  |(clear aJ;(with_reducible refine ak ?_ fp R1 nO ?_);rfl;have bC:=trivial)
  |(clear aL;(with_reducible refine ao (C:=D) ?_ ?_);rfl;intro x1 g1 aR R1 aw;have vI:=h_ RB aR;have eV:=jq BB aR;replace RB:=RB.keep aw;replace O1:=I O1 aw;replace O2:=I O2 aw;replace O3:=I O3 aw;replace O4:=I O4 aw;replace O6:=I O6 aw;replace O5:=O5.aa (t:=31) (ah.ab aw);replace BB:=az BB aw;have bJ:=ae R1 d1;have aI:=ae R1 d2;have fO:=ae R1 d7;clear aw aR;have aJ:=trivial))
 try clear bC
 refine(rD D c.il 1 _ d2).mono ?_;rintro r x2 ⟨rfl,aF⟩;replace RB:=RB.keep aF;replace R1:=R1.keep aF;replace O1:=I O1 aF;replace O2:=I O2 aF;replace O3:=I O3 aF;replace O4:=I O4 aF;replace O6:=I O6 aF;replace O5:=O5.aa (t:=31) (ah.ab aF);replace BB:=az BB aF;clear bJ aI fO;have bJ:=ae R1 d1;have aI:=ae R1 d2;have fO:=ae R1 d7;clear aF;generalize sJ c.il 1=rb at*
 cases rb with
 |false=>
  go_wp2_with fail
  go_ret
  exact fH.err (by decide) (fun h=>h) BB
 |true=>
 go_wp2_with fail
 have dx:=U (RB.cell 0);have dA:=U (RB.cell 1);have dB:=U (RB.cell 2);have dC:=U (RB.cell 3);have dt:=U (RB.cell 4);have dD:=U (RB.cell 5);have di:=U (RB.cell 6);have zl:=RB.lt;have z1:=R1.lt;have OB:cZ w0.heap.size x2 [.int .i64 b.now,.slice A1 n1 c1,.slice A2 n2 c2,.slice A3 n3 c3,.slice A4 n4 c4,.slice A5 n5 c5,.slice A6 n6 c6] b:=⟨_,_,_,_,_,_,rfl,O1,O2,O3,O4,O5,O6⟩
 have wR:=fun W (hb:Below x2.heap.size x2 W)=>m_ [.int .i64 b.now,.slice A1 n1 c1,.slice A2 n2 c2,.slice A3 n3 c3,.slice A4 n4 c4,.slice A5 n5 c5,.slice A6 n6 c6] b c.item.id W ((OB.below hb).lower (Nat.zero_le _))
 obtain⟨fi,rF⟩:∃fi,fi=fR b.entries c.item.id:=⟨_,rfl⟩;rw[←rF] at wR;have tg:=Lib.hid rF;clear rF OB
 go_region_held3 (fun w'=>w'.cell? ⟨g,0,none⟩=some (.int .i64 b.now)∧w'.cell? ⟨g,1,none⟩=some (.slice A1 n1 c1)∧w'.cell? ⟨g,2,none⟩=some (.slice A2 n2 c2)∧w'.cell? ⟨g,3,none⟩=some (.slice A3 n3 c3)∧w'.cell? ⟨g,4,none⟩=some (.slice A4 n4 c4)∧w'.cell? ⟨g,5,none⟩=some (.slice A5 n5 c5)∧w'.cell? ⟨g,6,none⟩=some (.slice A6 n6 c6)∧w'.cell? ⟨g1,7,none⟩=some (.int .i64 c.item.id))
  ((with_reducible refine And.intro (aT zl dx ?_) (And.intro (aT zl dA ?_) (And.intro (aT zl dB ?_) (And.intro (aT zl dC ?_) (And.intro (aT zl dt ?_) (And.intro (aT zl dD ?_) (And.intro (aT zl di ?_) (aT z1 fO ?_))))))))<;>((repeat(first|with_reducible exact Below.refl _ _|with_reducible refine ar ax ?_|with_reducible refine ar aC ?_|with_reducible refine al ?_ _|with_reducible refine bL ?_));done))
  (first
   |(go_at_call 32;((with_reducible refine(wR _ ?_).mono ?_);(repeat(first|with_reducible exact Below.refl _ _|with_reducible refine ar ax ?_|with_reducible refine ar aC ?_|with_reducible refine al ?_ _|with_reducible refine bL ?_));rintro r wa ⟨rfl,aC⟩)))
 replace aC:=fU aC;clear wR zl z1;replace RB:=RB.keep aC;replace R1:=R1.keep aC;replace O1:=I O1 aC;replace O2:=I O2 aC;replace O3:=I O3 aC;replace O4:=I O4 aC;replace O6:=I O6 aC;replace O5:=O5.aa (t:=31) (ah.ab aC);replace BB:=az BB aC;clear dx dA dB dC dt dD di bJ aI fO;clear aC
 by_cases DZ:fi<0
 case pos=>
  go_wp2_with fail
  go_ret
  exact fH.err (by decide) (fun h=>h) BB
 obtain⟨k,e,Cy,sr,hid,tv,gA⟩:=qv (es:=b.entries) (q:=c.item.id) (by rw[←tg.out];omega);have D_:=tg.out.trans Cy;clear tg Cy;subst D_;clear DZ
 have DZ:¬((k:Int)<0):=by omega
 obtain⟨gE,E1,b1,E2,b2,E3,b3,E4,b4,E5,b5,Cs,OF,HE⟩:=qu O5 sr;clear O5;subst OF;obtain⟨m,hm⟩:∃m,e.aD.length=m+1:=⟨e.aD.length - 1,by omega⟩;obtain⟨gV,it,CL,rfl,hx,uC,Bo,aO,Cp,mu,FU,hVt,hVb,aC⟩:=AV HE hm;have EI:=HI.out.entry e (List.mem_of_getElem? sr);obtain⟨iv,ish,isz⟩:=EI.item it uC;have ipt:=(jH iv).aP
 have nW:(k:Int)<(n5:Int):=by rw[mL.out];omega
 have W7:decide ((k:Int)<(n5:Int))=true:=decide_eq_true nW
 have m45:m≤1100000:=by have:=EI.aD;omega
 have th:=Lib.hid hid;have QE:=Lib.hid Bo;have zG:=Lib.hid hm;have HX:=Lib.hid hx;have Kg:=Lib.hid sr;have Kf:=Lib.hid EI;have HIV:=Lib.hid iv;clear hid Bo hm hx sr uC EI iv tv gA aC;have dx:=U (RB.cell 0);have dA:=U (RB.cell 1);have dB:=U (RB.cell 2);have dC:=U (RB.cell 3);have dt:=U (RB.cell 4);have dD:=U (RB.cell 5);have di:=U (RB.cell 6);have bJ:=ae R1 d1;have aI:=ae R1 d2;have fO:=ae R1 d7;have dp:=HE.cl.1;unfold dP at dp;rw[zG.out] at dp;have yh:wa.cell? ⟨gE,k*7,none⟩=some (.slice (some ⟨gV,0,none⟩) (m+1) b1):=dp 0 _ rfl;have vV:wa.cell? ⟨gE,k*7+1,none⟩=some (.int .i64 e.state):=dp 1 _ rfl;have yj:wa.cell? ⟨gE,k*7+2,none⟩=some (.int .i64 e.bF):=dp 2 _ rfl;have yk:wa.cell? ⟨gE,k*7+3,none⟩=some (.slice E2 e.b_.length b2):=dp 3 _ rfl;have yl:wa.cell? ⟨gE,k*7+4,none⟩=some (.slice E3 e.fair.length b3):=dp 4 _ rfl;have yn:wa.cell? ⟨gE,k*7+5,none⟩=some (.slice E4 e.log.length b4):=dp 5 _ rfl;have yp:wa.cell? ⟨gE,k*7+6,none⟩=some (.slice E5 e.rows.length b5):=dp 6 _ rfl;clear dp;clear yh vV yj yk yl yn yp dx dA dB dC dt di
 go_wp2_with fail
 have dp:=HE.cl.1;unfold dP at dp;rw[zG.out] at dp
 have ux:Cl wa gE (k*7) [.slice (some ⟨gV,0,none⟩) (m+1) b1]:=by have:=dp.part 0 1;exact this
 clear dp
 have bQ:∀p∈([
   (fun v _=>v=.pointer (some ⟨gE,k*7,none⟩)),
  (fun v _=>v=.pointer (some ⟨gE,k*7,none⟩)),
  (fun v _=>v=.pointer (some ⟨gE,k*7,none⟩)),
  (fun v _=>v=.slice (some ⟨gV,0,none⟩) (m+1) b1),
  (fun v _=>v=.pointer (some ⟨gE,k*7,none⟩)),
  (fun v _=>v=.pointer (some ⟨gE,k*7,none⟩)),
  (fun v _=>v=.pointer (some ⟨gE,k*7,none⟩)),
  (fun v _=>v=.slice (some ⟨gV,0,none⟩) (m+1) b1),
  (fun v _=>v=.int .i64 ((m+1:Nat):Int)),
  (fun v _=>v=.int .i64 (m:Int)),
  (fun v _=>v=.pointer (some ⟨gV,m*17,none⟩)),
  (fun v _=>v=.agg CL.toArray),
  (fun v w=>∃(p:Nat) (Z:List Value),(Row w p 47 Z∧Z.length=17∧wa.heap.size≤p)∧v=.pointer (some ⟨p,0,none⟩))]:List (Value→World→Prop)),∀v w w',p v w→Below w.heap.size w w'→p v w':=by
  refine List.forall_mem_cons.2 ⟨fun _ _ _ h _=>h,List.forall_mem_cons.2 ⟨fun _ _ _ h _=>h,List.forall_mem_cons.2 ⟨fun _ _ _ h _=>h,List.forall_mem_cons.2 ⟨fun _ _ _ h _=>h,List.forall_mem_cons.2 ⟨fun _ _ _ h _=>h,List.forall_mem_cons.2 ⟨fun _ _ _ h _=>h,List.forall_mem_cons.2 ⟨fun _ _ _ h _=>h,List.forall_mem_cons.2 ⟨fun _ _ _ h _=>h,List.forall_mem_cons.2 ⟨fun _ _ _ h _=>h,List.forall_mem_cons.2 ⟨fun _ _ _ h _=>h,List.forall_mem_cons.2 ⟨fun _ _ _ h _=>h,List.forall_mem_cons.2 ⟨fun _ _ _ h _=>h,List.forall_mem_cons.2 ⟨fun v w w' ⟨p,Z,⟨h1,h2,h3⟩,e⟩ hb=>⟨p,Z,⟨h1.keep hb,h2,h3⟩,e⟩,(fun _ h=>by cases h)⟩⟩⟩⟩⟩⟩⟩⟩⟩⟩⟩⟩⟩
 refine cT (by kernel_rfl) 13 (fun _=>none) (fun wx=>Cl wx gE (k*7) [.slice (some ⟨gV,0,none⟩) (m+1) b1]∧Cl wx gV (m*17) CL∧Below wa.heap.size wa wx) (fun _ w w'=>Below w.heap.size w w') _ (fun j v w w' i _ h hR=>fC bQ (fun _ _ _ _ _=>trivial) i v w w' h hR) (by kernel_rfl) (by kernel_rfl) (fun _ _ h=>by cases h) ⟨fun j u hu=>ux j u hu,fun j u hu=>aO j u hu,(Below.refl _ _).drew⟩ ?_ ?_
 ·clear bQ;refine⟨fun _ a wx hG hr hb K hK=>?_,?_⟩
  ·have e1:=aq (hb 6);rw[if_pos (by rfl)];unfold Oper.wp execOp
   go_simp
   exact hK _ _ rfl hG (Below.refl _ _)
  refine⟨fun _ a wx hG hr hb K hK=>?_,?_⟩
  ·have e1:=aq (hr 0 32);rw[if_pos (by rfl)];unfold Oper.wp execOp
   go_simp
   exact hK _ _ rfl hG (Below.refl _ _)
  refine⟨fun _ a wx hG hr hb K hK=>?_,?_⟩
  ·have e1:=aq (hr 1 33);rw[if_pos (by rfl)];unfold Oper.wp execOp
   go_simp
   exact hK _ _ rfl hG (Below.refl _ _)
  refine⟨fun _ a wx hG hr hb K hK=>?_,?_⟩
  ·have e1:=aq (hr 2 34);exact KD
  refine⟨fun _ a wx hG hr hb K hK=>?_,?_⟩
  ·have e1:=aq (hb 6);rw[if_pos (by rfl)];unfold Oper.wp execOp
   go_simp
   exact hK _ _ rfl hG (Below.refl _ _)
  refine⟨fun _ a wx hG hr hb K hK=>?_,?_⟩
  ·have e1:=aq (hr 4 36);rw[if_pos (by rfl)];unfold Oper.wp execOp
   go_simp
   exact hK _ _ rfl hG (Below.refl _ _)
  refine⟨fun _ a wx hG hr hb K hK=>?_,?_⟩
  ·have e1:=aq (hr 5 37);rw[if_pos (by rfl)];unfold Oper.wp execOp
   go_simp
   exact hK _ _ rfl hG (Below.refl _ _)
  refine⟨fun _ a wx hG hr hb K hK=>?_,?_⟩
  ·have e1:=aq (hr 6 38);exact KD
  refine⟨fun _ a wx hG hr hb K hK=>?_,?_⟩
  ·have e1:=aq (hr 7 39);rw[if_pos (by rfl)];unfold Oper.wp execOp
   go_simp
   exact hK _ _ rfl hG (Below.refl _ _)
  refine⟨fun _ a wx hG hr hb K hK=>?_,?_⟩
  ·have e1:=aq (hr 8 40);rw[if_pos (by rfl)];unfold Oper.wp execOp
   have Ax:IntKind.i64.wrap (m:Int)=(m:Int):=by rw[IntKind.wrap_i64];omega
   go_simp
   refine hK _ _ ?_ hG (Below.refl _ _)
   first|rfl|(simp only[Ax];done)|(rw[Ax];done)
  refine⟨fun _ a wx hG hr hb K hK=>?_,?_⟩
  ·have e1:=aq (hr 3 35);have e2:=aq (hr 9 41);rw[if_pos (by rfl)];unfold Oper.wp execOp
   go_simp
   rw[if_pos (by omega)];exact hK _ _ rfl hG (Below.refl _ _)
  refine⟨fun _ a wx hG hr hb K hK=>?_,?_⟩
  ·have e:=aM (hr 10 42);rw[if_pos (by rfl)];unfold Oper.wp execOp;exact sE e aU hG.2.1 Cp (hK _ _ rfl hG (Below.refl _ _))
  refine⟨fun _ a wx hG hr hb K hK=>?_,?_⟩
  ·rw[if_pos (by rfl)];refine vJ fY ?_;rintro w' p Z hp hZ hR aY;exact hK _ _ ⟨p,Z,⟨hR,hZ,by have:=hG.2.2.size;omega⟩,rfl⟩ ⟨hG.1.below aY (hG.1.lt Nat.zero_lt_one),hG.2.1.below aY (hG.2.1.lt (by rw[Cp];decide)),hG.2.2.trans (aY.mono hG.2.2.size)⟩ aY
  exact⟨fun h=>absurd h (by decide),trivial⟩
 ·intro v wx oo AA hA ho hG hV K hK
  simp[dh,bD,List.range,List.range.loop,Act.put] at hA
  obtain⟨p,Z,⟨RP,hZ,hp⟩,mM⟩:=hV 12 (by decide) rfl;have e0:=aM (hV 0 (by decide) rfl);have e1:=aM (hV 1 (by decide) rfl);have e2:=aM (hV 2 (by decide) rfl);have e3:=aM (hV 3 (by decide) rfl);have e4:=aM (hV 4 (by decide) rfl);have e5:=aM (hV 5 (by decide) rfl);have e6:=aM (hV 6 (by decide) rfl);have e7:=aM (hV 7 (by decide) rfl);have e8:=aM (hV 8 (by decide) rfl);have e9:=aM (hV 9 (by decide) rfl);have ic:=aM (hV 10 (by decide) rfl);have iA:=aM (hV 11 (by decide) rfl);rw[mM,e0,e1,e2,e3,e4,e5,e6,e7,e8,e9,ic,iA] at hA;subst hA;clear hV mM e0 e1 e2 e3 e4 e5 e6 e7 e8 e9 ic iA
  try clear bQ
  have bU:some _=some oo:=ho
  injection bU with bU
  subst bU;clear ho;rw[if_pos (by rfl)];refine sF (g:=p) (t:=47) (C:=CL) (Z:=Z) ?_ ?_ aU RP Cp hZ mu.one ?_
  ·rfl
  ·rfl
  intro w9 R7 P9;refine hK _ _ ?_;have eU:=hG.2.2.trans (P9.below hp);clear hG P9 RP hK ux;replace RB:=RB.keep eU;replace R1:=R1.keep eU;replace O1:=I O1 eU;replace O2:=I O2 eU;replace O3:=I O3 eU;replace O4:=I O4 eU;replace O6:=I O6 eU;replace HE:=HE.aa (t:=31) (ah.ab eU);replace BB:=az BB eU;clear dD bJ aI fO;have qz:=aO.below eU FU;clear aO;have aO:=qz;have LK:=Nat.lt_of_lt_of_le FU eU.size;replace mu:=mu.below eU;clear FU qz;have FU:=LK;clear LK eU;have YO:g≠p:=dE.ne RB.ty R7.ty (by decide);have YL:g1≠p:=dE.ne R1.ty R7.ty (by decide);have bC:=trivial
  go_wp2_with (first
   |(clear cz;(with_reducible refine sN ?_ aU R1 tn lV ?_);rfl;have cY:=trivial)
   |(clear bC;(with_reducible refine ak ?_ aU R7 Cp ?_);rfl;have cz:=trivial))
  try clear cY
  refine(J6 CL CI it c.item _ mu (uq.below BB) hc.item hc.Qj (jl.below hm BB)).mono ?_;rintro r x3 ⟨rfl,bh⟩;replace RB:=RB.keep bh;replace R1:=R1.keep bh;replace R7:=R7.keep bh;replace O1:=I O1 bh;replace O2:=I O2 bh;replace O3:=I O3 bh;replace O4:=I O4 bh;replace O6:=I O6 bh;replace HE:=HE.aa (t:=31) (ah.ab bh);replace mu:=mu.below bh;replace BB:=az BB bh;clear bh
  by_cases xu:AT it c.item=0
  case neg=>
   generalize AT it c.item=se at*
   go_wp2_with fail
   go_ret
   exact fH.err xu (fun h=>h) BB
  rw[xu];obtain⟨hv,abr⟩:=Va xu;have HV:=Lib.hid hv;have HIC:=Lib.hid abr;clear xu hv abr
  go_wp2_with fail
  have S3:=kE.jZ O3 ri.out;have S4:=jI.jZ O4 pL.out;have TJ:=hD.below BB;have XM:=M6 HV.out;have Xs:=HI.out.aZ
  have NO:=fun W (hb:Below x3.heap.size x3 W)=>sZ [.int .i64 b.now,.slice A1 n1 c1,.slice A2 n2 c2,.slice A3 n3 c3,.slice A4 n4 c4,.slice (some ⟨gE,0,none⟩) n5 c5,.slice A6 n6 c6] D A3 A4 n3 c3 n4 c4 b.dJ b.af c W rfl rfl rfl (S3.below (by decide) hb) (S4.below (by decide) hb) ri.out pL.out pj CD (TJ.below hb) hc.item O' XM Xs
  clear S3 S4 TJ XM Xs
  have bQ:∀p∈([
    (fun v _=>v=.pointer (some ⟨g,0,none⟩)),
  (fun v _=>v=.pointer (some ⟨g,0,none⟩)),
  (fun v _=>v=.agg (([.int .i64 b.now,.slice A1 n1 c1,.slice A2 n2 c2,.slice A3 n3 c3,.slice A4 n4 c4,.slice (some ⟨gE,0,none⟩) n5 c5,.slice A6 n6 c6]:List Value)).toArray),
  (fun v _=>v=.agg D.toArray),
  (fun v _=>∃z:Int,v=.int .i64 z)]:List (Value→World→Prop)),∀v w w',p v w→Below w.heap.size w w'→p v w':=by
   refine List.forall_mem_cons.2 ⟨fun _ _ _ h _=>h,List.forall_mem_cons.2 ⟨fun _ _ _ h _=>h,List.forall_mem_cons.2 ⟨fun _ _ _ h _=>h,List.forall_mem_cons.2 ⟨fun _ _ _ h _=>h,List.forall_mem_cons.2 ⟨fun _ _ _ h _=>h,(fun _ h=>by cases h)⟩⟩⟩⟩⟩
  refine cT (by kernel_rfl) 5 (fun _=>none) (fun wx=>Row wx g 31 [.int .i64 b.now,.slice A1 n1 c1,.slice A2 n2 c2,.slice A3 n3 c3,.slice A4 n4 c4,.slice (some ⟨gE,0,none⟩) n5 c5,.slice A6 n6 c6]∧Row wx g1 72 D∧Below x3.heap.size x3 wx) (fun _ w w'=>Below w.heap.size w w') _ (fun j v w w' i _ h hR=>fC bQ (fun _ _ _ _ _=>trivial) i v w w' h hR) (by kernel_rfl) (by kernel_rfl) (fun _ _ h=>by cases h) ⟨RB.drew,R1.drew,(Below.refl _ _).drew⟩ ?_ ?_
  ·clear bQ;refine⟨fun _ a wx hG hr hb K hK=>?_,?_⟩
   ·have e1:=aq (hb 0);rw[if_pos (by rfl)];unfold Oper.wp execOp
    go_simp
    exact hK _ _ rfl hG (Below.refl _ _)
   refine⟨fun _ a wx hG hr hb K hK=>?_,?_⟩
   ·have e1:=aq (hr 0 51);rw[if_pos (by rfl)];unfold Oper.wp execOp
    go_simp
    exact hK _ _ rfl hG (Below.refl _ _)
   refine⟨fun _ a wx hG hr hb K hK=>?_,?_⟩
   ·have e:=aM (hr 1 52);rw[if_pos (by rfl)];unfold Oper.wp execOp;exact kh e aN hG.1 rfl (hK _ _ rfl hG (Below.refl _ _))
   refine⟨fun _ a wx hG hr hb K hK=>?_,?_⟩
   ·have e:=aM (hb 3);rw[if_pos (by rfl)];unfold Oper.wp execOp;exact kh e fp hG.2.1 nO (hK _ _ rfl hG (Below.refl _ _))
   refine⟨fun _ a wx hG hr hb K hK=>?_,?_⟩
   ·have e1:=aq (hr 2 53);have e2:=aq (hr 3 54);rw[if_pos (by rfl)];unfold Oper.wp execOp
    go_simp
    refine(NO wx hG.2.2).mono ?_;rintro e' w' ⟨⟨z,rfl,hz⟩,aY⟩;exact hK _ _ ⟨z,rfl⟩ ⟨hG.1.keep aY,hG.2.1.keep aY,hG.2.2.trans (aY.mono hG.2.2.size)⟩ aY
   exact⟨fun h=>absurd h (by decide),trivial⟩
  ·intro v wx oo AA hA ho hG hV K hK
   simp[dh,bD,List.range,List.range.loop,Act.put] at hA
   have e0:=aM (hV 0 (by decide) rfl);have e1:=aM (hV 1 (by decide) rfl);have e2:=aM (hV 2 (by decide) rfl);have e3:=aM (hV 3 (by decide) rfl);obtain⟨z,e4⟩:=hV 4 (by decide) rfl;rw[e0,e1,e2,e3,e4] at hA;subst hA;clear hV e0 e1 e2 e3 e4
   try clear bQ
   have bU:some _=some oo:=ho
   injection bU with bU
   subst bU;clear ho;rw[if_pos (by rfl)];unfold Oper.wp execOp
   go_simp
   refine hK _ _ ?_;have ey:=hG.2.2;replace RB:=RB.keep ey;replace R1:=R1.keep ey;replace R7:=R7.keep ey;replace O1:=I O1 ey;replace O2:=I O2 ey;replace O3:=I O3 ey;replace O4:=I O4 ey;replace O6:=I O6 ey;replace HE:=HE.aa (t:=31) (ah.ab ey);replace mu:=mu.below ey;replace BB:=az BB ey;clear hG ey NO hK
   by_cases cD:z=0
   case neg=>
    go_wp2_with fail
    go_ret
    exact fH.err cD (fun h=>h) BB
   subst cD;have cY:=trivial
   go_wp2_with (first
    |(clear dX;(with_reducible refine sN ?_ aU R1 tn lV ?_);rfl;have fu:=trivial)
    |(clear cY;(with_reducible refine ak ?_ aU R7 Cp ?_);rfl;have dX:=trivial))
   try clear fu
   refine(Py CL CI it c.item _ mu (uq.below BB) ish hc.item (om.below BB)).mono ?_;rintro r x4 ⟨⟨mj,rfl⟩,ek⟩;replace RB:=RB.keep ek;replace R1:=R1.keep ek;replace R7:=R7.keep ek;replace O1:=I O1 ek;replace O2:=I O2 ek;replace O3:=I O3 ek;replace O4:=I O4 ek;replace O6:=I O6 ek;replace HE:=HE.aa (t:=31) (ah.ab ek);replace mu:=mu.below ek;replace BB:=az BB ek;clear ek;clear mu R7;clear YO;clear YL;have bJ:=ae R1 d1;have dp:=HE.cl.1;unfold dP at dp;rw[zG.out] at dp;have yh:x4.cell? ⟨gE,k*7,none⟩=some (.slice (some ⟨gV,0,none⟩) (m+1) b1):=dp 0 _ rfl;have vV:x4.cell? ⟨gE,k*7+1,none⟩=some (.int .i64 e.state):=dp 1 _ rfl;have yj:x4.cell? ⟨gE,k*7+2,none⟩=some (.int .i64 e.bF):=dp 2 _ rfl;have yk:x4.cell? ⟨gE,k*7+3,none⟩=some (.slice E2 e.b_.length b2):=dp 3 _ rfl;have yl:x4.cell? ⟨gE,k*7+4,none⟩=some (.slice E3 e.fair.length b3):=dp 4 _ rfl;have yn:x4.cell? ⟨gE,k*7+5,none⟩=some (.slice E4 e.log.length b4):=dp 5 _ rfl;have yp:x4.cell? ⟨gE,k*7+6,none⟩=some (.slice E5 e.rows.length b5):=dp 6 _ rfl;clear dp
   by_cases h1:e.state=1
   case pos=>
    rw[h1] at vV;clear h1
    go_wp2_with fail
    go_quiet (fail)
    have Ei:=cr (Below.refl x4.heap.size x4) nq;generalize x4.drewN nq=wq at Ei ⊢;clear yh vV yj yk yl yn yp;replace RB:=RB.keep Ei;replace R1:=R1.keep Ei;replace O1:=I O1 Ei;replace O2:=I O2 Ei;replace O3:=I O3 Ei;replace O4:=I O4 Ei;replace O6:=I O6 Ei;replace HE:=HE.aa (t:=31) (ah.ab Ei);replace BB:=az BB Ei;clear bJ;clear Ei
    go_wp2_with fail
    all_goals first
     |(go_ret;exact fH.err (by decide) (fun h=>h) BB)
     |skip
    obtain⟨es,ee,F2,f2,F3,f3,F4,f4,F5,f5,Cq,HQ,Pc,I3,Jf⟩:∃(es:List aB) (ee:aB) (F2:Option Addr) (f2:Nat) (F3:Option Addr) (f3:Nat) (F4:Option Addr) (f4:Nat) (F5:Option Addr) (f5:Nat) (Cq:List (List Value)),fA w0.heap.size wq gE n5 c5 es k ee (dP ee (some ⟨gV,0,none⟩) b1 F2 f2 F3 f3 F4 f4 F5 f5) Cq∧ee.aD=e.aD∧(∀x,es.set k x=b.entries.set k x)∧(ee.b_.length≤e.b_.length+1∧ee.fair.length≤e.fair.length+1∧ee.log.length≤e.log.length+1∧ee.rows=e.rows):=⟨b.entries,e,E2,b2,E3,b3,E4,b4,E5,b5,Cs,HE,rfl,fun _=>rfl,⟨Nat.le_succ _,Nat.le_succ _,Nat.le_succ _,rfl⟩⟩;clear HE
    have uD:ee.aD.length=m+1:=by rw[Pc];exact zG.out
    have Vo:=Lib.hid uD;obtain⟨pV,_⟩:=jf HQ.entry;rw[uD] at pV;obtain⟨Cv,cl,VY,nJ,cin⟩:=pV;replace nJ:=fF nJ rfl;rw[uD] at nJ;have dp:=HQ.cl.1;unfold dP at dp;rw[uD] at dp
    have ux:Cl wq gE (k*7) [.slice (some ⟨gV,0,none⟩) (m+1) b1]:=by have:=dp.part 0 1;exact this
    clear dp uD;have XT:=HQ.cl.2.1;have Br:=HQ.oth;have WL:∀(i:Nat) (C:List Value),i≠k→Cq[i]? =some C→dm C=none∨dm C≠(Value.ownBlock (.slice (some ⟨gV,0,none⟩) (m+1) b1)):=HQ.apart;have z8:=BB.size
    have tf:=fun W' (hb:Below wq.heap.size wq W')=>gI CI c.item W' ((uq.below BB).below hb) hc.item
    have SK:=fun W' (hb:Below w0.heap.size w0 W')=>gI CI c.item W' (uq.below hb) hc.item
    clear tf
    refine fl (by kernel_rfl) 12 (fun i=>if i=8 then some 9 else none) (fun wx=>Row wx g1 72 D∧Cl wx gE (k*7) [.slice (some ⟨gV,0,none⟩) (m+1) b1]∧pT w0.heap.size wx es Cq k∧ah 47 wq wx∧wx.ownsRow w0.heap.size 47 17 (.slice (some ⟨gV,0,none⟩) (m+1) b1) (m+1) Cv.flatten∧Below w0.heap.size w0 wx) (fun j w w'=>(j≠9→Below w.heap.size w w')∧ah 47 w w') [
      (fun v _=>v=.pointer (some ⟨gE,k*7,none⟩)),
  (fun v _=>v=.pointer (some ⟨gE,k*7,none⟩)),
  (fun v _=>v=.pointer (some ⟨gE,k*7,none⟩)),
  (fun v _=>v=.pointer (some ⟨gE,k*7,none⟩)),
  (fun v _=>v=.slice (some ⟨gV,0,none⟩) (m+1) b1),
  (fun v _=>v=.pointer (some ⟨g1,7,none⟩)),
  (fun v _=>v=.agg CI.toArray),
  (fun v w=>∃CC:List Value,(cy w0.heap.size w CC c.item∧CC.length=17)∧v=.agg CC.toArray),
  (fun v w=>∃(q:Nat) (CC:List Value),(Row w q 47 CC∧(cy w0.heap.size w CC c.item∧CC.length=17))∧v=.slice (some ⟨q,0,none⟩) 1 1),
  (fun v w=>∃(X:Option Addr) (y:Nat) (CC:List Value),(w.ownsRow w0.heap.size 47 17 (.slice X (m+1+1) y) (m+1+1) (Cv.flatten++CC)∧(cy w0.heap.size w CC c.item∧CC.length=17)∧(X=some ⟨gV,0,none⟩∨∃q,X=some ⟨q,0,none⟩∧wq.heap.size≤q))∧v=.slice X (m+1+1) y),
  (fun v _=>v=.pointer (some ⟨gE,k*7,none⟩)),
  (fun v _=>v=.pointer (some ⟨gE,k*7,none⟩))] (fun j v w w' i bE hd hc h hR=>?_) (by kernel_rfl) (by kernel_rfl) (fun a b h=>by(try dsimp only at h);(repeat' split at h)<;>first|(injection h with h;omega)|cases h) ⟨R1.drew,fun j u hu=>ux j u hu,Br.below (Below.refl _ _).drew,ah.ab (Below.refl _ _).drew,jO nJ,BB.drew⟩ ?_ ?_
    ·match i,bE,hd,hc,h with
     |0,bE,hd,hc,h=>exact h
     |1,bE,hd,hc,h=>exact h
     |2,bE,hd,hc,h=>exact h
     |3,bE,hd,hc,h=>exact h
     |4,bE,hd,hc,h=>exact h
     |5,bE,hd,hc,h=>exact h
     |6,bE,hd,hc,h=>exact h
     |7,bE,hd,hc,h=>obtain⟨CC,⟨a1,a2⟩,e⟩:=h;exact⟨CC,⟨a1.aa hR.2,a2⟩,e⟩
     |8,bE,hd,hc,h=>obtain⟨q,CC,⟨a1,a2,a3⟩,e⟩:=h;exact⟨q,CC,⟨a1.keep (hR.1 (fun q=>hc (by rw[q];rfl))),a2.aa hR.2,a3⟩,e⟩
     |9,bE,hd,hc,h=>obtain⟨X,y,CC,⟨a1,⟨a2,a3⟩,a4⟩,e⟩:=h;exact⟨X,y,CC,⟨I a1 (hR.1 (fun q=>bE q.symm)),⟨a2.aa hR.2,a3⟩,a4⟩,e⟩
     |10,bE,hd,hc,h=>exact h
     |11,bE,hd,hc,h=>exact h
     |n+12,_,_,_,_=>trivial
    ·refine⟨fun _ a wx hG hr hb K hK=>?_,?_⟩
     ·exact vz
     refine⟨fun _ a wx hG hr hb K hK=>?_,?_⟩
     ·exact vz
     refine⟨fun _ a wx hG hr hb K hK=>?_,?_⟩
     ·exact Ip
     refine⟨fun _ a wx hG hr hb K hK=>?_,?_⟩
     ·exact Io
     refine⟨fun _ a wx hG hr hb K hK=>?_,?_⟩
     ·exact Il
     refine⟨fun _ a wx hG hr hb K hK=>?_,?_⟩
     ·exact Dt
     refine⟨fun _ a wx hG hr hb K hK=>?_,?_⟩
     ·exact Im
     refine⟨fun _ a wx hG hr hb K hK=>?_,?_⟩
     ·exact Ii
     refine⟨fun _ a wx hG hr hb K hK=>?_,?_⟩
     ·exact Ih
     refine⟨fun _ a wx hG hr hb K hK=>?_,?_⟩
     ·have e1:=aM (hr 4 113);rw[if_pos (by rfl)];obtain⟨q,CC,⟨hq,hO,oh⟩,e2⟩:=hr 8 117;have lI:=hG.2.2.2.1;have Ep:=hG.2.2.2.2.1;refine ly (.tmp 113) (.tmp 117) 36 rfl w0.heap.size 47 _ 17 216 underlying36 rM rfl (by decide) (.slice (some ⟨gV,0,none⟩) (m+1) b1) (m+1) Cv.flatten q 1 1 CC e1 e2 Ep (by rw[oh]) hq.cl hO.s_.one (by unfold maxLen;omega) (by omega) hG.2.2.2.2.2.size (by omega) ?_;rintro v' w' o9 rG iw oo9;obtain⟨X,y,rfl,_,_⟩:=aj o9;have gB:=dN Ep rG;have c1:=hG.1.aa gB;have c2:=Cl.aa hG.2.1 (dE.aa XT lI) gB;have c3:=pT.grown (u:=.slice (some ⟨gV,0,none⟩) (m+1) b1) hG.2.2.1 rG gB WL;have c4:=hG.2.2.2.1.trans gB;have c6:=hG.2.2.2.2.2.trans (bG Ep rG (Nat.le_refl _) hG.2.2.2.2.2.size);have c7:cy w0.heap.size w' CC c.item:=hO.aa gB
      have c8:(X=some ⟨gV,0,none⟩∨∃q,X=some ⟨q,0,none⟩∧wq.heap.size≤q):=by
       exact Ik
      exact Du
     exact Ij
    ·intro v wx oo AA hA ho hG hV K hK
     simp[dh,bD,List.range,List.range.loop,Act.put] at hA
     have e0:=aM (hV 0 (by decide) rfl);have e1:=aM (hV 1 (by decide) rfl);have e2:=aM (hV 2 (by decide) rfl);have e3:=aM (hV 3 (by decide) rfl);have e4:=aM (hV 4 (by decide) rfl);have e5:=aM (hV 5 (by decide) rfl);have e6:=aM (hV 6 (by decide) rfl);obtain⟨_,_,e7⟩:=hV 7 (by decide) rfl;obtain⟨X,y,CC,⟨ox,⟨WB,oh⟩,yQ⟩,e9⟩:=hV 9 (by decide) rfl;have ic:=aM (hV 10 (by decide) rfl);have iA:=aM (hV 11 (by decide) rfl);rw[e0,e1,e2,e3,e4,e5,e6,e7,e9,ic,iA] at hA;subst hA;clear hV e0 e1 e2 e3 e4 e5 e6 e7 e9 ic iA
     try clear bQ
     have bU:some _=some oo:=ho
     injection bU with bU
     subst bU;clear ho;rw[if_pos (by rfl)];have lI:=hG.2.2.2.1;have kv:=hG.2.2.2.2.2;have EW:=sR.of HQ lI hG.2.2.1;refine ER (j:=0) (u:=.slice X (m+1+1) y) ?_ rfl ?_ isAgg36 sizeOf36 EW (by decide) rfl ?_
     ·rfl
     ·rfl
     intro wn bQ;refine hK _ _ ?_;have gB:=bQ.1.aa EW.Zl;obtain⟨p1,p2,p3,p4,p5⟩:=jf HQ.entry
     have kk:∀(ty kk n:Nat) (v:Value) (xs:List Value),wq.ownsRow w0.heap.size ty kk v n xs→ty≠47→ty≠44→wn.ownsRow w0.heap.size ty kk v n xs:=fun ty kk n v xs h h1 h2=>gB.own (lI.own h h1) h2
     have Hv:=EW.st (e':= {ee with aD:=ee.aD++ [c.item]}) bQ HQ (by simp) ⟨.slice X (m+1+1) y,_,_,_,_,rfl,kg.aa (sC cl VY oh ox (by rw[Vo.out]) (fun i C x a b=>(cin i C x a b).aa lI (by decide) (by decide)) WB) gB,kk _ _ _ _ _ p2 (by decide) (by decide),kk _ _ _ _ _ p3 (by decide) (by decide),kk _ _ _ _ _ p4 (by decide) (by decide),(p5.aa lI).aa gB⟩ (by
      rcases yQ with rfl|⟨q,rfl,hq⟩
      ·exact Or.inl rfl
      ·refine Or.inr fun q' O9=>?_;have:some q=some q':=O9;injection this with this;omega)
     have Kw:=(RB.aa lI).aa gB;have xS:=kv.trans (bQ.1.below HQ.cl.2.2);replace O1:=kk _ _ _ _ _ O1 (by decide) (by decide);replace O2:=kk _ _ _ _ _ O2 (by decide) (by decide);replace O3:=kk _ _ _ _ _ O3 (by decide) (by decide);replace O4:=kk _ _ _ _ _ O4 (by decide) (by decide);replace O6:=kk _ _ _ _ _ O6 (by decide) (by decide);clear hG bQ kk gB p1 p2 p3 p4 p5 EW lI kv SK hK Br ux nJ ox RB R1 BB
     cases mj with
     |false=>
      exact KC
     |true=>
     exact Rv
   have yz:(e.state==1)=false:=beq_eq_false_iff_ne.2 h1
   cases mj with
   |false=>
    go_wp2_with fail
    all_goals first
     |(go_ret;exact fH.err (by decide) (fun h=>h) BB)
     |skip
    clear yh vV yj yk yl yn yp;clear bJ;obtain⟨es,ee,F2,f2,F3,f3,F4,f4,F5,f5,Cq,HQ,Pc,I3,Jf⟩:∃(es:List aB) (ee:aB) (F2:Option Addr) (f2:Nat) (F3:Option Addr) (f3:Nat) (F4:Option Addr) (f4:Nat) (F5:Option Addr) (f5:Nat) (Cq:List (List Value)),fA w0.heap.size x4 gE n5 c5 es k ee (dP ee (some ⟨gV,0,none⟩) b1 F2 f2 F3 f3 F4 f4 F5 f5) Cq∧ee.aD=e.aD∧(∀x,es.set k x=b.entries.set k x)∧(ee.b_.length≤e.b_.length+1∧ee.fair.length≤e.fair.length+1∧ee.log.length≤e.log.length+1∧ee.rows=e.rows):=⟨b.entries,e,E2,b2,E3,b3,E4,b4,E5,b5,Cs,HE,rfl,fun _=>rfl,⟨Nat.le_succ _,Nat.le_succ _,Nat.le_succ _,rfl⟩⟩;clear HE
    have uD:ee.aD.length=m+1:=by rw[Pc];exact zG.out
    have Vo:=Lib.hid uD;obtain⟨pV,_⟩:=jf HQ.entry;rw[uD] at pV;obtain⟨Cv,cl,VY,nJ,cin⟩:=pV;replace nJ:=fF nJ rfl;rw[uD] at nJ;have dp:=HQ.cl.1;unfold dP at dp;rw[uD] at dp
    have ux:Cl x4 gE (k*7) [.slice (some ⟨gV,0,none⟩) (m+1) b1]:=by have:=dp.part 0 1;exact this
    clear dp uD;have XT:=HQ.cl.2.1;have Br:=HQ.oth;have WL:∀(i:Nat) (C:List Value),i≠k→Cq[i]? =some C→dm C=none∨dm C≠(Value.ownBlock (.slice (some ⟨gV,0,none⟩) (m+1) b1)):=HQ.apart;have z8:=BB.size
    have tf:=fun W' (hb:Below x4.heap.size x4 W')=>gI CI c.item W' ((uq.below BB).below hb) hc.item
    have SK:=fun W' (hb:Below w0.heap.size w0 W')=>gI CI c.item W' (uq.below hb) hc.item
    clear tf
    refine fl (by kernel_rfl) 12 (fun i=>if i=8 then some 9 else none) (fun wx=>Row wx g1 72 D∧Cl wx gE (k*7) [.slice (some ⟨gV,0,none⟩) (m+1) b1]∧pT w0.heap.size wx es Cq k∧ah 47 x4 wx∧wx.ownsRow w0.heap.size 47 17 (.slice (some ⟨gV,0,none⟩) (m+1) b1) (m+1) Cv.flatten∧Below w0.heap.size w0 wx) (fun j w w'=>(j≠9→Below w.heap.size w w')∧ah 47 w w') [
      (fun v _=>v=.pointer (some ⟨gE,k*7,none⟩)),
  (fun v _=>v=.pointer (some ⟨gE,k*7,none⟩)),
  (fun v _=>v=.pointer (some ⟨gE,k*7,none⟩)),
  (fun v _=>v=.pointer (some ⟨gE,k*7,none⟩)),
  (fun v _=>v=.slice (some ⟨gV,0,none⟩) (m+1) b1),
  (fun v _=>v=.pointer (some ⟨g1,7,none⟩)),
  (fun v _=>v=.agg CI.toArray),
  (fun v w=>∃CC:List Value,(cy w0.heap.size w CC c.item∧CC.length=17)∧v=.agg CC.toArray),
  (fun v w=>∃(q:Nat) (CC:List Value),(Row w q 47 CC∧(cy w0.heap.size w CC c.item∧CC.length=17))∧v=.slice (some ⟨q,0,none⟩) 1 1),
  (fun v w=>∃(X:Option Addr) (y:Nat) (CC:List Value),(w.ownsRow w0.heap.size 47 17 (.slice X (m+1+1) y) (m+1+1) (Cv.flatten++CC)∧(cy w0.heap.size w CC c.item∧CC.length=17)∧(X=some ⟨gV,0,none⟩∨∃q,X=some ⟨q,0,none⟩∧x4.heap.size≤q))∧v=.slice X (m+1+1) y),
  (fun v _=>v=.pointer (some ⟨gE,k*7,none⟩)),
  (fun v _=>v=.pointer (some ⟨gE,k*7,none⟩))] (fun j v w w' i bE hd hc h hR=>?_) (by kernel_rfl) (by kernel_rfl) (fun a b h=>by(try dsimp only at h);(repeat' split at h)<;>first|(injection h with h;omega)|cases h) ⟨R1.drew,fun j u hu=>ux j u hu,Br.below (Below.refl _ _).drew,ah.ab (Below.refl _ _).drew,jO nJ,BB.drew⟩ ?_ ?_
    ·match i,bE,hd,hc,h with
     |0,bE,hd,hc,h=>exact h
     |1,bE,hd,hc,h=>exact h
     |2,bE,hd,hc,h=>exact h
     |3,bE,hd,hc,h=>exact h
     |4,bE,hd,hc,h=>exact h
     |5,bE,hd,hc,h=>exact h
     |6,bE,hd,hc,h=>exact h
     |7,bE,hd,hc,h=>obtain⟨CC,⟨a1,a2⟩,e⟩:=h;exact⟨CC,⟨a1.aa hR.2,a2⟩,e⟩
     |8,bE,hd,hc,h=>obtain⟨q,CC,⟨a1,a2,a3⟩,e⟩:=h;exact⟨q,CC,⟨a1.keep (hR.1 (fun q=>hc (by rw[q];rfl))),a2.aa hR.2,a3⟩,e⟩
     |9,bE,hd,hc,h=>obtain⟨X,y,CC,⟨a1,⟨a2,a3⟩,a4⟩,e⟩:=h;exact⟨X,y,CC,⟨I a1 (hR.1 (fun q=>bE q.symm)),⟨a2.aa hR.2,a3⟩,a4⟩,e⟩
     |10,bE,hd,hc,h=>exact h
     |11,bE,hd,hc,h=>exact h
     |n+12,_,_,_,_=>trivial
    ·refine⟨fun _ a wx hG hr hb K hK=>?_,?_⟩
     ·exact vz
     refine⟨fun _ a wx hG hr hb K hK=>?_,?_⟩
     ·exact vz
     refine⟨fun _ a wx hG hr hb K hK=>?_,?_⟩
     ·exact Ip
     refine⟨fun _ a wx hG hr hb K hK=>?_,?_⟩
     ·exact Io
     refine⟨fun _ a wx hG hr hb K hK=>?_,?_⟩
     ·exact Il
     refine⟨fun _ a wx hG hr hb K hK=>?_,?_⟩
     ·exact Dt
     refine⟨fun _ a wx hG hr hb K hK=>?_,?_⟩
     ·exact Im
     refine⟨fun _ a wx hG hr hb K hK=>?_,?_⟩
     ·exact Ii
     refine⟨fun _ a wx hG hr hb K hK=>?_,?_⟩
     ·exact Ih
     refine⟨fun _ a wx hG hr hb K hK=>?_,?_⟩
     ·have e1:=aM (hr 4 113);rw[if_pos (by rfl)];obtain⟨q,CC,⟨hq,hO,oh⟩,e2⟩:=hr 8 117;have lI:=hG.2.2.2.1;have Ep:=hG.2.2.2.2.1;refine ly (.tmp 113) (.tmp 117) 36 rfl w0.heap.size 47 _ 17 216 underlying36 rM rfl (by decide) (.slice (some ⟨gV,0,none⟩) (m+1) b1) (m+1) Cv.flatten q 1 1 CC e1 e2 Ep (by rw[oh]) hq.cl hO.s_.one (by unfold maxLen;omega) (by omega) hG.2.2.2.2.2.size (by omega) ?_;rintro v' w' o9 rG iw oo9;obtain⟨X,y,rfl,_,_⟩:=aj o9;have gB:=dN Ep rG;have c1:=hG.1.aa gB;have c2:=Cl.aa hG.2.1 (dE.aa XT lI) gB;have c3:=pT.grown (u:=.slice (some ⟨gV,0,none⟩) (m+1) b1) hG.2.2.1 rG gB WL;have c4:=hG.2.2.2.1.trans gB;have c6:=hG.2.2.2.2.2.trans (bG Ep rG (Nat.le_refl _) hG.2.2.2.2.2.size);have c7:cy w0.heap.size w' CC c.item:=hO.aa gB
      have c8:(X=some ⟨gV,0,none⟩∨∃q,X=some ⟨q,0,none⟩∧x4.heap.size≤q):=by
       exact Ik
      exact Du
     exact Ij
    ·intro v wx oo AA hA ho hG hV K hK
     simp[dh,bD,List.range,List.range.loop,Act.put] at hA
     have e0:=aM (hV 0 (by decide) rfl);have e1:=aM (hV 1 (by decide) rfl);have e2:=aM (hV 2 (by decide) rfl);have e3:=aM (hV 3 (by decide) rfl);have e4:=aM (hV 4 (by decide) rfl);have e5:=aM (hV 5 (by decide) rfl);have e6:=aM (hV 6 (by decide) rfl);obtain⟨_,_,e7⟩:=hV 7 (by decide) rfl;obtain⟨X,y,CC,⟨ox,⟨WB,oh⟩,yQ⟩,e9⟩:=hV 9 (by decide) rfl;have ic:=aM (hV 10 (by decide) rfl);have iA:=aM (hV 11 (by decide) rfl);rw[e0,e1,e2,e3,e4,e5,e6,e7,e9,ic,iA] at hA;subst hA;clear hV e0 e1 e2 e3 e4 e5 e6 e7 e9 ic iA
     try clear bQ
     have bU:some _=some oo:=ho
     injection bU with bU
     subst bU;clear ho;rw[if_pos (by rfl)];have lI:=hG.2.2.2.1;have kv:=hG.2.2.2.2.2;have EW:=sR.of HQ lI hG.2.2.1;refine ER (j:=0) (u:=.slice X (m+1+1) y) ?_ rfl ?_ isAgg36 sizeOf36 EW (by decide) rfl ?_
     ·rfl
     ·rfl
     intro wn bQ;refine hK _ _ ?_;have gB:=bQ.1.aa EW.Zl;obtain⟨p1,p2,p3,p4,p5⟩:=jf HQ.entry
     have kk:∀(ty kk n:Nat) (v:Value) (xs:List Value),x4.ownsRow w0.heap.size ty kk v n xs→ty≠47→ty≠44→wn.ownsRow w0.heap.size ty kk v n xs:=fun ty kk n v xs h h1 h2=>gB.own (lI.own h h1) h2
     have Hv:=EW.st (e':= {ee with aD:=ee.aD++ [c.item]}) bQ HQ (by simp) ⟨.slice X (m+1+1) y,_,_,_,_,rfl,kg.aa (sC cl VY oh ox (by rw[Vo.out]) (fun i C x a b=>(cin i C x a b).aa lI (by decide) (by decide)) WB) gB,kk _ _ _ _ _ p2 (by decide) (by decide),kk _ _ _ _ _ p3 (by decide) (by decide),kk _ _ _ _ _ p4 (by decide) (by decide),(p5.aa lI).aa gB⟩ (by
      rcases yQ with rfl|⟨q,rfl,hq⟩
      ·exact Or.inl rfl
      ·refine Or.inr fun q' O9=>?_;have:some q=some q':=O9;injection this with this;omega)
     have Kw:=(RB.aa lI).aa gB;have xS:=kv.trans (bQ.1.below HQ.cl.2.2);replace O1:=kk _ _ _ _ _ O1 (by decide) (by decide);replace O2:=kk _ _ _ _ _ O2 (by decide) (by decide);replace O3:=kk _ _ _ _ _ O3 (by decide) (by decide);replace O4:=kk _ _ _ _ _ O4 (by decide) (by decide);replace O6:=kk _ _ _ _ _ O6 (by decide) (by decide);clear hG bQ kk gB p1 p2 p3 p4 p5 EW lI kv SK hK Br ux nJ ox RB R1 BB;exact KC
   |true=>
    go_wp2_with fail
    clear yh vV yj yk yl yn yp;clear h1 yz;have dp:=HE.cl.1;unfold dP at dp
    skip
    have I0:Cl x4 gE (k*7+1) [.int .i64 e.state,.int .i64 e.bF,.slice E2 e.b_.length b2,.slice E3 e.fair.length b3,.slice E4 e.log.length b4]:=by have:=dp.part 1 5;exact this
    clear dp;obtain⟨pV,pa,pf,pl,pm⟩:=jf HE.entry;have S2:=bZ pa;have S3:=bZ pf;have S4:=bZ pl;have L2:=Kf.out.b_;have L3:=Kf.out.fair;have L4:=Kf.out.log
    have Vw:=fun W (hb:Below x4.heap.size x4 W)=>BO e.state e.bF (9) c.user c.il c.time E2 E3 E4 e.b_.length e.fair.length e.log.length b2 b3 b4 e.b_ e.fair e.log W (S2.below (by decide) hb) (S3.below (by decide) hb) (S4.below (by decide) hb) rfl rfl rfl (by omega) (by omega) (by omega)
    clear S2 S3 S4 pV pa pf pl pm L2 L3 L4;have z8:=BB.size;have RB8:=RB;have VE:=R1;have LB:=I0;have YI:=I0.lt (by simp)
    refine fl (by kernel_rfl) 12 (fun i=>none) (fun wx=>Row wx g1 72 D∧Cl wx gE (k*7+1) [.int .i64 e.state,.int .i64 e.bF,.slice E2 e.b_.length b2,.slice E3 e.fair.length b3,.slice E4 e.log.length b4]∧Below x4.heap.size x4 wx) (fun j w w'=>jb w0.heap.size e.b_.length e.fair.length e.log.length x4.heap.size 11 j w w') [
      (fun v _=>v=.pointer (some ⟨gE,k*7,none⟩)),
  (fun v _=>v=.pointer (some ⟨gE,k*7,none⟩)),
  (fun v _=>v=.pointer (some ⟨gE,k*7+1,none⟩)),
  (fun v _=>v=.agg ([.int .i64 e.state,.int .i64 e.bF,.slice E2 e.b_.length b2,.slice E3 e.fair.length b3,.slice E4 e.log.length b4]:List Value).toArray),
  (fun v _=>v=.agg D.toArray),
  (fun v _=>v=.agg (mi ⟨9,c.user,c.il,c.time⟩).toArray),
  (fun v w=>∃(R:List Value) (z:Int),(R.length=5∧(∀u∈R,u.oneCell'=true)∧mh w0.heap.size e.b_.length e.fair.length e.log.length w R)∧v=.tuple #[.agg R.toArray,.int .i64 z]),
  (fun v w=>∃(R:List Value) (z:Int),(R.length=5∧(∀u∈R,u.oneCell'=true)∧mh w0.heap.size e.b_.length e.fair.length e.log.length w R)∧v=.tuple #[.agg R.toArray,.int .i64 z]),
  (fun v w=>∃(R:List Value),(R.length=5∧(∀u∈R,u.oneCell'=true)∧mh w0.heap.size e.b_.length e.fair.length e.log.length w R)∧v=.agg R.toArray),
  (fun v _=>∃z:Int,v=.int .i64 z),
  (fun v w=>∃p:Nat,qQ w0.heap.size e.b_.length e.fair.length e.log.length x4.heap.size w p∧v=.pointer (some ⟨p,0,none⟩)),
  (fun _ _=>True)] (fun j v w w' i bE hd hc h hR=>?_) (by kernel_rfl) (by kernel_rfl) (fun a b h=>by(try dsimp only at h);(repeat' split at h)<;>first|(injection h with h;omega)|cases h) ⟨R1.drew,fun j u hu=>I0 j u hu,(Below.refl _ _).drew⟩ ?_ ?_
    ·match i,bE,hd,hc,h with
     |0,bE,hd,hc,h=>exact h
     |1,bE,hd,hc,h=>exact h
     |2,bE,hd,hc,h=>exact h
     |3,bE,hd,hc,h=>exact h
     |4,bE,hd,hc,h=>exact h
     |5,bE,hd,hc,h=>exact h
     |6,bE,hd,hc,h=>obtain⟨R,z,⟨a1,a2,a3⟩,e⟩:=h;exact⟨R,z,⟨a1,a2,a3.aa hR.2.1⟩,e⟩
     |7,bE,hd,hc,h=>obtain⟨R,z,⟨a1,a2,a3⟩,e⟩:=h;exact⟨R,z,⟨a1,a2,a3.aa hR.2.1⟩,e⟩
     |8,bE,hd,hc,h=>obtain⟨R,⟨a1,a2,a3⟩,e⟩:=h;exact⟨R,⟨a1,a2,a3.aa hR.2.1⟩,e⟩
     |9,bE,hd,hc,h=>exact h
     |10,bE,hd,hc,h=>obtain⟨p,a1,e⟩:=h;exact⟨p,hR.2.2 p a1,e⟩
     |11,bE,hd,hc,h=>trivial
     |n+12,_,_,_,_=>trivial
    ·refine⟨fun _ a wx hG hr hb K hK=>?_,?_⟩
     ·have e1:=aq (hb 6);rw[if_pos (by rfl)];unfold Oper.wp execOp
      go_simp
      exact hK _ _ rfl hG (jb.of (Below.refl _ _))
     refine⟨fun _ a wx hG hr hb K hK=>?_,?_⟩
     ·have e1:=aq (hr 0 82);rw[if_pos (by rfl)];unfold Oper.wp execOp
      go_simp
      exact hK _ _ rfl hG (jb.of (Below.refl _ _))
     refine⟨fun _ a wx hG hr hb K hK=>?_,?_⟩
     ·have e1:=aq (hr 1 83);rw[if_pos (by rfl)];unfold Oper.wp execOp
      go_simp
      exact hK _ _ rfl hG (jb.of (Below.refl _ _))
     refine⟨fun _ a wx hG hr hb K hK=>?_,?_⟩
     ·have e:=aM (hr 2 84);rw[if_pos (by rfl)];unfold Oper.wp execOp;exact sE e bd hG.2.1 rfl (hK _ _ rfl hG (jb.of (Below.refl _ _)))
     refine⟨fun _ a wx hG hr hb K hK=>?_,?_⟩
     ·have e:=aM (hb 3);rw[if_pos (by rfl)];unfold Oper.wp execOp;exact kh e fp hG.1 nO (hK _ _ rfl hG (jb.of (Below.refl _ _)))
     refine⟨fun _ a wx hG hr hb K hK=>?_,?_⟩
     ·have e1:=aq (hr 4 86);rw[if_pos (by rfl)];unfold Oper.wp execOp
      go_simp
      refine(A8 D c.user c.il c.time (9) wx d1 d2 d3).mono ?_;rintro e' w' ⟨rfl,aY⟩;exact hK _ _ rfl ⟨hG.1.keep aY,hG.2.1.below aY (hG.2.1.lt (by simp)),hG.2.2.trans (aY.mono hG.2.2.size)⟩ (jb.of aY)
     refine⟨fun _ a wx hG hr hb K hK=>?_,?_⟩
     ·have e1:=aq (hr 3 85);have e2:=aq (hr 5 87);rw[if_pos (by rfl)];unfold Oper.wp execOp
      go_simp
      refine(Vw wx hG.2.2).mono ?_;rintro e' w' ⟨R,z,hl,h1,rfl,aY,hR⟩;exact hK _ _ ⟨R,z,⟨hl,h1,hR.lower (Nat.le_trans z8 hG.2.2.size)⟩,rfl⟩ ⟨hG.1.keep aY,hG.2.1.below aY (hG.2.1.lt (by simp)),hG.2.2.trans (aY.mono hG.2.2.size)⟩ (jb.of aY)
     refine⟨fun _ a wx hG hr hb K hK=>?_,?_⟩
     ·rw[if_pos (by rfl)];unfold Oper.wp execOp;obtain⟨R,z,hh,e1⟩:=hr 6 88;rw[bR] at e1
      go_simp
      exact hK _ _ ⟨R,z,hh,rfl⟩ hG (jb.of (Below.refl _ _))
     refine⟨fun _ a wx hG hr hb K hK=>?_,?_⟩
     ·rw[if_pos (by rfl)];unfold Oper.wp execOp;obtain⟨R,z,hh,e1⟩:=hr 7 81;rw[bR] at e1
      go_simp
      exact hK _ _ ⟨R,hh,rfl⟩ hG (jb.of (Below.refl _ _))
     refine⟨fun _ a wx hG hr hb K hK=>?_,?_⟩
     ·rw[if_pos (by rfl)];unfold Oper.wp execOp;obtain⟨R,z,hh,e1⟩:=hr 7 81;rw[bR] at e1
      go_simp
      exact hK _ _ ⟨z,rfl⟩ hG (jb.of (Below.refl _ _))
     refine⟨fun _ a wx hG hr hb K hK=>?_,?_⟩
     ·rw[if_pos (by rfl)];refine MN sQ lZ ?_;rintro w' p hp hR aY;exact hK _ _ ⟨p,⟨_,hR,rfl,by simp[Value.oneCell'],mh.zero _ _ _ _ _,by have:=hG.2.2.size;omega⟩,rfl⟩ ⟨hG.1.keep aY,hG.2.1.below aY (hG.2.1.lt (by simp)),hG.2.2.trans (aY.mono hG.2.2.size)⟩ (jb.of aY)
     refine⟨fun _ a wx hG hr hb K hK=>?_,?_⟩
     ·rw[if_pos (by rfl)];obtain⟨p,hp,e1⟩:=hr 10 12;obtain⟨R,⟨hl,h1,hR⟩,e2⟩:=hr 8 89;obtain⟨R0,q1,q2,q3,q4,q5⟩:=id hp;refine sF (g:=p) (t:=39) (C:=R) (Z:=R0) e1 e2 bd q1 hl q2 h1 ?_;intro w' Ej hP;have F:=hG.2.2.trans (hP.below q5);have dW:=q1.ty;have I':=hP.aa dW;exact hK _ _ trivial ⟨VE.keep F,LB.below F YI,F⟩ ⟨fun h=>absurd rfl h,I',fun p' CG=>CG.st hP dW Ej hl h1 (hR.aa I')⟩
     exact⟨fun h=>absurd h (by decide),trivial⟩
    ·intro v wx oo AA hA ho hG hV K hK
     simp[dh,bD,List.range,List.range.loop,Act.put] at hA
     obtain⟨p8,hp8,ic⟩:=hV 10 (by decide) rfl;obtain⟨_,_,_,e7⟩:=hV 7 (by decide) rfl;have e0:=aM (hV 0 (by decide) rfl);have e1:=aM (hV 1 (by decide) rfl);have e2:=aM (hV 2 (by decide) rfl);have e3:=aM (hV 3 (by decide) rfl);have e4:=aM (hV 4 (by decide) rfl);have e5:=aM (hV 5 (by decide) rfl);obtain⟨_,_,_,e6⟩:=hV 6 (by decide) rfl;obtain⟨_,_,e8⟩:=hV 8 (by decide) rfl;obtain⟨z,e9⟩:=hV 9 (by decide) rfl;rw[ic,e7,e0,e1,e2,e3,e4,e5,e6,e8,e9] at hA;subst hA;clear hV ic e7 e0 e1 e2 e3 e4 e5 e6 e8 e9
     try clear bQ
     have bU:some _=some oo:=ho
     injection bU with bU
     subst bU;clear ho;rw[if_pos (by rfl)];unfold Oper.wp execOp
     go_simp
     refine hK _ _ ?_;have ey:=hG.2.2;obtain⟨R,R8,WI,TK,hRO,hlo⟩:=hp8;replace RB:=RB.keep ey;replace R1:=R1.keep ey;replace O1:=I O1 ey;replace O2:=I O2 ey;replace O3:=I O3 ey;replace O4:=I O4 ey;replace O6:=I O6 ey;replace HE:=HE.aa (t:=31) (ah.ab ey);replace BB:=az BB ey;clear hG ey Vw hK I0 LB RB8 VE YI;have o8:w0.heap.size≤p8:=Nat.le_trans z8 hlo
     by_cases cD:z=0
     case neg=>
      go_wp2_with fail
      go_ret
      exact fH.err cD (fun h=>h) BB
     subst cD;obtain⟨st,au,va,vf,vl,zs,fs,log,rfl,o1,o2,o3,l1,l2,l3⟩:=hRO;obtain⟨X2,y2,rfl,_,_⟩:=aj o1;obtain⟨X3,y3,rfl,_,_⟩:=aj o2;obtain⟨X4,y4,rfl,_,_⟩:=aj o3;have pS:=trivial
     go_wp2_with (first|(clear mU;(with_reducible refine vO (j:=1) (D:=[.int .i64 st,.int .i64 au,.slice X2 zs.length y2,.slice X3 fs.length y3,.slice X4 log.length y4]) ?_ rfl ?_ bd HE rfl (by simp) TK ?_);rfl;rfl;intro w9 yS;have P9:=yS.1;have kt:=P9.aa HE.cl.2.1;have cu:g≠gE:=dE.ne RB.ty HE.cl.2.1 (by decide);have adw:g1≠gE:=dE.ne R1.ty HE.cl.2.1 (by decide);obtain⟨p1,p2,p3,p4,p5⟩:=jf HE.entry;have Kh:=yS.at_ (e':= {e with state:=st,bF:=au,b_:=zs,fair:=fs,log:=log}) HE (by simp) ⟨_,_,_,_,_,rfl,p1.aa kt,kt.own o1,kt.own o2,kt.own o3,p5.aa kt⟩ (Or.inl rfl);have xS:=BB.trans (P9.below HE.cl.2.2);have Kw:=P9.row RB cu;have R19:=P9.row R1 adw;replace O1:=kt.own O1;replace O2:=kt.own O2;replace O3:=kt.own O3;replace O4:=kt.own O4;replace O6:=kt.own O6)|(clear pS;(with_reducible refine ak ?_ bd R8 WI ?_);rfl;have mU:=trivial))
     clear BB RB R1;have BB:=xS;have RB:=Kw;have R1:=R19;clear xS Kw R19;obtain⟨es,ee,F2,f2,F3,f3,F4,f4,F5,f5,Cq,HQ,Pc,I3,Jf⟩:∃(es:List aB) (ee:aB) (F2:Option Addr) (f2:Nat) (F3:Option Addr) (f3:Nat) (F4:Option Addr) (f4:Nat) (F5:Option Addr) (f5:Nat) (Cq:List (List Value)),fA w0.heap.size w9 gE n5 c5 es k ee (dP ee (some ⟨gV,0,none⟩) b1 F2 f2 F3 f3 F4 f4 F5 f5) Cq∧ee.aD=e.aD∧(∀x,es.set k x=b.entries.set k x)∧(ee.b_.length≤e.b_.length+1∧ee.fair.length≤e.fair.length+1∧ee.log.length≤e.log.length+1∧ee.rows=e.rows):=⟨_,_,X2,y2,X3,y3,X4,y4,E5,b5,_,Kh,rfl,fun x=>List.set_set ..,⟨l1,l2,l3,rfl⟩⟩;clear HE Kh yS P9 kt
     have uD:ee.aD.length=m+1:=by rw[Pc];exact zG.out
     have Vo:=Lib.hid uD;obtain⟨pV,_⟩:=jf HQ.entry;rw[uD] at pV;obtain⟨Cv,cl,VY,nJ,cin⟩:=pV;replace nJ:=fF nJ rfl;rw[uD] at nJ;have dp:=HQ.cl.1;unfold dP at dp;rw[uD] at dp
     have ux:Cl w9 gE (k*7) [.slice (some ⟨gV,0,none⟩) (m+1) b1]:=by have:=dp.part 0 1;exact this
     clear dp uD;have XT:=HQ.cl.2.1;have Br:=HQ.oth;have WL:∀(i:Nat) (C:List Value),i≠k→Cq[i]? =some C→dm C=none∨dm C≠(Value.ownBlock (.slice (some ⟨gV,0,none⟩) (m+1) b1)):=HQ.apart;have z8:=BB.size
     have tf:=fun W' (hb:Below w9.heap.size w9 W')=>gI CI c.item W' ((uq.below BB).below hb) hc.item
     have SK:=fun W' (hb:Below w0.heap.size w0 W')=>gI CI c.item W' (uq.below hb) hc.item
     clear tf
     refine fl (by kernel_rfl) 12 (fun i=>if i=8 then some 9 else none) (fun wx=>Row wx g1 72 D∧Cl wx gE (k*7) [.slice (some ⟨gV,0,none⟩) (m+1) b1]∧pT w0.heap.size wx es Cq k∧ah 47 w9 wx∧wx.ownsRow w0.heap.size 47 17 (.slice (some ⟨gV,0,none⟩) (m+1) b1) (m+1) Cv.flatten∧Below w0.heap.size w0 wx) (fun j w w'=>(j≠9→Below w.heap.size w w')∧ah 47 w w') [
       (fun v _=>v=.pointer (some ⟨gE,k*7,none⟩)),
  (fun v _=>v=.pointer (some ⟨gE,k*7,none⟩)),
  (fun v _=>v=.pointer (some ⟨gE,k*7,none⟩)),
  (fun v _=>v=.pointer (some ⟨gE,k*7,none⟩)),
  (fun v _=>v=.slice (some ⟨gV,0,none⟩) (m+1) b1),
  (fun v _=>v=.pointer (some ⟨g1,7,none⟩)),
  (fun v _=>v=.agg CI.toArray),
  (fun v w=>∃CC:List Value,(cy w0.heap.size w CC c.item∧CC.length=17)∧v=.agg CC.toArray),
  (fun v w=>∃(q:Nat) (CC:List Value),(Row w q 47 CC∧(cy w0.heap.size w CC c.item∧CC.length=17))∧v=.slice (some ⟨q,0,none⟩) 1 1),
  (fun v w=>∃(X:Option Addr) (y:Nat) (CC:List Value),(w.ownsRow w0.heap.size 47 17 (.slice X (m+1+1) y) (m+1+1) (Cv.flatten++CC)∧(cy w0.heap.size w CC c.item∧CC.length=17)∧(X=some ⟨gV,0,none⟩∨∃q,X=some ⟨q,0,none⟩∧w9.heap.size≤q))∧v=.slice X (m+1+1) y),
  (fun v _=>v=.pointer (some ⟨gE,k*7,none⟩)),
  (fun v _=>v=.pointer (some ⟨gE,k*7,none⟩))] (fun j v w w' i bE hd hc h hR=>?_) (by kernel_rfl) (by kernel_rfl) (fun a b h=>by(try dsimp only at h);(repeat' split at h)<;>first|(injection h with h;omega)|cases h) ⟨R1.drew,fun j u hu=>ux j u hu,Br.below (Below.refl _ _).drew,ah.ab (Below.refl _ _).drew,jO nJ,BB.drew⟩ ?_ ?_
     ·match i,bE,hd,hc,h with
      |0,bE,hd,hc,h=>exact h
      |1,bE,hd,hc,h=>exact h
      |2,bE,hd,hc,h=>exact h
      |3,bE,hd,hc,h=>exact h
      |4,bE,hd,hc,h=>exact h
      |5,bE,hd,hc,h=>exact h
      |6,bE,hd,hc,h=>exact h
      |7,bE,hd,hc,h=>obtain⟨CC,⟨a1,a2⟩,e⟩:=h;exact⟨CC,⟨a1.aa hR.2,a2⟩,e⟩
      |8,bE,hd,hc,h=>obtain⟨q,CC,⟨a1,a2,a3⟩,e⟩:=h;exact⟨q,CC,⟨a1.keep (hR.1 (fun q=>hc (by rw[q];rfl))),a2.aa hR.2,a3⟩,e⟩
      |9,bE,hd,hc,h=>obtain⟨X,y,CC,⟨a1,⟨a2,a3⟩,a4⟩,e⟩:=h;exact⟨X,y,CC,⟨I a1 (hR.1 (fun q=>bE q.symm)),⟨a2.aa hR.2,a3⟩,a4⟩,e⟩
      |10,bE,hd,hc,h=>exact h
      |11,bE,hd,hc,h=>exact h
      |n+12,_,_,_,_=>trivial
     ·refine⟨fun _ a wx hG hr hb K hK=>?_,?_⟩
      ·exact vz
      refine⟨fun _ a wx hG hr hb K hK=>?_,?_⟩
      ·exact vz
      refine⟨fun _ a wx hG hr hb K hK=>?_,?_⟩
      ·exact Ip
      refine⟨fun _ a wx hG hr hb K hK=>?_,?_⟩
      ·exact Io
      refine⟨fun _ a wx hG hr hb K hK=>?_,?_⟩
      ·exact Il
      refine⟨fun _ a wx hG hr hb K hK=>?_,?_⟩
      ·exact Dt
      refine⟨fun _ a wx hG hr hb K hK=>?_,?_⟩
      ·exact Im
      refine⟨fun _ a wx hG hr hb K hK=>?_,?_⟩
      ·exact Ii
      refine⟨fun _ a wx hG hr hb K hK=>?_,?_⟩
      ·exact Ih
      refine⟨fun _ a wx hG hr hb K hK=>?_,?_⟩
      ·have e1:=aM (hr 4 113);rw[if_pos (by rfl)];obtain⟨q,CC,⟨hq,hO,oh⟩,e2⟩:=hr 8 117;have lI:=hG.2.2.2.1;have Ep:=hG.2.2.2.2.1;refine ly (.tmp 113) (.tmp 117) 36 rfl w0.heap.size 47 _ 17 216 underlying36 rM rfl (by decide) (.slice (some ⟨gV,0,none⟩) (m+1) b1) (m+1) Cv.flatten q 1 1 CC e1 e2 Ep (by rw[oh]) hq.cl hO.s_.one (by unfold maxLen;omega) (by omega) hG.2.2.2.2.2.size (by omega) ?_;rintro v' w' o9 rG iw oo9;obtain⟨X,y,rfl,_,_⟩:=aj o9;have gB:=dN Ep rG;have c1:=hG.1.aa gB;have c2:=Cl.aa hG.2.1 (dE.aa XT lI) gB;have c3:=pT.grown (u:=.slice (some ⟨gV,0,none⟩) (m+1) b1) hG.2.2.1 rG gB WL;have c4:=hG.2.2.2.1.trans gB;have c6:=hG.2.2.2.2.2.trans (bG Ep rG (Nat.le_refl _) hG.2.2.2.2.2.size);have c7:cy w0.heap.size w' CC c.item:=hO.aa gB
       have c8:(X=some ⟨gV,0,none⟩∨∃q,X=some ⟨q,0,none⟩∧w9.heap.size≤q):=by
        exact Ik
       exact Du
      exact Ij
     ·intro v wx oo AA hA ho hG hV K hK
      simp[dh,bD,List.range,List.range.loop,Act.put] at hA
      have e0:=aM (hV 0 (by decide) rfl);have e1:=aM (hV 1 (by decide) rfl);have e2:=aM (hV 2 (by decide) rfl);have e3:=aM (hV 3 (by decide) rfl);have e4:=aM (hV 4 (by decide) rfl);have e5:=aM (hV 5 (by decide) rfl);have e6:=aM (hV 6 (by decide) rfl);obtain⟨_,_,e7⟩:=hV 7 (by decide) rfl;obtain⟨X,y,CC,⟨ox,⟨WB,oh⟩,yQ⟩,e9⟩:=hV 9 (by decide) rfl;have ic:=aM (hV 10 (by decide) rfl);have iA:=aM (hV 11 (by decide) rfl);rw[e0,e1,e2,e3,e4,e5,e6,e7,e9,ic,iA] at hA;subst hA;clear hV e0 e1 e2 e3 e4 e5 e6 e7 e9 ic iA
      try clear bQ
      have bU:some _=some oo:=ho
      injection bU with bU
      subst bU;clear ho;rw[if_pos (by rfl)];have lI:=hG.2.2.2.1;have kv:=hG.2.2.2.2.2;have EW:=sR.of HQ lI hG.2.2.1;refine ER (j:=0) (u:=.slice X (m+1+1) y) ?_ rfl ?_ isAgg36 sizeOf36 EW (by decide) rfl ?_
      ·rfl
      ·rfl
      intro wn bQ;refine hK _ _ ?_;have gB:=bQ.1.aa EW.Zl;obtain⟨p1,p2,p3,p4,p5⟩:=jf HQ.entry
      have kk:∀(ty kk n:Nat) (v:Value) (xs:List Value),w9.ownsRow w0.heap.size ty kk v n xs→ty≠47→ty≠44→wn.ownsRow w0.heap.size ty kk v n xs:=fun ty kk n v xs h h1 h2=>gB.own (lI.own h h1) h2
      have Hv:=EW.st (e':= {ee with aD:=ee.aD++ [c.item]}) bQ HQ (by simp) ⟨.slice X (m+1+1) y,_,_,_,_,rfl,kg.aa (sC cl VY oh ox (by rw[Vo.out]) (fun i C x a b=>(cin i C x a b).aa lI (by decide) (by decide)) WB) gB,kk _ _ _ _ _ p2 (by decide) (by decide),kk _ _ _ _ _ p3 (by decide) (by decide),kk _ _ _ _ _ p4 (by decide) (by decide),(p5.aa lI).aa gB⟩ (by
       rcases yQ with rfl|⟨q,rfl,hq⟩
       ·exact Or.inl rfl
       ·refine Or.inr fun q' O9=>?_;have:some q=some q':=O9;injection this with this;omega)
      have Kw:=(RB.aa lI).aa gB;have xS:=kv.trans (bQ.1.below HQ.cl.2.2);replace O1:=kk _ _ _ _ _ O1 (by decide) (by decide);replace O2:=kk _ _ _ _ _ O2 (by decide) (by decide);replace O3:=kk _ _ _ _ _ O3 (by decide) (by decide);replace O4:=kk _ _ _ _ _ O4 (by decide) (by decide);replace O6:=kk _ _ _ _ _ O6 (by decide) (by decide);clear hG bQ kk gB p1 p2 p3 p4 p5 EW lI kv SK hK Br ux nJ ox RB R1 BB;exact Rv
end
end Go.Proofs.YtdnpopjabpklnaaGreatDoor
