/- Contracts and plain laws that the proof of the top laws uses (EnI). No condition beyond those stated. -/
import Derived.Test.YtdnpopjabpklnaaGreatDoorG13
import Derived.Test.YtdnpopjabpklnaaGreatDoorApy
set_option maxRecDepth 100000
set_option maxHeartbeats 64000000
set_option linter.all false
namespace Go.Proofs.YtdnpopjabpklnaaGreatDoor
section
open Go.RowKit
open Tryz
theorem Ol {es:List aB} {q:Int} (h:fR es q<0):fR es q= -1:=by
 unfold fR at h ⊢
 cases hf:es.findIdx? (my q) with
 |some i=>rw[hf] at h;simp only at h;omega
 |none=>rfl
theorem QN {P:Prop} (h:P:=by
 have cM:=BB.size;replace aC:=fU aC;replace RB:=RB.keep aC;replace R1:=R1.keep aC;replace O1:=I O1 aC;replace O2:=I O2 aC;replace O3:=I O3 aC;replace O4:=I O4 aC;replace O5:=O5.aa (t:=31) (ah.ab aC);replace BB:=az BB aC;clear di cV aK bP;clear aC HAd HRm
 by_cases cD:z=0
 case neg=>
  go_wp2_with fail
  go_ret
  exact fH.err cD (fun h=>h) BB
 subst cD;obtain⟨m,hm,ps,jk,a_⟩:=hz rfl;replace a_:=aX a_ cM;clear hz cM O6 hf1 hf2 z1 zl;have obg:=hg;have bC:=trivial
 go_wp2_with (first
  |(clear bC;(with_reducible refine cQ (u:=v) ?_ ?_ isAgg29 sizeOf29 RB (i:=6) (by simp) tw ?_);rfl;rfl;have bg:=RB.ty;clear RB;intro x3 RB H0;have aeJ:(([.int .i64 b.now,.slice A1 n1 c1,.slice A2 n2 c2,.slice A3 n3 c3,.slice A4 n4 c4,.slice A5 n5 c5,.slice A6 n6 c6]:List Value).set 6 (v)).length=_:=(List.length_set ..).trans (show([.int .i64 b.now,.slice A1 n1 c1,.slice A2 n2 c2,.slice A3 n3 c3,.slice A4 n4 c4,.slice A5 n5 c5,.slice A6 n6 c6]:List Value).length=7 from rfl);have kt:=H0.aa bg;replace R1:=H0.row R1;replace O1:=kt.own O1;replace O2:=kt.own O2;replace O3:=kt.own O3;replace O4:=kt.own O4;replace O5:=O5.aa kt;replace a_:=kt.own a_;replace BB:=BB.trans (H0.below obg);clear H0 kt bg;have cz:=trivial))
 try clear cz
 go_ret
 have hlm:ps.length≤b.ft.length+1:=by have:=Fw.out;omega
 exact⟨0,rfl,BB,fun _=>⟨{b with ft:=ps},_,Hs.SC ps hlm rfl,trivial,RB,_,_,_,_,_,_,rfl,O1,O2,O3,O4,O5,by rw[←jk] at a_;exact a_⟩,fun h=>h.elim⟩):P:=h
theorem r7 {P:Prop} (h:P:=by
 have e1:=aq (hr 7 18);have e2:=fZ e1;rw[if_neg (by simp[Region.wanted,yielded,e2])]
 exact hK _ _ rfl hG (Below.refl _ _)):P:=h
theorem QO {P:Prop} (h:P:=by
 refine List.forall_mem_cons.2 ⟨fun _ _ _ h _=>h,List.forall_mem_cons.2 ⟨fun _ _ _ h _=>h,List.forall_mem_cons.2 ⟨fun _ _ _ h _=>h,List.forall_mem_cons.2 ⟨fun _ _ _ h _=>h,List.forall_mem_cons.2 ⟨fun _ _ _ h _=>h,List.forall_mem_cons.2 ⟨fun _ _ _ h _=>h,List.forall_mem_cons.2 ⟨fun _ _ _ h _=>h,List.forall_mem_cons.2 ⟨fun _ _ _ h _=>h,List.forall_mem_cons.2 ⟨fun _ _ _ h _=>h,List.forall_mem_cons.2 ⟨fun _ _ _ h _=>h,List.forall_mem_cons.2 ⟨fun _ _ _ h _=>h,List.forall_mem_cons.2 ⟨fun _ _ _ h _=>h,List.forall_mem_cons.2 ⟨fun _ _ _ h _=>h,List.forall_mem_cons.2 ⟨fun _ _ _ h _=>h,List.forall_mem_cons.2 ⟨fun _ _ _ h _=>h,(fun _ h=>by cases h)⟩⟩⟩⟩⟩⟩⟩⟩⟩⟩⟩⟩⟩⟩⟩):P:=h
theorem QQ {P:Prop} (h:P:=by
 have e1:=aq (hr 2 13);have e2:=aq (hr 4 15);rw[if_pos (by rfl)];unfold Oper.wp execOp
 go_simp
 refine(Zt wx hG.2.2).mono ?_;rintro e' w' ⟨rfl,aY⟩
 exact hK _ _ rfl ⟨hG.1.keep aY,hG.2.1.keep aY,hG.2.2.trans (aY.mono hG.2.2.size)⟩ aY):P:=h
theorem QR {P:Prop} (h:P:=by
 have e1:=aq (hr 3 14);have c0:wx.cell? ⟨g1,4,none⟩=some (.int .i64 q1):=(hG.2.1.cell 4).trans (d4);rw[if_pos (by rfl)];unfold Oper.wp execOp
 go_simp
 exact hK _ _ rfl hG (Below.refl _ _)):P:=h
theorem QS {P:Prop} (h:P:=by
 have e:=aM (hr 1 12);rw[if_pos (by rfl)];unfold Oper.wp execOp
 exact kh e aN hG.1 rfl (hK _ _ rfl hG (Below.refl _ _))):P:=h
theorem M9 (t g:Nat) (b:cK) (c:eH) (C D:List Value) (w0 w:World) (kl:Below w0.heap.size w0 w) (hg:w0.heap.size≤g) (hR:Row w g 31 C) (hO:cZ w0.heap.size w C b) (hI:gL t b) (ht:t≤1000) (hD:je w0 D c) (hc:lR c) (hm:jl w0) (om:rh w0):
  Calls prog 42 #[.pointer (some ⟨g,0,none⟩),.agg D.toArray] w (fH w0 g b c (False) (fun _=>True)):=by
 obtain⟨A1,n1,c1,A2,n2,c2,A3,n3,c3,A4,n4,c4,A5,n5,c5,A6,n6,c6,rfl,O1,O2,O3,O4,O5,O6,q1,q2,q3,q4,q5,q6,m3,m4,m5,m6⟩:=hO.open_;obtain⟨nO,d0,_,d2,_,d4,d5,_,_,_,_,_,_,_,_⟩:=ko hD;have BB:=kl;have RB:=hR
 have CA:n3≤1000:=by have:=hI.dJ;omega
 have Eb:n4≤1000:=by have:=hI.af;omega
 have tt:n5≤1000:=by have:=hI.entries;omega
 have pQ:n6≤1000:=by have:=hI.ft;omega
 have pj:n3≤1100000:=by have:=hI.dJ;omega
 have CD:n4≤1100000:=by have:=hI.af;omega
 have yN:n5≤1100000:=by have:=hI.entries;omega
 have wg:n6≤1100000:=by have:=hI.ft;omega
 have ri:=Lib.hid q3;have pL:=Lib.hid q4;have mL:=Lib.hid q5;have Fw:=Lib.hid q6;have HI:=Lib.hid hI;clear hR q1 q2 q3 q4 q5 q6 hI
 go_enter func42,ntmps42
 have aL:=trivial
 go_wp2_with (first
  |(clear aJ;(with_reducible refine ak ?_ fp R1 nO ?_);rfl;have bC:=trivial)
  |(clear aL;(with_reducible refine ao (C:=D) ?_ ?_);rfl;intro x1 g1 aR R1 aw;have vI:=h_ RB aR;have eV:=jq BB aR;replace RB:=RB.keep aw;replace O1:=I O1 aw;replace O2:=I O2 aw;replace O3:=I O3 aw;replace O4:=I O4 aw;replace O6:=I O6 aw;replace O5:=O5.aa (t:=31) (ah.ab aw);replace BB:=az BB aw;have cV:=ae R1 d0;have aI:=ae R1 d2;have aK:=ae R1 d4;have bP:=ae R1 d5;clear aw aR;have aJ:=trivial))
 try clear bC
 refine(rD D c.il 18 _ d2).mono ?_;rintro r x2 ⟨rfl,aF⟩;replace RB:=RB.keep aF;replace R1:=R1.keep aF;replace O1:=I O1 aF;replace O2:=I O2 aF;replace O3:=I O3 aF;replace O4:=I O4 aF;replace O6:=I O6 aF;replace O5:=O5.aa (t:=31) (ah.ab aF);replace BB:=az BB aF;clear cV aI aK bP;have cV:=ae R1 d0;have aI:=ae R1 d2;have aK:=ae R1 d4;have bP:=ae R1 d5;clear aF;generalize sJ c.il 18=rb at*
 cases rb with
 |false=>
  go_wp2_with fail
  go_ret
  exact fH.err (by decide) (fun h=>h) BB
 |true=>
 go_wp2_with fail
 have dx:=U (RB.cell 0);have dA:=U (RB.cell 1);have dB:=U (RB.cell 2);have dC:=U (RB.cell 3);have dt:=U (RB.cell 4);have dD:=U (RB.cell 5);have di:=U (RB.cell 6);have zl:=RB.lt;have z1:=R1.lt;have OB:cZ w0.heap.size x2 [.int .i64 b.now,.slice A1 n1 c1,.slice A2 n2 c2,.slice A3 n3 c3,.slice A4 n4 c4,.slice A5 n5 c5,.slice A6 n6 c6] b:=⟨_,_,_,_,_,_,rfl,O1,O2,O3,O4,O5,O6⟩
 have Zt:=fun W (hb:Below x2.heap.size x2 W)=>m_ [.int .i64 b.now,.slice A1 n1 c1,.slice A2 n2 c2,.slice A3 n3 c3,.slice A4 n4 c4,.slice A5 n5 c5,.slice A6 n6 c6] b c.id W ((OB.below hb).lower (Nat.zero_le _))
 have Vk:=fun W (hb:Below x2.heap.size x2 W)=>m_ [.int .i64 b.now,.slice A1 n1 c1,.slice A2 n2 c2,.slice A3 n3 c3,.slice A4 n4 c4,.slice A5 n5 c5,.slice A6 n6 c6] b c.other W ((OB.below hb).lower (Nat.zero_le _))
 clear OB
 have Zx:=fun h=>Ol (es:=b.entries) (q:=c.id) h
 generalize fR b.entries c.id=f1 at Zt Zx;generalize fR b.entries c.other=f2 at Vk;obtain⟨q1,iC⟩:∃q,q=c.id:=⟨_,rfl⟩;obtain⟨q2,pR⟩:∃q,q=c.other:=⟨_,rfl⟩;rw[←iC] at Zt d4 aK;rw[←pR] at Vk d5 bP;clear iC pR
 by_cases hf1:f1<0
 case pos=>
  clear Vk;have yM:=Zx hf1;subst yM;clear Zx hf1
  have bQ:∀p∈([
    (fun v _=>v=.pointer (some ⟨g,0,none⟩)),
  (fun v _=>v=.pointer (some ⟨g,0,none⟩)),
  (fun v _=>v=.agg (([.int .i64 b.now,.slice A1 n1 c1,.slice A2 n2 c2,.slice A3 n3 c3,.slice A4 n4 c4,.slice A5 n5 c5,.slice A6 n6 c6]:List Value)).toArray),
  (fun v _=>v=.pointer (some ⟨g1,4,none⟩)),
  (fun v _=>v=.int .i64 q1),
  (fun v _=>v=.int .i64 (-1)),
  (fun v _=>v=.bool true),
  (fun v _=>v=.bool true),
  (fun v _=>v=undef),
  (fun v _=>v=undef),
  (fun v _=>v=undef),
  (fun v _=>v=undef),
  (fun v _=>v=undef),
  (fun v _=>v=undef),
  (fun v _=>v=undef)]:List (Value→World→Prop)),∀v w w',p v w→Below w.heap.size w w'→p v w':=by
   exact QO
  refine cT (by kernel_rfl) 15 (fun _=>none) (fun wx=>Row wx g 31 [.int .i64 b.now,.slice A1 n1 c1,.slice A2 n2 c2,.slice A3 n3 c3,.slice A4 n4 c4,.slice A5 n5 c5,.slice A6 n6 c6]∧Row wx g1 72 D∧Below x2.heap.size x2 wx) (fun _ w w'=>Below w.heap.size w w') _ (fun j v w w' i _ h hR=>fC bQ (fun _ _ _ _ _=>trivial) i v w w' h hR) (by kernel_rfl) (by kernel_rfl) (fun _ _ h=>by cases h) ⟨RB.drew,R1.drew,(Below.refl _ _).drew⟩ ?_ ?_
  ·clear bQ;refine⟨fun _ a wx hG hr hb K hK=>?_,?_⟩
   ·have e1:=aq (hb 0);rw[if_pos (by rfl)];unfold Oper.wp execOp
    go_simp
    exact hK _ _ rfl hG (Below.refl _ _)
   refine⟨fun _ a wx hG hr hb K hK=>?_,?_⟩
   ·have e1:=aq (hr 0 11);rw[if_pos (by rfl)];unfold Oper.wp execOp
    go_simp
    exact hK _ _ rfl hG (Below.refl _ _)
   refine⟨fun _ a wx hG hr hb K hK=>?_,?_⟩
   ·exact QS
   refine⟨fun _ a wx hG hr hb K hK=>?_,?_⟩
   ·have e1:=aq (hb 3);rw[if_pos (by rfl)];unfold Oper.wp execOp
    go_simp
    exact hK _ _ rfl hG (Below.refl _ _)
   refine⟨fun _ a wx hG hr hb K hK=>?_,?_⟩
   ·exact QR
   refine⟨fun _ a wx hG hr hb K hK=>?_,?_⟩
   ·exact QQ
   refine⟨fun _ a wx hG hr hb K hK=>?_,?_⟩
   ·have e1:=aq (hr 5 16);rw[if_pos (by rfl)];unfold Oper.wp execOp
    go_simp
    exact hK _ _ rfl hG (Below.refl _ _)
   refine⟨fun _ a wx hG hr hb K hK=>?_,?_⟩
   ·have e1:=aq (hr 6 17);rw[if_pos (by rfl)];unfold Oper.wp execOp
    go_simp
    exact hK _ _ rfl hG (Below.refl _ _)
   refine⟨fun _ a wx hG hr hb K hK=>?_,?_⟩
   ·exact r7
   refine⟨fun _ a wx hG hr hb K hK=>?_,?_⟩
   ·exact r7
   refine⟨fun _ a wx hG hr hb K hK=>?_,?_⟩
   ·exact r7
   refine⟨fun _ a wx hG hr hb K hK=>?_,?_⟩
   ·exact r7
   refine⟨fun _ a wx hG hr hb K hK=>?_,?_⟩
   ·exact r7
   refine⟨fun _ a wx hG hr hb K hK=>?_,?_⟩
   ·exact r7
   refine⟨fun _ a wx hG hr hb K hK=>?_,?_⟩
   ·exact r7
   exact⟨fun h=>absurd h (by decide),trivial⟩
  ·intro v wx oo AA hA ho hG hV K hK
   simp[dh,bD,List.range,List.range.loop,Act.put] at hA
   have e0:=aM (hV 0 (by decide) rfl);have e1:=aM (hV 1 (by decide) rfl);have e2:=aM (hV 2 (by decide) rfl);have e3:=aM (hV 3 (by decide) rfl);have e4:=aM (hV 4 (by decide) rfl);have e5:=aM (hV 5 (by decide) rfl);have e6:=aM (hV 6 (by decide) rfl);have e7:=aM (hV 7 (by decide) rfl);have e8:=aM (hV 8 (by decide) rfl);have e9:=aM (hV 9 (by decide) rfl);have ic:=aM (hV 10 (by decide) rfl);have iA:=aM (hV 11 (by decide) rfl);have mM:=aM (hV 12 (by decide) rfl);have pO:=aM (hV 13 (by decide) rfl);have vW:=aM (hV 14 (by decide) rfl);rw[e0,e1,e2,e3,e4,e5,e6,e7,e8,e9,ic,iA,mM,pO,vW] at hA;subst hA;clear hV e0 e1 e2 e3 e4 e5 e6 e7 e8 e9 ic iA mM pO vW
   try clear bQ
   have bU:some _=some oo:=ho
   injection bU with bU
   subst bU;clear ho;rw[if_pos (by rfl)];unfold Oper.wp execOp
   go_simp
   refine hK _ _ ?_
   go_wp2_with fail
   go_ret
   exact fH.err (by decide) (fun h=>h) (BB.trans (hG.2.2.mono BB.size))
 clear Zx
 have bQ:∀p∈([
   (fun v _=>v=.pointer (some ⟨g,0,none⟩)),
  (fun v _=>v=.pointer (some ⟨g,0,none⟩)),
  (fun v _=>v=.agg (([.int .i64 b.now,.slice A1 n1 c1,.slice A2 n2 c2,.slice A3 n3 c3,.slice A4 n4 c4,.slice A5 n5 c5,.slice A6 n6 c6]:List Value)).toArray),
  (fun v _=>v=.pointer (some ⟨g1,4,none⟩)),
  (fun v _=>v=.int .i64 q1),
  (fun v _=>v=.int .i64 f1),
  (fun v _=>v=.bool false),
  (fun v _=>v=.bool false),
  (fun v _=>v=.pointer (some ⟨g,0,none⟩)),
  (fun v _=>v=.pointer (some ⟨g,0,none⟩)),
  (fun v _=>v=.agg (([.int .i64 b.now,.slice A1 n1 c1,.slice A2 n2 c2,.slice A3 n3 c3,.slice A4 n4 c4,.slice A5 n5 c5,.slice A6 n6 c6]:List Value)).toArray),
  (fun v _=>v=.pointer (some ⟨g1,5,none⟩)),
  (fun v _=>v=.int .i64 q2),
  (fun v _=>v=.int .i64 f2),
  (fun v _=>v=.bool (decide (f2<0)))]:List (Value→World→Prop)),∀v w w',p v w→Below w.heap.size w w'→p v w':=by
  exact QO
 refine cT (by kernel_rfl) 15 (fun _=>none) (fun wx=>Row wx g 31 [.int .i64 b.now,.slice A1 n1 c1,.slice A2 n2 c2,.slice A3 n3 c3,.slice A4 n4 c4,.slice A5 n5 c5,.slice A6 n6 c6]∧Row wx g1 72 D∧Below x2.heap.size x2 wx) (fun _ w w'=>Below w.heap.size w w') _ (fun j v w w' i _ h hR=>fC bQ (fun _ _ _ _ _=>trivial) i v w w' h hR) (by kernel_rfl) (by kernel_rfl) (fun _ _ h=>by cases h) ⟨RB.drew,R1.drew,(Below.refl _ _).drew⟩ ?_ ?_
 ·clear bQ;refine⟨fun _ a wx hG hr hb K hK=>?_,?_⟩
  ·have e1:=aq (hb 0);rw[if_pos (by rfl)];unfold Oper.wp execOp
   go_simp
   exact hK _ _ rfl hG (Below.refl _ _)
  refine⟨fun _ a wx hG hr hb K hK=>?_,?_⟩
  ·have e1:=aq (hr 0 11);rw[if_pos (by rfl)];unfold Oper.wp execOp
   go_simp
   exact hK _ _ rfl hG (Below.refl _ _)
  refine⟨fun _ a wx hG hr hb K hK=>?_,?_⟩
  ·exact QS
  refine⟨fun _ a wx hG hr hb K hK=>?_,?_⟩
  ·have e1:=aq (hb 3);rw[if_pos (by rfl)];unfold Oper.wp execOp
   go_simp
   exact hK _ _ rfl hG (Below.refl _ _)
  refine⟨fun _ a wx hG hr hb K hK=>?_,?_⟩
  ·exact QR
  refine⟨fun _ a wx hG hr hb K hK=>?_,?_⟩
  ·exact QQ
  refine⟨fun _ a wx hG hr hb K hK=>?_,?_⟩
  ·have e1:=aq (hr 5 16);rw[if_pos (by rfl)];unfold Oper.wp execOp;have hd1:decide (f1<0)=false:=decide_eq_false hf1
   go_simp
   exact hK _ _ rfl hG (Below.refl _ _)
  refine⟨fun _ a wx hG hr hb K hK=>?_,?_⟩
  ·have e1:=aq (hr 6 17);rw[if_pos (by rfl)];unfold Oper.wp execOp
   go_simp
   exact hK _ _ rfl hG (Below.refl _ _)
  refine⟨fun _ a wx hG hr hb K hK=>?_,?_⟩
  ·have e8:=aq (hr 7 18);have e9:=fZ e8;rw[if_pos (by simp[Region.wanted,yielded,e9])];clear e8 e9;have e1:=aq (hb 0);unfold Oper.wp execOp
   go_simp
   exact hK _ _ rfl hG (Below.refl _ _)
  refine⟨fun _ a wx hG hr hb K hK=>?_,?_⟩
  ·have e8:=aq (hr 7 18);have e9:=fZ e8;rw[if_pos (by simp[Region.wanted,yielded,e9])];clear e8 e9;have e1:=aq (hr 8 19);unfold Oper.wp execOp
   go_simp
   exact hK _ _ rfl hG (Below.refl _ _)
  refine⟨fun _ a wx hG hr hb K hK=>?_,?_⟩
  ·have e8:=aq (hr 7 18);have e9:=fZ e8;rw[if_pos (by simp[Region.wanted,yielded,e9])];clear e8 e9;have e:=aM (hr 9 20);unfold Oper.wp execOp;exact kh e aN hG.1 rfl (hK _ _ rfl hG (Below.refl _ _))
  refine⟨fun _ a wx hG hr hb K hK=>?_,?_⟩
  ·have e8:=aq (hr 7 18);have e9:=fZ e8;rw[if_pos (by simp[Region.wanted,yielded,e9])];clear e8 e9;have e1:=aq (hb 3);unfold Oper.wp execOp
   go_simp
   exact hK _ _ rfl hG (Below.refl _ _)
  refine⟨fun _ a wx hG hr hb K hK=>?_,?_⟩
  ·have e8:=aq (hr 7 18);have e9:=fZ e8;rw[if_pos (by simp[Region.wanted,yielded,e9])];clear e8 e9;have e1:=aq (hr 11 22);have c0:wx.cell? ⟨g1,5,none⟩=some (.int .i64 q2):=(hG.2.1.cell 5).trans (d5);unfold Oper.wp execOp
   go_simp
   exact hK _ _ rfl hG (Below.refl _ _)
  refine⟨fun _ a wx hG hr hb K hK=>?_,?_⟩
  ·have e8:=aq (hr 7 18);have e9:=fZ e8;rw[if_pos (by simp[Region.wanted,yielded,e9])];clear e8 e9;have e1:=aq (hr 10 21);have e2:=aq (hr 12 23);unfold Oper.wp execOp
   go_simp
   refine(Vk wx hG.2.2).mono ?_;rintro e' w' ⟨rfl,aY⟩;exact hK _ _ rfl ⟨hG.1.keep aY,hG.2.1.keep aY,hG.2.2.trans (aY.mono hG.2.2.size)⟩ aY
  refine⟨fun _ a wx hG hr hb K hK=>?_,?_⟩
  ·have e8:=aq (hr 7 18);have e9:=fZ e8;rw[if_pos (by simp[Region.wanted,yielded,e9])];clear e8 e9;have e1:=aq (hr 13 24);unfold Oper.wp execOp
   go_simp
   exact hK _ _ rfl hG (Below.refl _ _)
  exact⟨fun h=>absurd h (by decide),trivial⟩
 ·intro v wx oo AA hA ho hG hV K hK
  simp[dh,bD,List.range,List.range.loop,Act.put] at hA
  have e0:=aM (hV 0 (by decide) rfl);have e1:=aM (hV 1 (by decide) rfl);have e2:=aM (hV 2 (by decide) rfl);have e3:=aM (hV 3 (by decide) rfl);have e4:=aM (hV 4 (by decide) rfl);have e5:=aM (hV 5 (by decide) rfl);have e6:=aM (hV 6 (by decide) rfl);have e7:=aM (hV 7 (by decide) rfl);have e8:=aM (hV 8 (by decide) rfl);have e9:=aM (hV 9 (by decide) rfl);have ic:=aM (hV 10 (by decide) rfl);have iA:=aM (hV 11 (by decide) rfl);have mM:=aM (hV 12 (by decide) rfl);have pO:=aM (hV 13 (by decide) rfl);have vW:=aM (hV 14 (by decide) rfl);rw[e0,e1,e2,e3,e4,e5,e6,e7,e8,e9,ic,iA,mM,pO,vW] at hA;subst hA;clear hV e0 e1 e2 e3 e4 e5 e6 e7 e8 e9 ic iA mM pO vW
  try clear bQ
  have bU:some _=some oo:=ho
  injection bU with bU
  subst bU;clear ho;rw[if_pos (by rfl)];unfold Oper.wp execOp
  go_simp
  refine hK _ _ ?_;have ey:=hG.2.2;replace RB:=RB.keep ey;replace R1:=R1.keep ey;replace O1:=I O1 ey;replace O2:=I O2 ey;replace O3:=I O3 ey;replace O4:=I O4 ey;replace O6:=I O6 ey;replace O5:=O5.aa (t:=31) (ah.ab ey);replace BB:=az BB ey;clear dx dA dB dC dt dD di cV aI aK bP;clear hG ey Zt Vk hK zl z1
  by_cases hf2:f2<0
  case pos=>
   go_wp2_with fail
   go_ret
   exact fH.err (by decide) (fun h=>h) BB
  have z1:=R1.lt;have zl:=RB.lt;obtain⟨kd,yK⟩:∃x,x=c.kind:=⟨_,rfl⟩;rw[←yK] at d0;have pK:=Lib.hid yK;clear yK;have cV:=ae R1 d0;have aK:=ae R1 d4;have bP:=ae R1 d5;have di:=U (RB.cell 6);have SP:dF wx A6 n6 2 (b.ft.map ja).flatten:=bZ (fF O6 Fw.out)
  have HAd:=fun W (hb:Below wx.heap.size wx W)=>Tv A6 n6 c6 b.ft q1 q2 W (SP.below (by decide) hb) Fw.out (by omega)
  have HRm:=fun W (hb:Below wx.heap.size wx W)=>M_ A6 n6 c6 b.ft q1 q2 W (SP.below (by decide) hb) Fw.out (by omega)
  clear SP
  by_cases h7:kd=7
  ·skip
   subst h7
   go_wp2_with fail
   go_region_held3 (fun w'=>w'.cell? ⟨g,6,none⟩=some (.slice A6 n6 c6)∧w'.cell? ⟨g1,4,none⟩=some (.int .i64 q1)∧w'.cell? ⟨g1,5,none⟩=some (.int .i64 q2))
    ((with_reducible refine And.intro (aT zl di ?_) (And.intro (aT z1 aK ?_) (aT z1 bP ?_)))<;>((repeat(first|with_reducible exact Below.refl _ _|with_reducible refine ar ax ?_|with_reducible refine ar aC ?_|with_reducible refine al ?_ _|with_reducible refine bL ?_));done))
    (first|(go_at_call 95;((with_reducible refine(HRm _ ?_).mono ?_);(repeat(first|with_reducible exact Below.refl _ _|with_reducible refine ar ax ?_|with_reducible refine ar aC ?_|with_reducible refine al ?_ _|with_reducible refine bL ?_));rintro r wa ⟨v,z,rfl,tw,hz,aC⟩)))
   exact QN
  ·skip
   have h7':(kd==7)=false:=beq_eq_false_iff_ne.2 h7;clear h7
   go_wp2_with fail
   go_region_held3 (fun w'=>w'.cell? ⟨g,6,none⟩=some (.slice A6 n6 c6)∧w'.cell? ⟨g1,4,none⟩=some (.int .i64 q1)∧w'.cell? ⟨g1,5,none⟩=some (.int .i64 q2))
    ((with_reducible refine And.intro (aT zl di ?_) (And.intro (aT z1 aK ?_) (aT z1 bP ?_)))<;>((repeat(first|with_reducible exact Below.refl _ _|with_reducible refine ar ax ?_|with_reducible refine ar aC ?_|with_reducible refine al ?_ _|with_reducible refine bL ?_));done))
    (first|(go_at_call 94;((with_reducible refine(HAd _ ?_).mono ?_);(repeat(first|with_reducible exact Below.refl _ _|with_reducible refine ar ax ?_|with_reducible refine ar aC ?_|with_reducible refine al ?_ _|with_reducible refine bL ?_));rintro r wa ⟨v,z,rfl,tw,hz,aC⟩)))
   exact QN
theorem aef:∀t g b c C D w0 w,Kx t g b c C D w0 w:=fun t g b c C D w0 w h1 h2 h3 h4 h5 h6 h7 h8 h9 Co=>M9 t g b c C D w0 w h1 h2 h3 h4 h5 h6 h7 h8 h9 Co
end
end Go.Proofs.YtdnpopjabpklnaaGreatDoor
