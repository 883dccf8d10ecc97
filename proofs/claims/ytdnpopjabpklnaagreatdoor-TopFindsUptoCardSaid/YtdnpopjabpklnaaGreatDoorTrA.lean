/- Contracts and plain laws that the proof of the top laws uses (TrA). No condition beyond those stated. -/
import Derived.Test.YtdnpopjabpklnaaGreatDoorG12
set_option maxRecDepth 100000
set_option maxHeartbeats 64000000
set_option linter.all false
namespace Go.Proofs.YtdnpopjabpklnaaGreatDoor
section
open Go.RowKit
open Tryz
theorem Rl {P:Prop} (h:P:=by
 have eY:=cr (Below.refl wa.heap.size wa) (q+nq);obtain⟨w8,Aw⟩:∃w8,w8=wa.drewN (q+nq):=⟨_,rfl⟩;rw[←Aw] at eY
 (first|rw[←Aw]|rw[World.drewN_drewN,←Aw]|trace_state)
 clear Aw
 have nW:k≤n3:=by omega
 clear dC pW r_;replace RB:=RB.keep eY;replace R1:=R1.keep eY;replace O1:=I O1 eY;replace O2:=I O2 eY;replace O3:=I O3 eY;replace O4:=I O4 eY;replace O6:=I O6 eY;replace O5:=O5.aa (t:=31) (ah.ab eY);replace BB:=az BB eY;clear eY;have dx:=U (RB.cell 0);have dA:=U (RB.cell 1);have dB:=U (RB.cell 2);have dC:=U (RB.cell 3);have dt:=U (RB.cell 4);have dD:=U (RB.cell 5);have di:=U (RB.cell 6);have pW:=ae R1 d24;have r_:=ae R1 d25;have ZD:(w8.alloc (.cells #[.string c.bX.code,.string c.bX.title] 68)).drew.ownsRow w0.heap.size 68 2 (.slice A3 n3 c3) n3 (b.dJ.map fL).flatten:=fF (jO (bN O3 (.cells #[.string c.bX.code,.string c.bX.title] 68))) ri.out;have ya:Row (w8.alloc (.cells #[.string c.bX.code,.string c.bX.title] 68)).drew w8.heap.size 68 [.string c.bX.code,.string c.bX.title]:=(Row.new w8 68 [.string c.bX.code,.string c.bX.title]).drew
 have sw:(Value.slice A3 n3 c3).ownBlock≠some w8.heap.size:=fun e=>by have:=(O3.lt _ e).2;omega
 have H3:Row (w8.alloc (.cells #[.string c.bX.code,.string c.bX.title] 68)).drew g 31 [.int .i64 b.now,.slice A1 n1 c1,.slice A2 n2 c2,.slice A3 n3 c3,.slice A4 n4 c4,.slice A5 n5 c5,.slice A6 n6 c6]:=(Row.alloc RB _).drew;have e2a:(w8.alloc (.cells #[.string c.bX.code,.string c.bX.title] 68)).drew.cell? ⟨g,3,none⟩=some (.slice A3 n3 c3):=H3.cell 3;have cM:w0.heap.size≤(w8.alloc (.cells #[.string c.bX.code,.string c.bX.title] 68)).drew.heap.size:=(bL (al BB _)).size;have uj:∀u∈([.string c.bX.code,.string c.bX.title]:List Value),u.oneCell'=true:=Nt c.bX
 go_region_law (first
  |(go_simp;go_at_call 82;(with_reducible refine(Mk w0.heap.size (.slice A3 n3 c3) n3 k _ [.string c.bX.code,.string c.bX.title] w8.heap.size _ ZD ya rfl (Hq _) uj nW pj sw cM).mono ?_);rintro e wi ⟨v9,rfl,O3n,I7⟩;obtain⟨X9,y9,rfl,my9,_⟩:=aj O3n;have kt:=dN ZD I7;have wV:=H3.aa kt;have e2:=wV.cell 3;have f2:=wV.frozen 3;simp only[List.getElem?_cons_zero,List.getElem?_cons_succ] at e2))
 all_goals
  have P3:=cH.set wi g 3 (.slice X9 (n3+1) y9);have iT:=P3.aa wV.ty;have S8:Row (wi.setCell ⟨g,3,none⟩ (.slice X9 (n3+1) y9)) g 31 [.int .i64 b.now,.slice A1 n1 c1,.slice A2 n2 c2,.slice X9 (n3+1) y9,.slice A4 n4 c4,.slice A5 n5 c5,.slice A6 n6 c6]:=wV.cE 3 _;have ka:ah 68 w8 (w8.alloc (.cells #[.string c.bX.code,.string c.bX.title] 68)).drew:=ah.ab (ai w8 (.cells #[.string c.bX.code,.string c.bX.title] 68)).drew;have k2:=ka.trans kt;replace O1:=iT.own (k2.own O1);replace O2:=iT.own (k2.own O2);replace O4:=iT.own (k2.own O4);replace O6:=iT.own (k2.own O6);replace O5:=(O5.aa k2).aa iT;have ho:=iT.own O3n;rw[show([.string c.bX.code,.string c.bX.title]:List Value)=fL c.bX from rfl,Ev gh b.dJ k c.bX (by have:=ri.out;omega)] at ho;have xS:=((BB.alloc BB.size (.cells #[.string c.bX.code,.string c.bX.title] 68)).drew.trans (bG ZD I7 (Nat.le_refl _) cM)).trans (P3.below hg);clear e2 f2 I7 kt k2 ka iT P3 wV H3 ya ZD O3n sw cM e2a RB R1 O3 S3 BB pW r_ dx dA dB dC dt dD di;generalize wi.setCell ⟨g,3,none⟩ (.slice X9 (n3+1) y9)=w9 at*;have e9:=U (S8.cell 3)
  have Xp:n3+1=(gj b.dJ k c.bX).length:=by rw[kD,←ri.out]
  have S9:dF w9 X9 (n3+1) 2 ((gj b.dJ k c.bX).map fL).flatten:=bZ ho;have HL9:=Lib.hid Xp;clear Xp
  go_wp2_with fail
  with_reducible refine(N' X9 (n3+1) y9 (gj b.dJ k c.bX) w9 S9 HL9.out (by omega) my9 (fun x hx=>by rcases pt hx with rfl|hx;exact hc.bX;exact HI.out.bX x hx) (jl.below hm (xS))).mono ?_
  rintro e w10 ⟨⟨z,i,rfl,hz⟩,qw⟩;have HZ:=Lib.hid hz;clear hz e9
  go_wp2_with fail
  go_ret
  refine⟨z,rfl,az xS qw,fun _=>⟨_,_,Hs.bX k (by have:=ri.out;omega) rfl,fun h=>?_,S8.keep qw,?_⟩,fun hM=>?_⟩
  ·rw[h,xE]
  ·exact⟨_,_,_,_,_,_,rfl,I O1 qw,I O2 qw,fF (I ho qw) HL9.out.symm,I O4 qw,O5.aa (t:=31) (ah.ab qw),I O6 qw⟩
  ·obtain⟨_,h1,h2,h3,h4⟩:=hM
   exact HZ.out c.bX (by rw[h1,xE]) h2 h3 h4):P:=h
theorem Fy (t g:Nat) (b:cK) (c:eH) (C D:List Value) (w0 w:World) (kl:Below w0.heap.size w0 w) (hg:w0.heap.size≤g) (hR:Row w g 31 C) (hO:cZ w0.heap.size w C b) (hI:gL t b) (ht:t≤1000) (hD:je w0 D c) (hc:lR c) (hm:jl w0) (om:rh w0):
  Calls prog 37 #[.pointer (some ⟨g,0,none⟩),.agg D.toArray] w (fH w0 g b c (VB b c) (fun b'=>b.dJ=[]→b'= {b with dJ:=[c.bX]})):=by
 obtain⟨A1,n1,c1,A2,n2,c2,A3,n3,c3,A4,n4,c4,A5,n5,c5,A6,n6,c6,rfl,O1,O2,O3,O4,O5,O6,q1,q2,q3,q4,q5,q6,m3,m4,m5,m6⟩:=hO.open_;obtain⟨nO,_,_,d2,_,_,_,_,d24,d25,_,_,_,_,_⟩:=ko hD;have BB:=kl;have RB:=hR
 have CA:n3≤1000:=by have:=hI.dJ;omega
 have Eb:n4≤1000:=by have:=hI.af;omega
 have tt:n5≤1000:=by have:=hI.entries;omega
 have pQ:n6≤1000:=by have:=hI.ft;omega
 have pj:n3≤1100000:=by have:=hI.dJ;omega
 have CD:n4≤1100000:=by have:=hI.af;omega
 have yN:n5≤1100000:=by have:=hI.entries;omega
 have wg:n6≤1100000:=by have:=hI.ft;omega
 have ri:=Lib.hid q3;have pL:=Lib.hid q4;have mL:=Lib.hid q5;have Fw:=Lib.hid q6;have HI:=Lib.hid hI;clear hR q1 q2 q3 q4 q5 q6 hI
 go_enter func37,ntmps37
 have aL:=trivial
 go_wp2_with (first
  |(clear aJ;(with_reducible refine ak ?_ fp R1 nO ?_);rfl;have bC:=trivial)
  |(clear aL;(with_reducible refine ao (C:=D) ?_ ?_);rfl;intro x1 g1 aR R1 aw;have vI:=h_ RB aR;have eV:=jq BB aR;replace RB:=RB.keep aw;replace O1:=I O1 aw;replace O2:=I O2 aw;replace O3:=I O3 aw;replace O4:=I O4 aw;replace O6:=I O6 aw;replace O5:=O5.aa (t:=31) (ah.ab aw);replace BB:=az BB aw;have aI:=ae R1 d2;have pW:=ae R1 d24;have r_:=ae R1 d25;clear aw aR;have aJ:=trivial))
 try clear bC
 refine(rD D c.il 16 _ d2).mono ?_;rintro r x2 ⟨rfl,aF⟩;replace RB:=RB.keep aF;replace R1:=R1.keep aF;replace O1:=I O1 aF;replace O2:=I O2 aF;replace O3:=I O3 aF;replace O4:=I O4 aF;replace O6:=I O6 aF;replace O5:=O5.aa (t:=31) (ah.ab aF);replace BB:=az BB aF;clear aI pW r_;have aI:=ae R1 d2;have pW:=ae R1 d24;have r_:=ae R1 d25;clear aF;obtain⟨rb,FX⟩:∃rb,rb=sJ c.il 16:=⟨_,rfl⟩;rw[←FX];have HRB:=Lib.hid FX;clear FX
 cases rb with
 |false=>
  go_wp2_with fail
  go_ret
  exact fH.err (by decide) (fun h=>by have:=HRB.out;rw[h.1] at this;cases this) BB
 |true=>
 go_wp2_with fail
 have dx:=U (RB.cell 0);have dA:=U (RB.cell 1);have dB:=U (RB.cell 2);have dC:=U (RB.cell 3);have dt:=U (RB.cell 4);have dD:=U (RB.cell 5);have di:=U (RB.cell 6);have zl:=RB.lt;have z1:=R1.lt;have S3:=kE.jZ O3 ri.out
 have HT:=fun W (hb:Below x2.heap.size x2 W)=>wD [.int .i64 b.now,.slice A1 n1 c1,.slice A2 n2 c2,.slice A3 n3 c3,.slice A4 n4 c4,.slice A5 n5 c5,.slice A6 n6 c6] A3 n3 c3 b.dJ c.bX.code W rfl rfl (S3.below (by decide) hb) ri.out pj
 obtain⟨tb,mO⟩:∃tb,tb=pJ b.dJ c.bX.code:=⟨_,rfl⟩;rw[←mO] at HT;have NR:=Lib.hid mO;clear mO
 go_region_held3 (fun w'=>w'.cell? ⟨g,0,none⟩=some (.int .i64 b.now)∧w'.cell? ⟨g,1,none⟩=some (.slice A1 n1 c1)∧w'.cell? ⟨g,2,none⟩=some (.slice A2 n2 c2)∧w'.cell? ⟨g,3,none⟩=some (.slice A3 n3 c3)∧w'.cell? ⟨g,4,none⟩=some (.slice A4 n4 c4)∧w'.cell? ⟨g,5,none⟩=some (.slice A5 n5 c5)∧w'.cell? ⟨g,6,none⟩=some (.slice A6 n6 c6)∧w'.cell? ⟨g1,24,none⟩=some (.string c.bX.code))
  ((with_reducible refine And.intro (aT zl dx ?_) (And.intro (aT zl dA ?_) (And.intro (aT zl dB ?_) (And.intro (aT zl dC ?_) (And.intro (aT zl dt ?_) (And.intro (aT zl dD ?_) (And.intro (aT zl di ?_) (aT z1 pW ?_))))))))<;>((repeat(first|with_reducible exact Below.refl _ _|with_reducible refine ar ax ?_|with_reducible refine ar aC ?_|with_reducible refine al ?_ _|with_reducible refine bL ?_));done))
  (first
   |(go_at_call 81;((with_reducible refine(HT _ ?_).mono ?_);(repeat(first|with_reducible exact Below.refl _ _|with_reducible refine ar ax ?_|with_reducible refine ar aC ?_|with_reducible refine al ?_ _|with_reducible refine bL ?_));rintro e wa ⟨rfl,aC⟩)))
 replace aC:=fU aC;clear HT S3 zl z1;replace RB:=RB.keep aC;replace R1:=R1.keep aC;replace O1:=I O1 aC;replace O2:=I O2 aC;replace O3:=I O3 aC;replace O4:=I O4 aC;replace O6:=I O6 aC;replace O5:=O5.aa (t:=31) (ah.ab aC);replace BB:=az BB aC;clear dx dA dB dC dt dD di aI pW r_;clear aC
 cases tb with
 |true=>
  go_wp2_with fail
  go_ret
  exact fH.err (by decide) (fun h=>absurd h.2.1 (Vb NR.out.symm)) BB
 |false=>
 have dx:=U (RB.cell 0);have dA:=U (RB.cell 1);have dB:=U (RB.cell 2);have dC:=U (RB.cell 3);have dt:=U (RB.cell 4);have dD:=U (RB.cell 5);have di:=U (RB.cell 6);have aI:=ae R1 d2;have pW:=ae R1 d24;have r_:=ae R1 d25;have S3:=kE.jZ O3 ri.out
 go_wp2_with fail
 clear aI dx dA dB dt dD di
 go_loopw [5] (fun i wr=>∃(k q:Nat),k≤n3∧i=.int .i64 k∧wr=wa.drewN q) (fun i _=>n3 - (intOf i).toNat)
 case atStart=>exact⟨0,0,Nat.zero_le _,rfl,rfl⟩
 case round=>
  obtain⟨k,q,hk,rfl,rfl⟩:=hrel
  have kx:(k:Int)<(n3:Int)∨¬((k:Int)<(n3:Int)):=by omega
  rcases kx with aS|aS
  ·obtain⟨bq,oq,rfl,aO⟩:=lE S3 ri.out gh k (by have:=ri.out;omega);generalize b.dJ[k]'(by have:=ri.out;omega)=x at aO;have d0:wa.cell? ⟨bq,oq+k*2,none⟩=some (.string x.code):=aO 0 _ rfl;have W7:decide ((k:Int)<(n3:Int))=true:=decide_eq_true aS;obtain⟨lb,ph⟩:∃lb,lb=Op.bytesLess x.code.toList c.bX.code.toList:=⟨_,rfl⟩;replace ph:=ph.symm;clear aO
   cases lb with
   |true=>
    go_wp2_with fail
    go_quiet (fail)
    go_wp2_with fail
    exact⟨⟨k+1,_,by omega,by go_num,rfl⟩,by simp[intOf];omega⟩
   |false=>
    go_wp2_with fail
    go_quiet (fail)
    go_wp2_with fail
    clear d0;generalize (some (⟨bq,oq,none⟩:Addr))=A3 at*;exact Rl
  ·have hdf:decide (k<n3)=false:=decide_eq_false (by omega)
   go_wp2_with fail
   go_quiet (fail)
   go_wp2_with fail
   exact Rl
end
end Go.Proofs.YtdnpopjabpklnaaGreatDoor
