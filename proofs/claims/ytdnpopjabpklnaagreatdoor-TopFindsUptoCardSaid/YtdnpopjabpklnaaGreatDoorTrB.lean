/- Contracts and plain laws that the proof of the top laws uses (TrB). No condition beyond those stated. -/
import Derived.Test.YtdnpopjabpklnaaGreatDoorTrA
set_option maxRecDepth 100000
set_option maxHeartbeats 64000000
set_option linter.all false
namespace Go.Proofs.YtdnpopjabpklnaaGreatDoor
section
open Go.RowKit
open Tryz
theorem Rm {P:Prop} (h:P:=by
 have eY:=cr (Below.refl wc.heap.size wc) (q+nq);obtain⟨w8,Aw⟩:∃w8,w8=wc.drewN (q+nq):=⟨_,rfl⟩;rw[←Aw] at eY
 (first|rw[←Aw]|rw[World.drewN_drewN,←Aw])
 clear Aw
 have nW:k≤n4:=by omega
 clear dt oF pY pZ p7 p9;replace RB:=RB.keep eY;replace R1:=R1.keep eY;replace O1:=I O1 eY;replace O2:=I O2 eY;replace O3:=I O3 eY;replace O4:=I O4 eY;replace O6:=I O6 eY;replace O5:=O5.aa (t:=31) (ah.ab eY);replace BB:=az BB eY;clear eY;have dx:=U (RB.cell 0);have dA:=U (RB.cell 1);have dB:=U (RB.cell 2);have dC:=U (RB.cell 3);have dt:=U (RB.cell 4);have dD:=U (RB.cell 5);have di:=U (RB.cell 6);have oF:=ae R1 d26;have pY:=ae R1 d27;have pZ:=ae R1 d28;have p7:=ae R1 d29;have p9:=ae R1 d30;have O4a:(w8.alloc (.cells #[.int .i64 c.aZ.id,.int .i64 c.aZ.bytes,.string c.aZ.alt,.int .i64 c.aZ.from_,.int .i64 c.aZ.gT] 70)).drew.ownsRow w0.heap.size 70 5 (.slice A4 n4 c4) n4 (b.af.map fJ).flatten:=fF (jO (bN O4 (.cells #[.int .i64 c.aZ.id,.int .i64 c.aZ.bytes,.string c.aZ.alt,.int .i64 c.aZ.from_,.int .i64 c.aZ.gT] 70))) pL.out;have ya:Row (w8.alloc (.cells #[.int .i64 c.aZ.id,.int .i64 c.aZ.bytes,.string c.aZ.alt,.int .i64 c.aZ.from_,.int .i64 c.aZ.gT] 70)).drew w8.heap.size 70 [.int .i64 c.aZ.id,.int .i64 c.aZ.bytes,.string c.aZ.alt,.int .i64 c.aZ.from_,.int .i64 c.aZ.gT]:=(Row.new w8 70 [.int .i64 c.aZ.id,.int .i64 c.aZ.bytes,.string c.aZ.alt,.int .i64 c.aZ.from_,.int .i64 c.aZ.gT]).drew
 have sw:(Value.slice A4 n4 c4).ownBlock≠some w8.heap.size:=fun e=>by have:=(O4.lt _ e).2;omega
 have H3:Row (w8.alloc (.cells #[.int .i64 c.aZ.id,.int .i64 c.aZ.bytes,.string c.aZ.alt,.int .i64 c.aZ.from_,.int .i64 c.aZ.gT] 70)).drew g 31 [.int .i64 b.now,.slice A1 n1 c1,.slice A2 n2 c2,.slice A3 n3 c3,.slice A4 n4 c4,.slice A5 n5 c5,.slice A6 n6 c6]:=(Row.alloc RB _).drew;have e2a:(w8.alloc (.cells #[.int .i64 c.aZ.id,.int .i64 c.aZ.bytes,.string c.aZ.alt,.int .i64 c.aZ.from_,.int .i64 c.aZ.gT] 70)).drew.cell? ⟨g,4,none⟩=some (.slice A4 n4 c4):=H3.cell 4;have cM:w0.heap.size≤(w8.alloc (.cells #[.int .i64 c.aZ.id,.int .i64 c.aZ.bytes,.string c.aZ.alt,.int .i64 c.aZ.from_,.int .i64 c.aZ.gT] 70)).drew.heap.size:=(bL (al BB _)).size;have uj:∀u∈([.int .i64 c.aZ.id,.int .i64 c.aZ.bytes,.string c.aZ.alt,.int .i64 c.aZ.from_,.int .i64 c.aZ.gT]:List Value),u.oneCell'=true:=tJ c.aZ
 go_region_law (first
  |(go_simp;go_at_call 86;(with_reducible refine(Mh w0.heap.size (.slice A4 n4 c4) n4 k _ [.int .i64 c.aZ.id,.int .i64 c.aZ.bytes,.string c.aZ.alt,.int .i64 c.aZ.from_,.int .i64 c.aZ.gT] w8.heap.size _ O4a ya rfl (GJ _) uj nW CD sw cM).mono ?_);rintro e wi ⟨v9,rfl,O4n,I7⟩;obtain⟨X9,y9,rfl,my9,_⟩:=aj O4n;have kt:=dN O4a I7;have wV:=H3.aa kt;have e2:=wV.cell 4;have f2:=wV.frozen 4;simp only[List.getElem?_cons_zero,List.getElem?_cons_succ] at e2))
 all_goals
  have P3:=cH.set wi g 4 (.slice X9 (n4+1) y9);have iT:=P3.aa wV.ty;have S8:Row (wi.setCell ⟨g,4,none⟩ (.slice X9 (n4+1) y9)) g 31 [.int .i64 b.now,.slice A1 n1 c1,.slice A2 n2 c2,.slice A3 n3 c3,.slice X9 (n4+1) y9,.slice A5 n5 c5,.slice A6 n6 c6]:=wV.cE 4 _;have ka:ah 70 w8 (w8.alloc (.cells #[.int .i64 c.aZ.id,.int .i64 c.aZ.bytes,.string c.aZ.alt,.int .i64 c.aZ.from_,.int .i64 c.aZ.gT] 70)).drew:=ah.ab (ai w8 (.cells #[.int .i64 c.aZ.id,.int .i64 c.aZ.bytes,.string c.aZ.alt,.int .i64 c.aZ.from_,.int .i64 c.aZ.gT] 70)).drew;have k2:=ka.trans kt;replace O1:=iT.own (k2.own O1);replace O2:=iT.own (k2.own O2);replace O3:=iT.own (k2.own O3);replace O6:=iT.own (k2.own O6);replace O5:=(O5.aa k2).aa iT;have ho:=iT.own O4n;rw[show([.int .i64 c.aZ.id,.int .i64 c.aZ.bytes,.string c.aZ.alt,.int .i64 c.aZ.from_,.int .i64 c.aZ.gT]:List Value)=fJ c.aZ from rfl,Ev lU b.af k c.aZ (by have:=pL.out;omega)] at ho;have xS:=((BB.alloc BB.size (.cells #[.int .i64 c.aZ.id,.int .i64 c.aZ.bytes,.string c.aZ.alt,.int .i64 c.aZ.from_,.int .i64 c.aZ.gT] 70)).drew.trans (bG O4a I7 (Nat.le_refl _) cM)).trans (P3.below hg)
  have Xp:n4+1=(gj b.af k c.aZ).length:=by rw[kD,←pL.out]
  go_wp2_with fail
  go_ret
  exact⟨0,rfl,xS,fun _=>⟨_,_,Hs.aZ k (by have:=pL.out;omega) HA.out rfl,trivial,S8,_,_,_,_,_,_,rfl,O1,O2,O3,fF ho Xp.symm,O5,O6⟩,fun h=>h.elim⟩):P:=h
theorem Fx (t g:Nat) (b:cK) (c:eH) (C D:List Value) (w0 w:World) (kl:Below w0.heap.size w0 w) (hg:w0.heap.size≤g) (hR:Row w g 31 C) (hO:cZ w0.heap.size w C b) (hI:gL t b) (ht:t≤1000) (hD:je w0 D c) (hc:lR c) (hm:jl w0) (om:rh w0):
  Calls prog 38 #[.pointer (some ⟨g,0,none⟩),.agg D.toArray] w (fH w0 g b c (False) (fun _=>True)):=by
 obtain⟨A1,n1,c1,A2,n2,c2,A3,n3,c3,A4,n4,c4,A5,n5,c5,A6,n6,c6,rfl,O1,O2,O3,O4,O5,O6,q1,q2,q3,q4,q5,q6,m3,m4,m5,m6⟩:=hO.open_;obtain⟨nO,_,_,d2,_,_,_,_,_,_,d26,d27,d28,d29,d30⟩:=ko hD;have BB:=kl;have RB:=hR
 have CA:n3≤1000:=by have:=hI.dJ;omega
 have Eb:n4≤1000:=by have:=hI.af;omega
 have tt:n5≤1000:=by have:=hI.entries;omega
 have pQ:n6≤1000:=by have:=hI.ft;omega
 have pj:n3≤1100000:=by have:=hI.dJ;omega
 have CD:n4≤1100000:=by have:=hI.af;omega
 have yN:n5≤1100000:=by have:=hI.entries;omega
 have wg:n6≤1100000:=by have:=hI.ft;omega
 have ri:=Lib.hid q3;have pL:=Lib.hid q4;have mL:=Lib.hid q5;have Fw:=Lib.hid q6;have HI:=Lib.hid hI;clear hR q1 q2 q3 q4 q5 q6 hI
 go_enter func38,ntmps38
 have aL:=trivial
 go_wp2_with (first
  |(clear aJ;(with_reducible refine ak ?_ fp R1 nO ?_);rfl;have bC:=trivial)
  |(clear aL;(with_reducible refine ao (C:=D) ?_ ?_);rfl;intro x1 g1 aR R1 aw;have vI:=h_ RB aR;have eV:=jq BB aR;replace RB:=RB.keep aw;replace O1:=I O1 aw;replace O2:=I O2 aw;replace O3:=I O3 aw;replace O4:=I O4 aw;replace O6:=I O6 aw;replace O5:=O5.aa (t:=31) (ah.ab aw);replace BB:=az BB aw;have aI:=ae R1 d2;have oF:=ae R1 d26;have pY:=ae R1 d27;have pZ:=ae R1 d28;have p7:=ae R1 d29;have p9:=ae R1 d30;clear aw aR;have aJ:=trivial))
 try clear bC
 refine(rD D c.il 17 _ d2).mono ?_;rintro r x2 ⟨rfl,aF⟩;replace RB:=RB.keep aF;replace R1:=R1.keep aF;replace O1:=I O1 aF;replace O2:=I O2 aF;replace O3:=I O3 aF;replace O4:=I O4 aF;replace O6:=I O6 aF;replace O5:=O5.aa (t:=31) (ah.ab aF);replace BB:=az BB aF;clear aI oF pY pZ p7 p9;have aI:=ae R1 d2;have oF:=ae R1 d26;have pY:=ae R1 d27;have pZ:=ae R1 d28;have p7:=ae R1 d29;have p9:=ae R1 d30;clear aF;generalize sJ c.il 17=rb
 cases rb with
 |false=>
  go_wp2_with fail
  go_ret
  exact fH.err (by decide) id BB
 |true=>
 go_wp2_with fail
 refine(A_ c.aZ _ hc.alt).mono ?_;rintro r x3 ⟨⟨z1,rfl,iG⟩,bh⟩;replace RB:=RB.keep bh;replace R1:=R1.keep bh;replace O1:=I O1 bh;replace O2:=I O2 bh;replace O3:=I O3 bh;replace O4:=I O4 bh;replace O6:=I O6 bh;replace O5:=O5.aa (t:=31) (ah.ab bh);replace BB:=az BB bh;clear aI oF pY pZ p7 p9;have aI:=ae R1 d2;have oF:=ae R1 d26;have pY:=ae R1 d27;have pZ:=ae R1 d28;have p7:=ae R1 d29;have p9:=ae R1 d30;clear bh;have HZ:=Lib.hid iG;clear iG
 by_cases cD:z1=0
 case neg=>
  go_wp2_with fail
  go_ret
  exact fH.err cD id BB
 subst cD;have HA:=Lib.hid (HZ.out rfl);clear HZ
 go_wp2_with fail
 have dx:=U (RB.cell 0);have dA:=U (RB.cell 1);have dB:=U (RB.cell 2);have dC:=U (RB.cell 3);have dt:=U (RB.cell 4);have dD:=U (RB.cell 5);have di:=U (RB.cell 6);have zl:=RB.lt;have z1:=R1.lt;have S4:=jI.jZ O4 pL.out
 have HF:=fun W (hb:Below x3.heap.size x3 W)=>NX A4 n4 c4 b.af c.aZ.id W (S4.below (by decide) hb) pL.out CD
 go_cut [6,7] (fun s6 s7 wx=>∃(p:Value) (v:Bool),s6=p∧s7=.bool v∧Below x3.heap.size x3 wx)
 case first=>
  go_region_held3 (fun w'=>w'.cell? ⟨g,4,none⟩=some (.slice A4 n4 c4)∧w'.cell? ⟨g1,26,none⟩=some (.int .i64 c.aZ.id))
   ((with_reducible refine And.intro (aT zl dt ?_) (aT z1 oF ?_))<;>((repeat(first|with_reducible exact Below.refl _ _|((with_reducible refine jv ?_ ?_ _);rotate_left;exact Nat.le_refl _)|with_reducible refine ar aC ?_|with_reducible refine al ?_ _|with_reducible refine bL ?_));done))
   (first
    |(go_at_call 85;((with_reducible refine(HF _ ?_).mono ?_);(repeat(first|with_reducible exact Below.refl _ _|((with_reducible refine jv ?_ ?_ _);rotate_left;exact Nat.le_refl _)|with_reducible refine ar aC ?_|with_reducible refine al ?_ _|with_reducible refine bL ?_));rintro e wa ⟨⟨i1,i2,i3,i4,i5,v,rfl⟩,aC⟩;(first|have RR:Row wa x3.heap.size 70 [.int .i64 0,.int .i64 0,.string ⟨#[]⟩,.int .i64 0,.int .i64 0]:=(Row.new x3.drew 70 [.int .i64 0,.int .i64 0,.string ⟨#[]⟩,.int .i64 0,.int .i64 0]).keep aC|skip);(try (have e0:=RR.cell 0;have f0:=RR.frozen 0;have e1:=RR.cell 1;have f1:=RR.frozen 1;have e2:=RR.cell 2;have f2:=RR.frozen 2;have e3:=RR.cell 3;have f3:=RR.frozen 3;have e4:=RR.cell 4;have f4:=RR.frozen 4;simp only[List.getElem?_cons_zero,List.getElem?_cons_succ] at e0 e1 e2 e3 e4)))))
  all_goals go_wp2_with fail
  all_goals go_meet
  all_goals go_light
  all_goals exact⟨_,v,rfl,rfl,(by(repeat(first|with_reducible exact Below.refl _ _|((with_reducible refine jv ?_ ?_ _);rotate_left;exact Nat.le_refl _)|with_reducible refine ar aC ?_|with_reducible refine al ?_ _|with_reducible refine bL ?_)):Below x3.heap.size x3 _)⟩
 case rest=>
 obtain⟨p6,v,rfl,rfl,aC⟩:=hcut;replace RB:=RB.keep aC;replace R1:=R1.keep aC;replace O1:=I O1 aC;replace O2:=I O2 aC;replace O3:=I O3 aC;replace O4:=I O4 aC;replace O6:=I O6 aC;replace O5:=O5.aa (t:=31) (ah.ab aC);replace BB:=az BB aC;clear dx dA dB dC dt dD di aI oF pY pZ p7 p9;clear aC HF S4 zl z1
 cases v with
 |true=>
  go_wp2_with fail
  go_ret
  exact fH.err (by decide) id BB
 |false=>
 have dx:=U (RB.cell 0);have dA:=U (RB.cell 1);have dB:=U (RB.cell 2);have dC:=U (RB.cell 3);have dt:=U (RB.cell 4);have dD:=U (RB.cell 5);have di:=U (RB.cell 6);have aI:=ae R1 d2;have oF:=ae R1 d26;have pY:=ae R1 d27;have pZ:=ae R1 d28;have p7:=ae R1 d29;have p9:=ae R1 d30
 by_cases Wx:(200:Int)≤(n4:Int)
 ·go_wp2_with fail
  go_ret
  exact fH.err (by decide) id BB
 go_wp2_with fail
 have S4:=jI.jZ O4 pL.out;clear aI dx dA dB dC dD di
 go_loopw [8] (fun i wr=>∃(k q:Nat),k≤n4∧i=.int .i64 k∧wr=wc.drewN q) (fun i _=>n4 - (intOf i).toNat)
 case atStart=>exact⟨0,0,Nat.zero_le _,rfl,rfl⟩
 case round=>
  obtain⟨k,q,hk,rfl,rfl⟩:=hrel
  have kx:(k:Int)<(n4:Int)∨¬((k:Int)<(n4:Int)):=by omega
  rcases kx with aS|aS
  ·obtain⟨bq,oq,rfl,aO⟩:=lE S4 pL.out lU k (by have:=pL.out;omega);generalize b.af[k]'(by have:=pL.out;omega)=x at aO;have d0:wc.cell? ⟨bq,oq+k*5,none⟩=some (.int .i64 x.id):=aO 0 _ rfl;have W7:decide ((k:Int)<(n4:Int))=true:=decide_eq_true aS;clear aO
   by_cases ph:x.id<c.aZ.id
   ·have Xr:decide (x.id<c.aZ.id)=true:=decide_eq_true ph
    go_wp2_with fail
    go_quiet (fail)
    go_wp2_with fail
    exact⟨⟨k+1,_,by omega,by go_num,rfl⟩,by simp[intOf];omega⟩
   ·have Xr:decide (x.id<c.aZ.id)=false:=decide_eq_false ph
    go_wp2_with fail
    go_quiet (fail)
    go_wp2_with fail
    clear d0;generalize (some (⟨bq,oq,none⟩:Addr))=A4 at*;exact Rm
  ·have hdf:decide (k<n4)=false:=decide_eq_false (by omega)
   go_wp2_with fail
   go_quiet (fail)
   go_wp2_with fail
   exact Rm
end
end Go.Proofs.YtdnpopjabpklnaaGreatDoor
