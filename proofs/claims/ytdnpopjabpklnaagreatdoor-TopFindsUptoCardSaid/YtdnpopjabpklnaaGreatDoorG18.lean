/- Contracts and plain laws that the proof of the top laws uses (G18). No condition beyond those stated. -/
import Derived.Test.YtdnpopjabpklnaaGreatDoorEnI
set_option maxRecDepth 100000
set_option maxHeartbeats 64000000
set_option linter.all false
namespace Go.Proofs.YtdnpopjabpklnaaGreatDoor
section
open Go.RowKit
open Tryz
def wW (b:cK) (c:eH) (b1:cK):Prop:=(b1=b∧¬rZ b c)∨∃b2,Hs b c b2∧XA b c b2∧b1= {b2 with now:=c.time}
def tE (b:cK):List eH→cK→Prop
 |[],b'=>b'=b
 |c::t,b'=>∃b1,wW b c b1∧tE b1 t b'
theorem tE.snoc {c:eH} {b1 b2:cK}:∀{l:List eH} {b:cK},tE b l b1→wW b1 c b2→tE b (l++ [c]) b2
 |[],b,h,hs=>by have h:b1=b:=h;subst h;exact⟨b2,hs,rfl⟩
 |d::t,b,h,hs=>by obtain⟨b3,h1,h2⟩:=h;exact⟨b3,h1,tE.snoc h2 hs⟩
theorem PG {t:Nat} {b:cK} {z:Int} (h:gL t b):gL t {b with now:=z}:=⟨h.aP,h.pri,h.dJ,h.bX,h.af,h.aZ,h.ft,h.entries,h.entry,h.ids⟩
theorem wW.Iv {t:Nat} {b b1:cK} {c:eH} (h:wW b c b1) (hb:gL t b) (hc:lR c):gL (t+1) b1:=by
 rcases h with ⟨rfl,_⟩|⟨b2,h1,_,rfl⟩
 ·exact⟨hb.aP,hb.pri,Nat.le_succ_of_le hb.dJ,hb.bX,Nat.le_succ_of_le hb.af,hb.aZ,Nat.le_succ_of_le hb.ft,Nat.le_succ_of_le hb.entries,fun e he=>(hb.entry e he).mono (Nat.le_succ _),hb.ids⟩
 ·exact PG (h1.Iv hb hc)
theorem MF {ps rs:List Int} (h1:ps.length≤1100000) (h2:rs.length≤1100000):gL 0 (ME ps rs):=
 ⟨h1,h2,Nat.le_refl _,(fun x hx=>by cases hx),Nat.le_refl _,(fun x hx=>by cases hx),Nat.le_refl _,Nat.le_refl _,(fun x hx=>by cases hx),List.nodup_nil⟩
theorem gL.mono {s t:Nat} {b:cK} (hb:gL s b) (h:s≤t):gL t b:=
 ⟨hb.aP,hb.pri,Nat.le_trans hb.dJ h,hb.bX,Nat.le_trans hb.af h,hb.aZ,Nat.le_trans hb.ft h,Nat.le_trans hb.entries h,fun e he=>(hb.entry e he).mono h,hb.ids⟩
def qL (w:World) (A:Option Addr) (n:Nat) (cs:List eH):Prop:=∃Ds:List (List Value),Ds.length=n∧cs.length=n∧dF w A n 32 Ds.flatten∧∀(i:Nat) (D:List Value) (c:eH),Ds[i]? =some D→cs[i]? =some c→je w D c
theorem qL.at_ {w:World} {A:Option Addr} {n:Nat} {cs:List eH} (h:qL w A n cs) {i:Nat} {c:eH} (hc:cs[i]? =some c):∃b o D,A=some ⟨b,o,none⟩∧i<n∧Cl w b (o+i*32) D∧D.length=32∧je w D c:=by
 obtain⟨Ds,h1,h2,h3,h4⟩:=h
 have hi:i<n:=by have:=(List.getElem?_eq_some_iff.1 hc).1;omega
 obtain⟨b,o,e,aO⟩:=h3.2 (by omega);have hD:Ds[i]? =some (Ds[i]'(by omega)):=List.getElem?_eq_getElem _;have hR:=h4 i _ c hD hc
 have uk:∀C∈Ds,C.length=32:=fun C hC=>by
  obtain⟨j,hj,rfl⟩:=List.mem_iff_getElem.1 hC;exact(h4 j _ _ (List.getElem?_eq_getElem hj) (List.getElem?_eq_getElem (by omega))).len
 refine⟨b,o,Ds[i]'(by omega),e,hi,?_,hR.len,hR⟩;have:=aO.part (i*32) 32
 rwa [mr Ds i uk (by omega)] at this
theorem uh (A1 A2 A3:Option Addr) (n1 c1 n2 c2 n3 c3:Nat) (ps rs:List Int) (cs:List eH) (w:World) (hp:eI .i64 w (.slice A1 n1 c1) ps) (hr:eI .i64 w (.slice A2 n2 c2) rs) (h1:dF w A1 n1 1 (ps.map (Value.int .i64))) (h2:dF w A2 n2 1 (rs.map (Value.int .i64))) (q1:n1=ps.length) (q2:n2=rs.length) (m1:n1≤1100000) (m2:n2≤1100000)
  (gu:qL w A3 n3 cs) (tq:∀c∈cs,lR c) (m3:n3≤1100000) (m4:n3≤c3) (hm:jl w) (om:rh w):
  Calls prog 5 #[.agg #[.slice A1 n1 c1,.slice A2 n2 c2],.slice A3 n3 c3] w fun e w'=>∃(C:List Value) (z:Int),e=.returned (.tuple #[.agg C.toArray,.int .i64 z])∧(C.length=7∧∀u∈C,u.oneCell'=true)∧Below w.heap.size w w'∧z=jU ps rs∧
   (z=0→∃b m,cZ w.heap.size w' C b∧tE (ME ps rs) (cs.take m) b∧m≤40∧(n3≤40→m=n3)∧gL 40 b):=by
 have Vq:=fun W (hb:Below w.heap.size w W)=>Td A1 A2 n1 c1 n2 c2 ps rs W (hp.below hb) (hr.below hb) (h1.below (by decide) hb) (h2.below (by decide) hb) q1 q2 m1 m2
 have jk:ps.length≤1100000:=by omega
 have Jg:rs.length≤1100000:=by omega
 have HB0:=Lib.hid (MF jk Jg);have HCI:=Lib.hid tq;have fh:=Lib.hid gu
 have Xv:n3≤9000000000000000000:=by omega
 obtain⟨ge,Ar⟩:∃ge,ge=jU ps rs:=⟨_,rfl⟩;rw[←Ar];rw[←Ar] at Vq;clear hp hr h1 h2 q1 q2 m1 m2 tq gu jk Jg Ar
 go_enter func5,ntmps5
 have aL:=trivial
 go_wp2_with (first
  |(clear bC;(with_reducible refine ak ?_ lT R2 rfl ?_);rfl;have cz:=trivial)
  |(clear aJ;(with_reducible refine bu dG fG ?_);intro x2 g4 cW R4 aF;have oL:=h_ R2 cW;have gl:=jq BB cW;replace R2:=R2.keep aF;replace BB:=az BB aF;clear aF cW;have bC:=trivial)
  |(clear aL;(with_reducible refine ao (C:=[.slice A1 n1 c1,.slice A2 n2 c2]) ?_ ?_);rfl;intro x1 g2 aR R2 aw;have fP:=Nat.le_of_eq aR;have BB:=aw;clear aw aR;have aJ:=trivial))
 try clear cz
 refine(Vq _ BB).mono ?_;rintro r x3 ⟨C,jo,nb,rfl,bh,xe⟩;have ob3:=BB.size;replace R2:=R2.keep bh;replace R4:=R4.keep bh;replace BB:=az BB bh;clear bh
 by_cases hz:ge=0
 case neg=>
  have CK:(ge==0)=false:=beq_eq_false_iff_ne.2 hz;have cz:=trivial
  go_wp2_with (first
   |(clear fu;(with_reducible refine av (C:=C) ?_ ?_ aN R4 jo rfl nb ?_);rfl;rfl;have bg:=R4.ty;clear R4;intro x6 R4 dY;have kt:=dY.aa bg;replace R2:=dY.row R2;replace R6:=dY.row R6;replace BB:=BB.trans (dY.below gl);clear dY kt bg;have gK:=trivial)
   |(clear dX;(with_reducible refine ak ?_ aN R6 jo ?_);rfl;have fu:=trivial)
   |(clear cY;(with_reducible refine av (C:=C) ?_ ?_ aN R6 jo rfl nb ?_);rfl;rfl;clear R6;intro x5 R6 Px;have cp:=hx.trans (Px.below (Nat.le_of_eq pP));clear Px hx;have lC:g2≠g6:=(by have:=R2.lt;omega);have mD:g4≠g6:=(by have:=R4.lt;omega);have kX:w.heap.size≤g6:=(by have:=BB.size;omega);replace R2:=R2.keep cp;replace R4:=R4.keep cp;replace BB:=az BB cp;clear cp pP;have dX:=trivial)
   |(clear cz;(with_reducible refine bu dG fG ?_);intro x4 g6 pP R6 hx;have cY:=trivial))
  try clear gK
  refine bodyPost_ret (bH rfl _ rfl aN R4 jo) rfl ?_;exact⟨C,ge,rfl,⟨jo,nb⟩,BB,rfl,fun h=>absurd h hz⟩
 have GV:=(xe hz).lower ob3;subst hz;clear xe Vq;have cz:=trivial
 go_wp2_with (first
  |(clear cY;(with_reducible refine av (C:=C) ?_ ?_ aN R6 jo rfl nb ?_);rfl;rfl;clear R6;intro x5 R6 Px;have cp:=hx.trans (Px.below (Nat.le_of_eq pP));clear Px hx;have lC:g2≠g6:=(by have:=R2.lt;omega);have mD:g4≠g6:=(by have:=R4.lt;omega);have kX:w.heap.size≤g6:=(by have:=BB.size;omega);replace R2:=R2.keep cp;replace R4:=R4.keep cp;replace GV:=GV.aa (t:=24) (ah.ab cp);replace BB:=az BB cp;clear cp pP;have dX:=trivial)
  |(clear cz;(with_reducible refine bu dG fG ?_);intro x4 g6 pP R6 hx;have cY:=trivial))
 try clear dX
 refine(Fp A3 n3 c3 _ m4 Xv).mono ?_;rintro r x6 ⟨⟨m,cc,rfl,hmn,abw,hmc,tu⟩,xy⟩;replace R2:=R2.keep xy;replace R4:=R4.keep xy;replace R6:=R6.keep xy;replace GV:=GV.aa (t:=24) (ah.ab xy);replace BB:=az BB xy;clear xy;have NK:=Lib.hid tu;clear tu R2 oL lC
 go_wp2_with fail
 go_loopw [24] (fun i wr=>∃(k:Nat) (b:cK) (C:List Value),k≤m∧i=.int .i64 k∧Row wr g4 31 [.int .i64 0,.slice none 0 0,.slice none 0 0,.slice none 0 0,.slice none 0 0,.slice none 0 0,.slice none 0 0]∧Row wr g6 31 C∧cZ w.heap.size wr C b∧Hid (tE (ME ps rs) (cs.take k) b)∧Hid (gL k b)∧Below w.heap.size w wr) (fun i _=>m - (intOf i).toNat)
 case atStart=>exact⟨0,_,C,Nat.zero_le _,rfl,R4,R6,GV,rfl,HB0.out,BB⟩
 case round=>
  clear R4 R6 GV BB jo nb;obtain⟨k,b,C,hk,rfl,R4,R6,xe,HF,HI,BB⟩:=hrel;have jo:=xe.len;have nb:=xe.one
  by_cases aS:k<m
  ·skip
   have FW:k<cs.length:=by obtain⟨Ds,_,h2,_⟩:=fh.out;omega
   have hx:cs[k]? =some (cs[k]'FW):=List.getElem?_eq_getElem _;obtain⟨bc,oc,D,Wy,_,aO,WC,oI⟩:=fh.out.at_ hx;subst Wy;have tq:=HCI.out _ (List.getElem_mem FW);have HTK:Hid (cs.take (k+1)=cs.take k++ [cs[k]'FW]):=List.take_succ_eq_append_getElem FW;generalize cs[k]'FW=c at*;clear hx;have lX:=aO.below BB (aO.lt (by omega));have TJ:=oI.below BB;have Cr:=oI.one
   have HAP:=fun W (hb:Below w.heap.size w W) (hO:cZ w.heap.size W C b)=>KQ aef k b c C D W (hO.lower (Nat.zero_le _)) HI.out (by omega) (oI.below hb) tq (jl.below hm hb) (om.below hb)
   have tn:=Lib.hid tq;clear aO oI tq;have dX:=trivial
   go_wp2_with (first
    |(clear pS;(with_reducible refine ak ?_ fp R9 WC ?_);rfl;have mU:=trivial)
    |(clear nY;(with_reducible refine ak ?_ aN R6 jo ?_);rfl;have pS:=trivial)
    |(clear gK;(with_reducible refine av (C:=D) ?_ ?_ fp R9 WC hz9 Cr ?_);rfl;rfl;clear R9;intro x8 R9 Px;have CJ:=hx.trans (Px.below (Nat.le_of_eq ry));clear Px hx;have aeA:g4≠g9:=(by have:=R4.lt;omega);have aeB:g6≠g9:=(by have:=R6.lt;omega);have afg:w.heap.size≤g9:=(by have:=BB.size;omega);replace R4:=R4.keep CJ;replace R6:=R6.keep CJ;replace xe:=xe.aa (t:=24) (ah.ab CJ);replace BB:=az BB CJ;clear CJ ry;have nY:=trivial)
    |(clear fu;(with_reducible refine cR M4 ?_);intro x7 g9 Z9 ry hz9 R9 hx;have gK:=trivial)
    |(clear dX;(with_reducible refine cJ ?_ fp lX WC ?_);rfl;have fu:=trivial))
   try clear mU
   have cM:=BB.size;refine(HAP _ BB xe).mono ?_;rintro r x9 ⟨C',z,RU,WA,rfl,yW,hz,hMu⟩;replace R4:=R4.keep yW;replace R6:=R6.keep yW;replace R9:=R9.keep yW;replace xe:=xe.aa (t:=24) (ah.ab yW);replace BB:=az BB yW;clear yW;clear HAP
   by_cases cD:z=0
   case neg=>
    have aff:(z==0)=false:=beq_eq_false_iff_ne.2 cD;have mU:=trivial
    go_wp2_with (first
     |(clear Mx;(with_reducible refine av (C:=C') ?_ ?_ aN eZ RU rfl WA ?_);rfl;rfl;clear eZ;intro AW eZ Px;have kW:=hx.trans (Px.below (Nat.le_of_eq uf));clear Px hx;have YM:g4≠g10:=(by have:=R4.lt;omega);have YN:g6≠g10:=(by have:=R6.lt;omega);have JR:w.heap.size≤g10:=(by have:=BB.size;omega);replace R4:=R4.keep kW;replace R6:=R6.keep kW;skip;have:=R9.keep kW;replace xe:=xe.aa (t:=24) (ah.ab kW);replace BB:=az BB kW;clear kW uf;have YK:=trivial)
     |(clear mU;(with_reducible refine bu dG fG ?_);intro NA g10 uf eZ hx;have Mx:=trivial))
    try clear YK
    go_roundw
    case rel=>exact⟨k+1,b,C,by omega,by go_num,R4,R6,xe,by rw[HTK.out];exact HF.out.snoc (Or.inl ⟨rfl,fun h=>cD (hMu h)⟩),(wW.Iv (Or.inl ⟨rfl,fun h=>cD (hMu h)⟩) HI.out tn.out),BB⟩
    case measure=>simp[intOf];omega
   obtain⟨b',Lu,hXA,hBO⟩:=hz cD;subst cD;have zH:Hid (wW b c {b' with now:=c.time}):=Or.inr ⟨b',Lu,hXA,rfl⟩;have Wz:=hBO.lower cM;clear Lu hXA hBO hz hMu xe;have mU:=trivial
   go_wp2_with (first
    |(clear ad1;(with_reducible refine av (C:=C') ?_ ?_ aN R6 RU jo WA ?_);rfl;rfl;have bg:=R6.ty;clear R6;intro AX R6 tG;have kt:=tG.aa bg;replace R4:=tG.row R4;replace eZ:=tG.row eZ;replace Wz:=Wz.aa kt;replace BB:=BB.trans (tG.below kX);clear tG kt bg;have ad2:=trivial)
    |(clear YK;(with_reducible refine ak ?_ aN eZ RU ?_);rfl;have ad1:=trivial)
    |(clear Mx;(with_reducible refine av (C:=C') ?_ ?_ aN eZ RU rfl WA ?_);rfl;rfl;clear eZ;intro AW eZ Px;have kW:=hx.trans (Px.below (Nat.le_of_eq uf));clear Px hx;have YM:g4≠g10:=(by have:=R4.lt;omega);have YN:g6≠g10:=(by have:=R6.lt;omega);have JR:w.heap.size≤g10:=(by have:=BB.size;omega);replace R4:=R4.keep kW;replace R6:=R6.keep kW;skip;have:=R9.keep kW;replace Wz:=Wz.aa (t:=24) (ah.ab kW);replace BB:=az BB kW;clear kW uf;have YK:=trivial)
    |(clear mU;(with_reducible refine bu dG fG ?_);intro NA g10 uf eZ hx;have Mx:=trivial))
   try clear ad2
   go_roundw
   case rel=>exact⟨k+1,{b' with now:=c.time},C',by omega,by go_num,R4,R6,Wz,by rw[HTK.out];exact HF.out.snoc zH.out,wW.Iv zH.out HI.out tn.out,BB⟩
   case measure=>simp[intOf];omega
  ·skip
   have hkm:k=m:=by omega
   subst hkm;have aL:=trivial
   go_wp2_with (first
    |(clear aJ;(with_reducible refine av (C:=C) ?_ ?_ aN R4 jo rfl nb ?_);rfl;rfl;intro wz RZ Pz;have bC:=trivial)
    |(clear aL;(with_reducible refine ak ?_ aN R6 jo ?_);rfl;have aJ:=trivial))
   have og4:w.heap.size≤g4:=by omega
   refine bodyPost_ret (bH rfl _ rfl aN RZ jo) rfl ?_;exact⟨C,0,rfl,⟨jo,nb⟩,BB.trans (Pz.below og4),rfl,fun _=>⟨b,k,xe.aa (t:=31) (Pz.aa R4.ty),HF.out,abw,NK.out,HI.out.mono abw⟩⟩
theorem Rc {P:Prop} (h:P:=by
 have d1:=(BB.cell (block_lt_of_cell e1)).trans e1;have d2:=(BB.cell (block_lt_of_cell e2)).trans e2;clear e1 e2 aO oz hz
 go_wp2_with fail
 go_quiet (fail)
 go_wp2_with fail
 go_roundw
 case rel=>exact⟨k+1,by omega,by go_num,cr BB _⟩
 case measure=>simp[intOf];omega):P:=h
theorem Ff (v1 v2:Value) (zs:List Int) (w:World) (h1:eI .i64 w v1 zs) (h2:eI .i64 w v2 zs) (hn:zs.length≤1100000):
  Calls prog 29 #[v1,v2] w fun e w'=>e=.returned (.bool true)∧Below w.heap.size w w':=by
 obtain⟨A,c,rfl,k1,k2,hs⟩:=h1;obtain⟨A2,c2,rfl,k3,k4,uF⟩:=h2;obtain⟨n,hN⟩:∃n,zs.length=n:=⟨_,rfl⟩;rw[hN] at hs uF k1 k3 hn ⊢;have HN:=Lib.hid hN;clear hN
 go_enter func29,ntmps29
 go_wp2_with fail
 go_loopw [5] (fun i wr=>∃k:Nat,k≤n∧i=.int .i64 (k:Int)∧Below w.heap.size w wr) (fun i _=>n - (intOf i).toNat)
 case atStart=>exact⟨0,Nat.zero_le _,rfl,Below.refl _ _⟩
 case round=>
  obtain⟨k,hk,rfl,BB⟩:=hrel
  by_cases aS:k<n
  ·obtain⟨b,o,rfl,aO⟩:=hs.2 (by omega);obtain⟨b2,o2,rfl,oz⟩:=uF.2 (by omega);obtain⟨z,hz⟩:∃z,zs[k]? =some z:=⟨_,List.getElem?_eq_getElem (by rw[HN.out];exact aS)⟩;have e1:=aO k (.int .i64 z) (by rw[List.getElem?_map,hz];rfl);have e2:=oz k (.int .i64 z) (by rw[List.getElem?_map,hz];rfl);exact Rc
  ·go_wp2_with fail
   go_ret
   exact⟨rfl,BB⟩
theorem BZ (v1 v2:Value) (zs:List ByteArray) (w:World) (h1:Strs w v1 zs) (h2:Strs w v2 zs) (hn:zs.length≤1100000):
  Calls prog 28 #[v1,v2] w fun e w'=>e=.returned (.bool true)∧Below w.heap.size w w':=by
 obtain⟨A,c,rfl,k1,k2,hs⟩:=h1;obtain⟨A2,c2,rfl,k3,k4,uF⟩:=h2;obtain⟨n,hN⟩:∃n,zs.length=n:=⟨_,rfl⟩;rw[hN] at hs uF k1 k3 hn ⊢;have HN:=Lib.hid hN;clear hN
 go_enter func28,ntmps28
 go_wp2_with fail
 go_loopw [5] (fun i wr=>∃k:Nat,k≤n∧i=.int .i64 (k:Int)∧Below w.heap.size w wr) (fun i _=>n - (intOf i).toNat)
 case atStart=>exact⟨0,Nat.zero_le _,rfl,Below.refl _ _⟩
 case round=>
  obtain⟨k,hk,rfl,BB⟩:=hrel
  by_cases aS:k<n
  ·obtain⟨b,o,rfl,aO⟩:=hs.2 (by omega);obtain⟨b2,o2,rfl,oz⟩:=uF.2 (by omega);obtain⟨z,hz⟩:∃z,zs[k]? =some z:=⟨_,List.getElem?_eq_getElem (by rw[HN.out];exact aS)⟩;have e1:=aO k (.string z) (by rw[List.getElem?_map,hz];rfl);have e2:=oz k (.string z) (by rw[List.getElem?_map,hz];rfl);exact Rc
  ·go_wp2_with fail
   go_ret
   exact⟨rfl,BB⟩
theorem U6 (C D:List Value) (it:aA) (w:World) (h1:dO w C it) (h2:dO w D it) (hs:jS it):
  Calls prog 9 #[.agg C.toArray,.agg D.toArray] w fun e w'=>e=.returned (.bool true)∧Below w.heap.size w w':=by
 obtain⟨o1,c1,t1,a1,rfl,p1,p2,p3,p4⟩:=h1;obtain⟨o2,c2,t2,a2,rfl,q1,q2,q3,q4⟩:=h2;obtain⟨s1,s2,s3,s4⟩:=hs;have HO:=Lib.hid (fun W (hb:Below w.heap.size w W)=>BZ o1 o2 it.opts W (p1.below hb) (q1.below hb) s1);have HC:=Lib.hid (fun W (hb:Below w.heap.size w W)=>Ff c1 c2 it.cA W (p2.below hb) (q2.below hb) s2);have HT:=Lib.hid (fun W (hb:Below w.heap.size w W)=>BZ t1 t2 it.texts W (p3.below hb) (q3.below hb) s3);have HA:=Lib.hid (fun W (hb:Below w.heap.size w W)=>Ff a1 a2 it.af W (p4.below hb) (q4.below hb) s4);clear p1 p2 p3 p4 q1 q2 q3 q4 s1 s2 s3 s4;obtain⟨f0,f1,f2,f3,f4,f5,f6,f7,f8,f9,f10,f11,f12,f13,f14,f15,f16⟩:=it;unfold fS;simp only[] at HO HC HT HA ⊢
 go_enter func9,ntmps9
 have aL:=trivial;have BB:=Below.refl w.heap.size w
 go_wp2_with (first
  |(clear aJ;(with_reducible refine ao (C:=[.int .i64 f0,.int .i64 f1,.int .i64 f2,.string f3,o2,c2,.int .i64 f6,.int .i64 f7,t2,.int .i64 f9,.string f10,.int .i64 f11,.int .i64 f12,.int .i64 f13,.int .i64 f14,a2,.int .i64 f16]) ?_ ?_);rfl;intro x2 g3 cW R3 aF;replace R2:=R2.keep aF;replace BB:=az BB aF;clear aF cW;have tM:=U (R2.cell 0);have tN:=U (R2.cell 1);have tO:=U (R2.cell 2);have tP:=U (R2.cell 3);have tQ:=U (R2.cell 4);have tR:=U (R2.cell 5);have tS:=U (R2.cell 6);have tT:=U (R2.cell 7);have tU:=U (R2.cell 8);have tV:=U (R2.cell 9);have qc:=U (R2.cell 10);have qd:=U (R2.cell 11);have qe:=U (R2.cell 12);have qg:=U (R2.cell 13);have qh:=U (R2.cell 14);have qi:=U (R2.cell 15);have qj:=U (R2.cell 16);have tW:=U (R3.cell 0);have tX:=U (R3.cell 1);have tY:=U (R3.cell 2);have tZ:=U (R3.cell 3);have t_:=U (R3.cell 4);have ua:=U (R3.cell 5);have ub:=U (R3.cell 6);have uc:=U (R3.cell 7);have ud:=U (R3.cell 8);have ue:=U (R3.cell 9);have qk:=U (R3.cell 10);have ql:=U (R3.cell 11);have qm:=U (R3.cell 12);have qo:=U (R3.cell 13);have qp:=U (R3.cell 14);have qq:=U (R3.cell 15);have qt:=U (R3.cell 16);have bC:=trivial)
  |(clear aL;(with_reducible refine ao (C:=[.int .i64 f0,.int .i64 f1,.int .i64 f2,.string f3,o1,c1,.int .i64 f6,.int .i64 f7,t1,.int .i64 f9,.string f10,.int .i64 f11,.int .i64 f12,.int .i64 f13,.int .i64 f14,a1,.int .i64 f16]) ?_ ?_);rfl;intro x1 g2 aR R2 aw;replace BB:=az BB aw;clear aw aR;have aJ:=trivial))
 try clear bC
 with_reducible refine(HO.out _ BB).mono ?_
 rintro e x3 ⟨rfl,hb⟩;replace R2:=R2.keep hb;replace R3:=R3.keep hb;replace BB:=az BB hb;clear hb tM tN tO tP tQ tR tS tT tU tV qc qd qe qg qh qi qj tW tX tY tZ t_ ua ub uc ud ue qk ql qm qo qp qq qt;have tM:=U (R2.cell 0);have tN:=U (R2.cell 1);have tO:=U (R2.cell 2);have tP:=U (R2.cell 3);have tQ:=U (R2.cell 4);have tR:=U (R2.cell 5);have tS:=U (R2.cell 6);have tT:=U (R2.cell 7);have tU:=U (R2.cell 8);have tV:=U (R2.cell 9);have qc:=U (R2.cell 10);have qd:=U (R2.cell 11);have qe:=U (R2.cell 12);have qg:=U (R2.cell 13);have qh:=U (R2.cell 14);have qi:=U (R2.cell 15);have qj:=U (R2.cell 16);have tW:=U (R3.cell 0);have tX:=U (R3.cell 1);have tY:=U (R3.cell 2);have tZ:=U (R3.cell 3);have t_:=U (R3.cell 4);have ua:=U (R3.cell 5);have ub:=U (R3.cell 6);have uc:=U (R3.cell 7);have ud:=U (R3.cell 8);have ue:=U (R3.cell 9);have qk:=U (R3.cell 10);have ql:=U (R3.cell 11);have qm:=U (R3.cell 12);have qo:=U (R3.cell 13);have qp:=U (R3.cell 14);have qq:=U (R3.cell 15);have qt:=U (R3.cell 16)
 go_wp2_with fail
 with_reducible refine(HC.out _ BB).mono ?_
 rintro e x4 ⟨rfl,hb⟩;replace R2:=R2.keep hb;replace R3:=R3.keep hb;replace BB:=az BB hb;clear hb tM tN tO tP tQ tR tS tT tU tV qc qd qe qg qh qi qj tW tX tY tZ t_ ua ub uc ud ue qk ql qm qo qp qq qt;have tM:=U (R2.cell 0);have tN:=U (R2.cell 1);have tO:=U (R2.cell 2);have tP:=U (R2.cell 3);have tQ:=U (R2.cell 4);have tR:=U (R2.cell 5);have tS:=U (R2.cell 6);have tT:=U (R2.cell 7);have tU:=U (R2.cell 8);have tV:=U (R2.cell 9);have qc:=U (R2.cell 10);have qd:=U (R2.cell 11);have qe:=U (R2.cell 12);have qg:=U (R2.cell 13);have qh:=U (R2.cell 14);have qi:=U (R2.cell 15);have qj:=U (R2.cell 16);have tW:=U (R3.cell 0);have tX:=U (R3.cell 1);have tY:=U (R3.cell 2);have tZ:=U (R3.cell 3);have t_:=U (R3.cell 4);have ua:=U (R3.cell 5);have ub:=U (R3.cell 6);have uc:=U (R3.cell 7);have ud:=U (R3.cell 8);have ue:=U (R3.cell 9);have qk:=U (R3.cell 10);have ql:=U (R3.cell 11);have qm:=U (R3.cell 12);have qo:=U (R3.cell 13);have qp:=U (R3.cell 14);have qq:=U (R3.cell 15);have qt:=U (R3.cell 16)
 go_wp2_with fail
 with_reducible refine(HT.out _ BB).mono ?_
 rintro e x5 ⟨rfl,hb⟩;replace R2:=R2.keep hb;replace R3:=R3.keep hb;replace BB:=az BB hb;clear hb tM tN tO tP tQ tR tS tT tU tV qc qd qe qg qh qi qj tW tX tY tZ t_ ua ub uc ud ue qk ql qm qo qp qq qt;have tM:=U (R2.cell 0);have tN:=U (R2.cell 1);have tO:=U (R2.cell 2);have tP:=U (R2.cell 3);have tQ:=U (R2.cell 4);have tR:=U (R2.cell 5);have tS:=U (R2.cell 6);have tT:=U (R2.cell 7);have tU:=U (R2.cell 8);have tV:=U (R2.cell 9);have qc:=U (R2.cell 10);have qd:=U (R2.cell 11);have qe:=U (R2.cell 12);have qg:=U (R2.cell 13);have qh:=U (R2.cell 14);have qi:=U (R2.cell 15);have qj:=U (R2.cell 16);have tW:=U (R3.cell 0);have tX:=U (R3.cell 1);have tY:=U (R3.cell 2);have tZ:=U (R3.cell 3);have t_:=U (R3.cell 4);have ua:=U (R3.cell 5);have ub:=U (R3.cell 6);have uc:=U (R3.cell 7);have ud:=U (R3.cell 8);have ue:=U (R3.cell 9);have qk:=U (R3.cell 10);have ql:=U (R3.cell 11);have qm:=U (R3.cell 12);have qo:=U (R3.cell 13);have qp:=U (R3.cell 14);have qq:=U (R3.cell 15);have qt:=U (R3.cell 16)
 go_wp2_with fail
 with_reducible refine(HA.out _ BB).mono ?_
 rintro e x6 ⟨rfl,hb⟩;replace R2:=R2.keep hb;replace R3:=R3.keep hb;replace BB:=az BB hb;clear hb tM tN tO tP tQ tR tS tT tU tV qc qd qe qg qh qi qj tW tX tY tZ t_ ua ub uc ud ue qk ql qm qo qp qq qt;have tM:=U (R2.cell 0);have tN:=U (R2.cell 1);have tO:=U (R2.cell 2);have tP:=U (R2.cell 3);have tQ:=U (R2.cell 4);have tR:=U (R2.cell 5);have tS:=U (R2.cell 6);have tT:=U (R2.cell 7);have tU:=U (R2.cell 8);have tV:=U (R2.cell 9);have qc:=U (R2.cell 10);have qd:=U (R2.cell 11);have qe:=U (R2.cell 12);have qg:=U (R2.cell 13);have qh:=U (R2.cell 14);have qi:=U (R2.cell 15);have qj:=U (R2.cell 16);have tW:=U (R3.cell 0);have tX:=U (R3.cell 1);have tY:=U (R3.cell 2);have tZ:=U (R3.cell 3);have t_:=U (R3.cell 4);have ua:=U (R3.cell 5);have ub:=U (R3.cell 6);have uc:=U (R3.cell 7);have ud:=U (R3.cell 8);have ue:=U (R3.cell 9);have qk:=U (R3.cell 10);have ql:=U (R3.cell 11);have qm:=U (R3.cell 12);have qo:=U (R3.cell 13);have qp:=U (R3.cell 14);have qq:=U (R3.cell 15);have qt:=U (R3.cell 16)
 go_wp2_with fail
 go_ret
 exact⟨rfl,BB⟩
end
end Go.Proofs.YtdnpopjabpklnaaGreatDoor
