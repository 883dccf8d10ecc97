/- Contracts and plain laws that the proof of the top laws uses (G17). No condition beyond those stated. -/
import Derived.Test.YtdnpopjabpklnaaGreatDoorG16
set_option maxRecDepth 100000
set_option maxHeartbeats 64000000
set_option linter.all false
namespace Go.Proofs.YtdnpopjabpklnaaGreatDoor
section
open Go.RowKit
open Tryz
def JX (a b:Nat):List UInt8:=Lib.decDigits a++46::pN b
theorem MY (a b:Nat):(JX a b).length=(Lib.decDigits a).length+4:=by unfold JX;rw[List.length_append];rfl
theorem Qq {n:Int}:Lib.hasPrefix (dd n) [45]=decide (n<0)∧Lib.trimPrefix (dd n) [45]=JX (n.natAbs / 1000) (n.natAbs % 1000):=by
 unfold dd
 by_cases h:n<0
 ·rw[if_pos h,decide_eq_true h];exact⟨rfl,rfl⟩
 ·rw[if_neg h,decide_eq_false h,List.nil_append]
  have hp:Lib.hasPrefix (JX (n.natAbs / 1000) (n.natAbs % 1000)) [45]=false:=by
   unfold JX
   cases hd:Lib.decDigits (n.natAbs / 1000) with
   |nil=>exact absurd hd (ru _)
   |cons c t=>
    have:=oO (n.natAbs / 1000) c (by rw[hd];simp)
    have hc:((45:UInt8)==c)=false:=by rw[beq_eq_false_iff_ne];rintro rfl;exact absurd this.1 (by decide)
    simp[Lib.hasPrefix,List.isPrefixOf,hc]
  exact⟨hp,by unfold Lib.trimPrefix;rw[show Lib.hasPrefix (Lib.decDigits (n.natAbs / 1000)++46::pN (n.natAbs % 1000)) [45]=false from hp];rfl⟩
theorem Tr (b:Nat):Oh (ag (pN b)):=fun c hc=>by rw[bM] at hc;exact DG b c hc
theorem nE (s:ByteArray) (i j:Nat):(s.extract i j).data.toList=(s.data.toList.take j).drop i:=by
 rw[ByteArray.data_extract,Array.toList_extract,List.extract_eq_drop_take']
theorem E8 (s:ByteArray) (n:Int) (w:World) (h1: -9999999≤n) (h2:n≤9999999) (hs:s.data.toList=dd n) (ht:Id.lk w):
  Calls prog 238 #[.string s] w fun e w'=>e=.returned (.tuple #[.int .i64 n,.bool true])∧Below w.heap.size w w':=by
 obtain⟨m,hm⟩:∃m,m=n.natAbs:=⟨_,rfl⟩;have hcp:=Qq (n:=n);rw[←hs,←hm] at hcp;obtain⟨body,cO⟩:∃body:ByteArray,body=⟨(Lib.trimPrefix s.data.toList [45]).toArray⟩:=⟨_,rfl⟩
 have iw:body.data.toList=JX (m / 1000) (m % 1000):=by rw[cO,←hcp.2]
 have HC:∀W,Calls prog 70 #[.string s,.string ⟨#[45]⟩] W fun e w'=>e=.returned (.tuple #[.string body,.bool (decide (n<0))])∧w'=W:=fun W=>by
  have:=strings_CutPrefix s ⟨#[45]⟩ W;rw[cO,←hcp.1];exact this
 obtain⟨a,ha⟩:∃a,a=m / 1000:=⟨_,rfl⟩;obtain⟨b,hb⟩:∃b,b=m % 1000:=⟨_,rfl⟩;rw[←ha,←hb] at iw;obtain⟨la,O0⟩:∃la,la=(Lib.decDigits a).length:=⟨_,rfl⟩
 have cM:body.size=la+4:=by rw[←bS,iw,MY,O0]
 have LU:1≤la:=by
  rw[O0]
  have:(Lib.decDigits a).length≠0:=fun e=>ru a (List.length_eq_zero_iff.1 e)
  omega
 have hl7:la≤7:=by rw[O0];exact mZ 6 a (by omega)
 have aS:la<body.size:=by rw[cM];exact Nat.lt_add_of_pos_right (by decide)
 have Cu:body[la]'aS=46:=by
  have h0:body.data.toList[la]? =some 46:=by rw[iw];unfold JX;rw[List.getElem?_append_right (by omega),O0,Nat.sub_self];rfl
  rw[List.getElem?_eq_getElem (by rw[bS];omega)] at h0;exact Option.some.inj h0
 have aw:body.extract 0 la=ag (Lib.decDigits a):=oQ (by
  rw[nE,iw,List.drop_zero];unfold JX;rw[O0,List.take_left])
 have aF:body.extract (la+1) (la+4)=ag (pN b):=oQ (by
  rw[nE,iw,List.take_of_length_le (by rw[MY];omega)];unfold JX
  rw[O0,←List.drop_drop,List.drop_left];rfl)
 have hab:a*1000+b=m:=by omega
 have HD:=fun W=>nK (ag (pN b)) W (Tr b) (by rw[bM];exact List.cons_ne_nil _ _) (by rw[eD];show 3≤1000000;omega)
 have HP:=Lib.hid (fun W (h:Below w.heap.size w W)=>AJ (ag (Lib.decDigits a)) a W (by omega) (bM _) (ht.below h));have HAT:=Lib.hid (fun W=>strconv_Atoi (ag (pN b)) (b:Int) (by rw[eD];show 3≤18;omega) (by rw[bM];exact Wj (by omega)) W);have HM:=Lib.hid hm
 have hm7:m≤9999999:=by omega
 have eE:b<1000:=by omega
 clear cO iw hcp O0 ha hb hs ht hm
 go_enter func238,ntmps238
 go_wp2_with fail
 with_reducible refine(HC _).mono ?_
 rintro e w' ⟨rfl,rfl⟩
 go_wp2_with fail
 with_reducible refine(HD _).mono ?_
 rintro e w1 ⟨rfl,aC⟩
 go_wp2_with fail
 with_reducible refine(HP.out _ aC).mono ?_
 rintro e w2 ⟨rfl,ax⟩;replace ax:=az aC ax;clear aC
 go_wp2_with fail
 with_reducible refine(HAT.out _).mono ?_
 rintro e w3 ⟨rfl,t,rfl⟩;have abd:=Lib.bytesWorld_below w2 5 t;generalize Lib.bytesWorld w2 5 t=w4 at*;have BB:=ax.trans (abd.mono ax.size);clear ax abd aw aF Cu
 by_cases hn:n<0
 ·have cu:((a:Int)*1000+(b:Int) !=0)=true:=bne_iff_ne.2 (by have:=HM.out;omega)
  have hE:Hid (-((a:Int)*1000+(b:Int))=n):=by unfold Hid;have:=HM.out;omega
  go_wp2_with fail
  go_ret2
  exact⟨by rw[←hE.out];rfl,BB⟩
 ·have hE:Hid ((a:Int)*1000+(b:Int)=n):=by unfold Hid;have:=HM.out;omega
  go_wp2_with fail
  go_ret2
  exact⟨by rw[←hE.out];rfl,BB⟩
theorem Gc (s:ByteArray) (k:Nat):(34::ev (s.data.toList.take k)).length≤2*s.size+1:=by
 have:=(qF (s.data.toList.take k)).2;rw[List.length_take,bS] at this;rw[List.length_cons];omega
theorem UW (s:ByteArray) (k:Nat) (hk:k<s.size):ev (s.data.toList.take (k+1))=ev (s.data.toList.take k)++fa s[k]:=by
 have h:k<s.data.toList.length:=by rw[bS];exact hk
 rw[sG s.data.toList k h];rfl
theorem Y8 (s:ByteArray) (k:Nat) (hk:¬k<s.size):34::ev (s.data.toList.take k)++ [34]=bV s.data.toList:=by
 rw[List.take_of_length_le (by rw[bS];omega)];unfold bV
 simp
theorem H7 {P:Prop} (h:P:=by
 have cO:=lW;clear lW
 go_wp2_with fail
 go_roundw
 case rel=>exact⟨k+1,_,by omega,by go_num,cO,by unfold Hid;rw[HS.out,HT.out];simp[fa,hq],bl,gU⟩
 case measure=>simp[intOf];omega):P:=h
theorem lN (s:ByteArray) (w:World) (hs:s.size≤100000):
  Calls prog 64 #[.string s] w fun e w'=>e=.returned (.string (ag (bV s.data.toList)))∧Below w.heap.size w w':=by
 go_enter func64,ntmps64
 go_wp2_with fail
 have hl:=ai w (.cells #[.pointer none,.slice none 0 0] 85);have hf:=iL.fresh w;have hB:=hl.size;generalize (w.alloc (.cells #[.pointer none,.slice none 0 0] 85))=w1 at*;obtain⟨B,yE⟩:∃B,w.heap.size=B:=⟨_,rfl⟩;rw[yE] at hl hf hB ⊢;have HB:=Lib.hid yE;clear yE
 with_reducible refine(Ch B B [] 34 34 rfl w1 hf (by decide) hB).mono ?_
 rintro e w2 ⟨rfl,cO,bl,_⟩;have gU:=Nat.le_trans hB bl.size;replace bl:=hl.trans bl;clear hl hf hB
 go_wp2_with fail
 go_loopw [4] (fun i wr=>∃(k:Nat) (t:List UInt8),k≤s.size∧i=.int .i64 k∧iL B wr B t∧Hid (t=34::ev (s.data.toList.take k))∧Below B w wr∧B≤wr.heap.size) (fun i _=>s.size - (intOf i).toNat)
 case atStart=>exact⟨0,_,Nat.zero_le _,rfl,cO,rfl,bl,gU⟩
 case round=>
  clear cO bl gU;obtain⟨k,t,hk,rfl,cO,HT,bl,gU⟩:=hrel
  have O_:t.length≤200001:=by have:=Gc s k;rw[←HT.out] at this;omega
  by_cases aS:k<s.size
  ·have HS:=Lib.hid (UW s k aS);obtain⟨c,hc⟩:∃c:UInt8,c=s[k]:=⟨_,rfl⟩;have HC:=Lib.hid hc;have hcx:s[k]=c:=hc.symm;rw[←hc] at HS;clear hc
   by_cases IV:c=34
   ·have g34:((c.toNat:Int)==34)=true:=by rw[IV];rfl
    go_wp2_with fail
    have hq:c=34:=IV
    with_reducible refine(Ch B B t 92 92 rfl _ cO (by(try simp only[List.length_append,List.length_cons,List.length_nil]);omega) gU).mono ?_
    rintro e w5 ⟨rfl,lW,k',_⟩;replace gU:=Nat.le_trans gU k'.size;replace bl:=bl.trans k';clear k' cO
    rename_i o5;clear o5
    have cO:=lW;clear lW
    go_wp2_with fail
    with_reducible refine(Ch B B (t++ [92]) 34 34 rfl _ cO (by(try simp only[List.length_append,List.length_cons,List.length_nil]);omega) gU).mono ?_
    rintro e w5 ⟨rfl,lW,k',_⟩;replace gU:=Nat.le_trans gU k'.size;replace bl:=bl.trans k';clear k' cO
    rename_i o5;clear o5
    exact H7
   ·have g34:((c.toNat:Int)==34)=false:=beq_eq_false_iff_ne.2 (by intro h;exact IV (UInt8.toNat_inj.1 (by show c.toNat=34;omega)))
    by_cases IW:c=92
    ·have g92:((c.toNat:Int)==92)=true:=by rw[IW];rfl
     have hq:c=92:=IW
     go_wp2_with fail
     with_reducible refine(Ch B B t 92 92 rfl _ cO (by(try simp only[List.length_append,List.length_cons,List.length_nil]);omega) gU).mono ?_
     rintro e w5 ⟨rfl,lW,k',_⟩;replace gU:=Nat.le_trans gU k'.size;replace bl:=bl.trans k';clear k' cO
     rename_i o5;clear o5
     have cO:=lW;clear lW
     go_wp2_with fail
     with_reducible refine(Ch B B (t++ [92]) 92 92 rfl _ cO (by(try simp only[List.length_append,List.length_cons,List.length_nil]);omega) gU).mono ?_
     rintro e w5 ⟨rfl,lW,k',_⟩;replace gU:=Nat.le_trans gU k'.size;replace bl:=bl.trans k';clear k' cO
     rename_i o5;clear o5
     exact H7
    ·have g92:((c.toNat:Int)==92)=false:=beq_eq_false_iff_ne.2 (by intro h;exact IW (UInt8.toNat_inj.1 (by show c.toNat=92;omega)))
     by_cases Co:c=10
     ·have g10:((c.toNat:Int)==10)=true:=by rw[Co];rfl
      have hq:c=10:=Co
      go_wp2_with fail
      with_reducible refine(o7 B B t ⟨#[92,110]⟩ _ cO (by omega) (by decide) gU).mono ?_
      rintro e w5 ⟨⟨nn,rfl⟩,lW,k',o5⟩;replace gU:=Nat.le_trans gU k'.size;replace bl:=bl.trans k';clear k' cO o5;exact H7
     ·have g10:((c.toNat:Int)==10)=false:=beq_eq_false_iff_ne.2 (by intro h;exact Co (UInt8.toNat_inj.1 (by show c.toNat=10;omega)))
      go_wp2_with fail
      with_reducible refine(Ch B B t c (c.toNat:Int) rfl _ cO (by(try simp only[List.length_append,List.length_cons,List.length_nil]);omega) gU).mono ?_
      rintro e w5 ⟨rfl,lW,k',_⟩;replace gU:=Nat.le_trans gU k'.size;replace bl:=bl.trans k';clear k' cO
      rename_i o5;clear o5
      have cO:=lW;clear lW
      go_wp2_with fail
      go_roundw
      case rel=>exact⟨k+1,_,by omega,by go_num,cO,by unfold Hid;rw[HS.out,HT.out];simp[fa,IV,IW,Co],bl,gU⟩
      case measure=>simp[intOf];omega
  ·have HE:=Lib.hid (Y8 s k aS)
   go_wp2_with fail
   with_reducible refine(Ch B B t 34 34 rfl _ cO (by(try simp only[List.length_append,List.length_cons,List.length_nil]);omega) gU).mono ?_
   rintro e w5 ⟨rfl,lW,k',_⟩;replace gU:=Nat.le_trans gU k'.size;replace bl:=bl.trans k';clear k' cO
   rename_i o5;clear o5
   have cO:=lW;clear lW
   go_wp2_with fail
   with_reducible refine(yb B B _ _ cO gU).mono ?_
   rintro e w6 ⟨rfl,_,N0,_⟩
   go_wp2_with fail
   go_ret
   refine⟨?_,by rw[HB.out];exact bl.trans N0⟩;rw[HT.out,HE.out];rfl
theorem ij {s:ByteArray} {l:List UInt8} (h:s.data.toList=l) {i:Nat} {c:UInt8} (hc:l[i]? =some c) (hi:i<s.size):s[i]=c:=by
 rw[←h,List.getElem?_eq_getElem (by rw[bS];exact hi)] at hc;exact Option.some.inj hc
theorem Ib {P:Prop} (h:P:=by
 rintro e w5 ⟨rfl,lW,k',_⟩;have hB5:=Nat.le_trans gU k'.size;have N0:=bl.trans k'
 go_wp2_with fail
 go_roundw
 case rel=>exact⟨k+1,p+2,by omega,by go_num,by unfold Hid;rw[Vt.out,XH],by rw[HT.out];exact lW,N0,hB5⟩
 case measure=>simp[intOf];omega):P:=h
theorem J9 (s:ByteArray) (L:List UInt8) (w:World) (hs:s.data.toList=bV L) (hL:∀c∈L,CQ c=true) (hn:L.length≤100000):
  Calls prog 237 #[.string s] w fun e w'=>e=.returned (.tuple #[.string (ag L),.bool true])∧Below w.heap.size w w':=by
 have hqn:=(qF L).2;obtain⟨qn,hq⟩:∃qn,(ev L).length=qn:=⟨_,rfl⟩;rw[hq] at hqn;obtain⟨m,hm⟩:∃m,m=qn+1:=⟨_,rfl⟩
 have cM:s.size=m+1:=by rw[←bS,hs,hm];unfold bV;rw[List.length_cons,List.length_append,hq];rfl
 have z0:0<s.size:=by rw[cM];exact Nat.succ_pos _
 have zl:m<s.size:=by rw[cM];exact Nat.lt_succ_self _
 have Ay:s[0]'z0=34:=ij hs rfl _;have kP:s[m]'zl=34:=ij hs (by rw[hm];unfold bV;rw[List.getElem?_cons_succ,List.getElem?_append_right (by omega),hq,Nat.sub_self];rfl) _
 have Xa:s.extract 1 m=ag (ev L):=oQ (by
  rw[nE,hs,hm];unfold bV
  rw[List.take_succ_cons,List.drop_succ_cons,List.drop_zero,←hq,List.take_left])
 have hm2:¬(m:Int)+1<2:=by omega
 have hmb:m≤200001:=by omega
 have HM:=Lib.hid hm;clear hm;obtain⟨body,hb⟩:∃body,body=ag (ev L):=⟨_,rfl⟩;rw[←hb] at Xa
 have iw:body.data.toList=ev L:=by rw[hb,bM]
 have hbs:body.size=qn:=by rw[hb,eD,hq]
 have HBL:=Lib.hid iw;have HL:=Lib.hid hL;have HQ:=Lib.hid hq;clear hb iw hL hs hq
 go_enter func237,ntmps237
 go_wp2_with fail
 have hl:=ai w (.cells #[.pointer none,.slice none 0 0] 85);have hf:=iL.fresh w;have hB:=hl.size;generalize (w.alloc (.cells #[.pointer none,.slice none 0 0] 85))=w1 at*;obtain⟨B,yE⟩:∃B,w.heap.size=B:=⟨_,rfl⟩;rw[yE] at hl hf hB ⊢;have HB:=Lib.hid yE;clear yE Ay kP Xa z0 zl cM
 go_loopw [6] (fun i wr=>∃(k p:Nat),k≤L.length∧i=.int .i64 p∧Hid (p=(ev (L.take k)).length)∧iL B wr B (L.take k)∧Below B w wr∧B≤wr.heap.size) (fun i _=>qn - (intOf i).toNat)
 case atStart=>exact⟨0,0,Nat.zero_le _,rfl,rfl,hf,hl,hB⟩
 case round=>
  clear hf hl hB;obtain⟨k,p,hk,rfl,HP,cO,bl,gU⟩:=hrel
  have O_:(L.take k).length≤200001:=by rw[List.length_take];omega
  by_cases aS:k<L.length
  ·obtain⟨c,hc⟩:∃c,c=L[k]:=⟨_,rfl⟩;have qW:=Gd L k aS;have iy:=HL.out L[k] (List.getElem_mem aS)
   have HT:Hid (L.take (k+1)=L.take k++ [c]):=by unfold Hid;rw[hc];exact List.take_succ_eq_append_getElem aS
   have hsn:=sG L k aS;rw[←hc] at qW iy hsn
   have Vt:Hid ((ev (L.take (k+1))).length=p+(fa c).length):=by unfold Hid;rw[hsn,List.length_append,HP.out]
   have hlen:=congrArg List.length qW;rw[List.length_append,List.length_append,HQ.out,←HP.out] at hlen
   have xd:∀(j:Nat) (d:UInt8),(fa c)[j]? =some d→body.data.toList[p+j]? =some d:=fun j d hj=>by
    have hjl:=(List.getElem?_eq_some_iff.1 hj).1;rw[HBL.out,qW,HP.out,List.getElem?_append_right (by omega),List.getElem?_append_left (by omega)];rw[←hj];congr 1;omega
   obtain⟨q1,q2,q3⟩:=M0 iy;clear hc qW hsn iy
   by_cases IV:c=34
   ·subst IV
    have xr:fa 34=[92,34]:=by decide
    rw[xr] at xd hlen
    have XH:(fa 34).length=2:=by rw[xr];rfl
    simp only[List.length_cons,List.length_nil] at hlen
    have jk:p+1<body.size:=by omega
    have hpi:(p:Int)<(qn:Int):=by omega
    have abx:(p:Int)+1<(qn:Int):=by omega
    have XG:p<body.size:=Nat.lt_of_succ_lt jk;have hp0:body[p]'XG=92:=ij rfl (xd 0 92 rfl) _;have Eg:body[p+1]'jk=34:=ij rfl (xd 1 34 rfl) _;clear xd hlen xr q1 q2 q3
    go_wp2_with fail
    with_reducible refine(Ch B B _ 34 34 rfl _ cO (by omega) gU).mono ?_
    exact Ib
   by_cases IW:c=92
   ·subst IW
    have xr:fa 92=[92,92]:=by decide
    rw[xr] at xd hlen
    have XH:(fa 92).length=2:=by rw[xr];rfl
    simp only[List.length_cons,List.length_nil] at hlen
    have jk:p+1<body.size:=by omega
    have hpi:(p:Int)<(qn:Int):=by omega
    have abx:(p:Int)+1<(qn:Int):=by omega
    have XG:p<body.size:=Nat.lt_of_succ_lt jk;have hp0:body[p]'XG=92:=ij rfl (xd 0 92 rfl) _;have Eg:body[p+1]'jk=92:=ij rfl (xd 1 92 rfl) _;clear xd hlen xr q1 q2 q3
    go_wp2_with fail
    with_reducible refine(Ch B B _ 92 92 rfl _ cO (by omega) gU).mono ?_
    exact Ib
   by_cases Co:c=10
   ·subst Co
    have xr:fa 10=[92,110]:=by decide
    rw[xr] at xd hlen
    have XH:(fa 10).length=2:=by rw[xr];rfl
    simp only[List.length_cons,List.length_nil] at hlen
    have jk:p+1<body.size:=by omega
    have hpi:(p:Int)<(qn:Int):=by omega
    have abx:(p:Int)+1<(qn:Int):=by omega
    have XG:p<body.size:=Nat.lt_of_succ_lt jk;have hp0:body[p]'XG=92:=ij rfl (xd 0 92 rfl) _;have Eg:body[p+1]'jk=110:=ij rfl (xd 1 110 rfl) _;clear xd hlen xr q1 q2 q3
    go_wp2_with fail
    with_reducible refine(Ch B B _ 10 10 rfl _ cO (by omega) gU).mono ?_
    exact Ib
   obtain⟨xr,r1,r2⟩:=q3 (by rintro(h|h);exact IV h;exact IW h) Co;rw[xr] at xd hlen
   have XH:(fa c).length=1:=by rw[xr];rfl
   simp only[List.length_cons,List.length_nil] at hlen
   have jk:p<body.size:=by omega
   have hpi:(p:Int)<(qn:Int):=by omega
   have hp0:body[p]'jk=c:=ij rfl (xd 0 c rfl) _;have g1:((c.toNat:Int)==92)=false:=beq_eq_false_iff_ne.2 (by intro h;exact IW (UInt8.toNat_inj.1 (by show c.toNat=92;omega)));have g2:((c.toNat:Int)==34)=false:=beq_eq_false_iff_ne.2 (by intro h;exact IV (UInt8.toNat_inj.1 (by show c.toNat=34;omega)))
   have g3:¬(c.toNat:Int)<32:=by omega
   have g4:¬(126:Int)<(c.toNat:Int):=by omega
   clear xd hlen xr q1 q2 q3 IV IW Co
   go_wp2_with fail
   with_reducible refine(Ch B B _ c (c.toNat:Int) rfl _ cO (by omega) gU).mono ?_
   rintro e w5 ⟨rfl,lW,k',_⟩;have hB5:=Nat.le_trans gU k'.size;have N0:=bl.trans k'
   go_wp2_with fail
   go_roundw
   case rel=>exact⟨k+1,p+1,by omega,by go_num,by unfold Hid;rw[Vt.out,XH],by rw[HT.out];exact lW,N0,hB5⟩
   case measure=>simp[intOf];omega
  ·have gA:L.take k=L:=List.take_of_length_le (by omega)
   have hpn:p=qn:=by rw[HP.out,gA,HQ.out]
   subst hpn;rw[gA] at cO;clear gA
   go_wp2_with fail
   with_reducible refine(yb B B _ _ cO gU).mono ?_
   rintro e w6 ⟨rfl,_,N0,_⟩
   go_wp2_with fail
   go_ret2
   exact⟨rfl,by rw[HB.out];exact bl.trans N0⟩
theorem dR (B g:Nat) (w0:World) (P:List (List UInt8)) (M n:Nat) (xs:List ByteArray) (ws:List (List UInt8)) (hws:xs.map (·.data.toList)=ws) (cs:Array Value) (w:World) (h:Wr B g w0 P M w) (hM:M≤50000000) (hn:n=xs.length) (hx:xs≠ [])
  (gu:cs.toList=xs.map Value.string) (qx:n≤1000) (hlen:(aV ws).length≤5000):
  Calls prog 21 #[.pointer (some ⟨g,0,none⟩),.slice (some ⟨w.heap.size,0,none⟩) n n] (w.alloc (.cells cs 9)) fun e w'=>e=.returned (.tuple #[])∧ZM B g w0 P [aV ws] (M+5001) w w':=by
 subst hws;have hb:=ai w (.cells cs 9)
 have hR:Row (w.alloc (.cells cs 9)) w.heap.size 9 (xs.map Value.string):=by
  have e:(xs.map Value.string).toArray=cs:=by rw[←gu]
  have:=Row.new w 9 (xs.map Value.string);rw[e] at this;exact this
 refine(vH B g w0 P M w.heap.size 0 n n xs _ (h.keep hb) hM hn hx (fun j x hj=>?_) (Nat.le_refl _) qx hlen).mono ?_
 ·rw[Nat.zero_add,hR.cell,List.getElem?_map,hj];rfl
 ·rintro e w' ⟨rfl,h1,h2,h3⟩;exact⟨rfl,h1,(hb.mono h.size).trans h2,(cL.ab hb).trans h3⟩
def g_ (l:List Int):List ByteArray:=⟨#[99,104,111,105,99,101]⟩::l.map fun c=>ag (Lib.itoa (c+1))
theorem yf (l:List Int):(g_ l).map (·.data.toList)=ia::l.map fun c=>Lib.itoa (c+1):=by
 unfold g_ ia;rw[List.map_cons,List.map_map]
 congr 1
theorem Fz (l:List Int) (k:Nat) (hk:k<l.length):(g_ (l.take (k+1))).map Value.string=(g_ (l.take k)).map Value.string++ [.string (ag (Lib.itoa (l.getD k 0+1)))]:=by
 rw[List.take_succ_eq_append_getElem hk];unfold g_
 have e:l.getD k 0=l[k]:=by simp[List.getD,List.getElem?_eq_getElem hk]
 rw[List.map_append,e,List.map_cons,List.map_cons,List.map_append];rfl
theorem ZT {l:List Int} (h1:l.length≤10) (h2:∀x∈l,0≤x∧x≤9):(aV (ia::l.map fun c=>Lib.itoa (c+1))).length≤5000:=by
 have:=mJ 7 (ia::l.map fun c=>Lib.itoa (c+1)) (fun w hw=>by
  rw[List.mem_cons,List.mem_map] at hw
  rcases hw with rfl|⟨x,hx,rfl⟩
  ·decide
  ·have:=h2 x hx;exact iO (by omega) (by omega))
 simp only[List.length_cons,List.length_map] at this;omega
theorem fo {a b:List UInt8} (ha:a.length≤10) (hb:b.length≤4500):(aV [a,b]).length≤5000:=by
 have:=lA ha hb;omega
theorem H8 {P:Prop} (h:P:=by
 have WR:=hw.keep hx;have BW:=hx.mono hw.size;have OW:=cL.ab (b:=g) hx;have BX:=WR.e_
 have mg:g≠g3:=by have:=hw.lt;omega
 clear e1 hw;generalize aF:x1.alloc (.cells #[.string ⟨#[99,104,111,105,99,101]⟩] 9)=x2 at*;clear aF;have R3':=R3.keep hy;clear R3 R3' c2 c5 c5y;obtain⟨ae4,ada,abm⟩:=HG.out.Ad (by rw[pK.out];decide);have HC3:=Lib.hid abm;clear abm
 have Cg:Hid (cF it=[aV ((g_ it.cA).map (·.data.toList))]):=by unfold Hid cF;rw[if_pos (by rw[pK.out];decide),yf]
 have NI:Hid ((aV ((g_ it.cA).map (·.data.toList))).length≤5000):=by unfold Hid;rw[yf];exact ZT ada HC3.out
 go_loopw [5,23] (fun v i wr=>∃(k:Nat) (A:Option Addr) (c:Nat),k≤it.cA.length∧v=.slice A (k+1) c∧i=.int .i64 k∧wr.ownsRow x1.heap.size 9 1 (.slice A (k+1) c) (k+1) ((g_ (it.cA.take k)).map Value.string)∧Below x1.heap.size x1 wr) (fun _ i _=>it.cA.length - (intOf i).toNat)
 case atStart=>exact⟨0,_,_,Nat.zero_le _,rfl,rfl,ZE,hy⟩
 case round=>
  clear ZE hy;obtain⟨k,A,c,hk,rfl,rfl,a_,fw⟩:=hrel
  by_cases aS:k<it.cA.length
  ·obtain⟨b,o,rfl,aO⟩:=gu.2 (by omega);have lH:w0.cell? ⟨b,o+k,none⟩=some (.int .i64 (it.cA.getD k 0)):=aO k _ (by rw[List.getElem?_map,List.getD,List.getElem?_eq_getElem aS];rfl);have hz:=HC3.out (it.cA.getD k 0) (by rw[List.getD,List.getElem?_eq_getElem aS];exact List.getElem_mem aS);have Cf:=Lib.hid (Fz it.cA k aS);have kl:=az BX fw;have ck:=(kl.cell (block_lt_of_cell lH)).trans lH;generalize it.cA.getD k 0=z at*;clear lH aO
   go_wp2_with fail
   with_reducible refine(gS (z+1) _ (by omega) (by omega) (HT _ kl)).mono ?_
   rintro e wa ⟨rfl,hba⟩;have ab':=I a_ hba;have abj:=az fw hba;clear a_ fw ck
   go_wp2_with (at_builtin;refine lQ wa rfl (.tmp 27) (.tmp 31) 45 rfl x1.heap.size 9 (.string ByteArray.empty) 16 underlying45 Dc rfl _ (k+1) _ (.string (ag (Lib.itoa (z+1)))) rfl rfl ab' rfl (by unfold maxLen;omega) (by omega) abj.size ?_;intro A' c' w' gX ax)
   go_roundw
   case rel=>exact⟨k+1,A',c',by omega,rfl,by go_num,by rw[Cf.out];exact gX,abj.trans ax⟩
   case measure=>simp[intOf];omega
  ·have nW:k=it.cA.length:=by omega
   have Xt:(g_ (it.cA.take k)).map Value.string=(g_ it.cA).map Value.string:=by rw[List.take_of_length_le (by omega)]
   rw[Xt] at a_;have HN:=Lib.hid nW;clear Xt nW
   go_wp2_with fail
   obtain⟨gw,cap,he,ab8,aeH,aeI,dW,aO,_⟩:=cj a_ (by omega)
   injection he with he1 FR he3
   subst he1;subst he3
   with_reducible refine(vH B g w0 P M gw 0 c (k+1) (g_ it.cA) wr (WR.keep fw) (by omega) (by unfold g_;rw[List.length_cons,List.length_map,HN.out]) (by unfold g_;exact List.cons_ne_nil _ _) (fun j x hj=>?_) ab8 (by omega) NI.out).mono ?_
   ·exact aO j _ (by rw[List.getElem?_map,hj];rfl)
   rintro e w9 ⟨rfl,h1,h2,h3⟩
   go_wp2_with fail
   go_ret
   exact⟨rfl,by rw[Cg.out];exact h1.mono (by omega),BW.trans ((fw.mono WR.size).trans h2),OW.trans ((cL.ab fw).trans h3)⟩):P:=h
theorem QT {P:Prop} (h:P:=by
 rintro e w9 ⟨rfl,h1,h2,h3⟩
 go_wp2_with fail
 go_ret
 exact⟨rfl,by rw[Cg.out];exact h1.mono (by omega),BW.trans h2,OW.trans h3⟩):P:=h
theorem q9 (B g:Nat) (w0:World) (P:List (List UInt8)) (M:Nat) (C:List Value) (it:aA) (w:World) (hw:Wr B g w0 P M w) (hM:M≤40000000) (hR:dO w0 C it) (hG:Good it) (ht:Id.lk w0):
  Calls prog 65 #[.pointer (some ⟨g,0,none⟩),.agg C.toArray] w fun e w'=>e=.returned (.int .i64 0)∧ZM B g w0 P (cF it) (M+60000) w w':=by
 have yK:=hG.kind;obtain⟨kd,Xo⟩:∃kd,it.kind=kd:=⟨_,rfl⟩;obtain⟨vo,vc,vt,va,rfl,ho,hc,Pb,ha⟩:=hR;unfold fS;rw[Xo] at yK ⊢;have pK:=Lib.hid Xo;have HG:=Lib.hid hG
 have HT:=fun W (h:Below w0.heap.size w0 W)=>Id.lk.below ht h
 obtain⟨Ac,cc,rfl,pg,vZ,gu⟩:=hc;obtain⟨At,ct,rfl,ht1,ht2,hts⟩:=Pb;clear Xo ho ha ht hG;have B0:=hw.e_
 go_enter func65,ntmps65
 have kk:kd=1∨kd=2∨kd=3∨kd=4∨kd=5∨kd=6:=by omega
 rcases kk with rfl|rfl|rfl|rfl|rfl|rfl
 ·go_wp2_with (first|((with_reducible refine ao (C:=[.int .i64 it.id,.int .i64 it.bj,.int .i64 1,.string it.aW,vo,.slice Ac it.cA.length cc,.int .i64 it.value,.int .i64 it.de,.slice At it.texts.length ct,.int .i64 it.aP,.string it.code,.int .i64 it.bz,.int .i64 it.bB,.int .i64 it.words,.int .i64 it.ay,va,.int .i64 it.aH]) ?_ ?_);rfl;intro x1 g3 e1 R3 hx;have c2:=U (R3.cell 2);have c5:=U (R3.cell 5);have hy:=ai x1 (.cells #[.string ⟨#[99,104,111,105,99,101]⟩] 9);have c5y:(x1.alloc (.cells #[.string ⟨#[99,104,111,105,99,101]⟩] 9)).cell? ⟨g3,5,none⟩=some (.slice Ac it.cA.length cc):=(R3.keep hy).cell 5;have ZE:(x1.alloc (.cells #[.string ⟨#[99,104,111,105,99,101]⟩] 9)).ownsRow x1.heap.size 9 1 (.slice (some ⟨x1.heap.size,0,none⟩) 1 1) 1 ((g_ (it.cA.take 0)).map Value.string):=World.ownsRow_lit x1 _ 1 (Nat.le_refl _) (by decide) rfl))
  exact H8
 ·go_wp2_with (first|((with_reducible refine ao (C:=[.int .i64 it.id,.int .i64 it.bj,.int .i64 2,.string it.aW,vo,.slice Ac it.cA.length cc,.int .i64 it.value,.int .i64 it.de,.slice At it.texts.length ct,.int .i64 it.aP,.string it.code,.int .i64 it.bz,.int .i64 it.bB,.int .i64 it.words,.int .i64 it.ay,va,.int .i64 it.aH]) ?_ ?_);rfl;intro x1 g3 e1 R3 hx;have c2:=U (R3.cell 2);have c5:=U (R3.cell 5);have hy:=ai x1 (.cells #[.string ⟨#[99,104,111,105,99,101]⟩] 9);have c5y:(x1.alloc (.cells #[.string ⟨#[99,104,111,105,99,101]⟩] 9)).cell? ⟨g3,5,none⟩=some (.slice Ac it.cA.length cc):=(R3.keep hy).cell 5;have ZE:(x1.alloc (.cells #[.string ⟨#[99,104,111,105,99,101]⟩] 9)).ownsRow x1.heap.size 9 1 (.slice (some ⟨x1.heap.size,0,none⟩) 1 1) 1 ((g_ (it.cA.take 0)).map Value.string):=World.ownsRow_lit x1 _ 1 (Nat.le_refl _) (by decide) rfl))
  exact H8
 ·go_wp2_with (first|((with_reducible refine ao (C:=[.int .i64 it.id,.int .i64 it.bj,.int .i64 3,.string it.aW,vo,.slice Ac it.cA.length cc,.int .i64 it.value,.int .i64 it.de,.slice At it.texts.length ct,.int .i64 it.aP,.string it.code,.int .i64 it.bz,.int .i64 it.bB,.int .i64 it.words,.int .i64 it.ay,va,.int .i64 it.aH]) ?_ ?_);rfl;intro x1 g3 e1 R3 hx;have c2:=U (R3.cell 2);have c5:=U (R3.cell 5);have hy:=ai x1 (.cells #[.string ⟨#[99,104,111,105,99,101]⟩] 9);have c5y:(x1.alloc (.cells #[.string ⟨#[99,104,111,105,99,101]⟩] 9)).cell? ⟨g3,5,none⟩=some (.slice Ac it.cA.length cc):=(R3.keep hy).cell 5;have ZE:(x1.alloc (.cells #[.string ⟨#[99,104,111,105,99,101]⟩] 9)).ownsRow x1.heap.size 9 1 (.slice (some ⟨x1.heap.size,0,none⟩) 1 1) 1 ((g_ (it.cA.take 0)).map Value.string):=World.ownsRow_lit x1 _ 1 (Nat.le_refl _) (by decide) rfl))
  exact H8
 ·go_wp2_with (first|((with_reducible refine ao (C:=[.int .i64 it.id,.int .i64 it.bj,.int .i64 4,.string it.aW,vo,.slice Ac it.cA.length cc,.int .i64 it.value,.int .i64 it.de,.slice At it.texts.length ct,.int .i64 it.aP,.string it.code,.int .i64 it.bz,.int .i64 it.bB,.int .i64 it.words,.int .i64 it.ay,va,.int .i64 it.aH]) ?_ ?_);rfl;intro x1 g3 e1 R3 hx;have c2:=U (R3.cell 2);have c6:=U (R3.cell 6);have c7:=U (R3.cell 7)))
  have WR:=hw.keep hx;have BW:=hx.mono hw.size;have OW:=cL.ab (b:=g) hx;have BX:=WR.e_
  have mg:g≠g3:=by have:=hw.lt;omega
  clear e1 hw;obtain⟨hv,abE⟩:=HG.out.J' pK.out;have l1:=sO hv.1 hv.2;have l2:=sO (n:=it.de) (by omega) abE.2
  have Cg:Hid (cF it=[aV [kV,dd it.value,rV,dd it.de]]):=by unfold Hid cF;rw[if_neg (by rw[pK.out];decide),if_pos pK.out]
  have NI:Hid ((aV [kV,dd it.value,rV,dd it.de]).length≤5000):=by unfold Hid;have:=mJ 20 [kV,dd it.value,rV,dd it.de] (fun x hx=>by simp only[List.mem_cons,List.not_mem_nil,or_false] at hx;rcases hx with rfl|rfl|rfl|rfl<;>first|decide|omega);simp only[List.length_cons,List.length_nil] at this;omega
  with_reducible refine(Hp it.value _ hv.1 hv.2 (HT _ BX)).mono ?_
  rintro e w2 ⟨rfl,ax⟩;replace R3:=R3.keep ax;replace BW:=BW.trans (ax.mono WR.size);replace WR:=WR.keep ax;replace OW:=OW.trans (cL.ab ax);replace BX:=WR.e_;replace c7:w2.cell? ⟨g3,7,none⟩=some (.int .i64 it.de):=R3.cell 7;clear ax c2 c6
  go_wp2_with fail
  with_reducible refine(Hp it.de _ (by omega) abE.2 (HT _ BX)).mono ?_
  rintro e w3 ⟨rfl,ax⟩;replace BW:=BW.trans (ax.mono WR.size);replace WR:=WR.keep ax;replace OW:=OW.trans (cL.ab ax);clear ax c7 R3
  go_wp2_with fail
  have fM:List.map (fun x:ByteArray=>x.data.toList) [⟨#[118,97,108,117,101]⟩,ag (dd it.value),⟨#[116,111,108]⟩,ag (dd it.de)]=[kV,dd it.value,rV,dd it.de]:=rfl;have fh:((#[.string ⟨#[118,97,108,117,101]⟩,.string (ag (dd it.value)),.string ⟨#[116,111,108]⟩,.string (ag (dd it.de))]:Array Value)).toList=List.map Value.string [⟨#[118,97,108,117,101]⟩,ag (dd it.value),⟨#[116,111,108]⟩,ag (dd it.de)]:=rfl
  with_reducible refine(dR B g w0 P M 4 [⟨#[118,97,108,117,101]⟩,ag (dd it.value),⟨#[116,111,108]⟩,ag (dd it.de)] _ fM #[.string ⟨#[118,97,108,117,101]⟩,.string (ag (dd it.value)),.string ⟨#[116,111,108]⟩,.string (ag (dd it.de))] w3 WR (by omega) rfl (List.cons_ne_nil _ _) fh (by decide) NI.out).mono ?_
  exact QT
 ·go_wp2_with (first|((with_reducible refine ao (C:=[.int .i64 it.id,.int .i64 it.bj,.int .i64 5,.string it.aW,vo,.slice Ac it.cA.length cc,.int .i64 it.value,.int .i64 it.de,.slice At it.texts.length ct,.int .i64 it.aP,.string it.code,.int .i64 it.bz,.int .i64 it.bB,.int .i64 it.words,.int .i64 it.ay,va,.int .i64 it.aH]) ?_ ?_);rfl;intro x1 g3 e1 R3 hx;have c2:=U (R3.cell 2);have c8:=U (R3.cell 8)))
  have WR:=hw.keep hx;have BW:=hx.mono hw.size;have OW:=cL.ab (b:=g) hx;have BX:=WR.e_
  have mg:g≠g3:=by have:=hw.lt;omega
  clear e1 hw;have kP:=HG.out.Dh
  have HX5:Hid (∀t∈it.texts,t.size≤200):=fun t h=>by have:=(kG (HG.out.texts t h)).2;rwa [bS] at this
  have Cg:Hid (cF it=it.texts.map fun t=>aV [jF,bV t.data.toList]):=by unfold Hid cF;rw[if_neg (by rw[pK.out];decide),if_neg (by rw[pK.out];decide),if_pos pK.out]
  clear R3 c2 c8 hx
  go_loopw [67] (fun i wr=>∃(k:Nat),k≤it.texts.length∧i=.int .i64 k∧Wr B g w0 (P++(it.texts.take k).map fun t=>aV [jF,bV t.data.toList]) (M+k*5001) wr∧Below B w wr∧cL g w wr) (fun i _=>it.texts.length - (intOf i).toNat)
  case atStart=>exact⟨0,Nat.zero_le _,rfl,by rw[List.take_zero,List.map_nil,List.append_nil];exact WR.mono (by omega),BW,OW⟩
  case round=>
   clear WR BW OW BX;obtain⟨k,hk,rfl,WR,BW,OW⟩:=hrel
   by_cases aS:k<it.texts.length
   ·obtain⟨b,o,rfl,aO⟩:=hts.2 (by omega);obtain⟨t,ht⟩:∃t,it.texts[k]? =some t:=⟨_,List.getElem?_eq_getElem aS⟩;have lH:w0.cell? ⟨b,o+k,none⟩=some (.string t):=aO k _ (by rw[List.getElem?_map,ht];rfl);have htz:=HX5.out t (List.mem_of_getElem? ht);have ck:=(WR.e_.cell (block_lt_of_cell lH)).trans lH
    have Cf:Hid ((it.texts.take (k+1)).map (fun t=>aV [jF,bV t.data.toList])=(it.texts.take k).map (fun t=>aV [jF,bV t.data.toList])++ [aV [jF,bV t.data.toList]]):=by unfold Hid;rw[List.take_add_one,ht,List.map_append];rfl
    have NI:Hid ((aV [jF,bV t.data.toList]).length≤5000):=by unfold Hid;have:=jP t.data.toList;rw[bS] at this;exact fo (by decide) (by omega)
    clear lH aO ht
    go_wp2_with fail
    with_reducible refine(lN t _ (by omega)).mono ?_
    rintro e w2 ⟨rfl,ax⟩;replace BW:=BW.trans (ax.mono WR.size);replace WR:=WR.keep ax;replace OW:=OW.trans (cL.ab ax);clear ax ck
    go_wp2_with fail
    have fM:List.map (fun x:ByteArray=>x.data.toList) [⟨#[116,101,120,116]⟩,ag (bV t.data.toList)]=[jF,bV t.data.toList]:=rfl;have fh:((#[.string ⟨#[116,101,120,116]⟩,.string (ag (bV t.data.toList))]:Array Value)).toList=List.map Value.string [⟨#[116,101,120,116]⟩,ag (bV t.data.toList)]:=rfl
    with_reducible refine(dR B g w0 _ (M+k*5001) 2 [⟨#[116,101,120,116]⟩,ag (bV t.data.toList)] _ fM #[.string ⟨#[116,101,120,116]⟩,.string (ag (bV t.data.toList))] w2 WR (by omega) rfl (List.cons_ne_nil _ _) fh (by decide) NI.out).mono ?_
    rintro e w9 ⟨rfl,h1,h2,h3⟩
    go_wp2_with fail
    go_roundw
    case rel=>exact⟨k+1,by omega,by go_num,by rw[Cf.out,←List.append_assoc];exact h1.mono (by omega),BW.trans h2,OW.trans h3⟩
    case measure=>simp[intOf];omega
   ·have HE:Hid (it.texts.take k=it.texts):=List.take_of_length_le (by omega)
    go_wp2_with fail
    go_ret
    exact⟨rfl,by rw[Cg.out];rw[HE.out] at WR;exact WR.mono (by omega),BW,OW⟩
 ·go_wp2_with (first|((with_reducible refine ao (C:=[.int .i64 it.id,.int .i64 it.bj,.int .i64 6,.string it.aW,vo,.slice Ac it.cA.length cc,.int .i64 it.value,.int .i64 it.de,.slice At it.texts.length ct,.int .i64 it.aP,.string it.code,.int .i64 it.bz,.int .i64 it.bB,.int .i64 it.words,.int .i64 it.ay,va,.int .i64 it.aH]) ?_ ?_);rfl;intro x1 g3 e1 R3 hx;have c2:=U (R3.cell 2);have c16:=U (R3.cell 16)))
  have WR:=hw.keep hx;have BW:=hx.mono hw.size;have OW:=cL.ab (b:=g) hx;have BX:=WR.e_
  have mg:g≠g3:=by have:=hw.lt;omega
  clear e1 hw;have FX:=HG.out.U4
  have Cg:Hid (cF it=[aV [lB,Lib.itoa it.aH]]):=by unfold Hid cF;rw[if_neg (by rw[pK.out];decide),if_neg (by rw[pK.out];decide),if_neg (by rw[pK.out];decide)]
  have NI:Hid ((aV [lB,Lib.itoa it.aH]).length≤5000):=by unfold Hid;have:=iO FX.1 FX.2;exact fo (by decide) (by omega)
  with_reducible refine(gS it.aH _ (by omega) (by omega) (HT _ BX)).mono ?_
  rintro e w3 ⟨rfl,ax⟩;replace BW:=BW.trans (ax.mono WR.size);replace WR:=WR.keep ax;replace OW:=OW.trans (cL.ab ax);clear ax c2 c16 R3
  go_wp2_with fail
  have fM:List.map (fun x:ByteArray=>x.data.toList) [⟨#[114,117,98,114,105,99]⟩,ag (Lib.itoa it.aH)]=[lB,Lib.itoa it.aH]:=rfl;have fh:((#[.string ⟨#[114,117,98,114,105,99]⟩,.string (ag (Lib.itoa it.aH))]:Array Value)).toList=List.map Value.string [⟨#[114,117,98,114,105,99]⟩,ag (Lib.itoa it.aH)]:=rfl
  with_reducible refine(dR B g w0 P M 2 [⟨#[114,117,98,114,105,99]⟩,ag (Lib.itoa it.aH)] _ fM #[.string ⟨#[114,117,98,114,105,99]⟩,.string (ag (Lib.itoa it.aH))] w3 WR (by omega) rfl (List.cons_ne_nil _ _) fh (by decide) NI.out).mono ?_
  exact QT
end
end Go.Proofs.YtdnpopjabpklnaaGreatDoor
