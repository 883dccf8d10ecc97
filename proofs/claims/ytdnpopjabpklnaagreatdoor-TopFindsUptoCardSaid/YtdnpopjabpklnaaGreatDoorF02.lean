/- Contracts and plain laws that the proof of the top laws uses (F02). No condition beyond those stated. -/
import Derived.Test.YtdnpopjabpklnaaGreatDoorG22
import Derived.Test.YtdnpopjabpklnaaGreatDoorPlA
import Derived.Test.YtdnpopjabpklnaaGreatDoorF01
set_option maxRecDepth 100000
set_option maxHeartbeats 64000000
set_option linter.all false
namespace Go.Proofs.YtdnpopjabpklnaaGreatDoor
section
open Go.RowKit
open Tryz
theorem Nk (es:List aB) (q:fe):(iK es q).length≤es.length:=by
 unfold iK;rw[(oa _).length_eq,List.length_map];exact List.length_filter_le _ _
theorem Hd {l:List Int} (h:l.Pairwise (· < ·)):∀(i:Nat) (x y:Int),l[i]? =some x→l[i+1]? =some y→x<y:=by
 intro i x y hx hy;obtain⟨h1,rfl⟩:=List.getElem?_eq_some_iff.1 hx;obtain⟨h2,rfl⟩:=List.getElem?_eq_some_iff.1 hy;exact(List.pairwise_iff_getElem.1 h) i (i+1) h1 h2 (Nat.lt_succ_self _)
theorem Dw {es:List aB} {z:Int} (h:z∈iK es (.state ef)):∃e∈es,e.state=5∧du e=z:=by
 obtain⟨e,he,hm,hi⟩:=Fe.1 h;refine⟨e,he,?_,hi⟩
 have cu:¬ef=dK:=by decide
 unfold eN at hm;rw[if_neg cu] at hm;exact of_decide_eq_true hm
theorem VO {es:List aB} {e:aB} (he:e∈es) (h5:e.state=5):du e∈iK es (.state ef):=by
 have cu:¬ef=dK:=by decide
 refine Fe.2 ⟨e,he,?_,rfl⟩;unfold eN;rw[if_neg cu,h5];rfl
theorem NW {es:List aB} {z:Int} (hid:(es.map du).Nodup) (cu:∀e∈es,0<e.aD.length) (h:z∈iK es (.state ef)):z∉iK es (.state dK):=by
 intro h2;obtain⟨e,he,h5,rfl⟩:=Dw h;obtain⟨e2,FR,hm,hi⟩:=Fe.1 h2;unfold eN at hm;rw[if_pos rfl] at hm;have h1:=of_decide_eq_true hm;obtain⟨k,hk,hx⟩:=DM hid cu he;obtain⟨k2,As,aF⟩:=DM hid cu FR;rw[hi] at As
 have:k=k2:=by omega
 subst this;rw[hx] at aF
 injection aF with aF
 subst aF;omega
theorem VU {es:List aB}:(iK es qX).length=es.length:=by
 refine Zc qX fun e _=>?_
 unfold qX eN
 cases h:eN e.state (.state dK)<;>simp[eN] at h ⊢ <;>simp[h]
theorem Hh:Rec prog 60 9:=⟨⟨by kernel_rfl,by kernel_rfl⟩,by kernel_rfl,by kernel_rfl⟩
theorem GH:kj prog 60 9:=Hh.agg
theorem On (A1 A2 A3:Option Addr) (n1 c1 n2 c2 n3 c3:Nat) (ps rs:List Int) (cs:List eH) (day:Int) (w:World) (hp:eI .i64 w (.slice A1 n1 c1) ps) (hr:eI .i64 w (.slice A2 n2 c2) rs) (h1:dF w A1 n1 1 (ps.map (Value.int .i64))) (h2:dF w A2 n2 1 (rs.map (Value.int .i64))) (q1:n1=ps.length) (q2:n2=rs.length) (m1:n1≤1100000) (m2:n2≤1100000)
  (gu:qL w A3 n3 cs) (tq:∀c∈cs,lR c) (m3:n3≤1100000) (m4:n3≤c3) (hm:jl w) (om:rh w) (ht:Id.lk w) (O8:Id.lS w):
  Calls prog 4 #[.agg #[.slice A1 n1 c1,.slice A2 n2 c2],.slice A3 n3 c3,.int .i64 day] w fun e w'=>e=.returned (.bool true)∧Below w.heap.size w w':=by
 have NG:=fun W (hb:Below w.heap.size w W)=>uh A1 A2 A3 n1 c1 n2 c2 n3 c3 ps rs cs W (hp.below hb) (hr.below hb) (h1.below (by decide) hb) (h2.below (by decide) hb) q1 q2 m1 m2 (gu.below hb) tq m3 m4 (hm.below hb) (om.below hb)
 clear hp hr h1 h2 gu tq q1 q2
 go_enter func4,ntmps4
 have aL:=trivial
 go_wp2_with (first
  |(clear aJ;(with_reducible refine ak ?_ lT R1 rfl ?_);rfl;have bC:=trivial)
  |(clear aL;(with_reducible refine ao (C:=[.slice A1 n1 c1,.slice A2 n2 c2]) ?_ ?_);rfl;intro x1 g1 aR R1 aw;have aJ:=trivial))
 try clear bC
 have BB:=aw;clear aw aR
 with_reducible refine(NG x1 BB).mono ?_
 clear NG R1;rintro e x2 ⟨C,z,rfl,⟨jo,Lr⟩,ax,hz,qU⟩;replace BB:=az BB ax;clear ax hz
 by_cases cD:z=0
 case neg=>
  have iG:(z !=0)=true:=bne_iff_ne.2 cD;clear qU;have aL:=trivial
  go_wp2_with (first
   |(clear aJ;(with_reducible refine av (C:=C) ?_ ?_ aN R7 jo rfl Lr ?_);rfl;rfl;clear R7;intro x8 R7 P8;have eY:=mP.trans (P8.below (Nat.le_of_eq ry));clear mP P8 ry;have bC:=trivial)
   |(clear aL;(with_reducible refine bu dG fG ?_);intro x7 g7 ry R7 mP;have aJ:=trivial))
  try clear bC
  replace BB:=az BB eY
  with_reducible refine(r9 _ (hm.below BB) (om.below BB) (ht.below BB) (O8.below BB)).mono ?_
  rintro e x9 ⟨rfl,eU⟩
  go_wp2_with fail
  go_ret
  exact⟨rfl,az BB eU⟩
 case pos=>
  subst cD;obtain⟨b,m,hO,_,_,_,uw⟩:=qU rfl;clear qU;replace hO:=hO.lower (Nat.zero_le _)
  have SR:Hid (∀e∈b.entries,0<e.aD.length):=fun e he=>(uw.entry e he).ne
  have th:Hid ((b.entries.map du).Nodup):=uw.ids
  have HVE:Hid (∀e∈b.entries,0<e.aD.length∧e.aD.length≤1100000):=fun e he=>⟨(uw.entry e he).ne,by have:=(uw.entry e he).aD;omega⟩
  have abv:=uw.entries
  have hlB:b.entries.length≤1100000:=by omega
  have SJ:=Lib.hid uw
  have HC5:Hid (∃B5 d5,C[5]? =some (.slice B5 b.entries.length d5)):=by
   obtain⟨B1,k1,d1,B2,k2,d2,B3,k3,d3,B4,k4,d4,B5,n5,d5,B6,k6,d6,rfl,_,_,_,_,_,_,_,_,_,_,q5,_,_⟩:=hO.open_;exact⟨B5,d5,by rw[←q5];rfl⟩
  have aL:=trivial
  go_wp2_with (first
   |(clear bC;(with_reducible refine ak ?_ aN R7 jo ?_);rfl;have cz:=trivial)
   |(clear aJ;(with_reducible refine av (C:=C) ?_ ?_ aN R7 jo rfl Lr ?_);rfl;rfl;clear R7;intro x8 R7 P8;have eY:=mP.trans (P8.below (Nat.le_of_eq ry));clear mP P8 ry;have bC:=trivial)
   |(clear aL;(with_reducible refine bu dG fG ?_);intro x7 g7 ry R7 mP;have aJ:=trivial))
  try clear cz
  replace hO:=hO.below eY;replace BB:=az BB eY;clear eY uw;have Ki:=U7 C b x8 hO HVE.out hlB th.out;unfold E9 at Ki;obtain⟨LA,OG⟩:∃LA,LA=iK b.entries (.state ef):=⟨_,rfl⟩;obtain⟨nA,hnA⟩:∃nA,nA=LA.length:=⟨_,rfl⟩
  have aeZ:nA≤40:=by rw[hnA,OG];exact Nat.le_trans (Nk _ _) abv
  rw[←OG,←hnA] at Ki;have HLA:=Lib.hid OG;have Vp:=Lib.hid hnA;clear OG hnA
  with_reducible refine Ki.mono ?_
  clear Ki;rintro e x9 ⟨vA,rfl,OA,eU⟩;replace R7:=R7.keep eU;replace hO:=hO.below eU;replace BB:=az BB eU;clear eU;obtain⟨XA,yA,rfl,_,_⟩:=aj OA;have aL:=trivial
  go_wp2_with (first
   |(clear aL;(with_reducible refine ak ?_ aN R7 jo ?_);rfl;have aJ:=trivial))
  try clear aJ
  have ZA:=U8 C b x9 hO HVE.out hlB th.out;unfold CR at ZA;obtain⟨LD,hLD⟩:∃LD,LD=iK b.entries (.state dK):=⟨_,rfl⟩;obtain⟨nD,hnD⟩:∃nD,nD=LD.length:=⟨_,rfl⟩
  have ae0:nD≤40:=by rw[hnD,hLD];exact Nat.le_trans (Nk _ _) abv
  rw[←hLD,←hnD] at ZA;have HLD:=Lib.hid hLD;have SQ:=Lib.hid hnD;clear hLD hnD
  with_reducible refine ZA.mono ?_
  clear ZA;rintro e NA ⟨vD,rfl,OD,qw⟩;replace R7:=R7.keep qw;replace hO:=hO.below qw;replace OA:=I OA qw;replace BB:=az BB qw;clear qw;obtain⟨XD,yD,rfl,_,_⟩:=aj OD
  have xv:∀(i:Nat) (x y:Int),LA[i]? =some x→LA[i+1]? =some y→x<y:=by rw[HLA.out];exact Hd (uV th.out _)
  have hsD:∀(i:Nat) (x y:Int),LD[i]? =some x→LD[i+1]? =some y→x<y:=by rw[HLD.out];exact Hd (uV th.out _)
  have HTA:=wM XA nA yA LA NA (bZ OA) Vp.out (by omega) xv
  have SY:=fun W (hb:Below NA.heap.size NA W)=>wM XD nD yD LD W ((bZ OD).below (by decide) hb) SQ.out (by omega) hsD
  clear xv hsD
  go_wp2_with fail
  with_reducible refine HTA.mono ?_
  clear HTA;rintro e AW ⟨rfl,mT⟩
  go_wp2_with fail
  with_reducible refine(SY AW mT).mono ?_
  clear SY;rintro e AX ⟨rfl,kc⟩;replace kc:=az mT kc;replace R7:=R7.keep kc;replace hO:=hO.below kc;replace OA:=I OA kc;replace OD:=I OD kc;replace BB:=az BB kc;clear mT kc;have aL:=trivial
  go_wp2_with (first
   |(clear aL;(with_reducible refine ak ?_ aN R7 jo ?_);rfl;have aJ:=trivial))
  try clear aJ
  with_reducible refine(UR 40 C b day AX hO SJ.out (by decide)).mono ?_
  rintro e AY ⟨vP,rfl,⟨Cs,OP,Hy⟩,wE⟩;replace R7:=R7.keep wE;replace hO:=hO.below wE;replace OA:=I OA wE;replace OD:=I OD wE;replace BB:=az BB wE;clear wE;obtain⟨XP,yP,rfl,w1,w2⟩:=aj OP;unfold maxLen at w2;obtain⟨nP,hnP⟩:∃nP,nP=Cs.length:=⟨_,rfl⟩;rw[←hnP] at OP w1 ⊢
  have hPb:nP≤9223372036854775807:=by omega
  clear w1 w2;have Vr:=Lib.hid hnP;have aaS:=Lib.hid Hy;clear hnP Hy
  go_wp2_with fail
  go_loopw [59] (fun i wr=>∃k:Nat,k≤nP∧i=.int .i64 (k:Int)∧Below AY.heap.size AY wr) (fun i _=>nP - (intOf i).toNat)
  case atStart=>exact⟨0,Nat.zero_le _,rfl,Below.refl _ _⟩
  case round=>
   obtain⟨k,hk,rfl,fw⟩:=hrel
   by_cases aS:k<nP
   ·have TV:k<Cs.length:=by rw[←Vr.out];exact aS
    obtain⟨bp,op,hXP,aO⟩:=(bZ OP).2 (by omega);subst hXP;have qz:=aO.part (k*9) 9;rw[mr (k:=9) Cs k (fun C hC=>(aaS.out C hC).1.1) TV] at qz;obtain⟨⟨h9,h91⟩,en,FT,h5,jn⟩:=aaS.out Cs[k] (List.getElem_mem TV);obtain⟨CP,hCP⟩:∃CP,CP=Cs[k]:=⟨_,rfl⟩;rw[←hCP] at qz h9 h91 jn;clear hCP aO
    have uC:Hid (du en∈LA):=by unfold Hid;rw[HLA.out];exact VO FT h5
    obtain⟨z,hz⟩:∃z,z=du en:=⟨_,rfl⟩;rw[←hz] at jn uC;have abo:=qz.below fw (qz.lt (by rw[h9];exact Nat.succ_pos _))
    have Hu:=fun W (hb:Below AY.heap.size AY W)=>uY XA nA yA LA z W ((bZ OA).below (by decide) hb) Vp.out (by omega)
    rw[decide_eq_true uC.out] at Hu;clear qz hz FT h5 TV;have aL:=trivial
    go_wp2_with (first
     |(clear bC;(with_reducible refine av (C:=CP) ?_ ?_ GH VF h9 adQ h91 ?_);rfl;rfl;clear VF;intro x21 VF P21;have abb:=abG.trans (P21.below (Nat.le_of_eq aa1));clear abG P21 aa1;have e0:=(VF.cell 0).trans jn;have cz:=trivial)
     |(clear aJ;(with_reducible refine cR Hh ?_);intro x20 g20 Z20 aa1 adQ VF abG;have bC:=trivial)
     |(clear aL;(with_reducible refine cJ ?_ GH abo h9 ?_);rfl;have aJ:=trivial))
    try clear cz
    have xg:=az fw abb
    with_reducible refine(Hu _ xg).mono ?_
    clear Hu e0 VF abo h9 h91 jn abb fw;rintro e x22 ⟨rfl,abc⟩;replace xg:=az xg abc;clear abc
    go_wp2_with fail
    go_roundw
    case rel=>exact⟨k+1,aS,by go_num,xg⟩
    case measure=>simp[intOf];omega
   ·go_wp2_with fail
    clear aS
    go_loopw [71] (fun i wq=>∃j:Nat,j≤nA∧i=.int .i64 (j:Int)∧Below AY.heap.size AY wq) (fun i _=>nA - (intOf i).toNat)
    case atStart=>exact⟨0,Nat.zero_le _,rfl,fw⟩
    case round=>
     clear fw;obtain⟨j,hj,rfl,fw⟩:=hrel;replace R7:=R7.keep fw;replace hO:=hO.below fw
     by_cases aS:j<nA
     ·obtain⟨z,hz⟩:∃z,LA[j]? =some z:=⟨_,List.getElem?_eq_getElem (by rw[←Vp.out];exact aS)⟩;obtain⟨bl,ol,hXA,aO⟩:=((bZ OA).below (by decide) fw).2 (by omega);subst hXA;have dz:wr.cell? ⟨bl,ol+j,none⟩=some (.int .i64 z):=aO j _ (by rw[List.getElem?_map,hz];rfl);have hzA:=List.mem_of_getElem? hz;rw[HLA.out] at hzA;obtain⟨en,FT,h5,hiz⟩:=Dw hzA;obtain⟨kf,hkf,hxf⟩:=DM th.out SR.out FT;rw[hiz] at hkf
      have hzD:Hid (z∉LD):=by unfold Hid;rw[HLD.out];exact NW th.out SR.out hzA
      have HBE:=KR C b z wr hO (fun e he=>(SJ.out.entry e he).short (by decide)) hlB
      have Hu:=fun W (hb:Below wr.heap.size wr W)=>uY XD nD yD LD z W ((I OD fw|>bZ).below (by decide) hb) SQ.out (by omega)
      rw[decide_eq_false hzD.out] at Hu;have HKF:=Lib.hid hkf;have HXF:=Lib.hid hxf;have HS5:=Lib.hid h5;clear aO hz hzA FT h5 hiz hkf hxf hzD hO;have aL:=trivial
      go_wp2_with (first
       |(clear aL;(with_reducible refine ak ?_ aN R7 jo ?_);rfl;have aJ:=trivial))
      try clear aJ
      with_reducible refine HBE.mono ?_
      clear HBE dz;rintro e x30 ⟨D,ok,Ct,Cr,rfl,WO,iy,hfd⟩
      have adD:ok=true:=by rw[iy,HKF.out];exact decide_eq_true (by omega)
      subst adD;obtain⟨k2,e2,As,FR,hEO⟩:=hfd rfl
      have hD5:D[1]? =some (.int .i64 5):=by
       rw[HKF.out] at As
       have nV:kf=k2:=by omega
       subst nV;rw[HXF.out] at FR
       injection FR with FR
       subst FR;obtain⟨vv,va,vf,vl,vm,rfl,_⟩:=hEO;rw[←HS5.out];rfl
      clear iy hfd As FR hEO;have aL:=trivial
      go_wp2_with (first
       |(clear aJ;(with_reducible refine av (C:=D) ?_ ?_ cN VH Ct rfl Cr ?_);rfl;rfl;clear VH;intro x32 VH P32;have WQ:=WO.trans ((abH.trans (P32.below (Nat.le_of_eq aa3))).mono WO.size);clear abH P32 aa3;have e1:=(VH.cell 1).trans hD5;have bC:=trivial)
       |(clear aL;(with_reducible refine bu (Z:=[.slice none 0 0,.int .i64 0,.int .i64 0,.slice none 0 0,.slice none 0 0,.slice none 0 0,.slice none 0 0]) gY vq ?_);intro x31 g31 aa3 VH abH;have aJ:=trivial))
      try clear bC
      with_reducible refine(Hu _ WQ).mono ?_
      clear Hu e1 VH;rintro e x33 ⟨rfl,abe⟩;have xg:=fw.trans ((az WQ abe).mono fw.size);clear WO WQ abe fw
      go_wp2_with fail
      go_roundw
      case rel=>exact⟨j+1,aS,by go_num,xg⟩
      case measure=>simp[intOf];omega
     ·have zF:=az BB fw;have aL:=trivial
      go_wp2_with (first
       |(clear aL;(with_reducible refine ak ?_ aN R7 jo ?_);rfl;have aJ:=trivial))
      try clear aJ
      have ZC:=U9 C b wr hO HVE.out hlB th.out;unfold E_ at ZC;rw[VU] at ZC
      with_reducible refine ZC.mono ?_
      clear ZC;rintro e x40 ⟨vX,rfl,OX,WS⟩;replace R7:=R7.keep WS;replace zF:=az zF WS;clear WS;obtain⟨XX,yX,rfl,_,_⟩:=aj OX;obtain⟨B5,d5,hC5⟩:=HC5.out;have d5c:=(R7.cell 5).trans hC5
      go_wp2_with fail
      with_reducible refine(r9 _ (hm.below zF) (om.below zF) (ht.below zF) (O8.below zF)).mono ?_
      rintro e x41 ⟨rfl,ac9⟩
      go_wp2_with fail
      go_ret
      exact⟨rfl,az zF ac9⟩
end
end Go.Proofs.YtdnpopjabpklnaaGreatDoor
