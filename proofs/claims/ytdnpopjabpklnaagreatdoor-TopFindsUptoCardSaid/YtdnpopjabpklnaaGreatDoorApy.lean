/- Contracts and plain laws that the proof of the top laws uses (Apy). No condition beyond those stated. -/
import Derived.Test.YtdnpopjabpklnaaGreatDoorTrB
import Derived.Test.YtdnpopjabpklnaaGreatDoorTrF
import Derived.Test.YtdnpopjabpklnaaGreatDoorTrN
import Derived.Test.YtdnpopjabpklnaaGreatDoorTrP
set_option maxRecDepth 100000
set_option maxHeartbeats 64000000
set_option linter.all false
namespace Go.Proofs.YtdnpopjabpklnaaGreatDoor
section
open Go.RowKit
open Tryz
def XA (b:cK) (c:eH) (b':cK):Prop:=(c.kind=1→b.dJ=[]→b'= {b with dJ:=[c.bX]})∧(c.kind=3→b.entries=[]→b'= {b with entries:=[lu c.item c.user]})
def rZ (b:cK) (c:eH):Prop:=(1≤c.user∧c.user≤9999999∧0≤c.time∧c.time≤1099511627776∧b.now≤c.time)∧((c.kind=1∧VB b c)∨(c.kind=3∧zJ b c))
def AZ (b:cK) (c:eH) (w:World) (e:Ending) (w':World):Prop:=∃(C:List Value) (z:Int),C.length=7∧(∀u∈C,u.oneCell'=true)∧e=.returned (.tuple #[.agg C.toArray,.int .i64 z])∧Below w.heap.size w w'∧(z=0→∃b',Hs b c b'∧XA b c b'∧cZ w.heap.size w' C {b' with now:=c.time})∧(rZ b c→z=0)
theorem AZ.err {b:cK} {c:eH} {w w':World} {C:List Value} (z:Int) (hz:z≠0) (h1:∀u∈C,u.oneCell'=true) (h7:C.length=7) (hM:¬rZ b c) (hb:Below w.heap.size w w') {e:Ending} (he:e=.returned (.tuple #[.agg C.toArray,.int .i64 z])):AZ b c w e w':=
 ⟨C,z,h7,h1,he,hb,fun h=>absurd h hz,fun h=>absurd h hM⟩
def Kx (t g:Nat) (b:cK) (c:eH) (C D:List Value) (w0 w:World):Prop:=∀(aeP:Below w0.heap.size w0 w) (_hg:w0.heap.size≤g) (_hR:Row w g 31 C) (_hO:cZ w0.heap.size w C b) (_hI:gL t b) (_ht:t≤1000) (_hD:je w0 D c) (_hc:lR c) (_hm:jl w0) (aeQ:rh w0),
  Calls prog 42 #[.pointer (some ⟨g,0,none⟩),.agg D.toArray] w (fH w0 g b c False (fun _=>True))
theorem EL {w:World} {base:Nat} {C:List Value} {b:cK} {z:Int} (h:cZ base w C b):cZ base w (C.set 0 (.int .i64 z)) {b with now:=z}:=by
 obtain⟨vp,vr,vo,va,ve,vn,rfl,h1,h2,h3,h4,h5,h6⟩:=h;exact⟨vp,vr,vo,va,ve,vn,rfl,h1,h2,h3,h4,h5,h6⟩
theorem vu {P:Prop} (h:P:=by
 rintro r wz ⟨z,rfl,DV,iG,iM⟩;clear R2 R3 R4 R6 BB hB rB mb;have R3:=tk.keep DV;have R4:=R4b.keep DV;have BB:=az SG DV
 by_cases cD:z=0
 case neg=>
  have HM:Hid (¬rZ b c):=by
   intro h;have a1:=pK.out
   rcases h.2 with h|h
   ·have:=h.1;omega
   ·have:=h.1;omega
  have zm:=trivial
  go_wp2_with (first
   |(clear zm;(with_reducible refine av (C:=[.int .i64 0,.slice none 0 0,.slice none 0 0,.slice none 0 0,.slice none 0 0,.slice none 0 0,.slice none 0 0]) ?_ ?_ aN R4 rfl rfl (by simp[Value.oneCell']) ?_);rfl;rfl;have bg:=R4.ty;clear R4;intro Zr R4 gP;have kt:=gP.aa bg;replace R3:=gP.row R3;replace BB:=BB.trans (gP.below gl);clear gP kt bg;have zn:=trivial))
  try clear zn
  refine bodyPost_ret (bH rfl _ rfl aN R4 rfl) rfl ?_;exact AZ.err (C:=[.int .i64 0,.slice none 0 0,.slice none 0 0,.slice none 0 0,.slice none 0 0,.slice none 0 0,.slice none 0 0]) z cD (by simp[Value.oneCell']) rfl HM.out BB rfl
 subst cD;obtain⟨b',C2,Lu,hX,R6,hB⟩:=iG rfl;clear iG iM;have rB:=hB.len;replace hB:=hB.lower SG.size;have aE:=ae R3 d3;have nN:=EL (z:=tm) hB;have pk:=nN.len;have ix:=nN.one;clear hB;have zm:=trivial
 go_wp2_with (first
  |(clear My;(with_reducible refine av (C:=(C2.set 0 (.int .i64 tm))) ?_ ?_ aN R4 pk rfl ix ?_);rfl;rfl;have bg:=R4.ty;clear R4;intro x62 R4 nH;have kt:=nH.aa bg;replace R3:=nH.row R3;replace R6:=nH.row R6;replace nN:=nN.aa kt;replace BB:=BB.trans (nH.below gl);clear aE;have aE:=ae R3 d3;clear nH kt bg;have Mz:=trivial)
  |(clear zn;(with_reducible refine ak ?_ aN R6 y_ ?_);rfl;have My:=trivial)
  |(clear zm;(with_reducible refine cQ (u:=.int .i64 tm) ?_ ?_ isAgg3 sizeOf3 R6 (i:=0) (by(rw[rB];decide)) rfl ?_);rfl;rfl;have bg:=R6.ty;clear R6;intro Zr R6 gP;have y_:(C2.set 0 (.int .i64 tm)).length=_:=(List.length_set ..).trans rB;have kt:=gP.aa bg;replace R3:=gP.row R3;replace R4:=gP.row R4;replace nN:=nN.aa kt;replace BB:=BB.trans (gP.below kX);clear aE;have aE:=ae R3 d3;clear gP kt bg;have zn:=trivial))
 try clear Mz
 refine bodyPost_ret (bH rfl _ rfl aN R4 pk) rfl ?_;rw[Dm.out] at nN ⊢
 exact⟨_,0,by rw[←Dm.out];exact pk,by rw[←Dm.out];exact ix,rfl,BB,fun _=>⟨b',Lu,⟨fun h=>absurd (pK.out.trans h) (by decide),fun h=>absurd (pK.out.trans h) (by decide)⟩,nN⟩,fun _=>rfl⟩):P:=h
theorem QJ {P:Prop} (h:P:=by
 have zm:=trivial
 go_wp2_with (first
  |(clear zm;(with_reducible refine av (C:=[.int .i64 0,.slice none 0 0,.slice none 0 0,.slice none 0 0,.slice none 0 0,.slice none 0 0,.slice none 0 0]) ?_ ?_ aN R4 rfl rfl (by simp[Value.oneCell']) ?_);rfl;rfl;have bg:=R4.ty;clear R4;intro Zr R4 gP;have kt:=gP.aa bg;replace R3:=gP.row R3;replace BB:=BB.trans (gP.below gl);clear gP kt bg;have zn:=trivial))
 try clear zn
 refine bodyPost_ret (bH rfl _ rfl aN R4 rfl) rfl ?_
 exact AZ.err (C:=[.int .i64 0,.slice none 0 0,.slice none 0 0,.slice none 0 0,.slice none 0 0,.slice none 0 0,.slice none 0 0]) z cD (by simp[Value.oneCell']) rfl HM.out BB rfl):P:=h
theorem H4 {P:Prop} (h:P:=by
 intro h
 apply hq
 have a1:=pK.out;have a2:=HUS.out;have a3:=Dm.out;have a4:=HNW.out;obtain⟨⟨h1,h2,h3,h4,h5⟩,h6⟩:=h
 have h7:c.kind=1∨c.kind=3:=by rcases h6 with h|h;exact Or.inl h.1;exact Or.inr h.1
 omega):P:=h
theorem KQ (aaT:∀t g b c C D w0 w,Kx t g b c C D w0 w) (t:Nat) (b:cK) (c:eH) (C D:List Value) (w:World) (hO:cZ 0 w C b) (hI:gL t b) (ht:t≤1000) (hD:je w D c) (hc:lR c) (hm:jl w) (om:rh w):
  Calls prog 17 #[.agg C.toArray,.agg D.toArray] w (AZ b c w):=by
 have En:=hI.short ht
 have HCB:=fun W (hb:Below w.heap.size w W)=>FJ C b W (hO.below hb) En
 have jo:=hO.len
 have jn:C[0]? =some (.int .i64 b.now):=by obtain⟨_,_,_,_,_,_,rfl,_⟩:=hO;rfl
 obtain⟨nO,d0,d1,_,d3,_⟩:=ko hD;clear hO En;obtain⟨kd,yK⟩:∃x,x=c.kind:=⟨_,rfl⟩;obtain⟨us,hus⟩:∃x,x=c.user:=⟨_,rfl⟩;obtain⟨tm,O'⟩:∃x,x=c.time:=⟨_,rfl⟩;obtain⟨nw,hnw⟩:∃x,x=b.now:=⟨_,rfl⟩;rw[←yK] at d0;rw[←hus] at d1;rw[←O'] at d3;rw[←hnw] at jn;have pK:=Lib.hid yK;have HUS:=Lib.hid hus;have Dm:=Lib.hid O';have HNW:=Lib.hid hnw;clear yK hus O' hnw
 go_enter func17,ntmps17
 by_cases hq:1≤kd∧kd≤8
 case neg=>
  have HM:Hid (¬rZ b c):=by
   exact H4
  have aL:=trivial
  go_wp2_with (first
   |(clear cz;(with_reducible refine av (C:=[.int .i64 0,.slice none 0 0,.slice none 0 0,.slice none 0 0,.slice none 0 0,.slice none 0 0,.slice none 0 0]) ?_ ?_ aN R4 rfl rfl (by simp[Value.oneCell']) ?_);rfl;rfl;have bg:=R4.ty;clear R4;intro x4 R4 jm;have kt:=jm.aa bg;replace R2:=jm.row R2;replace R3:=jm.row R3;replace BB:=BB.trans (jm.below gl);clear bT aQ aG aE;have bT:=ae R2 jn;have aQ:=ae R3 d0;have aG:=ae R3 d1;have aE:=ae R3 d3;clear jm kt bg;have cY:=trivial)
   |(clear bC;(with_reducible refine bu dG fG ?_);intro x3 g4 ew R4 bh;have oL:=h_ R2 ew;have nF:=h_ R3 ew;have gl:=jq BB ew;replace R2:=R2.keep bh;replace R3:=R3.keep bh;replace BB:=az BB bh;clear bT aQ aG aE;have bT:=ae R2 jn;have aQ:=ae R3 d0;have aG:=ae R3 d1;have aE:=ae R3 d3;clear bh ew;have cz:=trivial)
   |(clear aJ;(with_reducible refine ao (C:=D) ?_ ?_);rfl;intro x2 g3 cW R3 aF;have mC:=h_ R2 cW;have jJ:=jq BB cW;replace R2:=R2.keep aF;replace BB:=az BB aF;clear bT;have bT:=ae R2 jn;have aQ:=ae R3 d0;have aG:=ae R3 d1;have aE:=ae R3 d3;clear aF cW;have bC:=trivial)
   |(clear aL;(with_reducible refine ao (C:=C) ?_ ?_);rfl;intro x1 g2 aR R2 aw;have fP:=Nat.le_of_eq aR;have BB:=aw;have bT:=ae R2 jn;clear aw aR;have aJ:=trivial))
  try clear cY
  all_goals first
   |(exfalso;omega)
   |(refine bodyPost_ret (bH rfl _ rfl aN R4 rfl) rfl ?_;exact AZ.err (C:=[.int .i64 0,.slice none 0 0,.slice none 0 0,.slice none 0 0,.slice none 0 0,.slice none 0 0,.slice none 0 0]) 1 (by decide) (by simp[Value.oneCell']) rfl HM.out BB rfl)
 obtain⟨k1,k8⟩:=hq
 have k1':¬kd<1:=by omega
 have k8':¬8<kd:=by omega
 by_cases hq:1≤us∧us≤9999999∧0≤tm∧tm≤1099511627776
 case neg=>
  have HM:Hid (¬rZ b c):=by
   exact H4
  have aL:=trivial
  go_wp2_with (first
   |(clear cz;(with_reducible refine av (C:=[.int .i64 0,.slice none 0 0,.slice none 0 0,.slice none 0 0,.slice none 0 0,.slice none 0 0,.slice none 0 0]) ?_ ?_ aN R4 rfl rfl (by simp[Value.oneCell']) ?_);rfl;rfl;have bg:=R4.ty;clear R4;intro x4 R4 jm;have kt:=jm.aa bg;replace R2:=jm.row R2;replace R3:=jm.row R3;replace BB:=BB.trans (jm.below gl);clear bT aQ aG aE;have bT:=ae R2 jn;have aQ:=ae R3 d0;have aG:=ae R3 d1;have aE:=ae R3 d3;clear jm kt bg;have cY:=trivial)
   |(clear bC;(with_reducible refine bu dG fG ?_);intro x3 g4 ew R4 bh;have oL:=h_ R2 ew;have nF:=h_ R3 ew;have gl:=jq BB ew;replace R2:=R2.keep bh;replace R3:=R3.keep bh;replace BB:=az BB bh;clear bT aQ aG aE;have bT:=ae R2 jn;have aQ:=ae R3 d0;have aG:=ae R3 d1;have aE:=ae R3 d3;clear bh ew;have cz:=trivial)
   |(clear aJ;(with_reducible refine ao (C:=D) ?_ ?_);rfl;intro x2 g3 cW R3 aF;have mC:=h_ R2 cW;have jJ:=jq BB cW;replace R2:=R2.keep aF;replace BB:=az BB aF;clear bT;have bT:=ae R2 jn;have aQ:=ae R3 d0;have aG:=ae R3 d1;have aE:=ae R3 d3;clear aF cW;have bC:=trivial)
   |(clear aL;(with_reducible refine ao (C:=C) ?_ ?_);rfl;intro x1 g2 aR R2 aw;have fP:=Nat.le_of_eq aR;have BB:=aw;have bT:=ae R2 jn;clear aw aR;have aJ:=trivial))
  try clear cY
  all_goals first
   |(exfalso;omega)
   |(refine bodyPost_ret (bH rfl _ rfl aN R4 rfl) rfl ?_;exact AZ.err (C:=[.int .i64 0,.slice none 0 0,.slice none 0 0,.slice none 0 0,.slice none 0 0,.slice none 0 0,.slice none 0 0]) 3 (by decide) (by simp[Value.oneCell']) rfl HM.out BB rfl)
 obtain⟨u1,u2,u3,u4⟩:=hq
 have u1':¬us<1:=by omega
 have u2':¬9999999<us:=by omega
 have u3':¬tm<0:=by omega
 have u4':¬1099511627776<tm:=by omega
 by_cases hq:nw≤tm
 case neg=>
  have HM:Hid (¬rZ b c):=by
   exact H4
  have aL:=trivial
  go_wp2_with (first
   |(clear cz;(with_reducible refine av (C:=[.int .i64 0,.slice none 0 0,.slice none 0 0,.slice none 0 0,.slice none 0 0,.slice none 0 0,.slice none 0 0]) ?_ ?_ aN R4 rfl rfl (by simp[Value.oneCell']) ?_);rfl;rfl;have bg:=R4.ty;clear R4;intro x4 R4 jm;have kt:=jm.aa bg;replace R2:=jm.row R2;replace R3:=jm.row R3;replace BB:=BB.trans (jm.below gl);clear bT aQ aG aE;have bT:=ae R2 jn;have aQ:=ae R3 d0;have aG:=ae R3 d1;have aE:=ae R3 d3;clear jm kt bg;have cY:=trivial)
   |(clear bC;(with_reducible refine bu dG fG ?_);intro x3 g4 ew R4 bh;have oL:=h_ R2 ew;have nF:=h_ R3 ew;have gl:=jq BB ew;replace R2:=R2.keep bh;replace R3:=R3.keep bh;replace BB:=az BB bh;clear bT aQ aG aE;have bT:=ae R2 jn;have aQ:=ae R3 d0;have aG:=ae R3 d1;have aE:=ae R3 d3;clear bh ew;have cz:=trivial)
   |(clear aJ;(with_reducible refine ao (C:=D) ?_ ?_);rfl;intro x2 g3 cW R3 aF;have mC:=h_ R2 cW;have jJ:=jq BB cW;replace R2:=R2.keep aF;replace BB:=az BB aF;clear bT;have bT:=ae R2 jn;have aQ:=ae R3 d0;have aG:=ae R3 d1;have aE:=ae R3 d3;clear aF cW;have bC:=trivial)
   |(clear aL;(with_reducible refine ao (C:=C) ?_ ?_);rfl;intro x1 g2 aR R2 aw;have fP:=Nat.le_of_eq aR;have BB:=aw;have bT:=ae R2 jn;clear aw aR;have aJ:=trivial))
  try clear cY
  all_goals first
   |(exfalso;omega)
   |(refine bodyPost_ret (bH rfl _ rfl aN R4 rfl) rfl ?_;exact AZ.err (C:=[.int .i64 0,.slice none 0 0,.slice none 0 0,.slice none 0 0,.slice none 0 0,.slice none 0 0,.slice none 0 0]) 15 (by decide) (by simp[Value.oneCell']) rfl HM.out BB rfl)
 have u5:¬tm<nw:=by omega
 have HU:Hid (1≤c.user∧c.user≤9999999):=by have:=HUS.out;exact⟨by omega,by omega⟩
 have Kk:Hid (0≤c.time):=by have:=Dm.out;unfold Hid;omega
 have aL:=trivial
 go_wp2_with (first
  |(clear cz;(with_reducible refine ak ?_ aN R2 jo ?_);rfl;have cY:=trivial)
  |(clear bC;(with_reducible refine bu dG fG ?_);intro x3 g4 ew R4 bh;have oL:=h_ R2 ew;have nF:=h_ R3 ew;have gl:=jq BB ew;replace R2:=R2.keep bh;replace R3:=R3.keep bh;replace BB:=az BB bh;clear bT aQ aG aE;have bT:=ae R2 jn;have aQ:=ae R3 d0;have aG:=ae R3 d1;have aE:=ae R3 d3;clear bh ew;have cz:=trivial)
  |(clear aJ;(with_reducible refine ao (C:=D) ?_ ?_);rfl;intro x2 g3 cW R3 aF;have mC:=h_ R2 cW;have jJ:=jq BB cW;replace R2:=R2.keep aF;replace BB:=az BB aF;clear bT;have bT:=ae R2 jn;have aQ:=ae R3 d0;have aG:=ae R3 d1;have aE:=ae R3 d3;clear aF cW;have bC:=trivial)
  |(clear aL;(with_reducible refine ao (C:=C) ?_ ?_);rfl;intro x1 g2 aR R2 aw;have fP:=Nat.le_of_eq aR;have BB:=aw;have bT:=ae R2 jn;clear aw aR;have aJ:=trivial))
 try clear cY
 clear u1' u2' u3' u4' u5 u1 u2 u3 u4 hq;have acr:=HCB _ BB;have tk:=R3;have R4b:=R4;have SG:=BB;have Bx:Below x3.heap.size x3 x3:=Below.refl _ _;have Lt:=hD.below BB;have tu:=jl.below hm BB;have LM:=om.below BB;refine(acr).mono ?_;rintro r x4 ⟨C',rfl,hB,ek⟩;replace R2:=R2.keep ek;replace R3:=R3.keep ek;replace R4:=R4.keep ek;replace BB:=az BB ek;clear bT aQ aG aE;have rB:=hB.len;have mb:=hB.one;have bT:=ae R2 jn;have aQ:=ae R3 d0;have aG:=ae R3 d1;have aE:=ae R3 d3;replace Bx:=ek;clear ek
 have k12:kd=1∨kd=2∨kd=3∨kd=4∨kd=5∨kd=6∨kd=7∨kd=8:=by omega
 clear k1 k8 k1' k8';have o60:x3.heap.size≤x4.heap.size:=Bx.size
 rcases k12 with rfl|rfl|rfl|rfl|rfl|rfl|rfl|rfl
 ·skip
  have cY:=trivial
  go_wp2_with (first
   |(clear fu;(with_reducible refine ak ?_ fp R3 nO ?_);rfl;have gK:=trivial)
   |(clear dX;(with_reducible refine av (C:=C') ?_ ?_ aN R6 rB pr mb ?_);rfl;rfl;have bg:=R6.ty;clear R6;intro x6 R6 dY;have kt:=dY.aa bg;replace R2:=dY.row R2;replace R3:=dY.row R3;replace R4:=dY.row R4;replace hB:=hB.aa kt;replace Bx:=Bx.trans (dY.below eW);replace BB:=BB.trans (dY.below kX);clear bT aQ aG aE;have bT:=ae R2 jn;have aQ:=ae R3 d0;have aG:=ae R3 d1;have aE:=ae R3 d3;clear dY kt bg;have fu:=trivial)
   |(clear cY;(with_reducible refine cR dG ?_);intro x5 g6 Z6 ug pr R6 cp;have lC:g2≠g6:=(by have:=R2.lt;omega);have sy:g3≠g6:=(by have:=R3.lt;omega);have mD:g4≠g6:=(by have:=R4.lt;omega);have kX:w.heap.size≤g6:=(by have:=BB.size;omega);have eW:x3.heap.size≤g6:=(by have:=Bx.size;omega);replace R2:=R2.keep cp;replace R3:=R3.keep cp;replace R4:=R4.keep cp;replace hB:=hB.aa (t:=31) (ah.ab cp);replace Bx:=az Bx cp;replace BB:=az BB cp;clear bT aQ aG aE;have bT:=ae R2 jn;have aQ:=ae R3 d0;have aG:=ae R3 d1;have aE:=ae R3 d3;clear cp ug;have dX:=trivial))
  try clear gK
  refine(Fy t g6 b c C' D x3 _ Bx eW R6 hB hI ht Lt hc tu LM).mono ?_;rintro r wz ⟨z,rfl,DV,iG,iM⟩;clear R2 R3 R4 R6 BB hB rB mb;have R3:=tk.keep DV;have R4:=R4b.keep DV;have BB:=az SG DV
  by_cases cD:z=0
  case neg=>
   have HM:Hid (¬rZ b c):=by
    intro h;have a1:=pK.out
    rcases h.2 with h|h
    ·exact cD (iM h.2)
    ·have:=h.1;omega
   exact QJ
  subst cD;obtain⟨b',C2,Lu,hX,R6,hB⟩:=iG rfl;clear iG iM;have rB:=hB.len;replace hB:=hB.lower SG.size;have aE:=ae R3 d3;have nN:=EL (z:=tm) hB;have pk:=nN.len;have ix:=nN.one;clear hB;have zm:=trivial
  go_wp2_with (first
   |(clear My;(with_reducible refine av (C:=(C2.set 0 (.int .i64 tm))) ?_ ?_ aN R4 pk rfl ix ?_);rfl;rfl;have bg:=R4.ty;clear R4;intro x62 R4 nH;have kt:=nH.aa bg;replace R3:=nH.row R3;replace R6:=nH.row R6;replace nN:=nN.aa kt;replace BB:=BB.trans (nH.below gl);clear aE;have aE:=ae R3 d3;clear nH kt bg;have Mz:=trivial)
   |(clear zn;(with_reducible refine ak ?_ aN R6 y_ ?_);rfl;have My:=trivial)
   |(clear zm;(with_reducible refine cQ (u:=.int .i64 tm) ?_ ?_ isAgg3 sizeOf3 R6 (i:=0) (by(rw[rB];decide)) rfl ?_);rfl;rfl;have bg:=R6.ty;clear R6;intro Zr R6 gP;have y_:(C2.set 0 (.int .i64 tm)).length=_:=(List.length_set ..).trans rB;have kt:=gP.aa bg;replace R3:=gP.row R3;replace R4:=gP.row R4;replace nN:=nN.aa kt;replace BB:=BB.trans (gP.below kX);clear aE;have aE:=ae R3 d3;clear gP kt bg;have zn:=trivial))
  try clear Mz
  refine bodyPost_ret (bH rfl _ rfl aN R4 pk) rfl ?_;rw[Dm.out] at nN ⊢;exact⟨_,0,by rw[←Dm.out];exact pk,by rw[←Dm.out];exact ix,rfl,BB,fun _=>⟨b',Lu,⟨fun _=>hX,fun h=>absurd (pK.out.trans h) (by decide)⟩,nN⟩,fun _=>rfl⟩
 ·skip
  have cY:=trivial
  go_wp2_with (first
   |(clear fu;(with_reducible refine ak ?_ fp R3 nO ?_);rfl;have gK:=trivial)
   |(clear dX;(with_reducible refine av (C:=C') ?_ ?_ aN R6 rB pr mb ?_);rfl;rfl;have bg:=R6.ty;clear R6;intro x6 R6 dY;have kt:=dY.aa bg;replace R2:=dY.row R2;replace R3:=dY.row R3;replace R4:=dY.row R4;replace hB:=hB.aa kt;replace Bx:=Bx.trans (dY.below eW);replace BB:=BB.trans (dY.below kX);clear bT aQ aG aE;have bT:=ae R2 jn;have aQ:=ae R3 d0;have aG:=ae R3 d1;have aE:=ae R3 d3;clear dY kt bg;have fu:=trivial)
   |(clear cY;(with_reducible refine cR dG ?_);intro x5 g6 Z6 ug pr R6 cp;have lC:g2≠g6:=(by have:=R2.lt;omega);have sy:g3≠g6:=(by have:=R3.lt;omega);have mD:g4≠g6:=(by have:=R4.lt;omega);have kX:w.heap.size≤g6:=(by have:=BB.size;omega);have eW:x3.heap.size≤g6:=(by have:=Bx.size;omega);replace R2:=R2.keep cp;replace R3:=R3.keep cp;replace R4:=R4.keep cp;replace hB:=hB.aa (t:=31) (ah.ab cp);replace Bx:=az Bx cp;replace BB:=az BB cp;clear bT aQ aG aE;have bT:=ae R2 jn;have aQ:=ae R3 d0;have aG:=ae R3 d1;have aE:=ae R3 d3;clear cp ug;have dX:=trivial))
  try clear gK
  refine(Fx t g6 b c C' D x3 _ Bx eW R6 hB hI ht Lt hc tu LM).mono ?_;exact vu
 ·skip
  have cY:=trivial
  go_wp2_with (first
   |(clear fu;(with_reducible refine ak ?_ fp R3 nO ?_);rfl;have gK:=trivial)
   |(clear dX;(with_reducible refine av (C:=C') ?_ ?_ aN R6 rB pr mb ?_);rfl;rfl;have bg:=R6.ty;clear R6;intro x6 R6 dY;have kt:=dY.aa bg;replace R2:=dY.row R2;replace R3:=dY.row R3;replace R4:=dY.row R4;replace hB:=hB.aa kt;replace Bx:=Bx.trans (dY.below eW);replace BB:=BB.trans (dY.below kX);clear bT aQ aG aE;have bT:=ae R2 jn;have aQ:=ae R3 d0;have aG:=ae R3 d1;have aE:=ae R3 d3;clear dY kt bg;have fu:=trivial)
   |(clear cY;(with_reducible refine cR dG ?_);intro x5 g6 Z6 ug pr R6 cp;have lC:g2≠g6:=(by have:=R2.lt;omega);have sy:g3≠g6:=(by have:=R3.lt;omega);have mD:g4≠g6:=(by have:=R4.lt;omega);have kX:w.heap.size≤g6:=(by have:=BB.size;omega);have eW:x3.heap.size≤g6:=(by have:=Bx.size;omega);replace R2:=R2.keep cp;replace R3:=R3.keep cp;replace R4:=R4.keep cp;replace hB:=hB.aa (t:=31) (ah.ab cp);replace Bx:=az Bx cp;replace BB:=az BB cp;clear bT aQ aG aE;have bT:=ae R2 jn;have aQ:=ae R3 d0;have aG:=ae R3 d1;have aE:=ae R3 d3;clear cp ug;have dX:=trivial))
  try clear gK
  refine(Lb t g6 b c C' D x3 _ Bx eW R6 hB hI ht Lt hc tu LM HU.out Kk.out).mono ?_;rintro r wz ⟨z,rfl,DV,iG,iM⟩;clear R2 R3 R4 R6 BB hB rB mb;have R3:=tk.keep DV;have R4:=R4b.keep DV;have BB:=az SG DV
  by_cases cD:z=0
  case neg=>
   have HM:Hid (¬rZ b c):=by
    intro h;have a1:=pK.out
    rcases h.2 with h|h
    ·have:=h.1;omega
    ·exact cD (iM h.2)
   exact QJ
  subst cD;obtain⟨b',C2,Lu,hX,R6,hB⟩:=iG rfl;clear iG iM;have rB:=hB.len;replace hB:=hB.lower SG.size;have aE:=ae R3 d3;have nN:=EL (z:=tm) hB;have pk:=nN.len;have ix:=nN.one;clear hB;have zm:=trivial
  go_wp2_with (first
   |(clear My;(with_reducible refine av (C:=(C2.set 0 (.int .i64 tm))) ?_ ?_ aN R4 pk rfl ix ?_);rfl;rfl;have bg:=R4.ty;clear R4;intro x62 R4 nH;have kt:=nH.aa bg;replace R3:=nH.row R3;replace R6:=nH.row R6;replace nN:=nN.aa kt;replace BB:=BB.trans (nH.below gl);clear aE;have aE:=ae R3 d3;clear nH kt bg;have Mz:=trivial)
   |(clear zn;(with_reducible refine ak ?_ aN R6 y_ ?_);rfl;have My:=trivial)
   |(clear zm;(with_reducible refine cQ (u:=.int .i64 tm) ?_ ?_ isAgg3 sizeOf3 R6 (i:=0) (by(rw[rB];decide)) rfl ?_);rfl;rfl;have bg:=R6.ty;clear R6;intro Zr R6 gP;have y_:(C2.set 0 (.int .i64 tm)).length=_:=(List.length_set ..).trans rB;have kt:=gP.aa bg;replace R3:=gP.row R3;replace R4:=gP.row R4;replace nN:=nN.aa kt;replace BB:=BB.trans (gP.below kX);clear aE;have aE:=ae R3 d3;clear gP kt bg;have zn:=trivial))
  try clear Mz
  refine bodyPost_ret (bH rfl _ rfl aN R4 pk) rfl ?_;rw[Dm.out] at nN ⊢;exact⟨_,0,by rw[←Dm.out];exact pk,by rw[←Dm.out];exact ix,rfl,BB,fun _=>⟨b',Lu,⟨fun h=>absurd (pK.out.trans h) (by decide),fun _=>hX⟩,nN⟩,fun _=>rfl⟩
 ·skip
  have cY:=trivial
  go_wp2_with (first
   |(clear fu;(with_reducible refine ak ?_ fp R3 nO ?_);rfl;have gK:=trivial)
   |(clear dX;(with_reducible refine av (C:=C') ?_ ?_ aN R6 rB pr mb ?_);rfl;rfl;have bg:=R6.ty;clear R6;intro x6 R6 dY;have kt:=dY.aa bg;replace R2:=dY.row R2;replace R3:=dY.row R3;replace R4:=dY.row R4;replace hB:=hB.aa kt;replace Bx:=Bx.trans (dY.below eW);replace BB:=BB.trans (dY.below kX);clear bT aQ aG aE;have bT:=ae R2 jn;have aQ:=ae R3 d0;have aG:=ae R3 d1;have aE:=ae R3 d3;clear dY kt bg;have fu:=trivial)
   |(clear cY;(with_reducible refine cR dG ?_);intro x5 g6 Z6 ug pr R6 cp;have lC:g2≠g6:=(by have:=R2.lt;omega);have sy:g3≠g6:=(by have:=R3.lt;omega);have mD:g4≠g6:=(by have:=R4.lt;omega);have kX:w.heap.size≤g6:=(by have:=BB.size;omega);have eW:x3.heap.size≤g6:=(by have:=Bx.size;omega);replace R2:=R2.keep cp;replace R3:=R3.keep cp;replace R4:=R4.keep cp;replace hB:=hB.aa (t:=31) (ah.ab cp);replace Bx:=az Bx cp;replace BB:=az BB cp;clear bT aQ aG aE;have bT:=ae R2 jn;have aQ:=ae R3 d0;have aG:=ae R3 d1;have aE:=ae R3 d3;clear cp ug;have dX:=trivial))
  try clear gK
  refine(Nc t g6 b c C' D x3 _ Bx eW R6 hB hI ht Lt hc tu LM Kk.out).mono ?_;exact vu
 ·skip
  have cY:=trivial
  go_wp2_with (first
   |(clear fu;(with_reducible refine ak ?_ fp R3 nO ?_);rfl;have gK:=trivial)
   |(clear dX;(with_reducible refine av (C:=C') ?_ ?_ aN R6 rB pr mb ?_);rfl;rfl;have bg:=R6.ty;clear R6;intro x6 R6 dY;have kt:=dY.aa bg;replace R2:=dY.row R2;replace R3:=dY.row R3;replace R4:=dY.row R4;replace hB:=hB.aa kt;replace Bx:=Bx.trans (dY.below eW);replace BB:=BB.trans (dY.below kX);clear bT aQ aG aE;have bT:=ae R2 jn;have aQ:=ae R3 d0;have aG:=ae R3 d1;have aE:=ae R3 d3;clear dY kt bg;have fu:=trivial)
   |(clear cY;(with_reducible refine cR dG ?_);intro x5 g6 Z6 ug pr R6 cp;have lC:g2≠g6:=(by have:=R2.lt;omega);have sy:g3≠g6:=(by have:=R3.lt;omega);have mD:g4≠g6:=(by have:=R4.lt;omega);have kX:w.heap.size≤g6:=(by have:=BB.size;omega);have eW:x3.heap.size≤g6:=(by have:=Bx.size;omega);replace R2:=R2.keep cp;replace R3:=R3.keep cp;replace R4:=R4.keep cp;replace hB:=hB.aa (t:=31) (ah.ab cp);replace Bx:=az Bx cp;replace BB:=az BB cp;clear bT aQ aG aE;have bT:=ae R2 jn;have aQ:=ae R3 d0;have aG:=ae R3 d1;have aE:=ae R3 d3;clear cp ug;have dX:=trivial))
  try clear gK
  refine(VN t g6 b c C' D x3 _ Bx eW R6 hB hI ht Lt hc tu LM).mono ?_;exact vu
 ·skip
  have cY:=trivial
  go_wp2_with (first
   |(clear fu;(with_reducible refine ak ?_ fp R3 nO ?_);rfl;have gK:=trivial)
   |(clear dX;(with_reducible refine av (C:=C') ?_ ?_ aN R6 rB pr mb ?_);rfl;rfl;have bg:=R6.ty;clear R6;intro x6 R6 dY;have kt:=dY.aa bg;replace R2:=dY.row R2;replace R3:=dY.row R3;replace R4:=dY.row R4;replace hB:=hB.aa kt;replace Bx:=Bx.trans (dY.below eW);replace BB:=BB.trans (dY.below kX);clear bT aQ aG aE;have bT:=ae R2 jn;have aQ:=ae R3 d0;have aG:=ae R3 d1;have aE:=ae R3 d3;clear dY kt bg;have fu:=trivial)
   |(clear cY;(with_reducible refine cR dG ?_);intro x5 g6 Z6 ug pr R6 cp;have lC:g2≠g6:=(by have:=R2.lt;omega);have sy:g3≠g6:=(by have:=R3.lt;omega);have mD:g4≠g6:=(by have:=R4.lt;omega);have kX:w.heap.size≤g6:=(by have:=BB.size;omega);have eW:x3.heap.size≤g6:=(by have:=Bx.size;omega);replace R2:=R2.keep cp;replace R3:=R3.keep cp;replace R4:=R4.keep cp;replace hB:=hB.aa (t:=31) (ah.ab cp);replace Bx:=az Bx cp;replace BB:=az BB cp;clear bT aQ aG aE;have bT:=ae R2 jn;have aQ:=ae R3 d0;have aG:=ae R3 d1;have aE:=ae R3 d3;clear cp ug;have dX:=trivial))
  try clear gK
  refine(aaT t g6 b c C' D x3 _ Bx eW R6 hB hI ht Lt hc tu LM).mono ?_;exact vu
 ·skip
  have cY:=trivial
  go_wp2_with (first
   |(clear fu;(with_reducible refine ak ?_ fp R3 nO ?_);rfl;have gK:=trivial)
   |(clear dX;(with_reducible refine av (C:=C') ?_ ?_ aN R6 rB pr mb ?_);rfl;rfl;have bg:=R6.ty;clear R6;intro x6 R6 dY;have kt:=dY.aa bg;replace R2:=dY.row R2;replace R3:=dY.row R3;replace R4:=dY.row R4;replace hB:=hB.aa kt;replace Bx:=Bx.trans (dY.below eW);replace BB:=BB.trans (dY.below kX);clear bT aQ aG aE;have bT:=ae R2 jn;have aQ:=ae R3 d0;have aG:=ae R3 d1;have aE:=ae R3 d3;clear dY kt bg;have fu:=trivial)
   |(clear cY;(with_reducible refine cR dG ?_);intro x5 g6 Z6 ug pr R6 cp;have lC:g2≠g6:=(by have:=R2.lt;omega);have sy:g3≠g6:=(by have:=R3.lt;omega);have mD:g4≠g6:=(by have:=R4.lt;omega);have kX:w.heap.size≤g6:=(by have:=BB.size;omega);have eW:x3.heap.size≤g6:=(by have:=Bx.size;omega);replace R2:=R2.keep cp;replace R3:=R3.keep cp;replace R4:=R4.keep cp;replace hB:=hB.aa (t:=31) (ah.ab cp);replace Bx:=az Bx cp;replace BB:=az BB cp;clear bT aQ aG aE;have bT:=ae R2 jn;have aQ:=ae R3 d0;have aG:=ae R3 d1;have aE:=ae R3 d3;clear cp ug;have dX:=trivial))
  try clear gK
  refine(aaT t g6 b c C' D x3 _ Bx eW R6 hB hI ht Lt hc tu LM).mono ?_;exact vu
 ·skip
  have cY:=trivial
  go_wp2_with (first
   |(clear fu;(with_reducible refine ak ?_ fp R3 nO ?_);rfl;have gK:=trivial)
   |(clear dX;(with_reducible refine av (C:=C') ?_ ?_ aN R6 rB pr mb ?_);rfl;rfl;have bg:=R6.ty;clear R6;intro x6 R6 dY;have kt:=dY.aa bg;replace R2:=dY.row R2;replace R3:=dY.row R3;replace R4:=dY.row R4;replace hB:=hB.aa kt;replace Bx:=Bx.trans (dY.below eW);replace BB:=BB.trans (dY.below kX);clear bT aQ aG aE;have bT:=ae R2 jn;have aQ:=ae R3 d0;have aG:=ae R3 d1;have aE:=ae R3 d3;clear dY kt bg;have fu:=trivial)
   |(clear cY;(with_reducible refine cR dG ?_);intro x5 g6 Z6 ug pr R6 cp;have lC:g2≠g6:=(by have:=R2.lt;omega);have sy:g3≠g6:=(by have:=R3.lt;omega);have mD:g4≠g6:=(by have:=R4.lt;omega);have kX:w.heap.size≤g6:=(by have:=BB.size;omega);have eW:x3.heap.size≤g6:=(by have:=Bx.size;omega);replace R2:=R2.keep cp;replace R3:=R3.keep cp;replace R4:=R4.keep cp;replace hB:=hB.aa (t:=31) (ah.ab cp);replace Bx:=az Bx cp;replace BB:=az BB cp;clear bT aQ aG aE;have bT:=ae R2 jn;have aQ:=ae R3 d0;have aG:=ae R3 d1;have aE:=ae R3 d3;clear cp ug;have dX:=trivial))
  try clear gK
  refine(Gg t g6 b c C' D x3 _ Bx eW R6 hB hI ht Lt hc tu LM).mono ?_;exact vu
end
end Go.Proofs.YtdnpopjabpklnaaGreatDoor
