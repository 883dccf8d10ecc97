/- Contracts and plain laws that the proof of the top laws uses (F01). No condition beyond those stated. -/
import Derived.Test.YtdnpopjabpklnaaGreatDoorG12
set_option maxRecDepth 100000
set_option maxHeartbeats 64000000
set_option linter.all false
namespace Go.Proofs.YtdnpopjabpklnaaGreatDoor
section
open Go.RowKit
open Tryz
theorem KR (C:List Value) (b:cK) (q:Int) (w:World) (hO:cZ 0 w C b) (hs:∀e∈b.entries,CX e) (hl:b.entries.length≤1100000):
  Calls prog 14 #[.agg C.toArray,.int .i64 q] w fun r w'=>∃(D:List Value) (ok:Bool),D.length=7∧(∀u∈D,u.oneCell'=true)∧r=.returned (.tuple #[.agg D.toArray,.bool ok])∧Below w.heap.size w w'∧ok=decide (0≤fR b.entries q)∧(ok=true→∃k e,fR b.entries q=(k:Nat)∧b.entries[k]? =some e∧dn w.heap.size w' D e):=by
 have HF:=fun W (hb:Below w.heap.size w W)=>m_ C b q W (hO.below hb)
 have jo:=hO.len
 have HO:=fun W (hb:Below w.heap.size w W)=>hO.below hb
 obtain⟨A1,n1,c1,A2,n2,c2,A3,n3,c3,A4,n4,c4,A5,n5,c5,A6,n6,c6,rfl,O1,O2,O3,O4,O5,O6,q1,q2,q3,q4,q5,q6,m3,m4,m5,m6⟩:=hO.open_;clear O1 O2 O3 O4 O6 q1 q2 q3 q4 q6 m3 m4 m6 hO HO;have mL:=Lib.hid q5;have HS:=Lib.hid hs;clear q5 hs;obtain⟨fi,rF⟩:∃fi,fi=fR b.entries q:=⟨_,rfl⟩;rw[←rF] at HF;have tg:=Lib.hid rF;rw[←rF];clear rF
 go_enter func14,ntmps14
 have aL:=trivial
 go_wp2_with (first
  |(clear bC;(with_reducible refine ak ?_ aN R1 (show([.int .i64 b.now,.slice A1 n1 c1,.slice A2 n2 c2,.slice A3 n3 c3,.slice A4 n4 c4,.slice A5 n5 c5,.slice A6 n6 c6]:List Value).length=7 from rfl) ?_);rfl;have cz:=trivial)
  |(clear aJ;(with_reducible refine bu (Z:=[.slice none 0 0,.int .i64 0,.int .i64 0,.slice none 0 0,.slice none 0 0,.slice none 0 0,.slice none 0 0]) gY vq ?_);intro x2 g2 cW R2 aF;have jz:=h_ R1 cW;have fP:=jq BB cW;replace R1:=R1.keep aF;replace BB:=az BB aF;clear bP;have bP:=U (R1.cell 5);clear aF cW;have bC:=trivial)
  |(clear aL;(with_reducible refine ao (C:=([.int .i64 b.now,.slice A1 n1 c1,.slice A2 n2 c2,.slice A3 n3 c3,.slice A4 n4 c4,.slice A5 n5 c5,.slice A6 n6 c6]:List Value)) ?_ ?_);rfl;intro x1 g1 aR R1 aw;have eV:=Nat.le_of_eq aR;have BB:=aw;have bP:=U (R1.cell 5);clear aw aR;have aJ:=trivial))
 try clear cz
 have HF':=HF _ BB;refine(HF').mono ?_;rintro r x3 ⟨rfl,bh⟩;replace R1:=R1.keep bh;replace R2:=R2.keep bh;replace BB:=az BB bh;clear bP;have bP:=U (R1.cell 5);clear bh;clear HF
 by_cases hz:fi<0
 case pos=>
  have cz:=trivial
  go_wp2_with (first
   |(clear cz;(with_reducible refine av (C:=[.slice none 0 0,.int .i64 0,.int .i64 0,.slice none 0 0,.slice none 0 0,.slice none 0 0,.slice none 0 0]) ?_ ?_ cN R2 rfl rfl (by simp[Value.oneCell']) ?_);rfl;rfl;have bg:=R2.ty;clear R2;intro x4 R2 jm;have kt:=jm.aa bg;replace R1:=jm.row R1;replace BB:=BB.trans (jm.below fP);clear bP;have bP:=U (R1.cell 5);clear jm kt bg;have cY:=trivial))
  try clear cY
  refine bodyPost_ret (bH rfl _ rfl cN R2 rfl) rfl ?_;exact⟨[.slice none 0 0,.int .i64 0,.int .i64 0,.slice none 0 0,.slice none 0 0,.slice none 0 0,.slice none 0 0],false,rfl,by simp[Value.oneCell'],rfl,BB,(decide_eq_false (by omega)).symm,fun h=>by cases h⟩
 obtain⟨k,en,Cy,sr,hid,tv,gA⟩:=qv (es:=b.entries) (q:=q) (by rw[←tg.out];omega);have D_:=tg.out.trans Cy;subst D_;obtain⟨gE,E1,b1,E2,b2,E3,b3,E4,b4,E5,b5,Cs,OF,HE⟩:=qu O5 sr;clear O5;subst OF
 have nW:(k:Int)<(n5:Int):=by rw[mL.out];omega
 have dp:=HE.cl.1;have dW:=HE.cl.2.1;have sj:=HE.entry;have Av:=HS.out en (List.mem_of_getElem? sr);have Kg:=Lib.hid sr;have HFK:=Lib.hid Cy;clear sr Cy hid tv gA HE;replace dp:=dp.below BB dW.lt;generalize hEC:dP en E1 b1 E2 b2 E3 b3 E4 b4 E5 b5=EC at*
 have hE7:EC.length=7:=by rw[←hEC];rfl
 clear hEC
 have HCE:=fun W (hb:Below w.heap.size w W)=>tL EC en W (sj.aa (t:=31) (ah.ab hb)) Av
 clear sj Av dW;have cz:=trivial
 go_wp2_with (first
  |(clear cz;(with_reducible refine Zf ?_ cN dp hE7 ?_);rfl;have cY:=trivial))
 try clear cY
 have Vj:=HCE _ BB;refine(Vj).mono ?_;rintro r x4 ⟨D,rfl,hD,ek⟩;replace hD:=hD.lower BB.size;have Ct:=hD.len;have Cr:=hD.one;replace R1:=R1.keep ek;replace R2:=R2.keep ek;replace BB:=az BB ek;clear bP;have bP:=U (R1.cell 5);clear ek;have cY:=trivial
 go_wp2_with (first
  |(clear cY;(with_reducible refine av (C:=D) ?_ ?_ cN R2 Ct rfl Cr ?_);rfl;rfl;have bg:=R2.ty;clear R2;intro x5 R2 wU;have kt:=wU.aa bg;replace R1:=wU.row R1;replace hD:=hD.aa kt;replace BB:=BB.trans (wU.below fP);clear bP;have bP:=U (R1.cell 5);clear wU kt bg;have dX:=trivial))
 try clear dX
 refine bodyPost_ret (bH rfl _ rfl cN R2 Ct) rfl ?_;exact⟨D,true,Ct,Cr,rfl,BB,(decide_eq_true (by omega)).symm,fun _=>⟨k,en,rfl,Kg.out,hD⟩⟩
end
end Go.Proofs.YtdnpopjabpklnaaGreatDoor
