/- Contracts and plain laws that the proof of the top laws uses (ExD). No condition beyond those stated. -/
import Derived.Test.YtdnpopjabpklnaaGreatDoorG17
set_option maxRecDepth 100000
set_option maxHeartbeats 64000000
set_option linter.all false
namespace Go.Proofs.YtdnpopjabpklnaaGreatDoor
section
open Go.RowKit
open Tryz
def ku (it:aA):List (List UInt8):=if it.bz=0 then [] else [aV [fV,Lib.itoa it.bz]]
def nL (it:aA):List (List UInt8):=if it.bB=0 then [] else [aV [ma,Lib.itoa it.bB]]
def iQ (l:List Int):List (List UInt8):=l.map fun a=>aV [fc,Lib.itoa a]
def iV (l:List ByteArray):List (List UInt8):=l.map fun o=>aV [eh,bV o.data.toList]
theorem G6 (P:List (List UInt8)) (it:aA):P++ [aV [eG,ik it.id,Lib.itoa it.bj,dM it.kind]]++ [aV [cC,it.code.data.toList]]++ [aV [dw,Lib.itoa it.aP]]++ [aV [fW,Lib.itoa it.words,Lib.itoa it.ay]]++ku it++nL it++iQ it.af++ [aV [lh,bV it.aW.data.toList]]++iV it.opts++cF it++ [aV [ki]]=P++eu it:=by
 unfold eu lK ku nL iQ iV;rw[iF ki];simp only[List.append_assoc,List.cons_append,List.nil_append]
theorem Fb {w:World} {q t:Nat} {xs:List ByteArray} (h:Row w q t (xs.map Value.string)):∀(j:Nat) x,xs[j]? =some x→w.cell? ⟨q,0+j,none⟩=some (.string x):=fun j x hj=>by
 rw[Nat.zero_add,h.cell,List.getElem?_map,hj];rfl
theorem GQ {it:aA} (h:Good it):it.code.data.toList.length≤4500:=by
 have:=h.code;unfold jw at this;rw[Bool.and_eq_true,decide_eq_true_eq] at this;omega
theorem Wp {a b c d:List UInt8} (ha:a.length≤20) (hb:b.length≤20) (hc:c.length≤20) (hd:d.length≤20):(aV [a,b,c,d]).length≤5000:=by
 have:=mJ 20 [a,b,c,d] (fun x hx=>by simp only[List.mem_cons,List.not_mem_nil,or_false] at hx;rcases hx with rfl|rfl|rfl|rfl<;>assumption);simp only[List.length_cons,List.length_nil] at this;omega
theorem Qr {a b c:List UInt8} (ha:a.length≤20) (hb:b.length≤20) (hc:c.length≤20):(aV [a,b,c]).length≤5000:=by
 have:=mJ 20 [a,b,c] (fun x hx=>by simp only[List.mem_cons,List.not_mem_nil,or_false] at hx;rcases hx with rfl|rfl|rfl<;>assumption);simp only[List.length_cons,List.length_nil] at this;omega
theorem gN {n:Int} (h0:0≤n) (h:n≤9999999):(Lib.itoa n).length≤20:=by have:=iO h0 h;omega
theorem QU {P:Prop} (h:P:=by
 clear qN qO vE vF;obtain⟨PP,DS⟩:∃PP,PP=P++ [aV [eG,ik it.id,Lib.itoa it.bj,dM it.kind]]++ [aV [cC,it.code.data.toList]]++ [aV [dw,Lib.itoa it.aP]]++ [aV [fW,Lib.itoa it.words,Lib.itoa it.ay]]++ku it++nL it:=⟨_,rfl⟩;rw[←DS] at WR;have Zy:=Lib.hid DS;clear DS;obtain⟨Cx,DP⟩:∃Cx:List Value,Cx=[.int .i64 it.id,.int .i64 it.bj,.int .i64 it.kind,.string it.aW,.slice Ao it.opts.length co,vc,.int .i64 it.value,.int .i64 it.de,vt,.int .i64 it.aP,.string it.code,.int .i64 it.bz,.int .i64 it.bB,.int .i64 it.words,.int .i64 it.ay,.slice Aa it.af.length ca,.int .i64 it.aH]:=⟨_,rfl⟩;rw[←DP] at R3;have Dl:=Lib.hid DP;clear DP;have hal:=HG.out.rn;have hol:=HG.out.xM
 go_loopw [75] (fun i wr=>∃(k:Nat),k≤it.af.length∧i=.int .i64 k∧Wr B g w0 (PP++iQ (it.af.take k)) (M+40000+k*5001) wr∧Below B w wr∧cL g w wr∧Row wr g3 47 Cx) (fun i _=>it.af.length - (intOf i).toNat)
 case atStart=>exact⟨0,Nat.zero_le _,rfl,by rw[List.take_zero];unfold iQ;rw[List.map_nil,List.append_nil];exact WR.mono (by omega),BW,OW,R3⟩
 case round=>
  clear WR BW OW R3;obtain⟨k,hk,rfl,WR,BW,OW,R3⟩:=hrel
  by_cases aS:k<it.af.length
  ·obtain⟨b,o,rfl,aO⟩:=has.2 (by omega);obtain⟨z,hz⟩:∃z,it.af[k]? =some z:=⟨_,List.getElem?_eq_getElem aS⟩;have lH:w0.cell? ⟨b,o+k,none⟩=some (.int .i64 z):=aO k _ (by rw[List.getElem?_map,hz];rfl);have rK:=kT HG.out.BQ z (List.mem_of_getElem? hz);have ck:=(WR.e_.cell (block_lt_of_cell lH)).trans lH
   have Cf:Hid (iQ (it.af.take (k+1))=iQ (it.af.take k)++ [aV [fc,Lib.itoa z]]):=by unfold Hid iQ;rw[List.take_add_one,hz,List.map_append];rfl
   clear lH aO hz
   go_wp2_with fail
   with_reducible refine(gS z _ (by omega) (by omega) (HT _ WR.e_)).mono ?_
   rintro e Kb ⟨rfl,ax⟩;replace BW:=BW.trans (ax.mono WR.size);replace WR:=WR.keep ax;replace OW:=OW.trans (cL.ab ax);replace R3:=R3.keep ax;clear ax;clear ck
   go_wp2_with fail
   have fM:List.map (fun x:ByteArray=>x.data.toList) [⟨#[97,115,115,101,116]⟩,ag (Lib.itoa z)]=[fc,Lib.itoa z]:=rfl;have fh:((#[.string ⟨#[97,115,115,101,116]⟩,.string (ag (Lib.itoa z))]:Array Value)).toList=List.map Value.string [⟨#[97,115,115,101,116]⟩,ag (Lib.itoa z)]:=rfl;have fQ:(aV [fc,Lib.itoa z]).length≤5000:=fo (by decide) (by have:=gN (n:=z) (by omega) (by omega);omega)
   with_reducible refine(dR B g w0 (PP++iQ (it.af.take k)) (M+40000+k*5001) 2 [⟨#[97,115,115,101,116]⟩,ag (Lib.itoa z)] _ fM #[.string ⟨#[97,115,115,101,116]⟩,.string (ag (Lib.itoa z))] Kb WR (by omega) rfl (List.cons_ne_nil _ _) fh (by decide) fQ).mono ?_
   rintro e Zq ⟨rfl,fv,h2,h3⟩;replace BW:=BW.trans h2;replace OW:=OW.trans h3;clear WR;have WR:=fv;replace R3:=cL.row h3 R3 (Ne.symm mg) (by decide);clear fv h2 h3;clear fM fh fQ
   go_wp2_with fail
   go_roundw
   case rel=>exact⟨k+1,by omega,by go_num,by rw[Cf.out,←List.append_assoc];exact WR.mono (by omega),BW,OW,R3⟩
   case measure=>simp[intOf];omega
  ·have HE:Hid (it.af.take k=it.af):=List.take_of_length_le (by omega)
   replace WR:Wr B g w0 (PP++iQ it.af) (M+80008) wr:=by rw[HE.out] at WR;exact WR.mono (by omega)
   clear HE;have tH:=R3;rw[Dl.out] at R3;have c3:=U (R3.cell 3);clear R3;have R3:=tH;clear tH;have bQ:=HG.out.AO.2;rw[bS] at bQ
   go_wp2_with fail
   with_reducible refine(lN it.aW _ (by omega)).mono ?_
   rintro e Kb ⟨rfl,ax⟩;replace BW:=BW.trans (ax.mono WR.size);replace WR:=WR.keep ax;replace OW:=OW.trans (cL.ab ax);replace R3:=R3.keep ax;clear ax;clear c3
   go_wp2_with fail
   have fM:List.map (fun x:ByteArray=>x.data.toList) [⟨#[115,116,101,109]⟩,ag (bV it.aW.data.toList)]=[lh,bV it.aW.data.toList]:=rfl;have fh:((#[.string ⟨#[115,116,101,109]⟩,.string (ag (bV it.aW.data.toList))]:Array Value)).toList=List.map Value.string [⟨#[115,116,101,109]⟩,ag (bV it.aW.data.toList)]:=rfl;have fQ:(aV [lh,bV it.aW.data.toList]).length≤5000:=fo (by decide) (by have:=jP it.aW.data.toList;rw[bS] at this;omega)
   with_reducible refine(dR B g w0 (PP++iQ it.af) (M+80008) 2 [⟨#[115,116,101,109]⟩,ag (bV it.aW.data.toList)] _ fM #[.string ⟨#[115,116,101,109]⟩,.string (ag (bV it.aW.data.toList))] Kb WR (by omega) rfl (List.cons_ne_nil _ _) fh (by decide) fQ).mono ?_
   rintro e Zq ⟨rfl,fv,h2,h3⟩;replace BW:=BW.trans h2;replace OW:=OW.trans h3;clear WR;have WR:=fv;replace R3:=cL.row h3 R3 (Ne.symm mg) (by decide);clear fv h2 h3;clear fM fh fQ;have tH:=R3;rw[Dl.out] at R3;have c4:=U (R3.cell 4);clear R3;have R3:=tH;clear tH
   go_wp2_with fail
   clear c4;obtain⟨PQ,ur⟩:∃PQ,PQ=PP++iQ it.af++ [aV [lh,bV it.aW.data.toList]]:=⟨_,rfl⟩;rw[←ur] at WR;have Zz:=Lib.hid ur;clear ur bQ
   go_loopw [94] (fun i wr=>∃(k:Nat),k≤it.opts.length∧i=.int .i64 k∧Wr B g w0 (PQ++iV (it.opts.take k)) (M+90000+k*5001) wr∧Below B w wr∧cL g w wr∧Row wr g3 47 Cx) (fun i _=>it.opts.length - (intOf i).toNat)
   case atStart=>exact⟨0,Nat.zero_le _,rfl,by rw[List.take_zero];unfold iV;rw[List.map_nil,List.append_nil];exact WR.mono (by omega),BW,OW,R3⟩
   case round=>
    clear WR BW OW R3;obtain⟨k,hk,rfl,WR,BW,OW,R3⟩:=hrel
    by_cases aS:k<it.opts.length
    ·obtain⟨b,o,rfl,aO⟩:=hos.2 (by omega);obtain⟨t,hz⟩:∃t,it.opts[k]? =some t:=⟨_,List.getElem?_eq_getElem aS⟩;have lH:w0.cell? ⟨b,o+k,none⟩=some (.string t):=aO k _ (by rw[List.getElem?_map,hz];rfl);have rK:=(kG (HG.out.opts t (List.mem_of_getElem? hz))).2;rw[bS] at rK;have ck:=(WR.e_.cell (block_lt_of_cell lH)).trans lH
     have Cf:Hid (iV (it.opts.take (k+1))=iV (it.opts.take k)++ [aV [eh,bV t.data.toList]]):=by unfold Hid iV;rw[List.take_add_one,hz,List.map_append];rfl
     clear lH aO hz
     go_wp2_with fail
     with_reducible refine(lN t _ (by omega)).mono ?_
     rintro e Qx ⟨rfl,ax⟩;replace BW:=BW.trans (ax.mono WR.size);replace WR:=WR.keep ax;replace OW:=OW.trans (cL.ab ax);replace R3:=R3.keep ax;clear ax;clear ck
     go_wp2_with fail
     have fM:List.map (fun x:ByteArray=>x.data.toList) [⟨#[111,112,116,105,111,110]⟩,ag (bV t.data.toList)]=[eh,bV t.data.toList]:=rfl;have fh:((#[.string ⟨#[111,112,116,105,111,110]⟩,.string (ag (bV t.data.toList))]:Array Value)).toList=List.map Value.string [⟨#[111,112,116,105,111,110]⟩,ag (bV t.data.toList)]:=rfl;have fQ:(aV [eh,bV t.data.toList]).length≤5000:=fo (by decide) (by have:=jP t.data.toList;rw[bS] at this;omega)
     with_reducible refine(dR B g w0 (PQ++iV (it.opts.take k)) (M+90000+k*5001) 2 [⟨#[111,112,116,105,111,110]⟩,ag (bV t.data.toList)] _ fM #[.string ⟨#[111,112,116,105,111,110]⟩,.string (ag (bV t.data.toList))] Qx WR (by omega) rfl (List.cons_ne_nil _ _) fh (by decide) fQ).mono ?_
     rintro e Zo ⟨rfl,fv,h2,h3⟩;replace BW:=BW.trans h2;replace OW:=OW.trans h3;clear WR;have WR:=fv;replace R3:=cL.row h3 R3 (Ne.symm mg) (by decide);clear fv h2 h3;clear fM fh fQ
     go_wp2_with fail
     go_roundw
     case rel=>exact⟨k+1,by omega,by go_num,by rw[Cf.out,←List.append_assoc];exact WR.mono (by omega),BW,OW,R3⟩
     case measure=>simp[intOf];omega
    ·have HE:Hid (it.opts.take k=it.opts):=List.take_of_length_le (by omega)
     replace WR:Wr B g w0 (PQ++iV it.opts) (M+140010) wr:=by rw[HE.out] at WR;exact WR.mono (by omega)
     clear HE;rw[Dl.out] at R3;have aL:=trivial
     go_wp2_with (first|(clear aL;(with_reducible refine ak ?_ aU R3 rfl ?_);rfl;have aJ:=trivial))
     try clear aJ
     with_reducible refine(q9 B g w0 (PQ++iV it.opts) (M+140010) _ it _ WR (by omega) HRI.out HG.out Kk.out).mono ?_
     rintro e Qx ⟨rfl,fv,h2,h3⟩;replace BW:=BW.trans h2;replace OW:=OW.trans h3;clear WR;have WR:=fv;replace R3:=cL.row h3 R3 (Ne.symm mg) (by decide);clear fv h2 h3
     go_wp2_with fail
     have fM:List.map (fun x:ByteArray=>x.data.toList) [⟨#[101,110,100]⟩]=[ki]:=rfl;have fh:((#[.string ⟨#[101,110,100]⟩]:Array Value)).toList=List.map Value.string [⟨#[101,110,100]⟩]:=rfl
     have fQ:(aV [ki]).length≤5000:=by rw[iF];decide
     with_reducible refine(dR B g w0 (PQ++iV it.opts++cF it) (M+140010+60000) 1 [⟨#[101,110,100]⟩] _ fM #[.string ⟨#[101,110,100]⟩] Qx WR (by omega) rfl (List.cons_ne_nil _ _) fh (by decide) fQ).mono ?_
     rintro e Zo ⟨rfl,fv,h2,h3⟩;replace BW:=BW.trans h2;replace OW:=OW.trans h3;clear WR;have WR:=fv;replace R3:=cL.row h3 R3 (Ne.symm mg) (by decide);clear fv h2 h3;clear fM fh fQ
     go_wp2_with fail
     go_ret
     refine⟨rfl,?_,BW,OW⟩;have gG:=G6 P it;rw[Zz.out,Zy.out] at WR;rw[←gG]
     exact WR.mono (by omega)):P:=h
theorem CY {P:Prop} (h:P:=by
 replace BW:=BW.trans h2;replace OW:=OW.trans h3;clear WR;have WR:=fv;replace R3:=cL.row h3 R3 (Ne.symm mg) (by decide);clear fv h2 h3;clear fM fh fQ
 go_wp2_with fail
 go_roundw
 case rel=>exact⟨k+1,by omega,by go_num,by rw[Cf.out,←List.append_assoc];exact WR.mono (by omega),BW,OW,R3⟩
 case measure=>simp[intOf];omega):P:=h
theorem QV {P:Prop} (h:P:=by
 replace BW:=BW.trans h2;replace OW:=OW.trans h3;clear WR;have WR:=fv;replace R3:=cL.row h3 R3 (Ne.symm mg) (by decide);clear fv h2 h3;clear fM fh fQ
 go_wp2_with fail
 go_ret
 refine⟨rfl,?_,BW,OW⟩;have gG:=G6 P it;rw[Zz.out,Zy.out] at WR;rw[←gG]
 exact WR.mono (by omega)):P:=h
theorem H9 {P:Prop} (h:P:=by
 rintro e' w' ⟨rfl,aY⟩
 exact hK _ _ rfl ⟨hG.1.keep aY,hG.2.1.keep aY,hG.2.2.1.trans (cL.ab aY),hG.2.2.2.1.trans (aY.mono hG.2.1.size),hG.2.2.2.2.trans (aY.mono hG.2.2.2.2.size)⟩ aY):P:=h
theorem E6 (B g:Nat) (w0:World) (P:List (List UInt8)) (M:Nat) (C:List Value) (it:aA) (w:World) (hw:Wr B g w0 P M w) (hM:M≤30000000) (hR:dO w0 C it) (hG:Good it) (ht:Id.lk w0) (hp:Id.lS w0):
  Calls prog 22 #[.pointer (some ⟨g,0,none⟩),.agg C.toArray] w fun e w'=>e=.returned (.int .i64 0)∧ZM B g w0 P (eu it) (M+300000) w w':=by
 have hR0:=hR;obtain⟨vo,vc,vt,va,rfl,ho,hc,Pb,ha⟩:=hR;obtain⟨Ao,co,rfl,ho1,gM,hos⟩:=ho;obtain⟨Aa,ca,rfl,tp,TL,has⟩:=ha;unfold fS;have HRI:Hid (dO w0 [.int .i64 it.id,.int .i64 it.bj,.int .i64 it.kind,.string it.aW,.slice Ao it.opts.length co,vc,.int .i64 it.value,.int .i64 it.de,vt,.int .i64 it.aP,.string it.code,.int .i64 it.bz,.int .i64 it.bB,.int .i64 it.words,.int .i64 it.ay,.slice Aa it.af.length ca,.int .i64 it.aH] it):=hR0;have hio:∀u∈([.int .i64 it.id,.int .i64 it.bj,.int .i64 it.kind,.string it.aW,.slice Ao it.opts.length co,vc,.int .i64 it.value,.int .i64 it.de,vt,.int .i64 it.aP,.string it.code,.int .i64 it.bz,.int .i64 it.bB,.int .i64 it.words,.int .i64 it.ay,.slice Aa it.af.length ca,.int .i64 it.aH]:List Value),u.oneCell'=true:=hR0.one;have HG:=Lib.hid hG
 have HT:=fun W (h:Below w0.heap.size w0 W)=>Id.lk.below ht h
 have Kk:=Lib.hid ht
 have HIP:∀W,Below w0.heap.size w0 W→Calls prog 61 #[.int .i64 1,.int .i64 it.id] W fun e w'=>e=.returned (.tuple #[.string (ag (ik it.id)),.int .i64 0])∧Below W.heap.size W w':=fun W hb=>by
  obtain⟨n,hn⟩:∃n:Nat,it.id=(n:Int):=⟨it.id.toNat,by have:=hG.id;omega⟩;have h1:=hG.id;have:=Id.UU 1 n W (by decide) (by omega) (hp.below hb) (ht.below hb);rw[hn];exact this
 have wI:=hG.bj;obtain⟨m,hm⟩:∃m:Nat,it.kind=(m:Int)+1:=⟨(it.kind - 1).toNat,by have:=hG.kind;omega⟩
 have TY:m<6:=by have:=hG.kind;omega
 obtain⟨ks,xj,gA⟩:=Un hG.kind;rw[show(it.kind - 1).toNat=m by omega] at xj;have Vm:=Lib.hid xj;have Cg:=Lib.hid gA
 have hkm:IntKind.i64.wrap (it.kind - 1)=(m:Int):=by rw[IntKind.wrap_i64];omega
 have HKM:=Lib.hid hkm;clear hR0 hc Pb ht hG hp hm xj gA hkm;have B0:=hw.e_
 go_enter func22,ntmps22
 go_wp2_with (first|((with_reducible refine ao (C:=[.int .i64 it.id,.int .i64 it.bj,.int .i64 it.kind,.string it.aW,.slice Ao it.opts.length co,vc,.int .i64 it.value,.int .i64 it.de,vt,.int .i64 it.aP,.string it.code,.int .i64 it.bz,.int .i64 it.bB,.int .i64 it.words,.int .i64 it.ay,.slice Aa it.af.length ca,.int .i64 it.aH]) ?_ ?_);rfl;intro x1 g3 e1 R3 hx;have c0:=U (R3.cell 0)))
 have WR:=hw.keep hx;have BW:=hx.mono hw.size;have OW:=cL.ab (b:=g) hx
 have mg:g≠g3:=by have:=hw.lt;omega
 clear e1 hw hx B0
 with_reducible refine(HIP _ WR.e_).mono ?_
 rintro e w1_ ⟨rfl,ax⟩;replace BW:=BW.trans (ax.mono WR.size);replace WR:=WR.keep ax;replace OW:=OW.trans (cL.ab ax);replace R3:=R3.keep ax;clear ax;clear c0;have c1:=U (R3.cell 1);have c2:=U (R3.cell 2);clear HIP
 go_wp2_with fail
 clear c1 c2
 have bQ:∀p∈([
   (fun v _=>v=.pointer (some ⟨g,0,none⟩)),
   (fun v _=>v=.string (ag (ik it.id))),
   (fun v _=>v=.pointer (some ⟨g3,1,none⟩)),
   (fun v _=>v=.int .i64 it.bj),
   (fun v _=>v=.string (ag (Lib.itoa it.bj))),
   (fun v w0=>∃q:Nat,Row w0 q 9 (xH.map Value.string)∧v=.slice (some ⟨q,0,none⟩) 6 6),
   (fun v _=>v=.pointer (some ⟨g3,2,none⟩)),
   (fun v _=>v=.int .i64 it.kind),
   (fun v _=>v=.int .i64 (m:Int)),
   (fun v w0=>∃q:Nat,Row w0 q 9 (xH.map Value.string)∧v=.pointer (some ⟨q,m,none⟩)),
   (fun v _=>v=.string ks),
   (fun v w0=>∃q:Nat,Row w0 q 9 (List.map Value.string [⟨#[105,116,101,109]⟩,ag (ik it.id),ag (Lib.itoa it.bj),ks])∧v=.slice (some ⟨q,0,none⟩) 4 4)]:List (Value→World→Prop)),∀v w w',p v w→Below w.heap.size w w'→p v w':=by
  refine List.forall_mem_cons.2 ⟨fun _ _ _ h _=>h,List.forall_mem_cons.2 ⟨fun _ _ _ h _=>h,List.forall_mem_cons.2 ⟨fun _ _ _ h _=>h,List.forall_mem_cons.2 ⟨fun _ _ _ h _=>h,List.forall_mem_cons.2 ⟨fun _ _ _ h _=>h,List.forall_mem_cons.2 ⟨fun v w w' h hb=>(by obtain⟨q,a,e⟩:=h;exact⟨q,a.keep hb,e⟩),List.forall_mem_cons.2 ⟨fun _ _ _ h _=>h,List.forall_mem_cons.2 ⟨fun _ _ _ h _=>h,List.forall_mem_cons.2 ⟨fun _ _ _ h _=>h,List.forall_mem_cons.2 ⟨fun v w w' h hb=>(by obtain⟨q,a,e⟩:=h;exact⟨q,a.keep hb,e⟩),List.forall_mem_cons.2 ⟨fun _ _ _ h _=>h,List.forall_mem_cons.2 ⟨fun v w w' h hb=>(by obtain⟨q,a,e⟩:=h;exact⟨q,a.keep hb,e⟩),(fun _ h=>by cases h)⟩⟩⟩⟩⟩⟩⟩⟩⟩⟩⟩⟩
 refine cT (by kernel_rfl) 12 (fun _=>none) (fun wx=>Row wx g3 47 [.int .i64 it.id,.int .i64 it.bj,.int .i64 it.kind,.string it.aW,.slice Ao it.opts.length co,vc,.int .i64 it.value,.int .i64 it.de,vt,.int .i64 it.aP,.string it.code,.int .i64 it.bz,.int .i64 it.bB,.int .i64 it.words,.int .i64 it.ay,.slice Aa it.af.length ca,.int .i64 it.aH]∧Wr B g w0 P M wx∧cL g w wx∧Below B w wx∧Below w1_.heap.size w1_ wx) (fun _ w w'=>Below w.heap.size w w') _ (fun j v w w' i _ h hR=>fC bQ (fun _ _ _ _ _=>trivial) i v w w' h hR) (by kernel_rfl) (by kernel_rfl) (fun _ _ h=>by cases h) ⟨R3.drew,WR.keep (Below.refl _ _).drew,OW.trans (cL.ab (Below.refl _ _).drew),BW.drew,(Below.refl _ _).drew⟩ ?_ ?_
 ·clear bQ;refine⟨fun _ a wx hG hr hb K hK=>?_,?_⟩
  ·have e1:=aq (hb 0);rw[if_pos (by rfl)];unfold Oper.wp execOp
   go_simp
   exact hK _ _ rfl hG (Below.refl _ _)
  refine⟨fun _ a wx hG hr hb K hK=>?_,?_⟩
  ·have e1:=aq (hb 5);rw[if_pos (by rfl)];unfold Oper.wp execOp
   go_simp
   exact hK _ _ rfl hG (Below.refl _ _)
  refine⟨fun _ a wx hG hr hb K hK=>?_,?_⟩
  ·have e1:=aq (hb 3);rw[if_pos (by rfl)];unfold Oper.wp execOp
   go_simp
   exact hK _ _ rfl hG (Below.refl _ _)
  refine⟨fun _ a wx hG hr hb K hK=>?_,?_⟩
  ·have e1:=aq (hr 2 23);have c0:wx.cell? ⟨g3,1,none⟩=some (.int .i64 it.bj):=(hG.1.cell 1).trans (rfl);rw[if_pos (by rfl)];unfold Oper.wp execOp
   go_simp
   exact hK _ _ rfl hG (Below.refl _ _)
  refine⟨fun _ a wx hG hr hb K hK=>?_,?_⟩
  ·have e1:=aq (hr 3 24);rw[if_pos (by rfl)];unfold Oper.wp execOp
   go_simp
   refine(gS it.bj wx (by omega) (by omega) (HT wx hG.2.1.e_)).mono ?_;exact H9
  refine⟨fun _ a wx hG hr hb K hK=>?_,?_⟩
  ·rw[if_pos (by rfl)];unfold Oper.wp execOp
   go_simp
   refine(Ey wx).mono ?_;rintro e' w' ⟨⟨q,rfl,hq⟩,aY⟩;exact hK _ _ ⟨q,hq,rfl⟩ ⟨hG.1.keep aY,hG.2.1.keep aY,hG.2.2.1.trans (cL.ab aY),hG.2.2.2.1.trans (aY.mono hG.2.1.size),hG.2.2.2.2.trans (aY.mono hG.2.2.2.2.size)⟩ aY
  refine⟨fun _ a wx hG hr hb K hK=>?_,?_⟩
  ·have e1:=aq (hb 3);rw[if_pos (by rfl)];unfold Oper.wp execOp
   go_simp
   exact hK _ _ rfl hG (Below.refl _ _)
  refine⟨fun _ a wx hG hr hb K hK=>?_,?_⟩
  ·have e1:=aq (hr 6 27);have c0:wx.cell? ⟨g3,2,none⟩=some (.int .i64 it.kind):=(hG.1.cell 2).trans (rfl);rw[if_pos (by rfl)];unfold Oper.wp execOp
   go_simp
   exact hK _ _ rfl hG (Below.refl _ _)
  refine⟨fun _ a wx hG hr hb K hK=>?_,?_⟩
  ·have e1:=aq (hr 7 28);rw[if_pos (by rfl)];unfold Oper.wp execOp;have Ax:=HKM.out
   go_simp
   refine hK _ _ ?_ hG (Below.refl _ _)
   first|rfl|(simp only[Ax];done)|(rw[Ax];done)
  refine⟨fun _ a wx hG hr hb K hK=>?_,?_⟩
  ·rw[if_pos (by rfl)];unfold Oper.wp execOp;obtain⟨q,hq,e1⟩:=hr 5 26;rw[bR] at e1;have e2:=aq (hr 8 29)
   have hmi:(m:Int)<6:=by omega
   go_simp
   try rw[if_pos (by omega)]
   exact hK _ _ ⟨q,hq,by simp⟩ hG (Below.refl _ _)
  refine⟨fun _ a wx hG hr hb K hK=>?_,?_⟩
  ·rw[if_pos (by rfl)];unfold Oper.wp execOp;obtain⟨q,hq,e1⟩:=hr 9 30;rw[bR] at e1
   have cq:wx.cell? ⟨q,m,none⟩=some (.string ks):=by rw[hq.cell,List.getElem?_map,Vm.out];rfl
   go_simp
   exact hK _ _ rfl hG (Below.refl _ _)
  refine⟨fun _ a wx hG hr hb K hK=>?_,?_⟩
  ·have e1:=aq (hr 1 22);have e2:=aq (hr 4 25);have e3:=aq (hr 10 31);rw[if_pos (by rfl)];unfold Oper.wp execOp
   go_simp
   have aY:=ai wx (.cells #[.string ⟨#[105,116,101,109]⟩,.string (ag (ik it.id)),.string (ag (Lib.itoa it.bj)),.string ks] 9);exact hK _ _ ⟨wx.heap.size,Row.new wx 9 (List.map Value.string [⟨#[105,116,101,109]⟩,ag (ik it.id),ag (Lib.itoa it.bj),ks]),rfl⟩ ⟨hG.1.keep aY,hG.2.1.keep aY,hG.2.2.1.trans (cL.ab aY),hG.2.2.2.1.trans (aY.mono hG.2.1.size),hG.2.2.2.2.trans (aY.mono hG.2.2.2.2.size)⟩ aY
  exact⟨fun h=>absurd h (by decide),trivial⟩
 ·intro v wx oo AA hA ho hG hV K hK
  simp[dh,bD,List.range,List.range.loop,Act.put] at hA
  have e0:=aM (hV 0 (by decide) rfl);have e1:=aM (hV 1 (by decide) rfl);have e2:=aM (hV 2 (by decide) rfl);have e3:=aM (hV 3 (by decide) rfl);have e4:=aM (hV 4 (by decide) rfl);obtain⟨q1,iC,e5⟩:=hV 5 (by decide) rfl;have e6:=aM (hV 6 (by decide) rfl);have e7:=aM (hV 7 (by decide) rfl);have e8:=aM (hV 8 (by decide) rfl);obtain⟨q2,pR,e9⟩:=hV 9 (by decide) rfl;have ic:=aM (hV 10 (by decide) rfl);obtain⟨q3,hq3,iA⟩:=hV 11 (by decide) rfl;rw[e0,e1,e2,e3,e4,e5,e6,e7,e8,e9,ic,iA] at hA;subst hA;clear hV e0 e1 e2 e3 e4 e5 e6 e7 e8 e9 ic iA
  try clear bQ
  have bU:some _=some oo:=ho
  injection bU with bU
  subst bU;clear ho;rw[if_pos (by rfl)];unfold Oper.wp execOp;clear R3 WR OW BW
  go_simp
  obtain⟨R3,WR,OW,BW,_⟩:=hG
  have fQ:(aV (List.map (fun x:ByteArray=>x.data.toList) [⟨#[105,116,101,109]⟩,ag (ik it.id),ag (Lib.itoa it.bj),ks])).length≤5000:=by rw[show List.map (fun x:ByteArray=>x.data.toList) [⟨#[105,116,101,109]⟩,ag (ik it.id),ag (Lib.itoa it.bj),ks]=[eG,ik it.id,Lib.itoa it.bj,dM it.kind] from by rw[←Cg.out];rfl];exact Wp (by decide) (by rw[Mc];decide) (gN (n:=it.bj) (by have:=HG.out.bj;omega) (by have:=HG.out.bj;omega)) (by have:=Ex it.kind;omega)
  have NP:=Fb hq3;refine(vH B g w0 (P) (M) _ 0 4 _ [⟨#[105,116,101,109]⟩,ag (ik it.id),ag (Lib.itoa it.bj),ks] wx WR (by omega) rfl (List.cons_ne_nil _ _) NP (Nat.le_refl _) (Nat.le_of_ble_eq_true rfl) fQ).mono ?_;rintro e w5 ⟨rfl,fv,h2,h3⟩;replace BW:=BW.trans h2;replace OW:=OW.trans h3
  have WR:Wr B g w0 (P++ [aV [eG,ik it.id,Lib.itoa it.bj,dM it.kind]]) (M+5001) w5:=by have VL:=fv;rw[show List.map (fun x:ByteArray=>x.data.toList) [⟨#[105,116,101,109]⟩,ag (ik it.id),ag (Lib.itoa it.bj),ks]=[eG,ik it.id,Lib.itoa it.bj,dM it.kind] from by rw[←Cg.out];rfl] at VL;exact VL
  replace R3:=cL.row h3 R3 (Ne.symm mg) (by decide);refine hK _ _ ?_;clear hK fv h2 h3 NP fQ;have KX:=U (R3.cell 10)
  go_wp2_with fail
  clear KX;have fM:List.map (fun x:ByteArray=>x.data.toList) [⟨#[99,111,110,116,101,110,116]⟩,it.code]=[cC,it.code.data.toList]:=rfl;have fh:((#[.string ⟨#[99,111,110,116,101,110,116]⟩,.string (it.code)]:Array Value)).toList=List.map Value.string [⟨#[99,111,110,116,101,110,116]⟩,it.code]:=rfl;have fQ:(aV [cC,it.code.data.toList]).length≤5000:=fo (by decide) (GQ HG.out)
  with_reducible refine(dR B g w0 (P++ [aV [eG,ik it.id,Lib.itoa it.bj,dM it.kind]]) (M+5001) 2 [⟨#[99,111,110,116,101,110,116]⟩,it.code] _ fM #[.string ⟨#[99,111,110,116,101,110,116]⟩,.string (it.code)] w5 WR (by omega) rfl (List.cons_ne_nil _ _) fh (by decide) fQ).mono ?_
  rintro e w2_ ⟨rfl,fv,h2,h3⟩;replace BW:=BW.trans h2;replace OW:=OW.trans h3;clear WR;have WR:=fv;replace R3:=cL.row h3 R3 (Ne.symm mg) (by decide);clear fv h2 h3;clear fM fh fQ;have c9:=U (R3.cell 9)
  go_wp2_with fail
  with_reducible refine(gS it.aP _ (by have:=HG.out.aP;omega) (by have:=HG.out.aP;omega) (HT _ WR.e_)).mono ?_
  rintro e w3_ ⟨rfl,ax⟩;replace BW:=BW.trans (ax.mono WR.size);replace WR:=WR.keep ax;replace OW:=OW.trans (cL.ab ax);replace R3:=R3.keep ax;clear ax;clear c9
  go_wp2_with fail
  have fM:List.map (fun x:ByteArray=>x.data.toList) [⟨#[112,111,105,110,116,115]⟩,ag (Lib.itoa it.aP)]=[dw,Lib.itoa it.aP]:=rfl;have fh:((#[.string ⟨#[112,111,105,110,116,115]⟩,.string (ag (Lib.itoa it.aP))]:Array Value)).toList=List.map Value.string [⟨#[112,111,105,110,116,115]⟩,ag (Lib.itoa it.aP)]:=rfl;have fQ:(aV [dw,Lib.itoa it.aP]).length≤5000:=fo (by decide) (by have:=gN (n:=it.aP) (by have:=HG.out.aP;omega) (by have:=HG.out.aP;omega);omega)
  with_reducible refine(dR B g w0 (P++ [aV [eG,ik it.id,Lib.itoa it.bj,dM it.kind]]++ [aV [cC,it.code.data.toList]]) (M+5001+5001) 2 [⟨#[112,111,105,110,116,115]⟩,ag (Lib.itoa it.aP)] _ fM #[.string ⟨#[112,111,105,110,116,115]⟩,.string (ag (Lib.itoa it.aP))] w3_ WR (by omega) rfl (List.cons_ne_nil _ _) fh (by decide) fQ).mono ?_
  rintro e w4_ ⟨rfl,fv,h2,h3⟩;replace BW:=BW.trans h2;replace OW:=OW.trans h3;clear WR;have WR:=fv;replace R3:=cL.row h3 R3 (Ne.symm mg) (by decide);clear fv h2 h3;clear fM fh fQ;have c13:=U (R3.cell 13);have c14:=U (R3.cell 14)
  go_wp2_with fail
  clear c13 c14
  have bQ:∀p∈([
    (fun v _=>v=.pointer (some ⟨g,0,none⟩)),
    (fun v _=>v=.pointer (some ⟨g3,13,none⟩)),
    (fun v _=>v=.int .i64 it.words),
    (fun v _=>v=.string (ag (Lib.itoa it.words))),
    (fun v _=>v=.pointer (some ⟨g3,14,none⟩)),
    (fun v _=>v=.int .i64 it.ay),
    (fun v _=>v=.string (ag (Lib.itoa it.ay))),
    (fun v w0=>∃q:Nat,Row w0 q 9 (List.map Value.string [⟨#[116,105,109,101]⟩,ag (Lib.itoa it.words),ag (Lib.itoa it.ay)])∧v=.slice (some ⟨q,0,none⟩) 3 3)]:List (Value→World→Prop)),∀v w w',p v w→Below w.heap.size w w'→p v w':=by
   refine List.forall_mem_cons.2 ⟨fun _ _ _ h _=>h,List.forall_mem_cons.2 ⟨fun _ _ _ h _=>h,List.forall_mem_cons.2 ⟨fun _ _ _ h _=>h,List.forall_mem_cons.2 ⟨fun _ _ _ h _=>h,List.forall_mem_cons.2 ⟨fun _ _ _ h _=>h,List.forall_mem_cons.2 ⟨fun _ _ _ h _=>h,List.forall_mem_cons.2 ⟨fun _ _ _ h _=>h,List.forall_mem_cons.2 ⟨fun v w w' h hb=>(by obtain⟨q,a,e⟩:=h;exact⟨q,a.keep hb,e⟩),(fun _ h=>by cases h)⟩⟩⟩⟩⟩⟩⟩⟩
  refine cT (by kernel_rfl) 8 (fun _=>none) (fun wx=>Row wx g3 47 [.int .i64 it.id,.int .i64 it.bj,.int .i64 it.kind,.string it.aW,.slice Ao it.opts.length co,vc,.int .i64 it.value,.int .i64 it.de,vt,.int .i64 it.aP,.string it.code,.int .i64 it.bz,.int .i64 it.bB,.int .i64 it.words,.int .i64 it.ay,.slice Aa it.af.length ca,.int .i64 it.aH]∧Wr B g w0 (P++ [aV [eG,ik it.id,Lib.itoa it.bj,dM it.kind]]++ [aV [cC,it.code.data.toList]]++ [aV [dw,Lib.itoa it.aP]]) (M+5001+5001+5001) wx∧cL g w wx∧Below B w wx∧Below w4_.heap.size w4_ wx) (fun _ w w'=>Below w.heap.size w w') _ (fun j v w w' i _ h hR=>fC bQ (fun _ _ _ _ _=>trivial) i v w w' h hR) (by kernel_rfl) (by kernel_rfl) (fun _ _ h=>by cases h) ⟨R3.drew,WR.keep (Below.refl _ _).drew,OW.trans (cL.ab (Below.refl _ _).drew),BW.drew,(Below.refl _ _).drew⟩ ?_ ?_
  ·clear bQ;refine⟨fun _ a wx hG hr hb K hK=>?_,?_⟩
   ·have e1:=aq (hb 0);rw[if_pos (by rfl)];unfold Oper.wp execOp
    go_simp
    exact hK _ _ rfl hG (Below.refl _ _)
   refine⟨fun _ a wx hG hr hb K hK=>?_,?_⟩
   ·have e1:=aq (hb 3);rw[if_pos (by rfl)];unfold Oper.wp execOp
    go_simp
    exact hK _ _ rfl hG (Below.refl _ _)
   refine⟨fun _ a wx hG hr hb K hK=>?_,?_⟩
   ·have e1:=aq (hr 1 46);have c0:wx.cell? ⟨g3,13,none⟩=some (.int .i64 it.words):=(hG.1.cell 13).trans (rfl);rw[if_pos (by rfl)];unfold Oper.wp execOp
    go_simp
    exact hK _ _ rfl hG (Below.refl _ _)
   refine⟨fun _ a wx hG hr hb K hK=>?_,?_⟩
   ·have e1:=aq (hr 2 47);rw[if_pos (by rfl)];unfold Oper.wp execOp
    go_simp
    refine(gS it.words wx (by have:=HG.out.words;omega) (by have:=HG.out.words;omega) (HT wx hG.2.1.e_)).mono ?_;exact H9
   refine⟨fun _ a wx hG hr hb K hK=>?_,?_⟩
   ·have e1:=aq (hb 3);rw[if_pos (by rfl)];unfold Oper.wp execOp
    go_simp
    exact hK _ _ rfl hG (Below.refl _ _)
   refine⟨fun _ a wx hG hr hb K hK=>?_,?_⟩
   ·have e1:=aq (hr 4 49);have c0:wx.cell? ⟨g3,14,none⟩=some (.int .i64 it.ay):=(hG.1.cell 14).trans (rfl);rw[if_pos (by rfl)];unfold Oper.wp execOp
    go_simp
    exact hK _ _ rfl hG (Below.refl _ _)
   refine⟨fun _ a wx hG hr hb K hK=>?_,?_⟩
   ·have e1:=aq (hr 5 50);rw[if_pos (by rfl)];unfold Oper.wp execOp
    go_simp
    refine(gS it.ay wx (by have:=HG.out.ay;omega) (by have:=HG.out.ay;omega) (HT wx hG.2.1.e_)).mono ?_;exact H9
   refine⟨fun _ a wx hG hr hb K hK=>?_,?_⟩
   ·have e1:=aq (hr 3 48);have e2:=aq (hr 6 51);rw[if_pos (by rfl)];unfold Oper.wp execOp
    go_simp
    have aY:=ai wx (.cells #[.string ⟨#[116,105,109,101]⟩,.string (ag (Lib.itoa it.words)),.string (ag (Lib.itoa it.ay))] 9);exact hK _ _ ⟨wx.heap.size,Row.new wx 9 (List.map Value.string [⟨#[116,105,109,101]⟩,ag (Lib.itoa it.words),ag (Lib.itoa it.ay)]),rfl⟩ ⟨hG.1.keep aY,hG.2.1.keep aY,hG.2.2.1.trans (cL.ab aY),hG.2.2.2.1.trans (aY.mono hG.2.1.size),hG.2.2.2.2.trans (aY.mono hG.2.2.2.2.size)⟩ aY
   exact⟨fun h=>absurd h (by decide),trivial⟩
  ·intro v wx oo AA hA ho hG hV K hK
   simp[dh,bD,List.range,List.range.loop,Act.put] at hA
   have e0:=aM (hV 0 (by decide) rfl);have e1:=aM (hV 1 (by decide) rfl);have e2:=aM (hV 2 (by decide) rfl);have e3:=aM (hV 3 (by decide) rfl);have e4:=aM (hV 4 (by decide) rfl);have e5:=aM (hV 5 (by decide) rfl);have e6:=aM (hV 6 (by decide) rfl);obtain⟨q3,hq3,e7⟩:=hV 7 (by decide) rfl;rw[e0,e1,e2,e3,e4,e5,e6,e7] at hA;subst hA;clear hV e0 e1 e2 e3 e4 e5 e6 e7
   try clear bQ
   have bU:some _=some oo:=ho
   injection bU with bU
   subst bU;clear ho;rw[if_pos (by rfl)];unfold Oper.wp execOp;clear R3 WR OW BW
   go_simp
   obtain⟨R3,WR,OW,BW,_⟩:=hG
   have fQ:(aV (List.map (fun x:ByteArray=>x.data.toList) [⟨#[116,105,109,101]⟩,ag (Lib.itoa it.words),ag (Lib.itoa it.ay)])).length≤5000:=by rw[show List.map (fun x:ByteArray=>x.data.toList) [⟨#[116,105,109,101]⟩,ag (Lib.itoa it.words),ag (Lib.itoa it.ay)]=[fW,Lib.itoa it.words,Lib.itoa it.ay] from rfl];exact Qr (by decide) (gN (n:=it.words) (by have:=HG.out.words;omega) (by have:=HG.out.words;omega)) (gN (n:=it.ay) (by have:=HG.out.ay;omega) (by have:=HG.out.ay;omega))
   have NP:=Fb hq3;refine(vH B g w0 (P++ [aV [eG,ik it.id,Lib.itoa it.bj,dM it.kind]]++ [aV [cC,it.code.data.toList]]++ [aV [dw,Lib.itoa it.aP]]) (M+5001+5001+5001) _ 0 3 _ [⟨#[116,105,109,101]⟩,ag (Lib.itoa it.words),ag (Lib.itoa it.ay)] wx WR (by omega) rfl (List.cons_ne_nil _ _) NP (Nat.le_refl _) (Nat.le_of_ble_eq_true rfl) fQ).mono ?_;rintro e w5 ⟨rfl,fv,h2,h3⟩;replace BW:=BW.trans h2;replace OW:=OW.trans h3
   have WR:Wr B g w0 (P++ [aV [eG,ik it.id,Lib.itoa it.bj,dM it.kind]]++ [aV [cC,it.code.data.toList]]++ [aV [dw,Lib.itoa it.aP]]++ [aV [fW,Lib.itoa it.words,Lib.itoa it.ay]]) (M+5001+5001+5001+5001) w5:=by have VL:=fv;rw[show List.map (fun x:ByteArray=>x.data.toList) [⟨#[116,105,109,101]⟩,ag (Lib.itoa it.words),ag (Lib.itoa it.ay)]=[fW,Lib.itoa it.words,Lib.itoa it.ay] from rfl] at VL;exact VL
   replace R3:=cL.row h3 R3 (Ne.symm mg) (by decide);refine hK _ _ ?_;clear hK fv h2 h3 NP fQ
   by_cases ot:it.bz=0
   ·by_cases nd:it.bB=0
    ·skip
     have vE:(it.bz !=0)=false:=by rw[ot];rfl
     have qN:Hid (ku it=[]):=by unfold Hid ku;rw[if_pos ot]
     have vF:(it.bB !=0)=false:=by rw[nd];rfl
     have qO:Hid (nL it=[]):=by unfold Hid nL;rw[if_pos nd]
     clear ot nd;have KY:=U (R3.cell 11);have c12:=U (R3.cell 12);have vU:=U (R3.cell 15)
     go_wp2_with fail
     replace WR:Wr B g w0 (P++ [aV [eG,ik it.id,Lib.itoa it.bj,dM it.kind]]++ [aV [cC,it.code.data.toList]]++ [aV [dw,Lib.itoa it.aP]]++ [aV [fW,Lib.itoa it.words,Lib.itoa it.ay]]++ku it) (M+5001+5001+5001+5001) w5:=by rw[qN.out,List.append_nil];exact WR
     replace WR:Wr B g w0 (P++ [aV [eG,ik it.id,Lib.itoa it.bj,dM it.kind]]++ [aV [cC,it.code.data.toList]]++ [aV [dw,Lib.itoa it.aP]]++ [aV [fW,Lib.itoa it.words,Lib.itoa it.ay]]++ku it++nL it) (M+5001+5001+5001+5001) w5:=by rw[qO.out,List.append_nil];exact WR
     clear KY c12 vU;clear qN qO vE vF;obtain⟨PP,DS⟩:∃PP,PP=P++ [aV [eG,ik it.id,Lib.itoa it.bj,dM it.kind]]++ [aV [cC,it.code.data.toList]]++ [aV [dw,Lib.itoa it.aP]]++ [aV [fW,Lib.itoa it.words,Lib.itoa it.ay]]++ku it++nL it:=⟨_,rfl⟩;rw[←DS] at WR;have Zy:=Lib.hid DS;clear DS;obtain⟨Cx,DP⟩:∃Cx:List Value,Cx=[.int .i64 it.id,.int .i64 it.bj,.int .i64 it.kind,.string it.aW,.slice Ao it.opts.length co,vc,.int .i64 it.value,.int .i64 it.de,vt,.int .i64 it.aP,.string it.code,.int .i64 it.bz,.int .i64 it.bB,.int .i64 it.words,.int .i64 it.ay,.slice Aa it.af.length ca,.int .i64 it.aH]:=⟨_,rfl⟩;rw[←DP] at R3;have Dl:=Lib.hid DP;clear DP;have hal:=HG.out.rn;have hol:=HG.out.xM
     go_loopw [75] (fun i wr=>∃(k:Nat),k≤it.af.length∧i=.int .i64 k∧Wr B g w0 (PP++iQ (it.af.take k)) (M+40000+k*5001) wr∧Below B w wr∧cL g w wr∧Row wr g3 47 Cx) (fun i _=>it.af.length - (intOf i).toNat)
     case atStart=>exact⟨0,Nat.zero_le _,rfl,by rw[List.take_zero];unfold iQ;rw[List.map_nil,List.append_nil];exact WR.mono (by omega),BW,OW,R3⟩
     case round=>
      clear WR BW OW R3;obtain⟨k,hk,rfl,WR,BW,OW,R3⟩:=hrel
      by_cases aS:k<it.af.length
      ·obtain⟨b,o,rfl,aO⟩:=has.2 (by omega);obtain⟨z,hz⟩:∃z,it.af[k]? =some z:=⟨_,List.getElem?_eq_getElem aS⟩;have lH:w0.cell? ⟨b,o+k,none⟩=some (.int .i64 z):=aO k _ (by rw[List.getElem?_map,hz];rfl);have rK:=kT HG.out.BQ z (List.mem_of_getElem? hz);have ck:=(WR.e_.cell (block_lt_of_cell lH)).trans lH
       have Cf:Hid (iQ (it.af.take (k+1))=iQ (it.af.take k)++ [aV [fc,Lib.itoa z]]):=by unfold Hid iQ;rw[List.take_add_one,hz,List.map_append];rfl
       clear lH aO hz
       go_wp2_with fail
       with_reducible refine(gS z _ (by omega) (by omega) (HT _ WR.e_)).mono ?_
       rintro e Ka ⟨rfl,ax⟩;replace BW:=BW.trans (ax.mono WR.size);replace WR:=WR.keep ax;replace OW:=OW.trans (cL.ab ax);replace R3:=R3.keep ax;clear ax;clear ck
       go_wp2_with fail
       have fM:List.map (fun x:ByteArray=>x.data.toList) [⟨#[97,115,115,101,116]⟩,ag (Lib.itoa z)]=[fc,Lib.itoa z]:=rfl;have fh:((#[.string ⟨#[97,115,115,101,116]⟩,.string (ag (Lib.itoa z))]:Array Value)).toList=List.map Value.string [⟨#[97,115,115,101,116]⟩,ag (Lib.itoa z)]:=rfl;have fQ:(aV [fc,Lib.itoa z]).length≤5000:=fo (by decide) (by have:=gN (n:=z) (by omega) (by omega);omega)
       with_reducible refine(dR B g w0 (PP++iQ (it.af.take k)) (M+40000+k*5001) 2 [⟨#[97,115,115,101,116]⟩,ag (Lib.itoa z)] _ fM #[.string ⟨#[97,115,115,101,116]⟩,.string (ag (Lib.itoa z))] Ka WR (by omega) rfl (List.cons_ne_nil _ _) fh (by decide) fQ).mono ?_
       rintro e Nz ⟨rfl,fv,h2,h3⟩;exact CY
      ·have HE:Hid (it.af.take k=it.af):=List.take_of_length_le (by omega)
       replace WR:Wr B g w0 (PP++iQ it.af) (M+80008) wr:=by rw[HE.out] at WR;exact WR.mono (by omega)
       clear HE;have tH:=R3;rw[Dl.out] at R3;have c3:=U (R3.cell 3);clear R3;have R3:=tH;clear tH;have bQ:=HG.out.AO.2;rw[bS] at bQ
       go_wp2_with fail
       with_reducible refine(lN it.aW _ (by omega)).mono ?_
       rintro e Ka ⟨rfl,ax⟩;replace BW:=BW.trans (ax.mono WR.size);replace WR:=WR.keep ax;replace OW:=OW.trans (cL.ab ax);replace R3:=R3.keep ax;clear ax;clear c3
       go_wp2_with fail
       have fM:List.map (fun x:ByteArray=>x.data.toList) [⟨#[115,116,101,109]⟩,ag (bV it.aW.data.toList)]=[lh,bV it.aW.data.toList]:=rfl;have fh:((#[.string ⟨#[115,116,101,109]⟩,.string (ag (bV it.aW.data.toList))]:Array Value)).toList=List.map Value.string [⟨#[115,116,101,109]⟩,ag (bV it.aW.data.toList)]:=rfl;have fQ:(aV [lh,bV it.aW.data.toList]).length≤5000:=fo (by decide) (by have:=jP it.aW.data.toList;rw[bS] at this;omega)
       with_reducible refine(dR B g w0 (PP++iQ it.af) (M+80008) 2 [⟨#[115,116,101,109]⟩,ag (bV it.aW.data.toList)] _ fM #[.string ⟨#[115,116,101,109]⟩,.string (ag (bV it.aW.data.toList))] Ka WR (by omega) rfl (List.cons_ne_nil _ _) fh (by decide) fQ).mono ?_
       rintro e Nz ⟨rfl,fv,h2,h3⟩;replace BW:=BW.trans h2;replace OW:=OW.trans h3;clear WR;have WR:=fv;replace R3:=cL.row h3 R3 (Ne.symm mg) (by decide);clear fv h2 h3;clear fM fh fQ;have tH:=R3;rw[Dl.out] at R3;have c4:=U (R3.cell 4);clear R3;have R3:=tH;clear tH
       go_wp2_with fail
       clear c4;obtain⟨PQ,ur⟩:∃PQ,PQ=PP++iQ it.af++ [aV [lh,bV it.aW.data.toList]]:=⟨_,rfl⟩;rw[←ur] at WR;have Zz:=Lib.hid ur;clear ur bQ
       go_loopw [94] (fun i wr=>∃(k:Nat),k≤it.opts.length∧i=.int .i64 k∧Wr B g w0 (PQ++iV (it.opts.take k)) (M+90000+k*5001) wr∧Below B w wr∧cL g w wr∧Row wr g3 47 Cx) (fun i _=>it.opts.length - (intOf i).toNat)
       case atStart=>exact⟨0,Nat.zero_le _,rfl,by rw[List.take_zero];unfold iV;rw[List.map_nil,List.append_nil];exact WR.mono (by omega),BW,OW,R3⟩
       case round=>
        clear WR BW OW R3;obtain⟨k,hk,rfl,WR,BW,OW,R3⟩:=hrel
        by_cases aS:k<it.opts.length
        ·obtain⟨b,o,rfl,aO⟩:=hos.2 (by omega);obtain⟨t,hz⟩:∃t,it.opts[k]? =some t:=⟨_,List.getElem?_eq_getElem aS⟩;have lH:w0.cell? ⟨b,o+k,none⟩=some (.string t):=aO k _ (by rw[List.getElem?_map,hz];rfl);have rK:=(kG (HG.out.opts t (List.mem_of_getElem? hz))).2;rw[bS] at rK;have ck:=(WR.e_.cell (block_lt_of_cell lH)).trans lH
         have Cf:Hid (iV (it.opts.take (k+1))=iV (it.opts.take k)++ [aV [eh,bV t.data.toList]]):=by unfold Hid iV;rw[List.take_add_one,hz,List.map_append];rfl
         clear lH aO hz
         go_wp2_with fail
         with_reducible refine(lN t _ (by omega)).mono ?_
         rintro e Kb ⟨rfl,ax⟩;replace BW:=BW.trans (ax.mono WR.size);replace WR:=WR.keep ax;replace OW:=OW.trans (cL.ab ax);replace R3:=R3.keep ax;clear ax;clear ck
         go_wp2_with fail
         have fM:List.map (fun x:ByteArray=>x.data.toList) [⟨#[111,112,116,105,111,110]⟩,ag (bV t.data.toList)]=[eh,bV t.data.toList]:=rfl;have fh:((#[.string ⟨#[111,112,116,105,111,110]⟩,.string (ag (bV t.data.toList))]:Array Value)).toList=List.map Value.string [⟨#[111,112,116,105,111,110]⟩,ag (bV t.data.toList)]:=rfl;have fQ:(aV [eh,bV t.data.toList]).length≤5000:=fo (by decide) (by have:=jP t.data.toList;rw[bS] at this;omega)
         with_reducible refine(dR B g w0 (PQ++iV (it.opts.take k)) (M+90000+k*5001) 2 [⟨#[111,112,116,105,111,110]⟩,ag (bV t.data.toList)] _ fM #[.string ⟨#[111,112,116,105,111,110]⟩,.string (ag (bV t.data.toList))] Kb WR (by omega) rfl (List.cons_ne_nil _ _) fh (by decide) fQ).mono ?_
         rintro e Zq ⟨rfl,fv,h2,h3⟩;exact CY
        ·have HE:Hid (it.opts.take k=it.opts):=List.take_of_length_le (by omega)
         replace WR:Wr B g w0 (PQ++iV it.opts) (M+140010) wr:=by rw[HE.out] at WR;exact WR.mono (by omega)
         clear HE;rw[Dl.out] at R3;have aL:=trivial
         go_wp2_with (first|(clear aL;(with_reducible refine ak ?_ aU R3 rfl ?_);rfl;have aJ:=trivial))
         try clear aJ
         with_reducible refine(q9 B g w0 (PQ++iV it.opts) (M+140010) _ it _ WR (by omega) HRI.out HG.out Kk.out).mono ?_
         rintro e Kb ⟨rfl,fv,h2,h3⟩;replace BW:=BW.trans h2;replace OW:=OW.trans h3;clear WR;have WR:=fv;replace R3:=cL.row h3 R3 (Ne.symm mg) (by decide);clear fv h2 h3
         go_wp2_with fail
         have fM:List.map (fun x:ByteArray=>x.data.toList) [⟨#[101,110,100]⟩]=[ki]:=rfl;have fh:((#[.string ⟨#[101,110,100]⟩]:Array Value)).toList=List.map Value.string [⟨#[101,110,100]⟩]:=rfl
         have fQ:(aV [ki]).length≤5000:=by rw[iF];decide
         with_reducible refine(dR B g w0 (PQ++iV it.opts++cF it) (M+140010+60000) 1 [⟨#[101,110,100]⟩] _ fM #[.string ⟨#[101,110,100]⟩] Kb WR (by omega) rfl (List.cons_ne_nil _ _) fh (by decide) fQ).mono ?_
         rintro e Zq ⟨rfl,fv,h2,h3⟩;exact QV
    ·skip
     have vE:(it.bz !=0)=false:=by rw[ot];rfl
     have qN:Hid (ku it=[]):=by unfold Hid ku;rw[if_pos ot]
     have vF:(it.bB !=0)=true:=bne_iff_ne.2 nd
     have qO:Hid (nL it=[aV [ma,Lib.itoa it.bB]]):=by unfold Hid nL;rw[if_neg nd]
     clear ot nd;have KY:=U (R3.cell 11);have c12:=U (R3.cell 12);have vU:=U (R3.cell 15)
     go_wp2_with fail
     replace WR:Wr B g w0 (P++ [aV [eG,ik it.id,Lib.itoa it.bj,dM it.kind]]++ [aV [cC,it.code.data.toList]]++ [aV [dw,Lib.itoa it.aP]]++ [aV [fW,Lib.itoa it.words,Lib.itoa it.ay]]++ku it) (M+5001+5001+5001+5001) w5:=by rw[qN.out,List.append_nil];exact WR
     with_reducible refine(gS it.bB _ (by have:=HG.out.bB;omega) (by have:=HG.out.bB;omega) (HT _ WR.e_)).mono ?_
     rintro e Ka ⟨rfl,ax⟩;replace BW:=BW.trans (ax.mono WR.size);replace WR:=WR.keep ax;replace OW:=OW.trans (cL.ab ax);replace R3:=R3.keep ax;clear ax;clear KY c12 vU
     go_wp2_with fail
     have fM:List.map (fun x:ByteArray=>x.data.toList) [⟨#[115,101,116]⟩,ag (Lib.itoa it.bB)]=[ma,Lib.itoa it.bB]:=rfl;have fh:((#[.string ⟨#[115,101,116]⟩,.string (ag (Lib.itoa it.bB))]:Array Value)).toList=List.map Value.string [⟨#[115,101,116]⟩,ag (Lib.itoa it.bB)]:=rfl;have fQ:(aV [ma,Lib.itoa it.bB]).length≤5000:=fo (by decide) (by have:=gN (n:=it.bB) (by have:=HG.out.bB;omega) (by have:=HG.out.bB;omega);omega)
     with_reducible refine(dR B g w0 (P++ [aV [eG,ik it.id,Lib.itoa it.bj,dM it.kind]]++ [aV [cC,it.code.data.toList]]++ [aV [dw,Lib.itoa it.aP]]++ [aV [fW,Lib.itoa it.words,Lib.itoa it.ay]]++ku it) (M+5001+5001+5001+5001) 2 [⟨#[115,101,116]⟩,ag (Lib.itoa it.bB)] _ fM #[.string ⟨#[115,101,116]⟩,.string (ag (Lib.itoa it.bB))] Ka WR (by omega) rfl (List.cons_ne_nil _ _) fh (by decide) fQ).mono ?_
     rintro e Nz ⟨rfl,fv,h2,h3⟩;replace BW:=BW.trans h2;replace OW:=OW.trans h3;clear WR;have WR:=fv;replace R3:=cL.row h3 R3 (Ne.symm mg) (by decide);clear fv h2 h3;clear fM fh fQ
     replace WR:Wr B g w0 (P++ [aV [eG,ik it.id,Lib.itoa it.bj,dM it.kind]]++ [aV [cC,it.code.data.toList]]++ [aV [dw,Lib.itoa it.aP]]++ [aV [fW,Lib.itoa it.words,Lib.itoa it.ay]]++ku it++nL it) (M+5001+5001+5001+5001+5001) Nz:=by rw[qO.out];exact WR
     have vU:=U (R3.cell 15)
     go_wp2_with fail
     clear vU;exact QU
   ·by_cases nd:it.bB=0
    ·skip
     have vE:(it.bz !=0)=true:=bne_iff_ne.2 ot
     have qN:Hid (ku it=[aV [fV,Lib.itoa it.bz]]):=by unfold Hid ku;rw[if_neg ot]
     have vF:(it.bB !=0)=false:=by rw[nd];rfl
     have qO:Hid (nL it=[]):=by unfold Hid nL;rw[if_pos nd]
     clear ot nd;have KY:=U (R3.cell 11);have c12:=U (R3.cell 12);have vU:=U (R3.cell 15)
     go_wp2_with fail
     with_reducible refine(gS it.bz _ (by have:=HG.out.bz;omega) (by have:=HG.out.bz;omega) (HT _ WR.e_)).mono ?_
     rintro e Ka ⟨rfl,ax⟩;replace BW:=BW.trans (ax.mono WR.size);replace WR:=WR.keep ax;replace OW:=OW.trans (cL.ab ax);replace R3:=R3.keep ax;clear ax;clear KY c12 vU
     go_wp2_with fail
     have fM:List.map (fun x:ByteArray=>x.data.toList) [⟨#[102,97,109,105,108,121]⟩,ag (Lib.itoa it.bz)]=[fV,Lib.itoa it.bz]:=rfl;have fh:((#[.string ⟨#[102,97,109,105,108,121]⟩,.string (ag (Lib.itoa it.bz))]:Array Value)).toList=List.map Value.string [⟨#[102,97,109,105,108,121]⟩,ag (Lib.itoa it.bz)]:=rfl;have fQ:(aV [fV,Lib.itoa it.bz]).length≤5000:=fo (by decide) (by have:=gN (n:=it.bz) (by have:=HG.out.bz;omega) (by have:=HG.out.bz;omega);omega)
     with_reducible refine(dR B g w0 (P++ [aV [eG,ik it.id,Lib.itoa it.bj,dM it.kind]]++ [aV [cC,it.code.data.toList]]++ [aV [dw,Lib.itoa it.aP]]++ [aV [fW,Lib.itoa it.words,Lib.itoa it.ay]]) (M+5001+5001+5001+5001) 2 [⟨#[102,97,109,105,108,121]⟩,ag (Lib.itoa it.bz)] _ fM #[.string ⟨#[102,97,109,105,108,121]⟩,.string (ag (Lib.itoa it.bz))] Ka WR (by omega) rfl (List.cons_ne_nil _ _) fh (by decide) fQ).mono ?_
     rintro e Nz ⟨rfl,fv,h2,h3⟩;replace BW:=BW.trans h2;replace OW:=OW.trans h3;clear WR;have WR:=fv;replace R3:=cL.row h3 R3 (Ne.symm mg) (by decide);clear fv h2 h3;clear fM fh fQ
     replace WR:Wr B g w0 (P++ [aV [eG,ik it.id,Lib.itoa it.bj,dM it.kind]]++ [aV [cC,it.code.data.toList]]++ [aV [dw,Lib.itoa it.aP]]++ [aV [fW,Lib.itoa it.words,Lib.itoa it.ay]]++ku it) (M+5001+5001+5001+5001+5001) Nz:=by rw[qN.out];exact WR
     have c12:=U (R3.cell 12);have vU:=U (R3.cell 15)
     go_wp2_with fail
     replace WR:Wr B g w0 (P++ [aV [eG,ik it.id,Lib.itoa it.bj,dM it.kind]]++ [aV [cC,it.code.data.toList]]++ [aV [dw,Lib.itoa it.aP]]++ [aV [fW,Lib.itoa it.words,Lib.itoa it.ay]]++ku it++nL it) (M+5001+5001+5001+5001+5001) Nz:=by rw[qO.out,List.append_nil];exact WR
     clear c12 vU;exact QU
    ·skip
     have vE:(it.bz !=0)=true:=bne_iff_ne.2 ot
     have qN:Hid (ku it=[aV [fV,Lib.itoa it.bz]]):=by unfold Hid ku;rw[if_neg ot]
     have vF:(it.bB !=0)=true:=bne_iff_ne.2 nd
     have qO:Hid (nL it=[aV [ma,Lib.itoa it.bB]]):=by unfold Hid nL;rw[if_neg nd]
     clear ot nd;have KY:=U (R3.cell 11);have c12:=U (R3.cell 12);have vU:=U (R3.cell 15)
     go_wp2_with fail
     with_reducible refine(gS it.bz _ (by have:=HG.out.bz;omega) (by have:=HG.out.bz;omega) (HT _ WR.e_)).mono ?_
     rintro e Ka ⟨rfl,ax⟩;replace BW:=BW.trans (ax.mono WR.size);replace WR:=WR.keep ax;replace OW:=OW.trans (cL.ab ax);replace R3:=R3.keep ax;clear ax;clear KY c12 vU
     go_wp2_with fail
     have fM:List.map (fun x:ByteArray=>x.data.toList) [⟨#[102,97,109,105,108,121]⟩,ag (Lib.itoa it.bz)]=[fV,Lib.itoa it.bz]:=rfl;have fh:((#[.string ⟨#[102,97,109,105,108,121]⟩,.string (ag (Lib.itoa it.bz))]:Array Value)).toList=List.map Value.string [⟨#[102,97,109,105,108,121]⟩,ag (Lib.itoa it.bz)]:=rfl;have fQ:(aV [fV,Lib.itoa it.bz]).length≤5000:=fo (by decide) (by have:=gN (n:=it.bz) (by have:=HG.out.bz;omega) (by have:=HG.out.bz;omega);omega)
     with_reducible refine(dR B g w0 (P++ [aV [eG,ik it.id,Lib.itoa it.bj,dM it.kind]]++ [aV [cC,it.code.data.toList]]++ [aV [dw,Lib.itoa it.aP]]++ [aV [fW,Lib.itoa it.words,Lib.itoa it.ay]]) (M+5001+5001+5001+5001) 2 [⟨#[102,97,109,105,108,121]⟩,ag (Lib.itoa it.bz)] _ fM #[.string ⟨#[102,97,109,105,108,121]⟩,.string (ag (Lib.itoa it.bz))] Ka WR (by omega) rfl (List.cons_ne_nil _ _) fh (by decide) fQ).mono ?_
     rintro e Nz ⟨rfl,fv,h2,h3⟩;replace BW:=BW.trans h2;replace OW:=OW.trans h3;clear WR;have WR:=fv;replace R3:=cL.row h3 R3 (Ne.symm mg) (by decide);clear fv h2 h3;clear fM fh fQ
     replace WR:Wr B g w0 (P++ [aV [eG,ik it.id,Lib.itoa it.bj,dM it.kind]]++ [aV [cC,it.code.data.toList]]++ [aV [dw,Lib.itoa it.aP]]++ [aV [fW,Lib.itoa it.words,Lib.itoa it.ay]]++ku it) (M+5001+5001+5001+5001+5001) Nz:=by rw[qN.out];exact WR
     have c12:=U (R3.cell 12);have vU:=U (R3.cell 15)
     go_wp2_with fail
     with_reducible refine(gS it.bB _ (by have:=HG.out.bB;omega) (by have:=HG.out.bB;omega) (HT _ WR.e_)).mono ?_
     rintro e Kb ⟨rfl,ax⟩;replace BW:=BW.trans (ax.mono WR.size);replace WR:=WR.keep ax;replace OW:=OW.trans (cL.ab ax);replace R3:=R3.keep ax;clear ax;clear c12 vU
     go_wp2_with fail
     have fM:List.map (fun x:ByteArray=>x.data.toList) [⟨#[115,101,116]⟩,ag (Lib.itoa it.bB)]=[ma,Lib.itoa it.bB]:=rfl;have fh:((#[.string ⟨#[115,101,116]⟩,.string (ag (Lib.itoa it.bB))]:Array Value)).toList=List.map Value.string [⟨#[115,101,116]⟩,ag (Lib.itoa it.bB)]:=rfl;have fQ:(aV [ma,Lib.itoa it.bB]).length≤5000:=fo (by decide) (by have:=gN (n:=it.bB) (by have:=HG.out.bB;omega) (by have:=HG.out.bB;omega);omega)
     with_reducible refine(dR B g w0 (P++ [aV [eG,ik it.id,Lib.itoa it.bj,dM it.kind]]++ [aV [cC,it.code.data.toList]]++ [aV [dw,Lib.itoa it.aP]]++ [aV [fW,Lib.itoa it.words,Lib.itoa it.ay]]++ku it) (M+5001+5001+5001+5001+5001) 2 [⟨#[115,101,116]⟩,ag (Lib.itoa it.bB)] _ fM #[.string ⟨#[115,101,116]⟩,.string (ag (Lib.itoa it.bB))] Kb WR (by omega) rfl (List.cons_ne_nil _ _) fh (by decide) fQ).mono ?_
     rintro e Zq ⟨rfl,fv,h2,h3⟩;replace BW:=BW.trans h2;replace OW:=OW.trans h3;clear WR;have WR:=fv;replace R3:=cL.row h3 R3 (Ne.symm mg) (by decide);clear fv h2 h3;clear fM fh fQ
     replace WR:Wr B g w0 (P++ [aV [eG,ik it.id,Lib.itoa it.bj,dM it.kind]]++ [aV [cC,it.code.data.toList]]++ [aV [dw,Lib.itoa it.aP]]++ [aV [fW,Lib.itoa it.words,Lib.itoa it.ay]]++ku it++nL it) (M+5001+5001+5001+5001+5001+5001) Zq:=by rw[qO.out];exact WR
     have vU:=U (R3.cell 15)
     go_wp2_with fail
     clear vU;clear qN qO vE vF;obtain⟨PP,DS⟩:∃PP,PP=P++ [aV [eG,ik it.id,Lib.itoa it.bj,dM it.kind]]++ [aV [cC,it.code.data.toList]]++ [aV [dw,Lib.itoa it.aP]]++ [aV [fW,Lib.itoa it.words,Lib.itoa it.ay]]++ku it++nL it:=⟨_,rfl⟩;rw[←DS] at WR;have Zy:=Lib.hid DS;clear DS;obtain⟨Cx,DP⟩:∃Cx:List Value,Cx=[.int .i64 it.id,.int .i64 it.bj,.int .i64 it.kind,.string it.aW,.slice Ao it.opts.length co,vc,.int .i64 it.value,.int .i64 it.de,vt,.int .i64 it.aP,.string it.code,.int .i64 it.bz,.int .i64 it.bB,.int .i64 it.words,.int .i64 it.ay,.slice Aa it.af.length ca,.int .i64 it.aH]:=⟨_,rfl⟩;rw[←DP] at R3;have Dl:=Lib.hid DP;clear DP;have hal:=HG.out.rn;have hol:=HG.out.xM
     go_loopw [75] (fun i wr=>∃(k:Nat),k≤it.af.length∧i=.int .i64 k∧Wr B g w0 (PP++iQ (it.af.take k)) (M+40000+k*5001) wr∧Below B w wr∧cL g w wr∧Row wr g3 47 Cx) (fun i _=>it.af.length - (intOf i).toNat)
     case atStart=>exact⟨0,Nat.zero_le _,rfl,by rw[List.take_zero];unfold iQ;rw[List.map_nil,List.append_nil];exact WR.mono (by omega),BW,OW,R3⟩
     case round=>
      clear WR BW OW R3;obtain⟨k,hk,rfl,WR,BW,OW,R3⟩:=hrel
      by_cases aS:k<it.af.length
      ·obtain⟨b,o,rfl,aO⟩:=has.2 (by omega);obtain⟨z,hz⟩:∃z,it.af[k]? =some z:=⟨_,List.getElem?_eq_getElem aS⟩;have lH:w0.cell? ⟨b,o+k,none⟩=some (.int .i64 z):=aO k _ (by rw[List.getElem?_map,hz];rfl);have rK:=kT HG.out.BQ z (List.mem_of_getElem? hz);have ck:=(WR.e_.cell (block_lt_of_cell lH)).trans lH
       have Cf:Hid (iQ (it.af.take (k+1))=iQ (it.af.take k)++ [aV [fc,Lib.itoa z]]):=by unfold Hid iQ;rw[List.take_add_one,hz,List.map_append];rfl
       clear lH aO hz
       go_wp2_with fail
       with_reducible refine(gS z _ (by omega) (by omega) (HT _ WR.e_)).mono ?_
       rintro e Qx ⟨rfl,ax⟩;replace BW:=BW.trans (ax.mono WR.size);replace WR:=WR.keep ax;replace OW:=OW.trans (cL.ab ax);replace R3:=R3.keep ax;clear ax;clear ck
       go_wp2_with fail
       have fM:List.map (fun x:ByteArray=>x.data.toList) [⟨#[97,115,115,101,116]⟩,ag (Lib.itoa z)]=[fc,Lib.itoa z]:=rfl;have fh:((#[.string ⟨#[97,115,115,101,116]⟩,.string (ag (Lib.itoa z))]:Array Value)).toList=List.map Value.string [⟨#[97,115,115,101,116]⟩,ag (Lib.itoa z)]:=rfl;have fQ:(aV [fc,Lib.itoa z]).length≤5000:=fo (by decide) (by have:=gN (n:=z) (by omega) (by omega);omega)
       with_reducible refine(dR B g w0 (PP++iQ (it.af.take k)) (M+40000+k*5001) 2 [⟨#[97,115,115,101,116]⟩,ag (Lib.itoa z)] _ fM #[.string ⟨#[97,115,115,101,116]⟩,.string (ag (Lib.itoa z))] Qx WR (by omega) rfl (List.cons_ne_nil _ _) fh (by decide) fQ).mono ?_
       rintro e Zo ⟨rfl,fv,h2,h3⟩;exact CY
      ·have HE:Hid (it.af.take k=it.af):=List.take_of_length_le (by omega)
       replace WR:Wr B g w0 (PP++iQ it.af) (M+80008) wr:=by rw[HE.out] at WR;exact WR.mono (by omega)
       clear HE;have tH:=R3;rw[Dl.out] at R3;have c3:=U (R3.cell 3);clear R3;have R3:=tH;clear tH;have bQ:=HG.out.AO.2;rw[bS] at bQ
       go_wp2_with fail
       with_reducible refine(lN it.aW _ (by omega)).mono ?_
       rintro e Qx ⟨rfl,ax⟩;replace BW:=BW.trans (ax.mono WR.size);replace WR:=WR.keep ax;replace OW:=OW.trans (cL.ab ax);replace R3:=R3.keep ax;clear ax;clear c3
       go_wp2_with fail
       have fM:List.map (fun x:ByteArray=>x.data.toList) [⟨#[115,116,101,109]⟩,ag (bV it.aW.data.toList)]=[lh,bV it.aW.data.toList]:=rfl;have fh:((#[.string ⟨#[115,116,101,109]⟩,.string (ag (bV it.aW.data.toList))]:Array Value)).toList=List.map Value.string [⟨#[115,116,101,109]⟩,ag (bV it.aW.data.toList)]:=rfl;have fQ:(aV [lh,bV it.aW.data.toList]).length≤5000:=fo (by decide) (by have:=jP it.aW.data.toList;rw[bS] at this;omega)
       with_reducible refine(dR B g w0 (PP++iQ it.af) (M+80008) 2 [⟨#[115,116,101,109]⟩,ag (bV it.aW.data.toList)] _ fM #[.string ⟨#[115,116,101,109]⟩,.string (ag (bV it.aW.data.toList))] Qx WR (by omega) rfl (List.cons_ne_nil _ _) fh (by decide) fQ).mono ?_
       rintro e Zo ⟨rfl,fv,h2,h3⟩;replace BW:=BW.trans h2;replace OW:=OW.trans h3;clear WR;have WR:=fv;replace R3:=cL.row h3 R3 (Ne.symm mg) (by decide);clear fv h2 h3;clear fM fh fQ;have tH:=R3;rw[Dl.out] at R3;have c4:=U (R3.cell 4);clear R3;have R3:=tH;clear tH
       go_wp2_with fail
       clear c4;obtain⟨PQ,ur⟩:∃PQ,PQ=PP++iQ it.af++ [aV [lh,bV it.aW.data.toList]]:=⟨_,rfl⟩;rw[←ur] at WR;have Zz:=Lib.hid ur;clear ur bQ
       go_loopw [94] (fun i wr=>∃(k:Nat),k≤it.opts.length∧i=.int .i64 k∧Wr B g w0 (PQ++iV (it.opts.take k)) (M+90000+k*5001) wr∧Below B w wr∧cL g w wr∧Row wr g3 47 Cx) (fun i _=>it.opts.length - (intOf i).toNat)
       case atStart=>exact⟨0,Nat.zero_le _,rfl,by rw[List.take_zero];unfold iV;rw[List.map_nil,List.append_nil];exact WR.mono (by omega),BW,OW,R3⟩
       case round=>
        clear WR BW OW R3;obtain⟨k,hk,rfl,WR,BW,OW,R3⟩:=hrel
        by_cases aS:k<it.opts.length
        ·obtain⟨b,o,rfl,aO⟩:=hos.2 (by omega);obtain⟨t,hz⟩:∃t,it.opts[k]? =some t:=⟨_,List.getElem?_eq_getElem aS⟩;have lH:w0.cell? ⟨b,o+k,none⟩=some (.string t):=aO k _ (by rw[List.getElem?_map,hz];rfl);have rK:=(kG (HG.out.opts t (List.mem_of_getElem? hz))).2;rw[bS] at rK;have ck:=(WR.e_.cell (block_lt_of_cell lH)).trans lH
         have Cf:Hid (iV (it.opts.take (k+1))=iV (it.opts.take k)++ [aV [eh,bV t.data.toList]]):=by unfold Hid iV;rw[List.take_add_one,hz,List.map_append];rfl
         clear lH aO hz
         go_wp2_with fail
         with_reducible refine(lN t _ (by omega)).mono ?_
         rintro e Zp ⟨rfl,ax⟩;replace BW:=BW.trans (ax.mono WR.size);replace WR:=WR.keep ax;replace OW:=OW.trans (cL.ab ax);replace R3:=R3.keep ax;clear ax;clear ck
         go_wp2_with fail
         have fM:List.map (fun x:ByteArray=>x.data.toList) [⟨#[111,112,116,105,111,110]⟩,ag (bV t.data.toList)]=[eh,bV t.data.toList]:=rfl;have fh:((#[.string ⟨#[111,112,116,105,111,110]⟩,.string (ag (bV t.data.toList))]:Array Value)).toList=List.map Value.string [⟨#[111,112,116,105,111,110]⟩,ag (bV t.data.toList)]:=rfl;have fQ:(aV [eh,bV t.data.toList]).length≤5000:=fo (by decide) (by have:=jP t.data.toList;rw[bS] at this;omega)
         with_reducible refine(dR B g w0 (PQ++iV (it.opts.take k)) (M+90000+k*5001) 2 [⟨#[111,112,116,105,111,110]⟩,ag (bV t.data.toList)] _ fM #[.string ⟨#[111,112,116,105,111,110]⟩,.string (ag (bV t.data.toList))] Zp WR (by omega) rfl (List.cons_ne_nil _ _) fh (by decide) fQ).mono ?_
         rintro e aem ⟨rfl,fv,h2,h3⟩;exact CY
        ·have HE:Hid (it.opts.take k=it.opts):=List.take_of_length_le (by omega)
         replace WR:Wr B g w0 (PQ++iV it.opts) (M+140010) wr:=by rw[HE.out] at WR;exact WR.mono (by omega)
         clear HE;rw[Dl.out] at R3;have aL:=trivial
         go_wp2_with (first|(clear aL;(with_reducible refine ak ?_ aU R3 rfl ?_);rfl;have aJ:=trivial))
         try clear aJ
         with_reducible refine(q9 B g w0 (PQ++iV it.opts) (M+140010) _ it _ WR (by omega) HRI.out HG.out Kk.out).mono ?_
         rintro e Zp ⟨rfl,fv,h2,h3⟩;replace BW:=BW.trans h2;replace OW:=OW.trans h3;clear WR;have WR:=fv;replace R3:=cL.row h3 R3 (Ne.symm mg) (by decide);clear fv h2 h3
         go_wp2_with fail
         have fM:List.map (fun x:ByteArray=>x.data.toList) [⟨#[101,110,100]⟩]=[ki]:=rfl;have fh:((#[.string ⟨#[101,110,100]⟩]:Array Value)).toList=List.map Value.string [⟨#[101,110,100]⟩]:=rfl
         have fQ:(aV [ki]).length≤5000:=by rw[iF];decide
         with_reducible refine(dR B g w0 (PQ++iV it.opts++cF it) (M+140010+60000) 1 [⟨#[101,110,100]⟩] _ fM #[.string ⟨#[101,110,100]⟩] Zp WR (by omega) rfl (List.cons_ne_nil _ _) fh (by decide) fQ).mono ?_
         rintro e aem ⟨rfl,fv,h2,h3⟩;exact QV
end
end Go.Proofs.YtdnpopjabpklnaaGreatDoor
