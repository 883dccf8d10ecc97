/- Contracts and plain laws that the proof of the top laws uses (G19). No condition beyond those stated. -/
import Derived.Test.YtdnpopjabpklnaaGreatDoorG18
import Derived.Test.YtdnpopjabpklnaaGreatDoorExD
set_option maxRecDepth 100000
set_option maxHeartbeats 64000000
set_option linter.all false
namespace Go.Proofs.YtdnpopjabpklnaaGreatDoor
section
open Go.RowKit
def bA:ByteArray:=⟨#[65]⟩
def CM:aA:=⟨5,1,1,⟨#[79,110,101,32,97,110,100,32,111,110,101,63]⟩,[⟨#[50]⟩,⟨#[51]⟩],[0],0,0,[],1,bA,0,0,0,60,[],0⟩
def itN:aA:=⟨0,0,0,cw,[],[],0,0,[],0,cw,0,0,0,0,[],0⟩
def K5:eH:=⟨1,1,16,0,0,0,0,itN,⟨bA,bA⟩,⟨0,0,cw,0,0⟩,[]⟩
def K8:eH:=⟨3,1,1,0,0,0,0,CM,⟨cw,cw⟩,⟨0,0,cw,0,0⟩,[]⟩
theorem GK:fb CM=0:=by decide+kernel
theorem abU:lR K5:=⟨⟨by decide,by decide,by decide,by decide⟩,⟨by decide,by decide,by decide,by decide⟩,by decide,by decide,by decide,by decide⟩
theorem abV:lR K8:=⟨⟨by decide,by decide,by decide,by decide⟩,⟨by decide,by decide,by decide,by decide⟩,by decide,by decide,by decide,by decide⟩
theorem VW:jU [0] [1]=0:=by decide+kernel
theorem VV {b:cK} (h:tE (ME [0] [1]) [K5,K8] b):b.entries=[lu CM 1]:=by
 obtain⟨b1,h1,b2,h2,e⟩:=h;have e:b=b2:=e;subst e
 rcases h1 with ⟨_,xn⟩|⟨b3,_,hX,rfl⟩
 ·exact absurd ⟨by decide,Or.inl ⟨rfl,by decide+kernel,rfl,by decide+kernel,by decide+kernel,by decide⟩⟩ xn
 ·have e3:=hX.1 rfl rfl;subst e3
  rcases h2 with ⟨_,xn⟩|⟨b4,_,jV,rfl⟩
  ·exact absurd ⟨by decide,Or.inr ⟨rfl,by decide+kernel,GK,rfl,rfl,by decide+kernel,rfl⟩⟩ xn
  ·have e4:=jV.2 rfl rfl;subst e4;rfl
theorem ZQ:kJ (([lu CM 1].filter fun e=>eN e.state (.state dK)).map du)=[5]:=by decide+kernel
end
section
open Go.RowKit
open Tryz
def ib (w:World) (A:Option Addr) (n:Nat) (bY:List aA):Prop:=∃Ds:List (List Value),Ds.length=n∧bY.length=n∧dF w A n 17 Ds.flatten∧∀(i:Nat) (D:List Value) (it:aA),Ds[i]? =some D→bY[i]? =some it→dO w D it
theorem ib.at_ {w:World} {A:Option Addr} {n:Nat} {bY:List aA} (h:ib w A n bY) {i:Nat} {it:aA} (hc:bY[i]? =some it):∃b o D,A=some ⟨b,o,none⟩∧i<n∧Cl w b (o+i*17) D∧D.length=17∧dO w D it:=by
 obtain⟨Ds,h1,h2,h3,h4⟩:=h
 have hi:i<n:=by have:=(List.getElem?_eq_some_iff.1 hc).1;omega
 obtain⟨b,o,e,aO⟩:=h3.2 (by omega);have hD:Ds[i]? =some (Ds[i]'(by omega)):=List.getElem?_eq_getElem _;have hR:=h4 i _ it hD hc
 have oh:∀C∈Ds,C.length=17:=fun C hC=>by
  obtain⟨j,hj,rfl⟩:=List.mem_iff_getElem.1 hC;exact(h4 j _ _ (List.getElem?_eq_getElem hj) (List.getElem?_eq_getElem (by omega))).len
 refine⟨b,o,Ds[i]'(by omega),e,hi,?_,hR.len,hR⟩;have:=aO.part (i*17) 17
 rwa [mr Ds i oh (by omega)] at this
theorem ib.len {w:World} {A:Option Addr} {n:Nat} {bY:List aA} (h:ib w A n bY):bY.length=n:=by obtain⟨_,_,h,_⟩:=h;exact h
theorem Good.ab3 {it:aA} (h:Good it):it.cA.length≤10:=by
 have:=h.kind
 by_cases h3:it.kind≤3
 ·exact(h.Ad h3).2.1
 ·by_cases h4:it.kind=4
  ·rw[(h.YT h4).2.1];decide
  ·rw[(h.PK (by omega)).2.1];decide
theorem Good.short {it:aA} (h:Good it):jS it:=⟨by have:=h.xM;omega,by have:=h.ab3;omega,by have:=h.Dh;omega,by have:=h.rn;omega⟩
theorem Good.Qj {it:aA} (h:Good it):A7 it:=
 ⟨by have:=h.AO.2;rw[bS] at this;omega,by have:=GQ h;rw[bS] at this;omega,
 fun s hs=>by have:=(kG (h.opts s hs)).2;rw[bS] at this;omega,fun s hs=>by have:=(kG (h.texts s hs)).2;rw[bS] at this;omega⟩
def qP (w:World) (g n:Nat) (S:List Int):Prop:=∃D:DataW Unit,w.ownsMap prog 3 DA g n D∧∀z:Int,z∉S→D.atKey (.int .i64 z) (.lit (.bool false))=.lit (.bool false)
theorem aax (w:World):qP (w.alloc (.map #[] 0)) w.heap.size 0 []:=⟨_,World.ownsMap_made w _ _ _,fun _ _=>rfl⟩
theorem aaw {w:World} {g n:Nat} {S:List Int} {z:Int} (h:qP w g n S) (hz:1≤z∧z≤9999999) (hs:z∉S):(Instr.lookup 81 (.map (some g)) (.int .i64 z) false).run prog w=.ok (.bool false) w:=by
 obtain⟨D,h,hS⟩:=h;obtain⟨v,ps,hr,hv⟩:=h.lookup zc underlying81 (z:=.bool false) (by kernel_rfl) (zd:=.lit (.bool false)) (zp:=[]) rfl (Mn hz);obtain⟨b,rfl⟩:=wZ hv;rw[hS z hs] at hv
 have:b=false:=by
  simp only[DA,Option.some.injEq,Prod.mk.injEq] at hv;have h1:=hv.1
  cases b
  ·rfl
  ·cases h1
 rw[hr,this]
theorem aay {w:World} {g n:Nat} {S:List Int} {z:Int} (h:qP w g n S) (hn:n<maxLen) (hz:1≤z∧z≤9999999):
  ∃w',(Instr.mapUpdate 81 (.map (some g)) (.int .i64 z) (.bool true)).run prog w=.ok () w'∧qP w' g (n+1) (S++ [z])∧w.grownBy w' (some g):=by
 obtain⟨D,h,hS⟩:=h;obtain⟨w',hr,h2,h3⟩:=h.update zc underlying81 hn (Mn hz) (val:=.bool true) (d:=.lit (.bool true)) (ps:=[]) rfl;refine⟨w',hr,⟨_,h2,fun y hy=>?_⟩,h3⟩;rw[List.mem_append,List.mem_singleton,not_or] at hy;rw[Go.Maps.atKey_put_other (by intro e;injection e with _ e;exact hy.2 e)];exact hS y hy.1
theorem qP.below {w w':World} {g n:Nat} {S:List Int} (h:qP w g n S) (hb:Below w.heap.size w w'):qP w' g n S:=by
 obtain⟨D,h,hS⟩:=h;exact⟨D,h.kept (row:=none) (FN hb) (by simp),hS⟩
theorem qP.lt {w:World} {g n:Nat} {S:List Int} (h:qP w g n S):g<w.heap.size:=by
 obtain⟨D,h,_⟩:=h;exact h.lt
theorem Bb (w:World) (s:ByteArray):∃b c w',(convert 9 83 (.string s)).run prog w=.ok (.slice (some ⟨b,0,none⟩) s.size c) w'∧dF w' (some ⟨b,0,none⟩) s.size 1 (Lib.byteCells s.data.toList)∧Below w.heap.size w w':=by
 refine⟨_,_,_,run_bytes_of_string w _ _ 5 s underlying9 underlying83 underlying5,⟨by rw[Lib.byteCells_length,bS,Nat.mul_one],fun hn=>⟨_,_,rfl,fun j u hu=>?_⟩⟩,(Below.refl _ _).drew.trans ((ai _ _).mono (Nat.le_refl _))⟩
 have hj:j<s.size:=by
  have:=(List.getElem?_eq_some_iff.1 hu).1
  rwa [Lib.byteCells_length,bS] at this
 have e:u=.int .u8 (s[j].toNat:Int):=by
  rw[show(Lib.byteCells s.data.toList)[j]? =some (.int .u8 (s[j].toNat:Int)) by unfold Lib.byteCells;rw[List.getElem?_map,List.getElem?_eq_getElem (by rw[bS];exact hj)];rfl] at hu;exact(Option.some.inj hu).symm
 rw[Nat.zero_add,e];exact(World.cell?_alloc_mark _ _ _ _ _).trans (bytesRow_at s _ j hj)
def Es (l:List aA) (k:Nat):List Int:=(l.take k).map (·.id)
theorem T' (l:List aA) (k:Nat) (it:aA) (h:l[k]? =some it):Es l (k+1)=Es l k++ [it.id]:=by
 unfold Es;rw[List.take_add_one,h,List.map_append];rfl
theorem Me (l:List aA) (k:Nat) (it:aA) (h:l[k]? =some it) (hn:(l.map (·.id)).Nodup):it.id∉Es l k:=by
 unfold Es;obtain⟨hk,rfl⟩:=List.getElem?_eq_some_iff.1 h;intro hm;rw[List.mem_map] at hm;obtain⟨x,hx,e⟩:=hm;obtain⟨i,hi,rfl⟩:=List.mem_iff_getElem.1 hx;rw[List.length_take] at hi;rw[List.getElem_take] at e;have h1:=(List.pairwise_iff_getElem.1 hn) i k (by rw[List.length_map];omega) (by rw[List.length_map];omega) (by omega);rw[List.getElem_map,List.getElem_map] at h1;exact h1 e
def wY (l:List aA) (k:Nat):List (List UInt8):=[vS]++(l.take k).flatMap eu
theorem EX (l:List aA) (k:Nat) (it:aA) (h:l[k]? =some it):wY l (k+1)=wY l k++eu it:=by
 unfold wY;rw[List.take_add_one,h,List.flatMap_append]
 simp
theorem N2 {l:List aA} {k:Nat} (h:l.length≤k):wY l k=fT l:=by unfold wY fT;rw[List.take_of_length_le h];rfl
theorem Wr.below {B g M:Nat} {w0 w w':World} {P:List (List UInt8)} (h:Wr B g w0 P M w) (hb:Below w.heap.size w w'):Wr B g w0 P M w':=h.keep hb
theorem GL (B b:Nat) (l:List UInt8) (w:World) (h:iL B w b l) (hB:B≤w.heap.size):
  Calls prog 25 #[.pointer (some ⟨b,0,none⟩)] w fun e w'=>e=.returned (.string (ag l))∧iL B w' b l∧Below B w w'∧cL b w w':=yb B b l w h hB
theorem TQ (h:Nat) (w:World) (hh:h<18446744073709551616):
  Calls prog 23 #[.int .u64 (h:Int)] w fun e w'=>e=.returned (.string (ag (jg h)))∧Below w.heap.size w w':=W_ h w hh
theorem E7 (A:Option Addr) (n c:Nat) (bY:List aA) (w:World) (hI:ib w A n bY) (hv:∀it∈bY,fb it=0) (po:(bY.map (·.id)).Nodup) (TH:n≤50) (hm:jl w) (ht:Id.lk w) (hp:Id.lS w):
  Calls prog 7 #[.slice A n c] w fun e w'=>e=.returned (.tuple #[.string (ag (bf (gD bY))),.int .i64 0])∧Below w.heap.size w w':=by
 have Vl:=Lib.hid hI;have HV:=Lib.hid hv;have SQ:=Lib.hid po;have HN:=Lib.hid hI.len;clear hI hv po
 go_enter func7,ntmps7
 go_wp2_with fail
 go_loopw [15] (fun i wr=>∃(k:Nat),k≤n∧i=.int .i64 k∧Below w.heap.size w wr) (fun i _=>n - (intOf i).toNat)
 case atStart=>exact⟨0,Nat.zero_le _,rfl,Below.refl _ _⟩
 case round=>
  obtain⟨k,hk,rfl,BB⟩:=hrel
  by_cases aS:k<n
  ·skip
   obtain⟨it,hx⟩:∃it,bY[k]? =some it:=⟨_,List.getElem?_eq_getElem (by have:=HN.out;omega)⟩;obtain⟨bc,oc,D,hA,_,aO,sV,oI⟩:=Vl.out.at_ hx;subst hA;have sj:=HV.out it (List.mem_of_getElem? hx);have hG:=jH sj;have lX:=aO.below BB (aO.lt (by omega));have Cr:=oI.one
   have SZ:=fun W (hb:Below w.heap.size w W)=>sP D it W (oI.below hb) hG.short hG.Qj (hm.below hb)
   rw[sj] at SZ;clear aO oI hx sj hG;have aL:=trivial
   go_wp2_with (first
    |(clear cz;(with_reducible refine ak ?_ aU R5 sV ?_);rfl;have cY:=trivial)
    |(clear bC;(with_reducible refine av (C:=D) ?_ ?_ aU R5 sV Pf Cr ?_);rfl;rfl;clear R5;intro x2 R5 Px;have aF:=hx.trans (Px.below (Nat.le_of_eq aR));clear Px hx;have EO:w.heap.size≤g5:=(by have:=BB.size;omega);replace BB:=az BB aF;clear aF aR;have cz:=trivial)
    |(clear aJ;(with_reducible refine cR fY ?_);intro x1 g5 Z5 aR Pf R5 hx;have bC:=trivial)
    |(clear aL;(with_reducible refine cJ ?_ aU lX sV ?_);rfl;have aJ:=trivial))
   try clear cY
   refine(SZ _ BB).mono ?_;rintro r x3 ⟨rfl,bh⟩;replace R5:=R5.keep bh;replace BB:=az BB bh;clear bh
   go_wp2_with fail
   go_roundw
   case rel=>exact⟨k+1,by omega,by go_num,BB⟩
   case measure=>simp[intOf];omega
  ·skip
   have v_:=@run_makeMap prog;have M1:=aax wr;have B1:=BB.trans ((ai wr (.map #[] 0)).mono BB.size);have xi:=BB.size;clear BB
   go_wp2_with fail
   obtain⟨gm,TS⟩:∃gm,wr.heap.size=gm:=⟨_,rfl⟩;rw[TS] at M1 xi ⊢;generalize wr.alloc (.map #[] 0)=w1 at*;clear v_ TS
   go_loopw [26] (fun i wr=>∃(k:Nat),k≤n∧i=.int .i64 k∧qP wr gm k (Es bY k)∧Below w.heap.size w wr) (fun i _=>n - (intOf i).toNat)
   case atStart=>exact⟨0,Nat.zero_le _,rfl,M1,B1⟩
   case round=>
    clear M1 B1;obtain⟨k,hk,rfl,MX,BB⟩:=hrel
    by_cases aS:k<n
    ·skip
     obtain⟨it,hx⟩:∃it,bY[k]? =some it:=⟨_,List.getElem?_eq_getElem (by have:=HN.out;omega)⟩;obtain⟨bc,oc,D,hA,_,aO,sV,oI⟩:=Vl.out.at_ hx;subst hA;have sj:=HV.out it (List.mem_of_getElem? hx);have hG:=jH sj;have lX:=aO.below BB (aO.lt (by omega));have Cr:=oI.one;have W5:=(lL oI).1;have hz:=hG.id;have hni:=Me bY k it hx SQ.out;have NQ:=Lib.hid (T' bY k it hx);clear aO oI hx sj hG;have aL:=trivial
     go_wp2_with (first
      |(clear bC;(with_reducible refine av (C:=D) ?_ ?_ aU R8 sV Pf Cr ?_);rfl;rfl;clear R8;intro x22 R8 Px;have XZ:=hx.trans (Px.below (Nat.le_of_eq aa2));clear Px hx;have abM:w.heap.size≤g8:=(by have:=BB.size;omega);have aea:wr.heap.size≤g8:=(by omega);replace MX:=MX.below XZ;replace BB:=az BB XZ;have Ix:=ae R8 W5;clear XZ aa2;have cz:=trivial;have hlk:=aaw MX hz hni;obtain⟨w9,hup,MX9,rG⟩:=aay MX (by unfold maxLen;omega) hz)
      |(clear aJ;(with_reducible refine cR fY ?_);intro x21 g8 Z5 aa2 Pf R8 hx;have bC:=trivial)
      |(clear aL;(with_reducible refine cJ ?_ aU lX sV ?_);rfl;have aJ:=trivial))
     try clear cz
     have eU:Below w.heap.size x22 w9:=⟨rG.os,rG.tape,rG.output,rG.size,fun k hk=>rG.block k (by have:=BB.size;omega) (by intro e;injection e with e;omega)⟩
     go_roundw
     case rel=>exact⟨k+1,by omega,by go_num,by rw[NQ.out];exact MX9,BB.trans eU⟩
     case measure=>simp[intOf];omega
    ·skip
     clear MX;have abi:=iL.fresh wr;have hl:=ai wr (.cells #[.pointer none,.slice none 0 0] 85)
     have Wx:¬(200:Int)<(n:Int):=by omega
     go_wp2_with fail
     have WR:Wr wr.heap.size wr.heap.size w [] 20 (wr.alloc (.cells #[.pointer none,.slice none 0 0] 85)):=⟨abi,Nat.zero_le _,BB.size,hl.size,az BB hl⟩
     have cM:(wr.alloc (.cells #[.pointer none,.slice none 0 0] 85)).heap.size=wr.heap.size+1:=by simp
     rw[←cM];generalize wr.alloc (.cells #[.pointer none,.slice none 0 0] 85)=w1 at*;generalize wr.heap.size=B at*;clear abi hl cM BB;have fM:List.map (fun x:ByteArray=>x.data.toList) [⟨#[101,120,97,109,98,111,97,114,100,32,49]⟩]=[vS]:=rfl;have fh:((#[.string ⟨#[101,120,97,109,98,111,97,114,100,32,49]⟩]:Array Value)).toList=List.map Value.string [⟨#[101,120,97,109,98,111,97,114,100,32,49]⟩]:=rfl
     with_reducible refine(dR B B w [] 20 1 [⟨#[101,120,97,109,98,111,97,114,100,32,49]⟩] _ fM #[.string ⟨#[101,120,97,109,98,111,97,114,100,32,49]⟩] w1 WR (by omega) rfl (List.cons_ne_nil _ _) fh (by decide) (by rw[iF];decide)).mono ?_
     rintro e w2 ⟨rfl,fv,_,_⟩;clear WR fM fh;rw[iF] at fv
     go_wp2_with fail
     go_loopw [45] (fun i wr=>∃(k:Nat),k≤n∧i=.int .i64 k∧Wr B B w (wY bY k) (6000+k*300000) wr) (fun i _=>n - (intOf i).toNat)
     case atStart=>exact⟨0,Nat.zero_le _,rfl,fv.mono (by omega)⟩
     case round=>
      clear fv;obtain⟨k,hk,rfl,WR⟩:=hrel
      by_cases aS:k<n
      ·skip
       obtain⟨it,hx⟩:∃it,bY[k]? =some it:=⟨_,List.getElem?_eq_getElem (by have:=HN.out;omega)⟩;obtain⟨bc,oc,D,hA,_,aO,sV,oI⟩:=Vl.out.at_ hx;subst hA;have sj:=HV.out it (List.mem_of_getElem? hx);have hG:=jH sj;have BB:=WR.e_;have lX:=aO.below BB (aO.lt (by omega));have Cr:=oI.one;have NQ:=Lib.hid (EX bY k it hx);have HG:=Lib.hid hG;have HDR:=Lib.hid oI;clear aO oI hx sj hG;have aL:=trivial
       go_wp2_with (first
        |(clear cz;(with_reducible refine ak ?_ aU Ku sV ?_);rfl;have cY:=trivial)
        |(clear bC;(with_reducible refine av (C:=D) ?_ ?_ aU Ku sV Pf Cr ?_);rfl;rfl;clear Ku;intro x42 Ku Px;have X7:=hx.trans (Px.below (Nat.le_of_eq aa4));clear Px hx;have YR:w.heap.size≤g11:=(by have:=BB.size;omega);have acq:wr.heap.size≤g11:=(by omega);replace WR:=WR.below X7;replace BB:=az BB X7;clear X7 aa4;have cz:=trivial)
        |(clear aJ;(with_reducible refine cR fY ?_);intro x41 g11 Z5 aa4 Pf Ku hx;have bC:=trivial)
        |(clear aL;(with_reducible refine cJ ?_ aU lX sV ?_);rfl;have aJ:=trivial))
       try clear cY
       with_reducible refine(E6 B B w _ _ D it _ WR (by omega) HDR.out HG.out ht hp).mono ?_
       rintro e w9 ⟨rfl,WR9,_,_⟩;clear WR
       go_wp2_with fail
       go_roundw
       case rel=>exact⟨k+1,by omega,by go_num,by rw[NQ.out];exact WR9.mono (by omega)⟩
       case measure=>simp[intOf];omega
      ·skip
       have nW:wY bY k=fT bY:=N2 (by have:=HN.out;omega);rw[nW] at WR;clear nW
       have I8:∀it∈bY,Good it:=fun it h=>jH (HV.out it h)
       have iw:=KU I8;have yQ:=Sy I8 (by have:=HN.out;omega)
       have RW:(bf (fT bY)).length≤1000012:=by have:=HN.out;omega
       have Hy:=Lib.hid yQ;clear I8 iw yQ;obtain⟨BT,Lq⟩:∃BT,BT=bf (fT bY):=⟨_,rfl⟩;have HBT:=Lib.hid Lq;have cO:=WR.Tc;rw[←Lq] at cO RW;clear Lq;have BB:=WR.e_;have gU:=WR.size;have mb:=WR.base
       go_wp2_with fail
       with_reducible refine(GL B B BT _ cO gU).mono ?_
       rintro e w3 ⟨rfl,abf,Dz,_⟩;replace BB:=BB.trans (Dz.mono mb);replace gU:=Nat.le_trans gU Dz.size;clear Dz cO;obtain⟨bb,cb,w4,TM,qV,gn⟩:=Bb w3 (ag BT);rw[eD,bM] at qV;have hcz:=eD BT
       go_wp2_with fail
       have abg:=abf.keep gn;replace BB:=az BB gn;replace gU:=Nat.le_trans gU gn.size;clear gn abf;obtain⟨s0,xu⟩:∃s0,s0=kK:=⟨_,rfl⟩
       with_reducible refine(Lh _ _ _ BT s0 xu _ qV rfl (by omega)).mono ?_
       rintro e w5 ⟨rfl,rfl⟩;have adb:ll s0 BT<18446744073709551616:=Lf _ (by rw[xu];unfold kK;omega) _
       have HDG:Hid (ll s0 BT=ll kK (bf (fT bY))):=by unfold Hid;rw[xu,HBT.out]
       clear xu hcz qV TM;generalize ll s0 BT=dg at*
       go_wp2_with fail
       with_reducible refine(TQ dg _ adb).mono ?_
       rintro e w6 ⟨rfl,rE⟩;have abh:=abg.keep rE;replace BB:=az BB rE;replace gU:=Nat.le_trans gU rE.size;clear rE abg
       go_wp2_with fail
       have WR6:Wr B B w (fT bY) 1000012 w6:=⟨by rw[←HBT.out];exact abh,by rw[←HBT.out];exact RW,mb,gU,BB⟩;clear abh BB gU;have fM:List.map (fun x:ByteArray=>x.data.toList) [⟨#[100,105,103,101,115,116]⟩,ag (jg dg)]=[og,jg dg]:=rfl;have fh:((#[.string ⟨#[100,105,103,101,115,116]⟩,.string (ag (jg dg))]:Array Value)).toList=List.map Value.string [⟨#[100,105,103,101,115,116]⟩,ag (jg dg)]:=rfl;have fQ:(aV [og,jg dg]).length≤5000:=fo (by decide) (by rw[nc];decide)
       with_reducible refine(dR B B w (fT bY) 1000012 2 [⟨#[100,105,103,101,115,116]⟩,ag (jg dg)] _ fM #[.string ⟨#[100,105,103,101,115,116]⟩,.string (ag (jg dg))] w6 WR6 (by omega) rfl (List.cons_ne_nil _ _) fh (by decide) fQ).mono ?_
       rintro e w7 ⟨rfl,VM,_,_⟩;clear WR6 fM fh fQ
       have hpk:fT bY++ [aV [og,jg dg]]=gD bY:=by unfold gD hU;rw[←HDG.out]
       rw[hpk] at VM;clear hpk;have cO:=VM.Tc;have BB:=VM.e_;have gU:=VM.size;clear VM;have hlen:=Hy.out;obtain⟨LT,DR⟩:∃LT,LT=bf (gD bY):=⟨_,rfl⟩;rw[←DR] at cO hlen;have xU:=Lib.hid DR;clear DR
       go_wp2_with fail
       with_reducible refine(KO B B LT _ cO).mono ?_
       rintro e w8 ⟨rfl,rfl⟩
       have xm:¬(1048576:Int)<(LT.length:Int):=by omega
       go_wp2_with fail
       with_reducible refine(GL B B LT _ cO gU).mono ?_
       rintro e w9 ⟨rfl,_,bl9,_⟩
       go_wp2_with fail
       go_ret2
       exact⟨by rw[←xU.out];rfl,BB.trans (bl9.mono mb)⟩
end
section
open Go.RowKit
section
variable {L:List Nat} {w w':World} {B g base e k n:Nat} {v:Value} {xs:List Value} {zs:List Int} {ss:List ByteArray}
theorem Kp.own (ho:w.ownsRow base e k v n xs) (h:Kp L w w') (hL:∀x∈L,x<base):w'.ownsRow base e k v n xs:=by
 refine⟨ho.1,?_⟩
 rcases ho.2 with h0|⟨g,cap,cur,hv,hg,hh,r⟩
 ·exact .inl h0
 ·refine .inr ⟨g,cap,cur,hv,hg,?_,r⟩
  have aS:g<w.heap.size:=by
   rcases Nat.lt_or_ge g w.heap.size with aS|Ar
   ·exact aS
   ·rw[Array.getElem?_eq_none Ar] at hh;cases hh
  rw[h.block g aS (fun hm=>by have:=hL g hm;omega)];exact hh
theorem db.kp (ho:db base w v zs) (h:Kp L w w') (hL:∀x∈L,x<base):db base w' v zs:=Kp.own ho h hL
theorem iD.kp (ho:iD base w v ss) (h:Kp L w w') (hL:∀x∈L,x<base):iD base w' v ss:=Kp.own ho h hL
theorem db.low {b':Nat} (ho:db base w v zs) (h:b'≤base):db b' w v zs:=aX ho h
theorem iD.low {b':Nat} (ho:iD base w v ss) (h:b'≤base):iD b' w v ss:=aX ho h
def Env (B:Nat) (w:World):Prop:=∃w0,w0.heap.size=B∧jl w0∧Id.lk w0∧Id.lS w0∧Below B w0 w
theorem Env.of (hm:jl w) (ht:Id.lk w) (hp:Id.lS w):Env w.heap.size w:=⟨w,rfl,hm,ht,hp,Below.refl _ _⟩
theorem Env.mx (h:Env B w):jl w:=by obtain⟨w0,rfl,a,b,c,d⟩:=h;exact a.below d
theorem Env.tab (h:Env B w):Id.lk w:=by obtain⟨w0,rfl,a,b,c,d⟩:=h;exact b.below d
theorem Env.aee (h:Env B w):Id.lS w:=by obtain⟨w0,rfl,a,b,c,d⟩:=h;exact c.below d
theorem Env.size (h:Env B w):B≤w.heap.size:=by obtain⟨w0,rfl,a,b,c,d⟩:=h;exact d.size
theorem Env.e_ (h:Env B w) (k:Below B w w'):Env B w':=by obtain⟨w0,rfl,a,b,c,d⟩:=h;exact⟨w0,rfl,a,b,c,d.trans k⟩
theorem Env.keep (h:Env B w) (k:Below w.heap.size w w'):Env B w':=h.e_ (k.mono h.size)
theorem Env.kp (h:Env B w) (k:Kp L w w') (hL:∀x∈L,B≤x):Env B w':=h.e_ (k.below h.size hL)
end
structure Rd (B:Nat) (w:World) (g:Nat) (T:ByteArray) (done rem:List (List UInt8)):Prop where
 at_:Dr w g T done rem
 env:Env B w
 le:B≤g
section
variable {L:List Nat} {w w':World} {B g:Nat} {T:ByteArray} {done rem:List (List UInt8)} {l:List UInt8}
theorem Rd.keep (h:Rd B w g T done rem) (hb:Below w.heap.size w w'):Rd B w' g T done rem:=⟨h.at_.keep hb,h.env.keep hb,h.le⟩
theorem Rd.kp (h:Rd B w g T done rem) (hb:Kp L w w') (hg:g∉L) (hL:∀x∈L,B≤x):Rd B w' g T done rem:=⟨h.at_.kp hb hg,h.env.kp hb hL,h.le⟩
theorem Rd.lt (h:Rd B w g T done rem):g<w.heap.size:=by obtain⟨⟨num,h0,h1,h2,h3⟩,_,_⟩:=h;exact h3.lt
theorem Rd.txt (h:Rd B w g T done rem):r6 T done rem:=by obtain⟨⟨num,h0,h1,h2,h3⟩,_,_⟩:=h;exact h2
theorem Rd.line (h:Rd B w g T done (l::rem)):w.cell? ⟨g,3,none⟩=some (.string (ag l)):=by obtain⟨⟨num,h0,h1,h2,h3⟩,_,_⟩:=h;exact h3.cell 3
theorem Rd.len (h:Rd B w g T done (l::rem)):l.length≤1048576:=by
 have h1:=h.txt.len;have h2:=h.txt.size;rw[ir,List.length_append] at h1;omega
end
theorem Od {n:Nat}:(32:UInt8)∉Lib.decDigits n:=fun h=>by have:=oO n _ h;exact absurd this.1 (by decide)
def iU (v:List UInt8) (ns:List Nat):List UInt8:=aV (v::ns.map Lib.decDigits)
theorem Bz {v:List UInt8} {ns:List Nat} (hv:32∉v):∀x∈v::ns.map Lib.decDigits,32∉x:=by
 intro x hx;rw[List.mem_cons,List.mem_map] at hx
 rcases hx with rfl|⟨n,_,rfl⟩
 ·exact hv
 ·exact Od
theorem zu (v:List UInt8) (wd:ByteArray) (hv:wd.data.toList=v):(wd++⟨#[32]⟩:ByteArray).data.toList=v++ [32]:=by
 rw[ByteArray.data_append,Array.toList_append,hv]
theorem xh (w0 v:List UInt8) (x:List UInt8) (ws:List (List UInt8)) (h0:32∉w0) (hv:32∉v):Lib.hasPrefix (aV (w0::x::ws)) (v++ [32])=decide (w0=v):=by
 rw[kU];exact Hf w0 v _ h0 hv
theorem jE (v x:List UInt8):Lib.hasPrefix (aV [v,x]) (v++ [32])=true∧Lib.trimPrefix (aV [v,x]) (v++ [32])=x:=by
 have h:Lib.hasPrefix (aV [v,x]) (v++ [32])=true:=by
  rw[kU,iF];unfold Lib.hasPrefix;rw[List.isPrefixOf_iff_prefix];exact⟨x,by simp⟩
 refine⟨h,?_⟩;unfold Lib.trimPrefix;rw[h,if_pos rfl,kU,iF];rw[show v++32::x=(v++ [32])++x by simp,List.drop_left]
end
section
open Go.RowKit
def k_ (v:List UInt8) (rem:List (List UInt8)):Prop:=∃l t,rem=l::t∧Lib.hasPrefix l (v++ [32])=false
theorem k_.cons (v w0 x:List UInt8) (ws t:List (List UInt8)) (h0:32∉w0) (hv:32∉v) (cu:w0≠v):k_ v (aV (w0::x::ws)::t):=
 ⟨_,_,rfl,by rw[xh w0 v x ws h0 hv];exact decide_eq_false cu⟩
theorem k_.end_ (v:List UInt8) (t:List (List UInt8)):k_ v (ki::t):=⟨_,_,rfl,AK ki v (by decide)⟩
theorem k_.map {α:Type} {v w0:List UInt8} {f:α→List UInt8} {l:List α} {t:List (List UInt8)} (h0:32∉w0) (hv:32∉v) (cu:w0≠v) (ht:k_ v t):k_ v (l.map (fun a=>aV [w0,f a])++t):=by
 cases l with
 |nil=>exact ht
 |cons a l=>exact k_.cons v w0 (f a) [] _ h0 hv cu
theorem rN {z:Int} (hz:0≤z):Lib.itoa z=Lib.decDigits z.toNat:=by
 have:=vG z.toNat
 rwa [Int.toNat_of_nonneg hz] at this
theorem oR {v:List UInt8} {z:Int} (hz:0≤z):aV [v,Lib.itoa z]=iU v [z.toNat]:=by
 unfold iU;rw[rN hz];rfl
theorem Ha {v:List UInt8} {z y:Int} (hz:0≤z) (hy:0≤y):aV [v,Lib.itoa z,Lib.itoa y]=iU v [z.toNat,y.toNat]:=by
 unfold iU;rw[rN hz,rN hy];rfl
theorem UE {v:List UInt8} {zs:List Int} (h:∀z∈zs,0≤z):aV (v::zs.map fun c=>Lib.itoa (c+1))=iU v (zs.map fun c=>(c+1).toNat):=by
 unfold iU;rw[List.map_map]
 congr 2
 apply List.map_congr_left
 intro z hz;have:=h z hz;exact rN (by omega)
def AH (it:aA):List (List UInt8):=it.opts.map (fun o=>aV [eh,bV o.data.toList])
def iP (it:aA):List UInt8:=aV [lh,bV it.aW.data.toList]
def jL (it:aA):List (List UInt8):=it.af.map (fun a=>aV [fc,Lib.itoa a])
def rA (it:aA):List (List UInt8):=if it.bB=0 then [] else [aV [ma,Lib.itoa it.bB]]
def Ak (it:aA):List (List UInt8):=if it.bz=0 then [] else [aV [fV,Lib.itoa it.bz]]
def jN (it:aA):List UInt8:=aV [eG,ik it.id,Lib.itoa it.bj,dM it.kind]
def iz (it:aA):List (List UInt8):=
 aV [cC,it.code.data.toList]::aV [dw,Lib.itoa it.aP]::aV [fW,Lib.itoa it.words,Lib.itoa it.ay]::(Ak it++(rA it++(jL it++(iP it::AH it))))
theorem py (it:aA):eu it=jN it::(iz it++(cF it++ [ki])):=by
 unfold eu lK iz jN Ak rA jL AH iP
 simp
theorem aaC (it:aA) (t:List (List UInt8)):k_ fc (iP it::t):=k_.cons _ _ _ [] _ (by decide) (by decide) (by decide)
theorem aaF (it:aA) (t:List (List UInt8)):k_ ma (jL it++(iP it::t)):=
 k_.map (by decide) (by decide) (by decide) (k_.cons _ _ _ [] _ (by decide) (by decide) (by decide))
theorem aaD (it:aA) (t:List (List UInt8)):k_ fV (rA it++(jL it++(iP it::t))):=by
 unfold rA
 split
 ·exact k_.map (by decide) (by decide) (by decide) (k_.cons _ _ _ [] _ (by decide) (by decide) (by decide))
 ·exact k_.cons _ _ _ [] _ (by decide) (by decide) (by decide)
theorem aaE (it:aA) (t:List (List UInt8)):k_ eh (cF it++(ki::t)):=by
 unfold cF
 split
 ·cases it.cA with
  |nil=>exact⟨_,_,rfl,by rw[List.map_nil,iF];exact AK ia eh (by decide)⟩
  |cons a l=>exact k_.cons _ _ _ _ _ (by decide) (by decide) (by decide)
 ·split
  ·exact k_.cons _ _ _ _ _ (by decide) (by decide) (by decide)
  ·split
   ·exact k_.map (by decide) (by decide) (by decide) (k_.end_ _ _)
   ·exact k_.cons _ _ _ _ _ (by decide) (by decide) (by decide)
end
section
open Go.RowKit
open Tryz
theorem Kp.drewN {L:List Nat} {w w':World} (h:Kp L w w') (n:Nat):Kp L w (w'.drewN n):=⟨h.os,h.tape,h.output,h.size,h.block⟩
theorem G9 {T:ByteArray} {done rem:List (List UInt8)} (h:r6 T done rem):(bf done).length≤T.size:=by have:=h.len;omega
theorem xZ (B:Nat) (w:World) (g:Nat) (T ln:ByteArray) (st:Nat) (num:Int) (done rem:List (List UInt8)) (hR:Row w g 95 (Y9 T st (bf done).length ln num)) (hT:r6 T done rem)
  (h0:0≤num) (h1:num≤done.length) (hE:Env B w) (hB:B≤g):
  Calls prog 67 #[.pointer (some ⟨g,0,none⟩)] w fun e w'=>e=.returned (.tuple #[])∧Rd B w' g T done rem∧Kp [g] w w':=by
 have gG:∀(W:World),Row W g 95 (Y9 T (bf done).length (sB done rem) (ag (rem.headD [])) (num+1))→Kp [g] w W→Rd B W g T done rem∧Kp [g] w W:=fun W hr hk=>
  ⟨⟨⟨num+1,by omega,by omega,hT,hr⟩,hE.kp hk (by simp;exact hB),hB⟩,hk⟩
 have hle:=G9 hT;have cM:=hT.size;have mf:=qK done;have hlen:=hT.len
 have afa:num+1≤1048577:=by omega
 have NH:∀W:World,Calls prog 123 #[.string (T.extract (bf done).length T.size),.int .u8 10] W fun e w'=>e=.returned (.int .i64 (Lib.indexByte (T.extract (bf done).length T.size).data.toList 10))∧w'=W:=fun W=>strings_IndexByte _ 10 W
 have c0:=U (hR.cell 0);have c1:=U (hR.cell 1);have c2:=U (hR.cell 2);have c3:=U (hR.cell 3);have c4:=U (hR.cell 4);have f1:=hR.frozen 1;have f2:=hR.frozen 2;have f3:=hR.frozen 3;have f4:=hR.frozen 4;have SX:=Lib.hid hR
 rcases rem with _|⟨l,t⟩
 ·have LS:=hT.adT;rw[LS] at NH
  have hlT:(bf done).length=T.size:=by rw[hlen];rfl
  have HF:=Lib.hid gG;have xU:=Lib.hid hlT;clear LS hT hE gG hlen hR hlT
  go_enter func67,ntmps67
  go_wp2_with fail
  go_quiet ((go_at_call 123;exact Calls.quiet_of_same (NH _)))
  go_wp2_with fail
  (try simp only[Exit.inBlock,Exit.then])
  refine bodyPost_ret (results_none rfl _ _ _) rfl ?_;have HR1:=(SX.out.cE 4 (.int .i64 (num+1))).cE 1 (.int .i64 ((bf done).length:Int));have K1:=(Kp.dr (L:=[g]) (cH.set w g 4 (.int .i64 (num+1))) (List.mem_singleton.2 rfl)).trans (Kp.dr (cH.set (w.setCell ⟨g,4,none⟩ (.int .i64 (num+1))) g 1 (.int .i64 ((bf done).length:Int))) (List.mem_singleton.2 rfl));refine⟨rfl,HF.out _ ?_ (((Kp.drewN K1 _).trans (Kp.dr (cH.set _ g 3 _) (List.mem_singleton.2 rfl))).trans (Kp.dr (cH.set _ g 2 _) (List.mem_singleton.2 rfl)))⟩;rw[show sB done []=T.size from xU.out];exact((Row.drewN HR1 _).cE 3 (.string ⟨#[]⟩)).cE 2 (.int .i64 (T.size:Int))
 ·have LS:=hT.idx;have xm:=hT.line;rw[LS] at NH
  have Ja:(bf done).length+l.length+1≤T.size:=by
   rw[ir,List.length_append,List.length_cons] at hlen;omega
  have HF:=Lib.hid gG;clear LS hT hE gG hlen hR;obtain⟨m,hm⟩:∃m,m=l.length:=⟨_,rfl⟩;rw[←hm] at NH Ja xm
  have HNX:Hid (((sB done (l::t):Nat):Int)=((bf done).length:Int)+m+1):=by unfold Hid sB;simp only[];omega
  clear hm
  go_enter func67,ntmps67
  go_wp2_with fail
  go_quiet ((go_at_call 123;exact Calls.quiet_of_same (NH _)))
  go_wp2_with fail
  go_region
  go_wp2_with fail
  go_end0
  have HR1:=(SX.out.cE 4 (.int .i64 (num+1))).cE 1 (.int .i64 ((bf done).length:Int));have K1:=(Kp.dr (L:=[g]) (cH.set w g 4 (.int .i64 (num+1))) (List.mem_singleton.2 rfl)).trans (Kp.dr (cH.set (w.setCell ⟨g,4,none⟩ (.int .i64 (num+1))) g 1 (.int .i64 ((bf done).length:Int))) (List.mem_singleton.2 rfl));refine⟨rfl,HF.out _ ?_ (((Kp.drewN K1 _).trans (Kp.dr (cH.set _ g 3 _) (List.mem_singleton.2 rfl))).trans (Kp.dr (cH.set _ g 2 _) (List.mem_singleton.2 rfl)))⟩;unfold Y9;rw[HNX.out];exact((Row.drewN HR1 _).cE 3 (.string (ag l))).cE 2 (.int .i64 (((bf done).length:Int)+m+1))
theorem oZ {B g:Nat} {w:World} {T:ByteArray} {done rem:List (List UInt8)} {l:List UInt8} (h:Rd B w g T done (l::rem)):
  Calls prog 67 #[.pointer (some ⟨g,0,none⟩)] w fun e w'=>e=.returned (.tuple #[])∧Rd B w' g T (done++ [l]) rem∧Kp [g] w w':=by
 obtain⟨⟨num,h0,h1,h2,h3⟩,hE,hB⟩:=h;rw[MG] at h3;exact xZ B w g T _ _ num (done++ [l]) rem h3 h2.step h0 (by rw[List.length_append,List.length_singleton];omega) hE hB
theorem zC (wd:List UInt8) (ws:List (List UInt8)) (w:World) (hm:jl w) (h:∀x∈wd::ws,32∉x) (hs:(aV (wd::ws)).length≤1048576):
  Calls prog 182 #[.string (ag (aV (wd::ws))),.string ⟨#[32]⟩] w fun e w'=>∃b,e=.returned (.slice (some ⟨b,0,none⟩) (ws.length+1) (ws.length+1))∧Row w' b 9 ((wd::ws).map fun l=>.string (ag l))∧w.heap.size≤b∧Below w.heap.size w w':=by
 obtain⟨m,hm⟩:=hm;refine(strings_Split (ag (aV (wd::ws))) ⟨#[32]⟩ m w (by rw[eD];omega) hm (by decide)).mono ?_;rintro e w' ⟨rfl,rfl⟩;obtain⟨h1,h2⟩:=J4 _ wd ws (bM _) h;rw[h2,h1];refine⟨_,rfl,?_,Nat.le_refl _,ai _ _⟩;have:=Row.new w 9 (((wd::ws).map (fun l=>(⟨l.toArray⟩:ByteArray))).map Value.string);rw[List.map_map] at this ⊢;exact this
theorem uT {w:World} {base b t:Nat} {xs:List Value} {n:Nat} (h:Row w b t xs) (hn:xs.length=n) (hm:n≤maxLen) (hb:base≤b):w.ownsRow base t 1 (.slice (some ⟨b,0,none⟩) n n) n xs:=by
 subst hn;exact⟨by simp,Or.inr ⟨b,xs.length,xs.toArray,rfl,hb,h,Nat.le_refl _,hm,by simp,by simp⟩⟩
def sX (ns:List Nat):List Value:=ns.map fun(n:Nat)=>Value.int .i64 (n:Int)
theorem UD (ns:List Nat):(sX ns).length=ns.length:=List.length_map _
theorem PH {ns:List Nat} {k:Nat} (h:k<ns.length):sX (ns.take (k+1))=sX (ns.take k)++ [.int .i64 (ns[k]:Int)]:=by
 unfold sX;rw[List.take_succ_eq_append_getElem h,List.map_append];rfl
theorem abI:(prog.info? 3).map (fun i=>(i.zero,i.size,i.bytes))=some (some (.int .i64 0),1,8):=by kernel_rfl
theorem Nh (n:Nat) (h:n≤1000000) (w:World):(Instr.makeSlice 22 (.int .i64 (n:Int)) (.int .i64 (n:Int))).run prog w=.ok (.slice (some ⟨w.heap.size,0,none⟩) n n) (w.alloc (.cells (Fu (.int .i64 0) n) 3)):=
 run_mk underlying22 abI rfl n (by omega) (by omega) w
def VC (B:Nat) (w:World) (g:Nat) (T:ByteArray) (done rem:List (List UInt8)) (v:List UInt8) (ns:List Nat) (e:Ending) (w':World):Prop:=
 ∃b,e=.returned (.tuple #[.slice (some ⟨b,0,none⟩) ns.length ns.length,.int .i64 0])∧Rd B w' g T (done++ [iU v ns]) rem∧Row w' b 3 (sX ns)∧w.heap.size≤b∧Kp [g] w w'
theorem Rb {P:Prop} (h:P:=by
 have RS2:=RS.keep (ai w1 (.cells (Fu (.int .i64 0) n) 3));have RN:=Row.abK w1 3 (.int .i64 0) n;have BN:=BS.trans ((ai w1 (.cells (Fu (.int .i64 0) n) 3)).mono BS.size);have XI:w.heap.size≤w1.heap.size:=BS.size;have fw:b≠w1.heap.size:=Nat.ne_of_lt RS.lt;generalize w1.alloc (.cells (Fu (.int .i64 0) n) 3)=w2 at*;generalize w1.heap.size=r at*
 go_loopw [51] (fun i wr=>∃k:Nat,k≤n∧i=.int .i64 (k:Int)∧Row wr r 3 (sX (ns.take k)++List.replicate (n - k) (.int .i64 0))∧Row wr b 9 ((v::ns.map Lib.decDigits).map fun l=>.string (ag l))∧Below w.heap.size w wr) (fun i _=>n - (intOf i).toNat)
 case atStart=>exact⟨0,Nat.zero_le _,rfl,RN,RS2,BN⟩
 case round=>
  clear RS RS2 RN BN BS;obtain⟨k,hk,rfl,RN,RS,BB⟩:=hrel;have HL:=Lib.hid (show(sX (ns.take k)).length=k by rw[UD,List.length_take,HN.out];omega)
  by_cases aS:k<n
  ·have gA:k<ns.length:=by rw[HN.out];exact aS
   obtain⟨y,hy⟩:∃y,y=ns[k]:=⟨_,rfl⟩;have hy9:=(Vn.out ns[k] (List.getElem_mem gA)).2;rw[←hy] at hy9;have HT:=Lib.hid (PH gA)
   have sk:wr.cell? ⟨b,1+k,none⟩=some (.string (ag (Lib.decDigits y))):=by
    rw[RS.cell,Nat.add_comm 1 k,List.map_cons,List.getElem?_cons_succ,List.map_map,List.getElem?_map,List.getElem?_eq_getElem gA,←hy];rfl
   rw[←hy] at HT;have FP:=HH.out.env.keep BB;have yR:=RN.lt;clear hy gA
   go_wp2_with fail
   with_reducible refine(AJ (ag (Lib.decDigits y)) y _ hy9 (bM _) FP.tab).mono ?_
   rintro e w3 ⟨rfl,eE⟩;have Vh:=az BB eE;have VJ:=RN.keep eE;have RS3:=RS.keep eE
   have FQ:w3.cell? ⟨r,k,none⟩=some (.int .i64 0):=by rw[VJ.cell,UI _ _ _ _ HL.out aS]
   have DZ:w3.frozen? ⟨r,k,none⟩=false:=VJ.frozen k;clear RN RS BB eE sk FP
   go_wp2_with fail
   go_roundw
   case rel=>exact⟨k+1,by omega,by go_num,by rw[HT.out,←UJ _ _ _ _ _ HL.out aS];exact VJ.cE k _,RS3.far fw _,Vh.setCell XI _⟩
   case measure=>simp[intOf];omega
  ·obtain rfl:k=n:=by omega
   have HW:Hid (sX (ns.take k)=sX ns):=by unfold Hid;rw[List.take_of_length_le (by rw[HN.out];exact Nat.le_refl _)]
   rw[Nat.sub_self,List.replicate_zero,List.append_nil,HW.out] at RN;clear HW HL aS
   go_wp2_with fail
   go_loopw [70] (fun i wq=>∃j:Nat,j≤k∧i=.int .i64 (j:Int)∧wq=wr) (fun i _=>k - (intOf i).toNat)
   case atStart=>exact⟨0,Nat.zero_le _,rfl,rfl⟩
   case round=>
    obtain⟨j,hj,rfl,rfl⟩:=hrel
    by_cases aS:j<k
    ·have gA:j<ns.length:=by rw[HN.out];exact aS
     obtain⟨y,hy⟩:∃y,y=ns[j]:=⟨_,rfl⟩;have hy9:=Vn.out ns[j] (List.getElem_mem gA)
     have sk:wr.cell? ⟨r,j,none⟩=some (.int .i64 (y:Int)):=by
      rw[RN.cell,hy];unfold sX;rw[List.getElem?_map,List.getElem?_eq_getElem gA];rfl
     rw[←hy] at hy9
     have g1:¬(y:Int)<EG:=by omega
     have g2:¬(9999999:Int)<(y:Int):=by omega
     clear hy gA
     go_wp2_with fail
     go_roundw
     case rel=>exact⟨j+1,by omega,by go_num,trivial⟩
     case measure=>simp[intOf];omega
    ·obtain rfl:j=k:=by omega
     have hR:=HH.out.keep BB;clear aS
     go_wp2_with fail
     with_reducible refine(oZ hR).mono ?_
     rintro e w4 ⟨rfl,hR4,hK4⟩;have RN4:=RN.kp hK4 (by simp;omega)
     go_wp2_with fail
     go_ret2
     refine⟨r,by rw[HN.out];rfl,hR4,RN4,XI,(Kp.ab BB).trans hK4⟩):P:=h
theorem JQ (B:Nat) (w:World) (g:Nat) (T:ByteArray) (done rem:List (List UInt8)) (wd:ByteArray) (v:List UInt8) (ns:List Nat) (Ci EG:Int) (uJ:wd=ag v) (uk:32∉v) (cu:ns≠ []) (hl:ns.length≤1000000) (hc:Ci<0)
  (Bq:∀n∈ns,EG≤(n:Int)∧n≤9999999) (h:Rd B w g T done (iU v ns::rem)):
  Calls prog 185 #[.pointer (some ⟨g,0,none⟩),.string wd,.int .i64 Ci,.int .i64 EG] w (VC B w g T done rem v ns):=by
 subst uJ;have fE:=h.line;have rY:=zC v (ns.map Lib.decDigits) w h.env.mx (Bz uk) h.len;rw[List.length_map] at rY;obtain⟨n,hn⟩:∃n,ns.length=n:=⟨_,rfl⟩;rw[hn] at rY hl
 have rH:1≤n:=by rw[←hn];exact List.length_pos_iff.2 cu
 have HN:=Lib.hid hn;have Vn:=Lib.hid Bq;have HH:=Lib.hid h;have hg:=h.lt;unfold iU at fE
 have pg:¬(0:Int)≤Ci:=by omega
 have Xx:=Nh n hl
 have CB:¬(n:Int)+1<2:=by omega
 clear hn Bq h cu
 go_enter func185,ntmps185
 go_wp2_with fail
 with_reducible refine rY.mono ?_
 rintro e w1 ⟨b,rfl,RS,aC,BS⟩;clear rY;have s0:=U (RS.cell 0)
 go_wp2_with fail
 clear Xx s0 fE CB pg hc;exact Rb
theorem ML (B:Nat) (w:World) (g:Nat) (T:ByteArray) (done rem:List (List UInt8)) (wd:ByteArray) (v:List UInt8) (ns:List Nat) (Ci EG:Int) (uJ:wd=ag v) (uk:32∉v) (cu:ns≠ []) (hl:ns.length≤1000000) (hc:Ci=(ns.length:Int))
  (Bq:∀n∈ns,EG≤(n:Int)∧n≤9999999) (h:Rd B w g T done (iU v ns::rem)):
  Calls prog 185 #[.pointer (some ⟨g,0,none⟩),.string wd,.int .i64 Ci,.int .i64 EG] w (VC B w g T done rem v ns):=by
 subst uJ;have fE:=h.line;have rY:=zC v (ns.map Lib.decDigits) w h.env.mx (Bz uk) h.len;rw[List.length_map] at rY;obtain⟨n,hn⟩:∃n,ns.length=n:=⟨_,rfl⟩;rw[hn] at rY hl
 have rH:1≤n:=by rw[←hn];exact List.length_pos_iff.2 cu
 have HN:=Lib.hid hn;have Vn:=Lib.hid Bq;have HH:=Lib.hid h;have hg:=h.lt;unfold iU at fE;subst hc;rw[hn];have pg:(0:Int)≤(n:Int):=Int.natCast_nonneg n;have Xx:=Nh n hl
 have CB:¬(n:Int)+1<2:=by omega
 clear hn Bq h cu
 go_enter func185,ntmps185
 go_wp2_with fail
 with_reducible refine rY.mono ?_
 rintro e w1 ⟨b,rfl,RS,aC,BS⟩;clear rY;have s0:=U (RS.cell 0)
 go_wp2_with fail
 clear Xx s0 fE CB pg;exact Rb
theorem oS (B:Nat) (w:World) (g:Nat) (T:ByteArray) (done rem:List (List UInt8)) (wd:ByteArray) (v:List UInt8) (ns:List Nat) (Ci EG:Int) (uJ:wd=ag v) (uk:32∉v) (cu:ns≠ []) (hl:ns.length≤1000000) (hc:Ci<0∨Ci=(ns.length:Int))
  (Bq:∀n∈ns,EG≤(n:Int)∧n≤9999999) (h:Rd B w g T done (iU v ns::rem)):
  Calls prog 185 #[.pointer (some ⟨g,0,none⟩),.string wd,.int .i64 Ci,.int .i64 EG] w (VC B w g T done rem v ns):=by
 rcases hc with hc|hc
 ·exact JQ B w g T done rem wd v ns Ci EG uJ uk cu hl hc Bq h
 ·exact ML B w g T done rem wd v ns Ci EG uJ uk cu hl hc Bq h
theorem JT (B:Nat) (w:World) (g:Nat) (T:ByteArray) (done rem:List (List UInt8)) (wd:ByteArray) (v:List UInt8) (p:Value) (uJ:wd=ag v) (yT:v.length≤100) (xn:k_ v rem) (h:Rd B w g T done rem):
  Calls prog 186 #[.pointer (some ⟨g,0,none⟩),.string wd,p] w fun e w'=>e=.returned (.int .i64 0)∧w'=w:=by
 subst uJ
 have cM:(ag v).size≤100:=by rw[eD];exact yT
 obtain⟨l,t,rfl,hp⟩:=xn;have fE:=h.line
 have oU:Calls prog 68 #[.string (ag l),.string (ag v++⟨#[32]⟩)] w fun e w'=>e=.returned (.bool false)∧w'=w:=by
  have:=strings_HasPrefix (ag l) (ag v++⟨#[32]⟩) w;rw[bM,zu v _ (bM v),hp] at this;exact this
 clear h hp
 go_enter func186,ntmps186
 go_wp2_with fail
 with_reducible refine oU.mono ?_
 rintro e w' ⟨rfl,rfl⟩
 go_wp2_with fail
 go_ret
 exact⟨rfl,rfl⟩
theorem F' (B:Nat) (w:World) (g gi k:Nat) (T:ByteArray) (done rem:List (List UInt8)) (wd:ByteArray) (v:List UInt8) (y t:Nat) (C:List Value) (uJ:wd=ag v) (yT:v.length≤100) (uk:32∉v) (hy:1≤y∧y≤9999999) (hR:Row w gi t C) (hk:k<C.length) (gJ:gi≠g) (kO:B≤gi) (oB:∃u,C[k]? =some u∧u.oneCell'=true) (h:Rd B w g T done (iU v [y]::rem)):
  Calls prog 186 #[.pointer (some ⟨g,0,none⟩),.string wd,.pointer (some ⟨gi,k,none⟩)] w fun e w'=>e=.returned (.int .i64 0)∧Rd B w' g T (done++ [iU v [y]]) rem∧Row w' gi t (C.set k (.int .i64 (y:Int)))∧Kp [g,gi] w w':=by
 subst uJ
 have cM:(ag v).size≤100:=by rw[eD];exact yT
 have fE:=h.line
 have oU:Calls prog 68 #[.string (ag (iU v [y])),.string (ag v++⟨#[32]⟩)] w fun e w'=>e=.returned (.bool true)∧w'=w:=by
  have:=strings_HasPrefix (ag (iU v [y])) (ag v++⟨#[32]⟩) w;rw[bM,zu v _ (bM v)] at this;unfold iU at this ⊢;rw[List.map_cons,List.map_nil,(jE v (Lib.decDigits y)).1] at this;exact this
 obtain⟨u,hu,hu1⟩:=oB;have HN:=oS B w g T done rem (ag v) v [y] 1 1 rfl uk (by simp) (by simp) (Or.inr rfl) (fun n hn=>by rw[List.mem_singleton] at hn;omega) h;have aS:=hR.lt
 have hB:∀x∈ [g],x≠gi:=fun x hx=>by rw[List.mem_singleton] at hx;subst hx;exact Ne.symm gJ
 clear h
 go_enter func186,ntmps186
 go_wp2_with fail
 with_reducible refine oU.mono ?_
 rintro e w' ⟨rfl,rfl⟩
 go_wp2_with fail
 with_reducible refine HN.mono ?_
 rintro e w2 ⟨b,rfl,vY,RB,hb,hK⟩;have RI:=hR.kp hK (by rw[List.mem_singleton];exact gJ);have d0:=U (RB.cell 0);have ck:=(RI.cell k).trans hu;have fk:=RI.frozen k;clear oU HN fE hR
 go_wp2_with fail
 go_ret
 have P:=cH.set w2 gi k (.int .i64 (y:Int));exact⟨rfl,vY.kp (Kp.dr P (List.mem_singleton.2 rfl)) (by rw[List.mem_singleton];exact Ne.symm gJ) (fun x hx=>by rw[List.mem_singleton] at hx;subst hx;exact kO),RI.cE k _,(hK.mono (by simp)).trans (Kp.dr P (by simp))⟩
theorem BM (B:Nat) (w:World) (g:Nat) (T:ByteArray) (done rem:List (List UInt8)) (wd:ByteArray) (v L:List UInt8) (uJ:wd=ag v) (yT:v.length≤100) (hL:∀c∈L,CQ c=true) (hn:L.length≤100000) (h:Rd B w g T done (aV [v,bV L]::rem)):
  Calls prog 187 #[.pointer (some ⟨g,0,none⟩),.string wd] w fun e w'=>e=.returned (.tuple #[.string (ag L),.int .i64 0])∧Rd B w' g T (done++ [aV [v,bV L]]) rem∧Kp [g] w w':=by
 subst uJ
 have cM:(ag v).size≤100:=by rw[eD];exact yT
 have fE:=h.line
 have tf:Calls prog 70 #[.string (ag (aV [v,bV L])),.string (ag v++⟨#[32]⟩)] w fun e w'=>e=.returned (.tuple #[.string (ag (bV L)),.bool true])∧w'=w:=by
  have:=strings_CutPrefix (ag (aV [v,bV L])) (ag v++⟨#[32]⟩) w;rw[bM,zu v _ (bM v),(jE v (bV L)).1,(jE v (bV L)).2] at this;exact this
 have HUQ:=fun W=>J9 (ag (bV L)) L W (bM _) hL hn
 have HH:=Lib.hid h;clear h hL hn
 go_enter func187,ntmps187
 go_wp2_with fail
 with_reducible refine tf.mono ?_
 rintro e w' ⟨rfl,rfl⟩
 go_wp2_with fail
 with_reducible refine(HUQ _).mono ?_
 rintro e w2 ⟨rfl,hb⟩;have vY:=HH.out.keep hb;clear fE tf HUQ
 go_wp2_with fail
 with_reducible refine(oZ vY).mono ?_
 rintro e w3 ⟨rfl,hR3,hK⟩
 go_wp2_with fail
 go_ret2
 exact⟨rfl,hR3,(Kp.ab hb).trans hK⟩
end
section
open Go.RowKit
open Tryz
section
variable {L:List Nat} {w w2 w':World} {b B g t:Nat} {T:ByteArray} {done rem:List (List UInt8)} {xs:List Value}
theorem Kp.e_ (h:Kp L w w2) (hb:Below w.heap.size w2 w'):Kp L w w':=
 ⟨hb.os.trans h.os,hb.tape.trans h.tape,hb.output.trans h.output,Nat.le_trans h.size hb.size,fun k hk hl=>(hb.block k hk).trans (h.block k hk hl)⟩
theorem Row.e_ (h:Row w g t xs) (hb:Below b w w') (hg:g<b):Row w' g t xs:=(hb.block g hg).trans h
theorem Rd.e_ (h:Rd B w g T done rem) (hb:Below b w w') (hg:g<b):Rd B w' g T done rem:=by
 obtain⟨⟨num,h0,h1,h2,h3⟩,hE,hB⟩:=h;exact⟨⟨num,h0,h1,h2,h3.e_ hb hg⟩,hE.e_ (hb.mono (by omega)),hB⟩
end
def uW:Value→Nat
 |.slice _ n _=>n
 |_=>0
def n0 (v:List UInt8) (s:ByteArray):List UInt8:=aV [v,bV s.data.toList]
def dS (v:List UInt8) (l:List ByteArray):List (List UInt8):=l.map (n0 v)
theorem Fa {v:List UInt8} {l:List ByteArray} {k:Nat} (h:k<l.length):dS v (l.take (k+1))=dS v (l.take k)++ [n0 v l[k]]:=by
 unfold dS;rw[List.take_succ_eq_append_getElem h,List.map_append];rfl
theorem E' {v:List UInt8} {l:List ByteArray} {k:Nat} (h:k<l.length):dS v (l.drop k)=n0 v l[k]::dS v (l.drop (k+1)):=by
 unfold dS;rw[List.drop_eq_getElem_cons h];rfl
theorem Qn {l:List ByteArray} {k:Nat} (h:k<l.length):(l.take (k+1)).map Value.string=(l.take k).map Value.string++ [.string l[k]]:=by
 rw[List.take_succ_eq_append_getElem h,List.map_append];rfl
theorem Bv (s:ByteArray):ag s.data.toList=s:=(oQ rfl).symm
theorem G7 (B:Nat) (w:World) (g:Nat) (T:ByteArray) (done rem:List (List UInt8)) (wd:ByteArray) (v:List UInt8) (Ls:List ByteArray) (uJ:wd=ag v) (yT:v.length≤100) (hL:∀s∈Ls,(∀c∈s.data.toList,CQ c=true)∧s.data.toList.length≤100000) (hn:Ls.length≤1000) (xn:k_ v rem) (h:Rd B w g T done (dS v Ls++rem)):
  Calls prog 188 #[.pointer (some ⟨g,0,none⟩),.string wd] w fun e w'=>∃V,e=.returned (.tuple #[V,.int .i64 0])∧iD w.heap.size w' V Ls∧Rd B w' g T (done++dS v Ls) rem∧Kp [g] w w':=by
 subst uJ
 have cM:(ag v).size≤100:=by rw[eD];exact yT
 have xi:=h.lt;obtain⟨n,hN⟩:∃n,Ls.length=n:=⟨_,rfl⟩;rw[hN] at hn;have HN:=Lib.hid hN;have HL:=Lib.hid hL;have SS:=Lib.hid xn;have Vv:=h;clear hN hL xn h
 go_enter func188,ntmps188
 go_wp2_with fail
 go_loopw [6] (fun x wr=>∃(k:Nat) (A:Option Addr) (c:Nat),k≤n∧x=.slice A k c∧wr.ownsRow w.heap.size 9 1 (.slice A k c) k ((Ls.take k).map Value.string)∧Rd B wr g T (done++dS v (Ls.take k)) (dS v (Ls.drop k)++rem)∧Kp [g] w wr) (fun x _=>n - uW x)
 case atStart=>exact⟨0,none,0,Nat.zero_le _,rfl,World.ownsRow_nil _ _ _ _,by simpa[dS] using Vv,Kp.refl _ _⟩
 case round=>
  clear Vv;obtain⟨k,A,c,hk,rfl,own,HR,KK⟩:=hrel
  by_cases aS:k<n
  ·have gA:k<Ls.length:=by rw[HN.out];exact aS
   have HT:=Lib.hid (Fa (v:=v) gA);have HS:=Lib.hid (Qn gA);rw[E' gA,List.cons_append] at HR;have iy:=HL.out Ls[k] (List.getElem_mem gA);obtain⟨s,hs⟩:∃s,s=Ls[k]:=⟨_,rfl⟩;rw[←hs] at HR HT HS iy;clear hs;have fE:=HR.line
   have oU:Calls prog 68 #[.string (ag (n0 v s)),.string (ag v++⟨#[32]⟩)] wr fun e w'=>e=.returned (.bool true)∧w'=wr:=by
    have:=strings_HasPrefix (ag (n0 v s)) (ag v++⟨#[32]⟩) wr;unfold n0 at this ⊢;rw[bM,zu v _ (bM v),(jE v (bV s.data.toList)).1] at this;exact this
   go_wp2_with fail
   with_reducible refine oU.mono ?_
   rintro e w1 ⟨rfl,rfl⟩;clear oU
   go_wp2_with fail
   with_reducible refine(BM B _ g T _ _ (ag v) v s.data.toList rfl yT iy.1 iy.2 HR).mono ?_
   rintro e w2 ⟨rfl,HR2,K2⟩;have aeb:=Kp.own own K2 (by simp;omega);have KK2:=KK.trans K2;have XS:=KK2.size;clear fE HR KK own K2;rw[Bv s]
   go_wp2_with (at_builtin;refine lQ w2 rfl (.tmp 25) (.tmp 27) 45 rfl w.heap.size 9 (.string ByteArray.empty) 16 underlying45 Dc rfl _ k _ (.string s) rfl rfl aeb rfl (by unfold maxLen;omega) (by omega) XS ?_;intro A' c' w' YW eE)
   go_roundw
   case rel=>exact⟨k+1,A',c',by omega,rfl,by rw[HS.out];exact YW,by rw[HT.out,←List.append_assoc];exact HR2.e_ eE xi,KK2.e_ eE⟩
   case measure=>simp[uW];omega
  ·obtain rfl:k=n:=by omega
   have hd:Ls.drop k=[]:=List.drop_of_length_le (by rw[HN.out];exact Nat.le_refl _);have ht:Ls.take k=Ls:=List.take_of_length_le (by rw[HN.out];exact Nat.le_refl _);rw[hd,ht] at HR;rw[ht] at own;replace HR:Rd B wr g T (done++dS v Ls) rem:=HR;obtain⟨l,t,rfl,hp⟩:=SS.out;have fE:=HR.line
   have oU:Calls prog 68 #[.string (ag l),.string (ag v++⟨#[32]⟩)] wr fun e w'=>e=.returned (.bool false)∧w'=wr:=by
    have:=strings_HasPrefix (ag l) (ag v++⟨#[32]⟩) wr;rw[bM,zu v _ (bM v),hp] at this;exact this
   clear hd ht hp aS
   go_wp2_with fail
   with_reducible refine oU.mono ?_
   rintro e w1 ⟨rfl,rfl⟩
   go_wp2_with fail
   go_ret2
   exact⟨_,rfl,fF own HN.out,HR,KK⟩
theorem Qw (B:Nat) (w:World) (g gi:Nat) (T:ByteArray) (done rem:List (List UInt8)) (x y:Int) (t:Nat) (C:List Value) (u6 u7:Value) (hx: -9999999≤x∧x≤9999999) (hy: -9999999≤y∧y≤9999999) (hR:Row w gi 47 C) (h6:C[6]? =some u6) (h7:C[7]? =some u7) (gJ:gi≠g) (kO:B≤gi)
  (h:Rd B w g T done (aV [kV,dd x,rV,dd y]::rem)):
  Calls prog 189 #[.pointer (some ⟨g,0,none⟩),.pointer (some ⟨gi,0,none⟩)] w fun e w'=>e=.returned (.int .i64 0)∧Rd B w' g T (done++ [aV [kV,dd x,rV,dd y]]) rem∧Row w' gi 47 ((C.set 6 (.int .i64 x)).set 7 (.int .i64 y))∧Kp [g,gi] w w':=by
 have fE:=h.line
 have rY:=zC kV [dd x,rV,dd y] w h.env.mx (by
  intro z hz;simp only[List.mem_cons,List.not_mem_nil,or_false] at hz
  rcases hz with rfl|rfl|rfl|rfl
  ·decide
  ·exact vR (Or.inr rfl)
  ·decide
  ·exact vR (Or.inr rfl)) h.len
 have HH:=Lib.hid h;have adr:=hR.lt;clear h;generalize aV [kV,dd x,rV,dd y]=LN at*
 go_enter func189,ntmps189
 go_wp2_with fail
 with_reducible refine rY.mono ?_
 rintro e w1 ⟨b,rfl,RS,aC,BS⟩;have s0:w1.cell? ⟨b,0,none⟩=some (.string ⟨#[118,97,108,117,101]⟩):=RS.cell 0;have s1:w1.cell? ⟨b,1,none⟩=some (.string (ag (dd x))):=RS.cell 1;have s2:w1.cell? ⟨b,2,none⟩=some (.string ⟨#[116,111,108]⟩):=RS.cell 2;clear rY fE
 go_wp2_with fail
 with_reducible refine(E8 (ag (dd x)) x _ hx.1 hx.2 (bM _) (HH.out.env.keep BS).tab).mono ?_
 rintro e w2 ⟨rfl,ax⟩;have SH:=az BS ax;have s3:w2.cell? ⟨b,3,none⟩=some (.string (ag (dd y))):=(RS.keep ax).cell 3;clear s0 s1 s2 RS BS
 go_wp2_with fail
 with_reducible refine(E8 (ag (dd y)) y _ hy.1 hy.2 (bM _) (HH.out.env.keep SH).tab).mono ?_
 rintro e w3 ⟨rfl,eE⟩;have Kd:=az SH eE;clear s3 ax eE SH
 go_wp2_with fail
 have hE3:=HH.out.keep Kd;have NT:=hR.keep Kd;have RZ:=Row.new w3 3 [.int .i64 x,.int .i64 y];have ph:=ai w3 (.cells #[.int .i64 x,.int .i64 y] 3);have hR4:=hE3.keep ph;have S_:=NT.keep ph;have BS4:=az Kd ph
 have aw:¬x< -9999999:=by omega
 have aF:¬9999999<x:=by omega
 have tC:¬y< -9999999:=by omega
 have hy2:¬9999999<y:=by omega
 clear hE3 NT ph Kd hR;generalize (w3.alloc (.cells #[.int .i64 x,.int .i64 y] 3))=w4 at*;generalize w3.heap.size=r at*;have z0:w4.cell? ⟨r,0,none⟩=some (.int .i64 x):=RZ.cell 0;have z1:w4.cell? ⟨r,1,none⟩=some (.int .i64 y):=RZ.cell 1;have k6:=(S_.cell 6).trans h6;have k7:=(S_.cell 7).trans h7;have f6:=S_.frozen 6;have f7:=S_.frozen 7;have P6:=cH.set w4 gi 6 (.int .i64 x);have P7:=cH.set (w4.setCell ⟨gi,6,none⟩ (.int .i64 x)) gi 7 (.int .i64 y);have K6:=(Kp.dr (L:=[gi]) P6 (List.mem_singleton.2 rfl)).trans (Kp.dr P7 (List.mem_singleton.2 rfl));have NN:=hR4.kp K6 (by rw[List.mem_singleton];exact Ne.symm gJ) (fun x hx=>by rw[List.mem_singleton] at hx;subst hx;exact kO);have ZI:=(S_.cE 6 (.int .i64 x)).cE 7 (.int .i64 y);have S5:Kp [g,gi] w ((w4.setCell ⟨gi,6,none⟩ (.int .i64 x)).setCell ⟨gi,7,none⟩ (.int .i64 y)):=(Kp.ab BS4).trans (K6.mono (by simp));clear P6 P7 K6 hR4 S_ BS4
 go_loopw [53] (fun i wq=>∃j:Nat,j≤2∧i=.int .i64 (j:Int)∧wq=w4) (fun i _=>2 - (intOf i).toNat)
 case atStart=>exact⟨0,Nat.zero_le _,rfl,rfl⟩
 case round=>
  obtain⟨j,hj,rfl,rfl⟩:=hrel
  have ac1:j=0∨j=1∨j=2:=by omega
  rcases ac1 with rfl|rfl|rfl
  ·go_wp2_with fail
   go_roundw
   case rel=>exact⟨1,by omega,rfl,trivial⟩
   case measure=>simp[intOf]
  ·go_wp2_with fail
   go_roundw
   case rel=>exact⟨2,by omega,rfl,trivial⟩
   case measure=>simp[intOf]
  ·go_wp2_with fail
   with_reducible refine(oZ NN).mono ?_
   rintro e w7 ⟨rfl,HR7,K7⟩;have ZJ:=ZI.kp K7 (by rw[List.mem_singleton];exact gJ)
   go_wp2_with fail
   go_ret
   exact⟨rfl,HR7,ZJ,S5.trans (K7.mono (by simp))⟩
end
section
open Go.RowKit
open Tryz
theorem Ub {k:Int} (h:1≤k∧k≤6):∀(W:World) (b:Nat),Row W b 9 (xH.map Value.string)→Calls prog 105 #[.slice (some ⟨b,0,none⟩) 6 6,.string (ag (dM k))] W fun e w'=>e=.returned (.int .i64 (k - 1))∧w'=W:=by
 intro W b hR;refine(slices_Index_string b 0 6 6 xH (ag (dM k)) W (by decide) (by decide) (fun j hj=>?_)).mono ?_
 ·rw[Nat.zero_add,hR.cell,List.getElem?_map,List.getElem?_eq_getElem hj]
  simp[List.getD,List.getElem?_eq_getElem hj]
 ·rintro e w' ⟨rfl,rfl⟩
  have:k=1∨k=2∨k=3∨k=4∨k=5∨k=6:=by omega
  rcases this with rfl|rfl|rfl|rfl|rfl|rfl<;>exact⟨rfl,rfl⟩
theorem Mq (k:Int):32∉dM k:=by
 unfold dM
 split
 ·decide
 ·split
  ·decide
  ·split
   ·decide
   ·split
    ·decide
    ·split<;>decide
theorem LG {id bj kind:Int} (hv:0≤bj):∀x∈ [eG,ik id,Lib.itoa bj,dM kind],(32:UInt8)∉x:=by
 intro z hz;simp only[List.mem_cons,List.not_mem_nil,or_false] at hz
 rcases hz with rfl|rfl|rfl|rfl
 ·decide
 ·exact Sf (Or.inr rfl)
 ·exact Mm hv (Or.inl (by decide))
 ·exact Mq _
theorem Yd (n:Int):Lib.hasPrefix (ik n) [73,84,77,45]=true:=by
 rw[Jj];unfold Lib.hasPrefix;rw[List.isPrefixOf_iff_prefix];exact⟨_,rfl⟩
theorem Pj {n:Int} (h:1≤n∧n≤9999999):Id.pX (ag (ik n))=(1,n,0):=by
 have:=Id.UM (k:=1) (n:=n.toNat) (by omega) (by omega);rw[Int.toNat_of_nonneg (by omega)] at this;exact this
theorem OQ (B:Nat) (w:World) (g gi n:Nat) (T:ByteArray) (done rem:List (List UInt8)) (id bj kind:Int) (C:List Value) (u0 u1 u2:Value) (hid:1≤id∧id≤9999999) (wI:1≤bj∧bj≤9999999) (OZ:1≤kind∧kind≤6) (hn:n≤50)
  (hR:Row w gi 47 C) (c0:C[0]? =some u0) (c1:C[1]? =some u1) (c2:C[2]? =some u2) (gJ:gi≠g) (kO:B≤gi) (h:Rd B w g T done (aV [eG,ik id,Lib.itoa bj,dM kind]::rem)):
  Calls prog 125 #[.pointer (some ⟨g,0,none⟩),.pointer (some ⟨gi,0,none⟩),.int .i64 (n:Int)] w fun e w'=>e=.returned (.int .i64 0)∧Rd B w' g T (done++ [aV [eG,ik id,Lib.itoa bj,dM kind]]) rem∧Row w' gi 47 (((C.set 0 (.int .i64 id)).set 1 (.int .i64 bj)).set 2 (.int .i64 kind))∧Kp [g,gi] w w':=by
 have fE:=h.line;have hlen:=h.len;have rY:=zC eG [ik id,Lib.itoa bj,dM kind] w h.env.mx (LG (by omega)) hlen
 have HPI:=fun W (hE:Env B W)=>Id.UL (ag (ik id)) (Pj hid) W hE.aee
 have oU:∀W:World,Calls prog 68 #[.string (ag (ik id)),.string ⟨#[73,84,77,45]⟩] W fun e w'=>e=.returned (.bool true)∧w'=W:=fun W=>by
  have:=strings_HasPrefix (ag (ik id)) ⟨#[73,84,77,45]⟩ W;rw[bM] at this;rw[show Lib.hasPrefix (ik id) (ByteArray.mk #[73,84,77,45]).data.toList=true from Yd id] at this;exact this
 have Vt:=fun W (hE:Env B W)=>AJ (ag (Lib.itoa bj)) bj.toNat W (by omega) (by rw[bM];exact rN (by omega)) hE.tab
 rw[Int.toNat_of_nonneg (by omega:0≤bj)] at Vt;have NH:=Ub OZ;have HH:=Lib.hid h;have adr:=hR.lt;have aS:=h.lt;clear h hlen
 go_enter func125,ntmps125
 go_wp2_with fail
 with_reducible refine rY.mono ?_
 rintro e w1 ⟨b,rfl,RS,aC,BS⟩;have s1:=U (RS.cell 1);have s2:=U (RS.cell 2);clear rY fE;have DQ:=HH.out.env.keep BS
 go_wp2_with fail
 with_reducible refine(oU _).mono ?_
 rintro e w' ⟨rfl,rfl⟩
 go_wp2_with fail
 with_reducible refine(HPI _ DQ).mono ?_
 rintro e w' ⟨rfl,rfl⟩
 go_wp2_with fail
 with_reducible refine(Vt _ DQ).mono ?_
 rintro e w2 ⟨rfl,ax⟩;have SH:=az BS ax;have s3:w2.cell? ⟨b,3,none⟩=some (.string (ag (dM kind))):=(RS.keep ax).cell 3;have ltb:b<w2.heap.size:=(RS.keep ax).lt;clear s1 s2 RS BS ax DQ
 go_wp2_with fail
 go_region_held3 (fun w'=>w'.cell? ⟨b,3,none⟩=some (.string (ag (dM kind))))
  ((with_reducible refine aT ltb s3 ?_)<;>((repeat(first|with_reducible exact Below.refl _ _|with_reducible refine ar eE ?_|with_reducible refine al ?_ _|with_reducible refine bL ?_));done))
  (first
   |(go_at_call 63;((with_reducible refine(Ey _).mono ?_);rintro e wa ⟨⟨bn,rfl,El⟩,eE⟩))
   |(go_at_call 105;((with_reducible refine(NH _ bn El).mono ?_);rintro e wb ⟨rfl,rfl⟩)))
 replace eE:=fU eE;have Kd:=az SH eE;have RI:=hR.keep Kd;have HR4:=HH.out.keep Kd;clear El eE SH hR
 have g1:¬kind - 1<0:=by omega
 have g2:¬(200:Int)≤(n:Int):=by omega
 have g3:¬(9999999:Int)<bj:=by omega
 have k0:=(RI.cell 0).trans c0;have k1:=(RI.cell 1).trans c1;have k2:=(RI.cell 2).trans c2;have f0:=RI.frozen 0;have f1:=RI.frozen 1;have f2:=RI.frozen 2
 go_wp2_with fail
 have P0:=cH.set wb gi 0 (.int .i64 id);have P1:=cH.set (wb.setCell ⟨gi,0,none⟩ (.int .i64 id)) gi 1 (.int .i64 bj);have P2:=cH.set ((wb.setCell ⟨gi,0,none⟩ (.int .i64 id)).setCell ⟨gi,1,none⟩ (.int .i64 bj)) gi 2 (.int .i64 (1+(kind - 1)));have KI:=((Kp.dr (L:=[gi]) P0 (List.mem_singleton.2 rfl)).trans (Kp.dr P1 (List.mem_singleton.2 rfl))).trans (Kp.dr P2 (List.mem_singleton.2 rfl));have NN:=HR4.kp KI (by rw[List.mem_singleton];exact Ne.symm gJ) (fun x hx=>by rw[List.mem_singleton] at hx;subst hx;exact kO);have ZI:=((RI.cE 0 (.int .i64 id)).cE 1 (.int .i64 bj)).cE 2 (.int .i64 (1+(kind - 1)));have S5:=(Kp.ab Kd).trans KI
 with_reducible refine(oZ NN).mono ?_
 rintro e w7 ⟨rfl,HR7,K7⟩;have ZJ:=ZI.kp K7 (by rw[List.mem_singleton];exact gJ);have KK7:=(S5.mono (M:=[g,gi]) (by simp)).trans (K7.mono (M:=[g,gi]) (by simp));rw[show(1:Int)+(kind - 1)=kind by omega] at ZJ;clear P0 P1 P2 KI NN ZI S5 K7
 go_wp2_with fail
 go_ret
 exact⟨rfl,HR7,ZJ,KK7⟩
theorem TP (B:Nat) (w:World) (g gi n:Nat) (T:ByteArray) (done rem:List (List UInt8)) (it:aA) (C:List Value) (u0 u1 u2:Value) (hid:1≤it.id∧it.id≤9999999) (wI:1≤it.bj∧it.bj≤9999999) (OZ:1≤it.kind∧it.kind≤6) (hn:n≤50)
  (hR:Row w gi 47 C) (c0:C[0]? =some u0) (c1:C[1]? =some u1) (c2:C[2]? =some u2) (gJ:gi≠g) (kO:B≤gi) (h:Rd B w g T done (jN it::rem)):
  Calls prog 125 #[.pointer (some ⟨g,0,none⟩),.pointer (some ⟨gi,0,none⟩),.int .i64 (n:Int)] w fun e w'=>e=.returned (.int .i64 0)∧Rd B w' g T (done++ [jN it]) rem∧Row w' gi 47 (((C.set 0 (.int .i64 it.id)).set 1 (.int .i64 it.bj)).set 2 (.int .i64 it.kind))∧Kp [g,gi] w w':=
 OQ B w g gi n T done rem it.id it.bj it.kind C u0 u1 u2 hid wI OZ hn hR c0 c1 c2 gJ kO h
end
end Go.Proofs.YtdnpopjabpklnaaGreatDoor
