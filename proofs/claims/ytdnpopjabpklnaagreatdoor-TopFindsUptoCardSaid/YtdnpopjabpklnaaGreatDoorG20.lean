/- Contracts and plain laws that the proof of the top laws uses (G20). No condition beyond those stated. -/
import Derived.Test.YtdnpopjabpklnaaGreatDoorG18
import Derived.Test.YtdnpopjabpklnaaGreatDoorRows
import Derived.Deep.Fields
import Derived.Deep.Strs
set_option maxRecDepth 100000
set_option maxHeartbeats 64000000
set_option linter.all false
namespace Go.Proofs.YtdnpopjabpklnaaGreatDoor
section
open Go.RowKit Go.ChangeShapes Go.WideShapes Go.Deep
theorem sd {α:Type} (d:α) (Q:Nat→α→Prop):∀n:Nat,(∀i,i<n→∃x,Q i x)→∃xs:List α,xs.length=n∧∀i,i<n→Q i (xs.getD i d)
 |0,_=>⟨[],rfl,fun i h=>by omega⟩
 |n+1,h=>by
  obtain⟨xs,hl,hq⟩:=sd d Q n (fun i hi=>h i (by omega));obtain⟨x,hx⟩:=h n (by omega);refine⟨xs++ [x],by simp[hl],fun i hi=>?_⟩
  rcases Nat.lt_succ_iff_lt_or_eq.1 hi with h1|h1
  ·rw[List.getD_eq_getElem?_getD,List.getElem?_append_left (by omega),←List.getD_eq_getElem?_getD];exact hq i h1
  ·subst h1;rw[List.getD_eq_getElem?_getD,List.getElem?_append_right (by omega),hl,Nat.sub_self];exact hx
theorem Tg {H:Type} (d:DataW H):1≤Rows.uptoBulk d:=by
 cases d with
 |lit l=>cases l<;>simp[Rows.uptoBulk]
 |_=>simp[Rows.uptoBulk]
theorem rp {H:Type}:∀l:List (DataW H),l.length≤Rows.uptoBulkAll l
 |[]=>by simp
 |d::l=>by
  have:=rp l;have:=Tg d;simp only[List.length_cons,Rows.uptoBulkAll];omega
section
variable {H:Type} {enc:TypeId × Value→H} {P:Program} {w:World} {base:Nat} {spare:Nat→Bool} {held:Bool}
theorem kF {t e:TypeId} {k:IntKind} {fuel:Nat} {v:Value} {x:DataW H × List MemPlace} (ht:P.underlying t=some (.slice e)) (he:P.underlying e=some (.int k)) (LC:P.cellsOf e=1)
  (h:DataW.trod enc P w base spare held fuel t [v]=some x):∃zs,eI k w v zs∧(∀z∈zs,(Lit.int k z).wf=true)∧zs.length≤Rows.uptoBulk x.1:=by
 obtain⟨zs,hn,hw⟩:=PM ht he LC h;refine⟨zs,hn,hw,?_⟩;obtain⟨A,c,rfl,_,_,_⟩:=hn
 rcases open_ints ht he LC h with ⟨gu,_⟩|⟨a,len,cap,zs',gu,_,hl,hm,hz,hx,dQ,hwf⟩
 ·simp only[List.cons.injEq,and_true,Value.slice.injEq] at gu;rw[gu.2.1];omega
 ·simp only[List.cons.injEq,and_true,Value.slice.injEq] at gu;subst hx
  have TX:len≤zs'.length:=by rw[hz];split<;>omega
  have:=rp (lits (H:=H) k (zs'.take len))
  have e1:(lits (H:=H) k (zs'.take len)).length=len:=by simp[lits];omega
  simp only[Rows.uptoBulk];omega
end
def MH:ByteArray:=⟨#[]⟩
def Wb:eH:=⟨0,0,0,0,0,0,0,⟨0,0,0,MH,[],[],0,0,[],0,MH,0,0,0,0,[],0⟩,⟨MH,MH⟩,⟨0,0,MH,0,0⟩,[]⟩
theorem rq {H:Type} {d:DataW H}:∀{l:List (DataW H)},d∈l→Rows.uptoBulk d≤Rows.uptoBulkAll l
 |[],h=>by simp at h
 |x::l,h=>by
  rw[List.mem_cons] at h;simp only[Rows.uptoBulkAll]
  rcases h with rfl|h
  ·omega
  ·have:=rq h;omega
theorem YH {α:Type} {l:List α} (h:l.length=2):∃a b,l=[a,b]:=by
 rcases l with _|⟨a,_|⟨b,_|⟨c,l⟩⟩⟩<;>simp at h
 exact⟨a,b,rfl⟩
theorem xI {α:Type} {l:List α} (h:l.length=5):∃a b c d e,l=[a,b,c,d,e]:=by
 rcases l with _|⟨a,_|⟨b,_|⟨c,_|⟨d,_|⟨e,_|⟨f,l⟩⟩⟩⟩⟩⟩<;>simp at h
 exact⟨a,b,c,d,e,rfl⟩
theorem Sj {α:Type} {l:List α} (h:l.length=17):∃a b c d e f g a1 b1 c1 d1 e1 f1 g1 a2 b2 c2,l=[a,b,c,d,e,f,g,a1,b1,c1,d1,e1,f1,g1,a2,b2,c2]:=by
 have hs:l=l.take 5++((l.drop 5).take 5++((l.drop 10).take 5++l.drop 15)):=by
  have a3:l.drop 10=(l.drop 10).take 5++l.drop 15:=by have:=(List.take_append_drop 5 (l.drop 10)).symm;rw[List.drop_drop] at this;exact this
  have a2:l.drop 5=(l.drop 5).take 5++l.drop 10:=by have:=(List.take_append_drop 5 (l.drop 5)).symm;rw[List.drop_drop] at this;exact this
  rw[←a3,←a2];exact(List.take_append_drop 5 l).symm
 obtain⟨a,b,c,d,e,h1⟩:=xI (l:=l.take 5) (by simp;omega);obtain⟨f,g,a1,b1,c1,h2⟩:=xI (l:=(l.drop 5).take 5) (by simp;omega);obtain⟨d1,e1,f1,g1,a2,h3⟩:=xI (l:=(l.drop 10).take 5) (by simp;omega);obtain⟨b2,c2,h4⟩:=YH (l:=l.drop 15) (by simp;omega);rw[h1,h2,h3,h4] at hs;exact⟨a,b,c,d,e,f,g,a1,b1,c1,d1,e1,f1,g1,a2,b2,c2,hs⟩
section
variable {H:Type} {enc:TypeId × Value→H} {P:Program} {w:World} {base:Nat} {spare:Nat→Bool} {held:Bool}
theorem DN {t:TypeId} {fs:Array Field} {n:Nat} {cs:List Value} {x:DataW H × List MemPlace} (hs:P.underlying t=some (.struct fs)) (h:DataW.trod enc P w base spare held n t cs=some x):
  cs.length=P.cellsOf t∧∃m,∀(i:Nat) (f:Field) (k:Nat),fs[i]? =some f→P.cellsOf f.type=k→∃y,DataW.trod enc P w base spare held m f.type ((cs.drop f.offset).take k)=some y∧Rows.uptoBulk y.1≤Rows.uptoBulk x.1:=by
 obtain⟨xs,m,_,rfl,hl,kP,hf⟩:=DataW.trod_struct hs h;refine⟨hl,m,fun i f k hi hk=>?_⟩;have aS:i<fs.size:=(Array.getElem?_eq_some_iff.1 hi).1
 have LS:i<xs.length:=by omega
 have hx:xs[i]? =some (xs[i]'LS):=List.getElem?_eq_getElem _;subst hk;refine⟨_,(hf i f hi).trans hx,?_⟩;have:=rq (List.mem_map_of_mem (f:=(·.1)) (List.getElem_mem LS));simp only[Rows.uptoBulk];omega
theorem iN {t:TypeId} {n:Nat} {v:Value} {y:DataW H × List MemPlace} (ht:P.underlying t=some (.int .i64)) (h:DataW.trod enc P w base spare held n t [v]=some y):∃z:Int,v=.int .i64 z:=by
 obtain⟨z,hc,_⟩:=DataW.trod_int ht h;exact⟨z,by simpa using hc⟩
theorem EN {t:TypeId} {n:Nat} {v:Value} {y:DataW H × List MemPlace} (ht:P.underlying t=some .string) (h:DataW.trod enc P w base spare held n t [v]=some y):∃s:ByteArray,v=.string s∧s.size≤Rows.uptoBulk y.1:=by
 obtain⟨s,hc,rfl,_⟩:=DataW.trod_string ht h;refine⟨s,by simpa using hc,?_⟩;simp only[Rows.uptoBulk,Array.length_toList];exact Nat.le_succ _
theorem Sp {t e:TypeId} {n:Nat} {v:Value} {y:DataW H × List MemPlace} (ht:P.underlying t=some (.slice e)) (he:P.underlying e=some .string) (LC:P.cellsOf e=1)
  (h:DataW.trod enc P w base spare held n t [v]=some y):∃xs,Strs w v xs∧xs.length≤Rows.uptoBulk y.1∧∀s∈xs,s.size≤Rows.uptoBulk y.1:=by
 rcases open_strs ht he LC h with ⟨gu,_⟩|⟨a,len,cap,m,Sx,gu,_,hl,hm,v_,hx,hi⟩
 ·simp only[List.cons.injEq,and_true] at gu;subst gu;exact⟨[],Strs.nil _,by simp,by simp⟩
 ·simp only[List.cons.injEq,and_true] at gu;subst gu hx
  have hlm:len≤m:=by rw[v_];split<;>omega
  have hb:=rp ((List.range len).map fun i=>(DataW.lit (.string (Sx i).data.toList):DataW H));rw[List.length_map,List.length_range] at hb;refine⟨(List.range len).map Sx,⟨some a,cap,by simp,by simpa using hl,hm,?_⟩,?_,fun s hs=>?_⟩
  ·refine sL (by simp) (fun i u hu=>?_);simp only[List.map_map,List.getElem?_map] at hu
   rcases Nat.lt_or_ge i len with tr|tr
   ·rw[List.getElem?_range tr] at hu;simp only[Option.map_some,Function.comp,Option.some.injEq] at hu;subst hu;exact(hi i (by omega)).1
   ·rw[List.getElem?_eq_none (by simpa using tr)] at hu
    simp at hu
  ·simp only[Rows.uptoBulk,List.length_map,List.length_range];omega
  ·rw[List.mem_map] at hs;obtain⟨i,v8,rfl⟩:=hs;have:=rq (List.mem_map_of_mem (f:=fun i=>(DataW.lit (.string (Sx i).data.toList):DataW H)) v8);simp only[Rows.uptoBulk,Array.length_toList] at this ⊢;have e:(Sx i).size=(Sx i).data.size:=rfl;omega
end
structure abT (N:Nat) (it:aA):Prop where
 o:it.opts.length≤N
 c:it.cA.length≤N
 t:it.texts.length≤N
 a:it.af.length≤N
 aW:it.aW.size≤N
 code:it.code.size≤N
 os:∀s∈it.opts,s.size≤N
 ts:∀s∈it.texts,s.size≤N
section
variable {H:Type} {enc:TypeId × Value→H} {w:World} {base:Nat} {spare:Nat→Bool} {held:Bool}
theorem PL {n:Nat} {cs:List Value} {x:DataW H × List MemPlace} (h:DataW.trod enc Tryz.prog w base spare held n 47 cs=some x):∃it,dO w cs it∧abT (Rows.uptoBulk x.1) it:=by
 obtain⟨hl,m,hf⟩:=DN Tryz.underlying47 h;obtain⟨c0,c1,c2,c3,c4,c5,c6,c7,c8,c9,KX,KY,c12,c13,c14,vU,c16,rfl⟩:=Sj (hl.trans (by kernel_rfl));obtain⟨y0,h0,b0⟩:=hf 0 _ 1 rfl (by kernel_rfl);obtain⟨z0,rfl⟩:=iN Tryz.underlying3 h0;obtain⟨y1,h1,b1⟩:=hf 1 _ 1 rfl (by kernel_rfl);obtain⟨z1,rfl⟩:=iN Tryz.underlying3 h1;obtain⟨y2,h2,b2⟩:=hf 2 _ 1 rfl (by kernel_rfl);obtain⟨z2,rfl⟩:=iN Tryz.underlying3 h2;obtain⟨y3,h3,b3⟩:=hf 3 _ 1 rfl (by kernel_rfl);obtain⟨s3,rfl,d3⟩:=EN Tryz.underlying9 h3;obtain⟨y4,h4,b4⟩:=hf 4 _ 1 rfl (by kernel_rfl);obtain⟨l4,e4,d4,f4⟩:=Sp Tryz.underlying45 Tryz.underlying9 (by kernel_rfl) h4;obtain⟨y5,h5,b5⟩:=hf 5 _ 1 rfl (by kernel_rfl);obtain⟨l5,e5,_,d5⟩:=kF Tryz.underlying22 Tryz.underlying3 (by kernel_rfl) h5;obtain⟨y6,h6,b6⟩:=hf 6 _ 1 rfl (by kernel_rfl);obtain⟨z6,rfl⟩:=iN Tryz.underlying3 h6;obtain⟨y7,h7,b7⟩:=hf 7 _ 1 rfl (by kernel_rfl);obtain⟨z7,rfl⟩:=iN Tryz.underlying3 h7;obtain⟨y8,h8,b8⟩:=hf 8 _ 1 rfl (by kernel_rfl);obtain⟨l8,e8,d8,f8⟩:=Sp Tryz.underlying45 Tryz.underlying9 (by kernel_rfl) h8;obtain⟨y9,h9,b9⟩:=hf 9 _ 1 rfl (by kernel_rfl);obtain⟨z9,rfl⟩:=iN Tryz.underlying3 h9;obtain⟨y10,Co,Is⟩:=hf 10 _ 1 rfl (by kernel_rfl);obtain⟨s10,rfl,d10⟩:=EN Tryz.underlying9 Co;obtain⟨y11,yB,KH⟩:=hf 11 _ 1 rfl (by kernel_rfl);obtain⟨z11,rfl⟩:=iN Tryz.underlying3 yB;obtain⟨y12,h12,KJ⟩:=hf 12 _ 1 rfl (by kernel_rfl);obtain⟨z12,rfl⟩:=iN Tryz.underlying3 h12;obtain⟨y13,h13,KL⟩:=hf 13 _ 1 rfl (by kernel_rfl);obtain⟨z13,rfl⟩:=iN Tryz.underlying3 h13;obtain⟨y14,ZZ,KM⟩:=hf 14 _ 1 rfl (by kernel_rfl);obtain⟨z14,rfl⟩:=iN Tryz.underlying3 ZZ;obtain⟨y15,h15,It⟩:=hf 15 _ 1 rfl (by kernel_rfl);obtain⟨l15,xb,_,d15⟩:=kF Tryz.underlying22 Tryz.underlying3 (by kernel_rfl) h15;obtain⟨y16,Z4,KN⟩:=hf 16 _ 1 rfl (by kernel_rfl);obtain⟨z16,rfl⟩:=iN Tryz.underlying3 Z4
 exact⟨⟨z0,z1,z2,s3,l4,l5,z6,z7,l8,z9,s10,z11,z12,z13,z14,l15,z16⟩,⟨_,_,_,_,rfl,e4,e5,e8,xb⟩,
  ⟨Nat.le_trans d4 b4,Nat.le_trans d5 b5,Nat.le_trans d8 b8,Nat.le_trans d15 It,Nat.le_trans d3 b3,Nat.le_trans d10 Is,fun s hs=>Nat.le_trans (f4 s hs) b4,fun s hs=>Nat.le_trans (f8 s hs) b8⟩⟩
theorem MP {n:Nat} {cs:List Value} {x:DataW H × List MemPlace} (h:DataW.trod enc Tryz.prog w base spare held n 68 cs=some x):∃a:gH,cs=fL a∧a.code.size≤Rows.uptoBulk x.1∧a.title.size≤Rows.uptoBulk x.1:=by
 obtain⟨hl,m,hf⟩:=DN Tryz.underlying68 h;obtain⟨c0,c1,rfl⟩:=YH (hl.trans (by kernel_rfl));obtain⟨y0,h0,b0⟩:=hf 0 _ 1 rfl (by kernel_rfl);obtain⟨s0,rfl,d0⟩:=EN Tryz.underlying9 h0;obtain⟨y1,h1,b1⟩:=hf 1 _ 1 rfl (by kernel_rfl);obtain⟨s1,rfl,d1⟩:=EN Tryz.underlying9 h1;exact⟨⟨s0,s1⟩,rfl,Nat.le_trans d0 b0,Nat.le_trans d1 b1⟩
theorem MO {n:Nat} {cs:List Value} {x:DataW H × List MemPlace} (h:DataW.trod enc Tryz.prog w base spare held n 70 cs=some x):∃a:j0,cs=fJ a∧a.alt.size≤Rows.uptoBulk x.1:=by
 obtain⟨hl,m,hf⟩:=DN Tryz.underlying70 h;obtain⟨c0,c1,c2,c3,c4,rfl⟩:=xI (hl.trans (by kernel_rfl));obtain⟨y0,h0,b0⟩:=hf 0 _ 1 rfl (by kernel_rfl);obtain⟨z0,rfl⟩:=iN Tryz.underlying3 h0;obtain⟨y1,h1,b1⟩:=hf 1 _ 1 rfl (by kernel_rfl);obtain⟨z1,rfl⟩:=iN Tryz.underlying3 h1;obtain⟨y2,h2,b2⟩:=hf 2 _ 1 rfl (by kernel_rfl);obtain⟨s2,rfl,d2⟩:=EN Tryz.underlying9 h2;obtain⟨y3,h3,b3⟩:=hf 3 _ 1 rfl (by kernel_rfl);obtain⟨z3,rfl⟩:=iN Tryz.underlying3 h3;obtain⟨y4,h4,b4⟩:=hf 4 _ 1 rfl (by kernel_rfl);obtain⟨z4,rfl⟩:=iN Tryz.underlying3 h4;exact⟨⟨z0,z1,s2,z3,z4⟩,rfl,Nat.le_trans d2 b2⟩
theorem PO {n:Nat} {v:Value} {x:DataW H × List MemPlace} (h:DataW.trod enc Tryz.prog w base spare held n 40 [v]=some x) (hN:Rows.uptoBulk x.1≤1100000):
  ∃A m k rows,v=.slice A m k∧oY w A m rows∧m≤k∧rows.length≤Rows.uptoBulk x.1∧∀r∈rows,r.length≤Rows.uptoBulk x.1:=by
 rcases open_slice1 Tryz.underlying40 (by kernel_rfl) h with ⟨gu,_⟩|⟨a,len,cap,m,n,V,D,Pl,gu,_,hl,hm,v_,hx,hi⟩
 ·simp only[List.cons.injEq,and_true] at gu;subst gu;exact⟨none,0,0,[],rfl,⟨rfl,[],Sl.nil,by simp⟩,by simp,by simp,by simp⟩
 ·simp only[List.cons.injEq,and_true] at gu;subst gu hx
  have hlm:len≤m:=by rw[v_];split<;>omega
  have hbD:∀i,i<len→Rows.uptoBulk (D i)≤Rows.uptoBulk (DataW.slice ((List.range len).map D) ((List.range (m - len)).map fun j=>D (len+j))):=fun i tr=>by
   have:=rq (List.mem_map_of_mem (f:=D) (List.mem_range.2 tr));simp only[Rows.uptoBulk];omega
  have iw:=rp ((List.range len).map D);rw[List.length_map,List.length_range] at iw
  obtain⟨rows,hr,hrq⟩:=sd ([]:List Int) (fun i r=>eI .i64 w (V i) r∧r.length≤Rows.uptoBulk (D i)) len (fun i tr=>by
   obtain⟨zs,h1,_,h3⟩:=kF Tryz.underlying22 Tryz.underlying3 (by kernel_rfl) (hi i (by omega)).2
   exact⟨zs,h1,h3⟩)
  have Cu:∀(i:Nat) (r:List Int),rows[i]? =some r→i<len∧rows.getD i []=r:=fun i r hir=>by
   obtain⟨h1,h2⟩:=List.getElem?_eq_some_iff.1 hir;exact⟨by omega,by rw[List.getD_eq_getElem?_getD,hir];rfl⟩
  refine⟨some a,len,cap,rows,rfl,⟨hr,(List.range len).map V,sL (by simp) (fun i u hu=>?_),fun i u r hu hir=>?_⟩,hl,?_,fun r Ej=>?_⟩
  ·rw[List.getElem?_map] at hu
   rcases Nat.lt_or_ge i len with tr|tr
   ·rw[List.getElem?_range tr] at hu;simp only[Option.map_some,Option.some.injEq] at hu;subst hu;exact(hi i (by omega)).1
   ·rw[List.getElem?_eq_none (by simpa using tr)] at hu
    simp at hu
  ·obtain⟨tr,hg⟩:=Cu i r hir;rw[List.getElem?_map,List.getElem?_range tr] at hu;simp only[Option.map_some,Option.some.injEq] at hu;subst hu;have:=hrq i tr;rw[hg] at this;exact⟨this.1,Nat.le_trans this.2 (Nat.le_trans (hbD i tr) hN)⟩
  ·rw[hr];simp only[Rows.uptoBulk];omega
  ·obtain⟨i,tr,rfl⟩:=List.mem_iff_getElem.1 Ej;have h1:=hrq i (by omega);rw[(Cu i _ (List.getElem?_eq_getElem tr)).2] at h1;exact Nat.le_trans h1.2 (hbD i (by omega))
theorem aar {α:Type} {l:List α} (h:l.length=32):∃a0 a1 a2 a3 a4 a5 a6 b0 b1 b2 b3 b4 b5 b6 b7 b8 b9 Is KH KJ KL KM It KN d0 d1 e0 e1 e2 e3 e4 f0,l=[a0,a1,a2,a3,a4,a5,a6,b0,b1,b2,b3,b4,b5,b6,b7,b8,b9,Is,KH,KJ,KL,KM,It,KN,d0,d1,e0,e1,e2,e3,e4,f0]:=by
 have hs:l=l.take 17++((l.drop 17).take 5++((l.drop 22).take 5++l.drop 27)):=by
  have a3:l.drop 22=(l.drop 22).take 5++l.drop 27:=by have:=(List.take_append_drop 5 (l.drop 22)).symm;rw[List.drop_drop] at this;exact this
  have a2:l.drop 17=(l.drop 17).take 5++l.drop 22:=by have:=(List.take_append_drop 5 (l.drop 17)).symm;rw[List.drop_drop] at this;exact this
  rw[←a3,←a2];exact(List.take_append_drop 17 l).symm
 obtain⟨a0,a1,a2,a3,a4,a5,a6,b0,b1,b2,b3,b4,b5,b6,b7,b8,b9,h1⟩:=Sj (l:=l.take 17) (by simp;omega);obtain⟨Is,KH,KJ,KL,KM,h2⟩:=xI (l:=(l.drop 17).take 5) (by simp;omega);obtain⟨It,KN,d0,d1,e0,h3⟩:=xI (l:=(l.drop 22).take 5) (by simp;omega);obtain⟨e1,e2,e3,e4,f0,h4⟩:=xI (l:=l.drop 27) (by simp;omega);rw[h1,h2,h3,h4] at hs;exact⟨a0,a1,a2,a3,a4,a5,a6,b0,b1,b2,b3,b4,b5,b6,b7,b8,b9,Is,KH,KJ,KL,KM,It,KN,d0,d1,e0,e1,e2,e3,e4,f0,hs⟩
theorem UH {n:Nat} {cs:List Value} {x:DataW H × List MemPlace} (h:DataW.trod enc Tryz.prog w base spare held n 72 cs=some x) (hN:Rows.uptoBulk x.1≤1100000):∃c,je w cs c∧lR c:=by
 obtain⟨hl,m,hf⟩:=DN Tryz.underlying72 h;obtain⟨a0,a1,a2,a3,a4,a5,a6,b0,b1,b2,b3,b4,b5,b6,b7,b8,b9,Is,KH,KJ,KL,KM,It,KN,d0,d1,e0,e1,e2,e3,e4,f0,rfl⟩:=aar (hl.trans (by kernel_rfl));obtain⟨y0,g0,_⟩:=hf 0 _ 1 rfl (by kernel_rfl);obtain⟨z0,rfl⟩:=iN Tryz.underlying3 g0;obtain⟨y1,g1,_⟩:=hf 1 _ 1 rfl (by kernel_rfl);obtain⟨z1,rfl⟩:=iN Tryz.underlying3 g1;obtain⟨y2,g2,_⟩:=hf 2 _ 1 rfl (by kernel_rfl);obtain⟨z2,rfl⟩:=iN Tryz.underlying3 g2;obtain⟨y3,g3,_⟩:=hf 3 _ 1 rfl (by kernel_rfl);obtain⟨z3,rfl⟩:=iN Tryz.underlying3 g3;obtain⟨y4,g4,_⟩:=hf 4 _ 1 rfl (by kernel_rfl);obtain⟨z4,rfl⟩:=iN Tryz.underlying3 g4;obtain⟨y5,g5,_⟩:=hf 5 _ 1 rfl (by kernel_rfl);obtain⟨z5,rfl⟩:=iN Tryz.underlying3 g5;obtain⟨y6,g6,_⟩:=hf 6 _ 1 rfl (by kernel_rfl);obtain⟨z6,rfl⟩:=iN Tryz.underlying3 g6;obtain⟨yi,gi,bi⟩:=hf 7 _ 17 rfl (by kernel_rfl);obtain⟨yt,gt,bt⟩:=hf 8 _ 2 rfl (by kernel_rfl);obtain⟨ya,ga,ba⟩:=hf 9 _ 5 rfl (by kernel_rfl);obtain⟨ym,gm,bm⟩:=hf 10 _ 1 rfl (by kernel_rfl);obtain⟨it,⟨vo,vc,vt,va,ei,i1,i2,i3,i4⟩,hIN⟩:=PL gi;obtain⟨t,et,t1,t2⟩:=MP gt;obtain⟨a,ea,u1⟩:=MO ga;obtain⟨hml,mm,hmf⟩:=DN Tryz.underlying42 gm;obtain⟨yr,gr,br⟩:=hmf 0 _ 1 rfl (by kernel_rfl);have T7:Rows.uptoBulk yr.1≤Rows.uptoBulk x.1:=Nat.le_trans br bm;obtain⟨A,k,kk,rows,er,acb,nV,r1,r2⟩:=PO (v:=f0) gr (by omega);obtain⟨q1,q2,q3,q4,q5,q6,q7,q8⟩:=hIN
 have w1:it.opts.length≤1100000:=by omega
 have w2:it.cA.length≤1100000:=by omega
 have w3:it.texts.length≤1100000:=by omega
 have w4:it.af.length≤1100000:=by omega
 have w5:it.aW.size≤1100000:=by omega
 have w6:it.code.size≤1100000:=by omega
 have w7:t.code.size≤1100000:=by omega
 have w8:t.title.size≤1100000:=by omega
 have w9:a.alt.size≤1100000:=by omega
 have w10:rows.length≤1000000∨rows.length≤1100000:=by omega
 have w11:∀r∈rows,r.length≤1100000:=fun r hr=>by have:=r2 r hr;omega
 have w12:∀s∈it.opts,s.size≤1100000:=fun s hs=>by have:=q7 s hs;omega
 have w13:∀s∈it.texts,s.size≤1100000:=fun s hs=>by have:=q8 s hs;omega
 have w14:rows.length≤1100000:=by omega
 refine⟨⟨z0,z1,z2,z3,z4,z5,z6,it,t,a,rows⟩,⟨vo,vc,vt,va,A,k,kk,?_,i1,i2,i3,i4,acb,nV⟩,⟨⟨w1,w2,w3,w4⟩,⟨Nat.le_trans w5 (by decide),Nat.le_trans w6 (by decide),fun s hs=>Nat.le_trans (w12 s hs) (by decide),fun s hs=>Nat.le_trans (w13 s hs) (by decide)⟩,⟨Nat.le_trans w7 (by decide),Nat.le_trans w8 (by decide)⟩,Nat.le_trans w9 (by decide),w14,w11⟩⟩;have ei': [b0,b1,b2,b3,b4,b5,b6,b7,b8,b9,Is,KH,KJ,KL,KM,It,KN]=fS it vo vc vt va:=ei;have et': [d0,d1]=fL t:=et;have ea': [e0,e1,e2,e3,e4]=fJ a:=ea;unfold yg;rw[←ei',←et',←ea',←er];rfl
theorem K4 {b k:Nat}:∀(Ds:List (List Value)) (o:Nat),(∀(i:Nat) (D:List Value),Ds[i]? =some D→D.length=k∧Cl w b (o+i*k) D)→Cl w b o Ds.flatten
 |[],o,h=>fun j u hu=>by simp at hu
 |D::t,o,h=>by
  obtain⟨h1,h2⟩:=h 0 D rfl
  have ih:=K4 t (o+k) (fun i C hC=>by
   obtain⟨h3,h4⟩:=h (i+1) C (by simpa using hC);rw[show o+(i+1)*k=o+k+i*k by rw[Nat.add_mul];omega] at h4
   exact⟨h3,h4⟩)
  intro j u hu;rw[List.flatten_cons] at hu
  rcases Nat.lt_or_ge j k with hj|hj
  ·rw[List.getElem?_append_left (by omega)] at hu;have:=h2 j u hu
   rwa [Nat.zero_mul,Nat.add_zero] at this
  ·rw[List.getElem?_append_right (by omega),h1] at hu;have:=ih (j - k) u hu
   rwa [show o+k+(j - k)=o+j by omega] at this
theorem ES {n:Nat} {v:Value} {x:DataW H × List MemPlace} (h:DataW.trod enc Tryz.prog w base spare held n 25 [v]=some x) (hN:Rows.uptoBulk x.1≤1100000):
  ∃A m k cs,v=.slice A m k∧qL w A m cs∧(∀c∈cs,lR c)∧m≤1100000∧m≤k:=by
 rcases open_slice Tryz.underlying25 h with ⟨gu,_⟩|⟨a,len,cap,m,n,D,Pl,gu,_,hl,hm,v_,hx,hi⟩
 ·simp only[List.cons.injEq,and_true] at gu;subst gu;exact⟨none,0,0,[],rfl,⟨[],rfl,rfl,⟨rfl,fun h=>absurd h (Nat.lt_irrefl _)⟩,by simp⟩,by simp,by simp,by simp⟩
 ·simp only[List.cons.injEq,and_true] at gu;subst gu hx
  have hlm:len≤m:=by rw[v_];split<;>omega
  have iw:=rp ((List.range len).map D);rw[List.length_map,List.length_range] at iw
  have xm:len≤1100000:=by simp only[Rows.uptoBulk] at hN;omega
  have ac':Tryz.prog.cellsOf 72=32:=by kernel_rfl
  rw[ac'] at hi
  obtain⟨ps,jk,Eh⟩:=sd (([],Wb):List Value × eH) (fun i p=>(p.1.length=32∧∀j,j<32→w.cell? ((a.add (i*32)).add j)=p.1[j]?)∧je w p.1 p.2∧lR p.2) len (fun i tr=>by
   obtain⟨cs',hc,hy⟩:=hi i (by omega);obtain⟨_,h1,h2⟩:=World.cells?_some hc
   have hbD:Rows.uptoBulk (D i)≤1100000:=by
    have:=rq (List.mem_map_of_mem (f:=D) (List.mem_range.2 tr));simp only[Rows.uptoBulk] at hN;omega
   obtain⟨c,h3,h4⟩:=UH hy hbD
   exact⟨(cs',c),⟨h1,h2⟩,h3,h4⟩)
  have Cu:∀(i:Nat) (p:List Value × eH),ps[i]? =some p→i<len∧ps.getD i ([],Wb)=p:=fun i p hip=>by
   obtain⟨h1,h2⟩:=List.getElem?_eq_some_iff.1 hip;exact⟨by omega,by rw[List.getD_eq_getElem?_getD,hip];rfl⟩
  have Xf:∀(i:Nat) (C:List Value),(ps.map (·.1))[i]? =some C→i<len∧C=(ps.getD i ([],Wb)).1:=fun i C hC=>by
   rw[List.getElem?_map] at hC
   cases hp:ps[i]? with
   |none=>rw[hp] at hC;cases hC
   |some p=>
    rw[hp] at hC;simp only[Option.map_some,Option.some.injEq] at hC;obtain⟨h1,h2⟩:=Cu i p hp;exact⟨h1,by rw[h2];exact hC.symm⟩
  refine⟨some a,len,cap,ps.map (·.2),rfl,⟨ps.map (·.1),by simp[jk],by simp[jk],⟨?_,fun hn=>?_⟩,fun i C c hC hc=>?_⟩,fun c hc=>?_,xm,hl⟩
  ·rw[rz (k:=32) _ (fun C hC=>by
    obtain⟨i,v8,rfl⟩:=List.mem_iff_getElem.1 hC;obtain⟨h1,h2⟩:=Xf i _ (List.getElem?_eq_getElem v8)
    rw[h2];exact(Eh i h1).1.1),List.length_map,jk]
  ·have h0:=(Eh 0 hn).1.2 0 (by decide);have hl0:=(Eh 0 hn).1.1;rw[List.getElem?_eq_getElem (by omega)] at h0
   have qW:a.spot=none:=by
    have:=Fk h0;simp only[Addr.add,Nat.zero_mul] at this
    simpa using this
   obtain⟨b,o,sp⟩:=a;simp only at qW;subst qW;refine⟨b,o,rfl,K4 (k:=32) _ o (fun i C hC=>?_)⟩;obtain⟨h1,rfl⟩:=Xf i C hC;refine⟨(Eh i h1).1.1,fun j u hu=>?_⟩
   have hj:j<32:=by
    have:=(List.getElem?_eq_some_iff.1 hu).1;rw[(Eh i h1).1.1] at this;exact this
   have:=(Eh i h1).1.2 j hj;rw[hu] at this
   have e:(((⟨b,o,none⟩:Addr).add (i*32)).add j)=⟨b,o+i*32+j,none⟩:=by
    unfold Addr.add
    split<;>split<;>simp_all
   rwa [e] at this
  ·obtain⟨h1,rfl⟩:=Xf i C hC;rw[List.getElem?_map] at hc
   cases hp:ps[i]? with
   |none=>rw[hp] at hc;cases hc
   |some p=>
    rw[hp] at hc;simp only[Option.map_some,Option.some.injEq] at hc;obtain⟨_,h2⟩:=Cu i p hp;rw[←hc,h2];have:=(Eh i h1).2.1
    rwa [h2] at this
  ·rw[List.mem_map] at hc;obtain⟨p,hp,rfl⟩:=hc;obtain⟨i,v8,rfl⟩:=List.mem_iff_getElem.1 hp;obtain⟨h1,h2⟩:=Cu i _ (List.getElem?_eq_getElem v8);have:=(Eh i h1).2.2
   rwa [h2] at this
end
end
end Go.Proofs.YtdnpopjabpklnaaGreatDoor
