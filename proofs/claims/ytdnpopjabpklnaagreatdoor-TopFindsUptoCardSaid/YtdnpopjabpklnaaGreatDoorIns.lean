/- Contracts and plain laws that the proof of the top laws uses (Ins). No condition beyond those stated. -/
import Derived.Test.YtdnpopjabpklnaaGreatDoorG11
import Derived.Lib.AppendZerosOnto
import Derived.Lib.Overlaps
import Derived.Shelf.Spec.SlicesInsertGrow
set_option maxRecDepth 100000
set_option maxHeartbeats 64000000
set_option linter.all false
namespace Go.Proofs.YtdnpopjabpklnaaGreatDoor
section
open Go.RowKit Go.Lib
open Tryz
theorem f_ {P:Program} (w:World) (dT sT ty elem k:Nat) (b o aaY acK:Nat) (a:Addr) (abR aeh q:Nat) (cs:List Value)
  (hu:P.underlying dT=some (.slice elem)) (hs:(P.info? elem).map (·.size)=some k) (hq:Nat.min abR aaY=q) (hn:cs.length=q*k)
  (adI:∀j v,cs[j]? =some v→w.cell? (a.add j)=some v) (hc:∀j,j<cs.length→(w.cell? ⟨b,o+j,none⟩).isSome=true) (hf:∀j,j<cs.length→w.frozen? ⟨b,o+j,none⟩=false) (h1:∀v∈cs,v.oneCell'=true):
  (Builtin.copy_ #[dT,sT] ty #[.slice (some ⟨b,o,none⟩) aaY acK,.slice (some a) abR aeh]).run P w=.ok (goInt q) (w.setCells b o cs):=by
 have hl:=run_loadCells_list (P:=P) w a cs adI;have bQ:=run_storeCells_cells (P:=P) b o cs 0 w (by simpa using hc) (by simpa using hf) h1
 cases hi:P.info? elem with
 |none=>simp[hi] at hs
 |some i=>
  have hz:i.size=k:=by simpa[hi] using hs
  simp[Builtin.copy_,run_underlying hu,Builtin.lenOf,Builtin.firstCells,sizeOf,typeInfo,hi,hz,hq,←hn,hl,bQ]
theorem rT {xs D:List Value} {o:Nat} (h:o+D.length≤xs.length) (j:Nat):(ff xs o D)[j]? =if j<o then xs[j]? else if j<o+D.length then D[j - o]? else xs[j]? :=by
 unfold ff
 by_cases h1:j<o
 ·rw[if_pos h1,List.getElem?_append_left (by simp;omega),List.getElem?_take_of_lt h1]
 ·rw[if_neg h1,List.getElem?_append_right (by simp;omega),List.length_take,Nat.min_eq_left (by omega)]
  by_cases h2:j<o+D.length
  ·rw[if_pos h2,List.getElem?_append_left (by omega)]
  ·rw[if_neg h2,List.getElem?_append_right (by omega),List.getElem?_drop]
   congr 1;omega
def ke (xs ys:List Value) (o:Nat):List Value:=xs.take o++(ys++xs.drop o)
theorem G0 {xs ys:List Value} {o:Nat} (h:o≤xs.length) (j:Nat):(ke xs ys o)[j]? =if j<o then xs[j]? else if j<o+ys.length then ys[j - o]? else xs[j - ys.length]? :=by
 unfold ke
 by_cases h1:j<o
 ·rw[if_pos h1,List.getElem?_append_left (by simp;omega),List.getElem?_take_of_lt h1]
 ·rw[if_neg h1,List.getElem?_append_right (by simp;omega),List.length_take,Nat.min_eq_left h]
  by_cases h2:j<o+ys.length
  ·rw[if_pos h2,List.getElem?_append_left (by omega)]
  ·rw[if_neg h2,List.getElem?_append_right (by omega),List.getElem?_drop]
   congr 1;omega
theorem xF {xs zs ys:List Value} {o k:Nat} (hz:zs.length=k) (hy:ys.length=k) (ho:o≤xs.length):ff (ff (xs++zs) (o+k) (xs.drop o)) o ys=ke xs ys o:=by
 have hl:o+k+(xs.drop o).length≤(xs++zs).length:=by simp;omega
 refine List.ext_getElem? fun j=>?_
 rw[rT (by rw[mK hl];simp;omega),G0 ho,hy]
 by_cases h1:j<o
 ·rw[if_pos h1,if_pos h1,rT hl,if_pos (by omega),List.getElem?_append_left (by omega)]
 ·rw[if_neg h1,if_neg h1]
  by_cases h2:j<o+k
  ·rw[if_pos h2,if_pos h2]
  ·rw[if_neg h2,if_neg h2,rT hl,if_neg h2]
   by_cases h3:j<o+k+(xs.drop o).length
   ·rw[if_pos h3,List.getElem?_drop]
    congr 1;omega
   ·rw[if_neg h3];rw[List.length_drop] at h3;rw[List.getElem?_eq_none (by simp;omega),List.getElem?_eq_none (by omega)]
theorem Ui {xs R ys:List Value} {o k:Nat} (hR:R.length=xs.length+k) (Lx:R.take o=xs.take o) (hy:ys.length=k) (ho:o≤xs.length):ff (ff R o ys) (o+k) (xs.drop o)=ke xs ys o:=by
 have LU:o+ys.length≤R.length:=by omega
 have hl:o+k+(xs.drop o).length≤(ff R o ys).length:=by rw[mK LU,List.length_drop];omega
 refine List.ext_getElem? fun j=>?_
 rw[rT hl,G0 ho,hy]
 by_cases h1:j<o
 ·rw[if_pos (by omega),if_pos h1,rT LU,if_pos h1];have:=congrArg (fun l=>l[j]?) Lx
  simpa[List.getElem?_take_of_lt h1] using this
 ·rw[if_neg h1]
  by_cases h2:j<o+k
  ·rw[if_pos h2,if_pos h2,rT LU,if_neg h1,if_pos (by omega)]
  ·rw[if_neg h2,if_neg h2]
   by_cases h3:j<o+k+(xs.drop o).length
   ·rw[if_pos h3,List.getElem?_drop]
    congr 1;omega
   ·rw[if_neg h3];rw[List.length_drop] at h3;rw[List.getElem?_eq_none (by rw[mK LU];omega),List.getElem?_eq_none (by omega)]
theorem AI {w:World} {base e k n cap g:Nat} {xs:List Value} (h:w.ownsRow base e k (.slice (some ⟨g,0,none⟩) n cap) n xs) (hr:n+1≤cap):
  ∃zs:List Value,zs.length=k∧w.ownsRow base e k (.slice (some ⟨g,0,none⟩) (n+1) cap) (n+1) (xs++zs):=by
 rcases h.2 with ⟨h0,_⟩|⟨g',mS,cur,hv,hb,jx,h1,h2,h3,h4⟩
 ·cases h0
 ·injection hv with a1 a2 a3
  injection a1 with a1
  injection a1 with a1
  subst a1 a3;have hle:(n+1)*k≤cap*k:=Nat.mul_le_mul_right k hr;refine⟨(cur.toList.drop (n*k)).take k,by rw[List.length_take,List.length_drop,Array.length_toList,h3];rw[Nat.succ_mul] at hle;omega,?_,.inr ⟨g,cap,cur,rfl,hb,jx,hr,h2,h3,?_⟩⟩
  ·rw[List.length_append,h.1,List.length_take,List.length_drop,Array.length_toList,h3];rw[Nat.succ_mul] at hle ⊢;omega
  ·rw[Nat.succ_mul,List.take_add,h4]
theorem pd {w w':World} (hb:Below w.heap.size w w') (row:Option Nat):w.grownBy w' row:=⟨hb.os,hb.tape,hb.output,hb.size,fun k hk _=>hb.block k hk⟩
theorem sh {w w':World} {g:Nat} (h:cH g w w'):w.grownBy w' (some g):=⟨h.os,h.tape,h.output,Nat.le_of_eq h.size.symm,fun k _ hk=>h.block k (fun e=>hk (by rw[e]))⟩
theorem oT {w w':World} {g:Nat} (h:cH g w.drew w'):cH g w w':=⟨h.os,h.tape,h.output,h.size,h.block⟩
theorem aci (w:World) (a b:Addr) (la ca lb cb:Nat) (cu:a.block≠b.block) (tA tB:TypeId) (kA kB:Nat) (L5:w.shape? a.block=some (tA,kA)) (Jh:w.shape? b.block=some (tB,kB)) (yJ:kB≠0)
  (Xb:w.frozen? a=false) (Xc:w.frozen? {block:=a.block,off:=kA}=false):(callFunc 134 #[.slice (some a) la ca,.slice (some b) lb cb]).run prog w=.ok (.value (.bool false)) w:=by
 rw[run_callFunc_extern func134 (by kernel_rfl) (by kernel_rfl) (by kernel_rfl) (e:=Extern.SlicesOverlaps.overlaps #[26,26] #[4]) (by kernel_rfl),
  Lib.run_overlaps_apart w 26 4 68 underlying26 2 sizeOf68 a b la ca lb cb cu tA tB kA kB L5 Jh yJ Xb Xc]
 rfl
theorem H_ {P:Prop} (h:P:=by
 obtain⟨cs,fr,hh⟩:=dW;refine⟨cs.size,by simp[World.shape?,hh],fun e=>?_⟩;have:(w.cell? ⟨g,0,none⟩).isSome=true:=jy 0 (by omega);unfold World.cell? at this;rw[hh] at this
 simp at this
 omega):P:=h
theorem H' {P:Prop} (h:P:=by
 simp only[Array.length_toList,Array.size_append,List.size_toArray,List.length_take,size_zeroCells,Value.cells,List.size_toArray,List.length_cons,List.length_nil]
 omega):P:=h
theorem Ia {P:Prop} (h:P:=by
 rw[Nat.succ_mul i];refine Ui (by rw[pe,kP];omega) ?_ xA Cz;rw[List.take_take,Nat.min_eq_left (by omega)]
 exact Lx):P:=h
theorem Mk (base:Nat) (v:Value) (n i:Nat) (xs ys:List Value) (vb:Nat) (w:World) (h:w.ownsRow base 68 2 v n xs) (hy:Row w vb 68 ys) (xA:ys.length=2) (FO:∀u∈xs,u.oneCell'=true) (uj:∀u∈ys,u.oneCell'=true) (hi:i≤n) (hn:n≤1100000) (sw:v.ownBlock≠some vb) (fD:base≤w.heap.size):
  Calls prog 82 #[v,.int .i64 i,.slice (some ⟨vb,0,none⟩) 1 1] w fun e w'=>∃v',e=.returned v'∧w'.ownsRow base 68 2 v' (n+1) (ke xs ys (i*2))∧w.grownBy w' v.ownBlock:=by
 obtain⟨X,c,rfl,su,DY⟩:=aj h;have kP:=h.1
 have cM:(prog.info? 68).map (·.size)=some 2:=by kernel_rfl
 have abl:c≤9223372036854775807:=by simpa[maxLen] using DY
 generalize LW:(Value.slice X n c).ownBlock=ob at sw ⊢
 by_cases dZ:i=n
 ·subst dZ;have X_:dF w (some ⟨vb,0,none⟩) 1 2 ys:=⟨by omega,fun _=>⟨vb,0,rfl,hy.cl⟩⟩
  have he:ke xs ys (i*2)=xs++ys:=by unfold ke;rw[List.take_of_length_le (by omega),List.drop_eq_nil_of_le (by omega),List.append_nil]
  rw[he];clear he
  have hcI:(i:Int)≤(c:Int):=by omega
  have yI:(0:Int)≤(i:Int):=by omega
  go_enter func82,ntmps82
  go_wp2_with (first|(refine cv (by rfl) (.tmp 23) (.tmp 24) 26 (by rfl) base 68 _ 2 32 underlying26 Jp rfl (by decide) (.slice X i c) i xs (some ⟨vb,0,none⟩) 1 1 ys (by rfl) (by rfl) h X_ uj (by unfold maxLen;omega) (by omega) fD ?_;intro v2 w2 gM gy;rw[LW] at gy)|fail)
  all_goals
   go_ret
   exact⟨_,rfl,gM,gy⟩
 ·have v8:i<n:=by omega
  obtain⟨g,cap,hv,_,_,hb,dW,aO,_,_,kv⟩:=cj h (by omega)
  injection hv with hX _ OM
  subst hX OM;have jx:ob=some g:=LW.symm
  have cu:vb≠g:=fun e=>sw (by rw[jx,e])
  have jW:g<w.heap.size:=aO.lt (by rw[kP];omega);have yT:vb<w.heap.size:=hy.lt
  have Cz:i*2≤xs.length:=by rw[kP];omega
  have mf:(xs.drop (i*2)).length=(n - i)*2:=by rw[List.length_drop,kP];omega
  have hiI:(i:Int)<(n:Int):=by omega
  have abt:¬((i:Int)=(n:Int)):=by omega
  have yI:(0:Int)≤(i:Int):=by omega
  have nX:IntKind.i64.wrap ((i:Int)+1)=(i:Int)+1:=by rw[IntKind.wrap_i64];omega
  have htn:((i:Int)+1).toNat=i+1:=by omega
  have aC:(0:Int)≤(i:Int)+1:=by omega
  have eE:(i:Int)≤(n:Int):=by omega
  have gn:¬(c=i):=by omega
  by_cases hr:n+1≤c
  ·obtain⟨zs,uL,h'⟩:=AI h hr;obtain⟨g',mS,lr,_,_,_,L9,fy,rJ,jy,Bl⟩:=cj h'.drew (by omega)
   injection lr with hX' _ hcc'
   injection hX' with hX'
   injection hX' with hX'
   subst hX' hcc'
   have XK:(n:Int)+1≤(c:Int):=by omega
   have aby:¬((c:Int)<(n:Int)+1):=by omega
   have ax:¬(c=i+1):=by omega
   have iB:(i:Int)≤(n:Int)+1:=by omega
   have rE:(i:Int)+1≤(n:Int)+1:=by omega
   have L7:∃kB,w.shape? g=some (68,kB)∧kB≠0:=by
    exact H_
   obtain⟨kB,En,yJ⟩:=L7
   have xv:w.shape? vb=some (68,ys.length):=by unfold Row at hy;simp[World.shape?,hy]
   have XE:∀lb cb,(callFunc 134 #[.slice (some ⟨vb,0,none⟩) 1 1,.slice (some ⟨g,(i+1)*2,none⟩) lb cb]).run prog w=.ok (.value (.bool false)) w:=fun lb cb=>
    aci w ⟨vb,0,none⟩ ⟨g,(i+1)*2,none⟩ 1 1 lb cb cu _ _ _ _ xv En yJ (hy.frozen 0) (hy.frozen _)
   have Bh:∀ty dc sc,(Builtin.copy_ #[26,26] ty #[.slice (some ⟨g,(i+1)*2,none⟩) (n - i) dc,.slice (some ⟨g,i*2,none⟩) (n+1 - i) sc]).run prog w.drew=.ok (goInt (n - i:Nat)) (w.drew.setCells g ((i+1)*2) (xs.drop (i*2))):=fun ty dc sc=>
    f_ w.drew _ _ ty 68 2 g ((i+1)*2) (n - i) dc ⟨g,i*2,none⟩ (n+1 - i) sc (n - i) (xs.drop (i*2)) underlying26 cM (by simp only[Nat.min_def];split<;>omega) mf
     (fun j v hj=>by
      rw[List.getElem?_drop] at hj;have:=aO _ _ hj;rw[Nat.zero_add] at this
      rw[Addr.add_lit];exact this)
     (fun j hj=>by rw[mf] at hj;exact jy _ (by omega)) (fun j hj=>Bl _) (fun u hu=>FO u (List.mem_of_mem_drop hu))
   obtain⟨W1,mc⟩:∃W1,W1=w.drew.setCells g ((i+1)*2) (xs.drop (i*2)):=⟨_,rfl⟩;rw[←mc] at Bh;have gW:=rJ ((i+1)*2) (xs.drop (i*2)) (by rw[List.length_append,kP,uL,mf];omega)
   have P1:cH g w.drew W1:=by rw[mc];exact cH.iX _ _ _
   have tC:Row W1 vb 68 ys:=P1.row hy cu;rw[←mc] at gW;obtain⟨g2,KZ,tz,_,_,_,_,_,kC,iS,nU⟩:=cj gW (by omega)
   injection tz with jV _ hcc2
   injection jV with jV
   injection jV with jV
   subst jV hcc2
   have Bi:∀ty dc,(Builtin.copy_ #[26,26] ty #[.slice (some ⟨g,i*2,none⟩) (n+1 - i) dc,.slice (some ⟨vb,0,none⟩) 1 1]).run prog W1=.ok (goInt (1:Nat)) (W1.setCells g (i*2) ys):=fun ty dc=>
    f_ W1 _ _ ty 68 2 g (i*2) (n+1 - i) dc ⟨vb,0,none⟩ 1 1 1 ys underlying26 cM (by simp only[Nat.min_def];split<;>omega) (by omega)
     (fun j v hj=>by
      have:=tC.cl j v hj;rw[Nat.zero_add] at this
      rw[Addr.add_lit,Nat.zero_add];exact this)
     (fun j hj=>iS _ (by omega)) (fun j hj=>nU _) uj
   have gX:=kC (i*2) ys (by rw[mK (by rw[List.length_append,kP,uL,mf];omega),List.length_append,kP,uL,xA];omega);have P2:cH g W1 (W1.setCells g (i*2) ys):=cH.iX _ _ _
   have gG:ff (ff (xs++zs) ((i+1)*2) (xs.drop (i*2))) (i*2) ys=ke xs ys (i*2):=by
    rw[Nat.succ_mul];exact xF uL xA Cz
   rw[gG] at gX
   have hG:w.grownBy (W1.setCells g (i*2) ys) ob:=by rw[jx];exact sh ((oT P1).trans P2)
   obtain⟨W2,uu⟩:∃W2,W2=W1.setCells g (i*2) ys:=⟨_,rfl⟩;rw[←uu] at Bi gX hG;clear uu mc P1 P2 tC kC iS nU rJ jy Bl aO fy dW L9 h h' gW gG xv En yJ mf Cz
   go_enter func82,ntmps82
   go_wp2_with (simp only[XE])
   go_region_law (refine step_copy_runI rfl _ _ 26 26 rfl _ _ (by simp[Act.eval,Act.put]) (by simp[Act.eval,Act.put]) (Bh _ _ _) ?_)
   go_wp2_with (first|(refine wpList_copy_runI _ (by rfl) _ _ 26 26 (by rfl) _ _ (by rfl) (by rfl) (Bi _ _) ?_)|fail)
   go_ret
   exact⟨_,rfl,gX,hG⟩
  ·
   have Ej:c<n+1:=by omega
   have XK:(c:Int)<(n:Int)+1:=by omega
   obtain⟨i0,yI,cD,lJ,rK⟩:=info_parts Jp
   have hold:(Builtin.firstCells i0.size i (.slice (some ⟨g,0,none⟩) i c)).run prog w.drew=.ok (xs.take (i*2)).toArray w.drew:=by
    rw[lJ]
    exact run_firstCells_some w.drew 2 i ⟨g,0,none⟩ i c (xs.take (i*2)) (by rw[List.length_take];omega) (fun j v hj=>by
     rw[List.getElem?_take] at hj
     split at hj
     ·have:=aO j v hj;rw[Addr.add_lit];exact this
     ·cases hj)
   have nV:(n:Int)+1 - (i:Int)=((n+1 - i:Nat):Int):=by omega
   have Bp:i+(n+1 - i)=n+1:=by omega
   have LZ:∀ty,∃(G:Nat) (R:List Value),(Builtin.append_ #[26,3] ty #[.slice (some ⟨g,0,none⟩) i c,.int .i64 ((n:Int)+1 - (i:Int))]).run prog w=.ok (.slice (some ⟨w.heap.size,0,none⟩) (n+1) G) (w.drew.alloc (.cells R.toArray 68))∧n+1≤G∧G≤maxLen∧R.length=G*2∧R.take (i*2)=xs.take (i*2):=fun ty=>by
    have hh:=Lib.run_append_grow_zeros w 26 3 ty 68 i0 _ .i64 .i64 underlying26 underlying3 yI cD (some ⟨g,0,none⟩) i c (xs.take (i*2)) hold (n+1 - i) (by omega) (by omega) (by omega) (by omega) (by rw[rK];omega) (by rw[rK,Bp];exact growslice_fits Ej (by omega));rw[Bp,←nV] at hh;have yF:=grownCap_ge w (n+1) c 68;have um:=grownCap_le_maxLen w (n+1) c 68 (by unfold maxLen;omega);generalize hGG:grownCap w (n+1) c 68=G at hh yF um;refine⟨G,_,hh.trans (congrArg (fun a=>Result.ok (Value.slice (some ⟨w.heap.size,0,none⟩) (n+1) G) (w.drew.alloc (.cells a 68))) (Array.toArray_toList).symm),by omega,um,?_,?_⟩
    ·exact H'
    ·rw[Array.toList_append,Array.toList_append,List.append_assoc,List.take_left' (by simp;omega)]
   obtain⟨G,R,iI,yF,um,DT,Lx⟩:=LZ 26;clear LZ hold nV yI cD lJ rK;obtain⟨N,hN⟩:∃N,N=w.heap.size:=⟨_,rfl⟩
   have Lw:(n+1)*2≤R.length:=by rw[DT];exact Nat.mul_le_mul_right 2 yF
   have B1:Below w.heap.size w (w.drew.alloc (.cells R.toArray 68)):=(Below.refl w.heap.size w).drew.alloc (Nat.le_refl _) _
   have mz:(w.drew.alloc (.cells R.toArray 68)).ownsRow base 68 2 (.slice (some ⟨N,0,none⟩) (n+1) G) (n+1) (R.take ((n+1)*2)):=
    ⟨by rw[List.length_take];omega,.inr ⟨N,G,R.toArray,rfl,by omega,by rw[hN];exact Row.new w.drew 68 R,yF,um,by simpa using DT,rfl⟩⟩
   rw[←hN] at iI;obtain⟨W1,mc⟩:∃W1,W1=w.drew.alloc (.cells R.toArray 68):=⟨_,rfl⟩;rw[←mc] at iI mz B1;clear mc;have tC:Row W1 vb 68 ys:=hy.keep B1
   have hgN:g≠N:=by omega
   have hvN:vb≠N:=by omega
   have sW:=aO.below B1 jW;obtain⟨g1,aaV,tw,_,_,_,_,_,uG,qB,Bm⟩:=cj mz (by omega)
   injection tw with rC _ hcc1
   injection rC with rC
   injection rC with rC
   subst rC hcc1
   have pe:(R.take ((n+1)*2)).length=(n+1)*2:=by rw[List.length_take];omega
   have Bj:∀ty dc,(Builtin.copy_ #[26,26] ty #[.slice (some ⟨N,i*2,none⟩) (n+1 - i) dc,.slice (some ⟨vb,0,none⟩) 1 1]).run prog W1=.ok (goInt (1:Nat)) (W1.setCells N (i*2) ys):=fun ty dc=>
    f_ W1 _ _ ty 68 2 N (i*2) (n+1 - i) dc ⟨vb,0,none⟩ 1 1 1 ys underlying26 cM (by simp only[Nat.min_def];split<;>omega) (by omega)
     (fun j v hj=>by
      have:=tC.cl j v hj;rw[Nat.zero_add] at this
      rw[Addr.add_lit,Nat.zero_add];exact this)
     (fun j hj=>qB _ (by omega)) (fun j hj=>Bm _) uj
   have gW:=uG (i*2) ys (by rw[pe,xA];omega);have P1:cH N W1 (W1.setCells N (i*2) ys):=cH.iX _ _ _;obtain⟨W2,uu⟩:∃W2,W2=W1.setCells N (i*2) ys:=⟨_,rfl⟩;rw[←uu] at Bj gW P1;clear uu;have B2:Below w.heap.size w W2:=B1.trans (P1.below (by omega));have oz:=aO.below B2 jW;obtain⟨g2,KZ,tz,_,_,_,_,_,kC,iS,nU⟩:=cj gW.drew (by omega)
   injection tz with jV _ hcc2
   injection jV with jV
   injection jV with jV
   subst jV hcc2
   have Bk:∀ty dc sc,(Builtin.copy_ #[26,26] ty #[.slice (some ⟨N,(i+1)*2,none⟩) (n - i) dc,.slice (some ⟨g,i*2,none⟩) (n - i) sc]).run prog W2.drew=.ok (goInt (n - i:Nat)) (W2.drew.setCells N ((i+1)*2) (xs.drop (i*2))):=fun ty dc sc=>
    f_ W2.drew _ _ ty 68 2 N ((i+1)*2) (n - i) dc ⟨g,i*2,none⟩ (n - i) sc (n - i) (xs.drop (i*2)) underlying26 cM (by simp only[Nat.min_def];split<;>omega) mf
     (fun j v hj=>by
      rw[List.getElem?_drop] at hj;have:=oz _ _ hj;rw[Nat.zero_add] at this
      rw[Addr.add_lit];exact this)
     (fun j hj=>by rw[mf] at hj;exact iS _ (by omega)) (fun j hj=>nU _) (fun u hu=>FO u (List.mem_of_mem_drop hu))
   have gX:=kC ((i+1)*2) (xs.drop (i*2)) (by rw[mK (by rw[pe,xA];omega),pe,mf];omega);have P2:cH N W2.drew (W2.drew.setCells N ((i+1)*2) (xs.drop (i*2))):=cH.iX _ _ _
   have gG:ff (ff (R.take ((n+1)*2)) (i*2) ys) ((i+1)*2) (xs.drop (i*2))=ke xs ys (i*2):=by
    exact Ia
   rw[gG] at gX;have hG:w.grownBy (W2.drew.setCells N ((i+1)*2) (xs.drop (i*2))) ob:=pd (B2.trans ((oT P2).below (by omega))) _;obtain⟨W3,yH⟩:∃W3,W3=W2.drew.setCells N ((i+1)*2) (xs.drop (i*2)):=⟨_,rfl⟩;rw[←yH] at Bk gX hG
   have hGi:¬(G=i):=by omega
   have aa':¬(G=i+1):=by omega
   have aa_:(G:Int)≤9223372036854775807:=by unfold maxLen at um;omega
   clear yH P1 P2 tC kC iS nU uG qB Bm aO sW oz dW h mz gW gG mf Cz Lx pe DT Lw B1 B2 hN
   go_enter func82,ntmps82
   go_wp2_with (first
    |(refine Lib.wpList_append_run _ (by rfl) _ _ _ _ (by rfl) _ _ (by rfl) (by rfl) _ _ iI ?_)
    |(refine wpList_copy_runI _ (by rfl) _ _ 26 26 (by rfl) _ _ (by rfl) (by rfl) (Bj _ _) ?_)
    |fail)
   go_region_law (refine step_copy_runI rfl _ _ 26 26 rfl _ _ (by simp[Act.eval,Act.put]) (by simp[Act.eval,Act.put]) (Bk _ _ _) ?_)
   go_wp2_with fail
   go_ret
   exact⟨_,rfl,gX,hG⟩
theorem acg (w:World) (a b:Addr) (la ca lb cb:Nat) (cu:a.block≠b.block) (tA tB:TypeId) (kA kB:Nat) (L5:w.shape? a.block=some (tA,kA)) (Jh:w.shape? b.block=some (tB,kB)) (yJ:kB≠0)
  (Xb:w.frozen? a=false) (Xc:w.frozen? {block:=a.block,off:=kA}=false):(callFunc 138 #[.slice (some a) la ca,.slice (some b) lb cb]).run prog w=.ok (.value (.bool false)) w:=by
 rw[run_callFunc_extern func138 (by kernel_rfl) (by kernel_rfl) (by kernel_rfl) (e:=Extern.SlicesOverlaps.overlaps #[27,27] #[4]) (by kernel_rfl),
  Lib.run_overlaps_apart w 27 4 70 underlying27 5 sizeOf70 a b la ca lb cb cu tA tB kA kB L5 Jh yJ Xb Xc]
 rfl
theorem Mh (base:Nat) (v:Value) (n i:Nat) (xs ys:List Value) (vb:Nat) (w:World) (h:w.ownsRow base 70 5 v n xs) (hy:Row w vb 70 ys) (xA:ys.length=5) (FO:∀u∈xs,u.oneCell'=true) (uj:∀u∈ys,u.oneCell'=true) (hi:i≤n) (hn:n≤1100000) (sw:v.ownBlock≠some vb) (fD:base≤w.heap.size):
  Calls prog 86 #[v,.int .i64 i,.slice (some ⟨vb,0,none⟩) 1 1] w fun e w'=>∃v',e=.returned v'∧w'.ownsRow base 70 5 v' (n+1) (ke xs ys (i*5))∧w.grownBy w' v.ownBlock:=by
 obtain⟨X,c,rfl,su,DY⟩:=aj h;have kP:=h.1
 have cM:(prog.info? 70).map (·.size)=some 5:=by kernel_rfl
 have abl:c≤9223372036854775807:=by simpa[maxLen] using DY
 generalize LW:(Value.slice X n c).ownBlock=ob at sw ⊢
 by_cases dZ:i=n
 ·subst dZ;have X_:dF w (some ⟨vb,0,none⟩) 1 5 ys:=⟨by omega,fun _=>⟨vb,0,rfl,hy.cl⟩⟩
  have he:ke xs ys (i*5)=xs++ys:=by unfold ke;rw[List.take_of_length_le (by omega),List.drop_eq_nil_of_le (by omega),List.append_nil]
  rw[he];clear he
  have hcI:(i:Int)≤(c:Int):=by omega
  have yI:(0:Int)≤(i:Int):=by omega
  go_enter func86,ntmps86
  go_wp2_with (first|(refine cv (by rfl) (.tmp 23) (.tmp 24) 27 (by rfl) base 70 _ 5 48 underlying27 Jo rfl (by decide) (.slice X i c) i xs (some ⟨vb,0,none⟩) 1 1 ys (by rfl) (by rfl) h X_ uj (by unfold maxLen;omega) (by omega) fD ?_;intro v2 w2 gM gy;rw[LW] at gy)|fail)
  all_goals
   go_ret
   exact⟨_,rfl,gM,gy⟩
 ·have v8:i<n:=by omega
  obtain⟨g,cap,hv,_,_,hb,dW,aO,_,_,kv⟩:=cj h (by omega)
  injection hv with hX _ OM
  subst hX OM;have jx:ob=some g:=LW.symm
  have cu:vb≠g:=fun e=>sw (by rw[jx,e])
  have jW:g<w.heap.size:=aO.lt (by rw[kP];omega);have yT:vb<w.heap.size:=hy.lt
  have Cz:i*5≤xs.length:=by rw[kP];omega
  have mf:(xs.drop (i*5)).length=(n - i)*5:=by rw[List.length_drop,kP];omega
  have hiI:(i:Int)<(n:Int):=by omega
  have abt:¬((i:Int)=(n:Int)):=by omega
  have yI:(0:Int)≤(i:Int):=by omega
  have nX:IntKind.i64.wrap ((i:Int)+1)=(i:Int)+1:=by rw[IntKind.wrap_i64];omega
  have htn:((i:Int)+1).toNat=i+1:=by omega
  have aC:(0:Int)≤(i:Int)+1:=by omega
  have eE:(i:Int)≤(n:Int):=by omega
  have gn:¬(c=i):=by omega
  by_cases hr:n+1≤c
  ·obtain⟨zs,uL,h'⟩:=AI h hr;obtain⟨g',mS,lr,_,_,_,L9,fy,rJ,jy,Bl⟩:=cj h'.drew (by omega)
   injection lr with hX' _ hcc'
   injection hX' with hX'
   injection hX' with hX'
   subst hX' hcc'
   have XK:(n:Int)+1≤(c:Int):=by omega
   have aby:¬((c:Int)<(n:Int)+1):=by omega
   have ax:¬(c=i+1):=by omega
   have iB:(i:Int)≤(n:Int)+1:=by omega
   have rE:(i:Int)+1≤(n:Int)+1:=by omega
   have L7:∃kB,w.shape? g=some (70,kB)∧kB≠0:=by
    exact H_
   obtain⟨kB,En,yJ⟩:=L7
   have xv:w.shape? vb=some (70,ys.length):=by unfold Row at hy;simp[World.shape?,hy]
   have XE:∀lb cb,(callFunc 138 #[.slice (some ⟨vb,0,none⟩) 1 1,.slice (some ⟨g,(i+1)*5,none⟩) lb cb]).run prog w=.ok (.value (.bool false)) w:=fun lb cb=>
    acg w ⟨vb,0,none⟩ ⟨g,(i+1)*5,none⟩ 1 1 lb cb cu _ _ _ _ xv En yJ (hy.frozen 0) (hy.frozen _)
   have Bh:∀ty dc sc,(Builtin.copy_ #[27,27] ty #[.slice (some ⟨g,(i+1)*5,none⟩) (n - i) dc,.slice (some ⟨g,i*5,none⟩) (n+1 - i) sc]).run prog w.drew=.ok (goInt (n - i:Nat)) (w.drew.setCells g ((i+1)*5) (xs.drop (i*5))):=fun ty dc sc=>
    f_ w.drew _ _ ty 70 5 g ((i+1)*5) (n - i) dc ⟨g,i*5,none⟩ (n+1 - i) sc (n - i) (xs.drop (i*5)) underlying27 cM (by simp only[Nat.min_def];split<;>omega) mf
     (fun j v hj=>by
      rw[List.getElem?_drop] at hj;have:=aO _ _ hj;rw[Nat.zero_add] at this
      rw[Addr.add_lit];exact this)
     (fun j hj=>by rw[mf] at hj;exact jy _ (by omega)) (fun j hj=>Bl _) (fun u hu=>FO u (List.mem_of_mem_drop hu))
   obtain⟨W1,mc⟩:∃W1,W1=w.drew.setCells g ((i+1)*5) (xs.drop (i*5)):=⟨_,rfl⟩;rw[←mc] at Bh;have gW:=rJ ((i+1)*5) (xs.drop (i*5)) (by rw[List.length_append,kP,uL,mf];omega)
   have P1:cH g w.drew W1:=by rw[mc];exact cH.iX _ _ _
   have tC:Row W1 vb 70 ys:=P1.row hy cu;rw[←mc] at gW;obtain⟨g2,KZ,tz,_,_,_,_,_,kC,iS,nU⟩:=cj gW (by omega)
   injection tz with jV _ hcc2
   injection jV with jV
   injection jV with jV
   subst jV hcc2
   have Bi:∀ty dc,(Builtin.copy_ #[27,27] ty #[.slice (some ⟨g,i*5,none⟩) (n+1 - i) dc,.slice (some ⟨vb,0,none⟩) 1 1]).run prog W1=.ok (goInt (1:Nat)) (W1.setCells g (i*5) ys):=fun ty dc=>
    f_ W1 _ _ ty 70 5 g (i*5) (n+1 - i) dc ⟨vb,0,none⟩ 1 1 1 ys underlying27 cM (by simp only[Nat.min_def];split<;>omega) (by omega)
     (fun j v hj=>by
      have:=tC.cl j v hj;rw[Nat.zero_add] at this
      rw[Addr.add_lit,Nat.zero_add];exact this)
     (fun j hj=>iS _ (by omega)) (fun j hj=>nU _) uj
   have gX:=kC (i*5) ys (by rw[mK (by rw[List.length_append,kP,uL,mf];omega),List.length_append,kP,uL,xA];omega);have P2:cH g W1 (W1.setCells g (i*5) ys):=cH.iX _ _ _
   have gG:ff (ff (xs++zs) ((i+1)*5) (xs.drop (i*5))) (i*5) ys=ke xs ys (i*5):=by
    rw[Nat.succ_mul];exact xF uL xA Cz
   rw[gG] at gX
   have hG:w.grownBy (W1.setCells g (i*5) ys) ob:=by rw[jx];exact sh ((oT P1).trans P2)
   obtain⟨W2,uu⟩:∃W2,W2=W1.setCells g (i*5) ys:=⟨_,rfl⟩;rw[←uu] at Bi gX hG;clear uu mc P1 P2 tC kC iS nU rJ jy Bl aO fy dW L9 h h' gW gG xv En yJ mf Cz
   go_enter func86,ntmps86
   go_wp2_with (simp only[XE])
   go_region_law (refine step_copy_runI rfl _ _ 27 27 rfl _ _ (by simp[Act.eval,Act.put]) (by simp[Act.eval,Act.put]) (Bh _ _ _) ?_)
   go_wp2_with (first|(refine wpList_copy_runI _ (by rfl) _ _ 27 27 (by rfl) _ _ (by rfl) (by rfl) (Bi _ _) ?_)|fail)
   go_ret
   exact⟨_,rfl,gX,hG⟩
  ·
   have Ej:c<n+1:=by omega
   have XK:(c:Int)<(n:Int)+1:=by omega
   obtain⟨i0,yI,cD,lJ,rK⟩:=info_parts Jo
   have hold:(Builtin.firstCells i0.size i (.slice (some ⟨g,0,none⟩) i c)).run prog w.drew=.ok (xs.take (i*5)).toArray w.drew:=by
    rw[lJ]
    exact run_firstCells_some w.drew 5 i ⟨g,0,none⟩ i c (xs.take (i*5)) (by rw[List.length_take];omega) (fun j v hj=>by
     rw[List.getElem?_take] at hj
     split at hj
     ·have:=aO j v hj;rw[Addr.add_lit];exact this
     ·cases hj)
   have nV:(n:Int)+1 - (i:Int)=((n+1 - i:Nat):Int):=by omega
   have Bp:i+(n+1 - i)=n+1:=by omega
   have LZ:∀ty,∃(G:Nat) (R:List Value),(Builtin.append_ #[27,3] ty #[.slice (some ⟨g,0,none⟩) i c,.int .i64 ((n:Int)+1 - (i:Int))]).run prog w=.ok (.slice (some ⟨w.heap.size,0,none⟩) (n+1) G) (w.drew.alloc (.cells R.toArray 70))∧n+1≤G∧G≤maxLen∧R.length=G*5∧R.take (i*5)=xs.take (i*5):=fun ty=>by
    have hh:=Lib.run_append_grow_zeros w 27 3 ty 70 i0 _ .i64 .i64 underlying27 underlying3 yI cD (some ⟨g,0,none⟩) i c (xs.take (i*5)) hold (n+1 - i) (by omega) (by omega) (by omega) (by omega) (by rw[rK];omega) (by rw[rK,Bp];exact growslice_fits Ej (by omega));rw[Bp,←nV] at hh;have yF:=grownCap_ge w (n+1) c 70;have um:=grownCap_le_maxLen w (n+1) c 70 (by unfold maxLen;omega);generalize hGG:grownCap w (n+1) c 70=G at hh yF um;refine⟨G,_,hh.trans (congrArg (fun a=>Result.ok (Value.slice (some ⟨w.heap.size,0,none⟩) (n+1) G) (w.drew.alloc (.cells a 70))) (Array.toArray_toList).symm),by omega,um,?_,?_⟩
    ·exact H'
    ·rw[Array.toList_append,Array.toList_append,List.append_assoc,List.take_left' (by simp;omega)]
   obtain⟨G,R,iI,yF,um,DT,Lx⟩:=LZ 27;clear LZ hold nV yI cD lJ rK;obtain⟨N,hN⟩:∃N,N=w.heap.size:=⟨_,rfl⟩
   have Lw:(n+1)*5≤R.length:=by rw[DT];exact Nat.mul_le_mul_right 5 yF
   have B1:Below w.heap.size w (w.drew.alloc (.cells R.toArray 70)):=(Below.refl w.heap.size w).drew.alloc (Nat.le_refl _) _
   have mz:(w.drew.alloc (.cells R.toArray 70)).ownsRow base 70 5 (.slice (some ⟨N,0,none⟩) (n+1) G) (n+1) (R.take ((n+1)*5)):=
    ⟨by rw[List.length_take];omega,.inr ⟨N,G,R.toArray,rfl,by omega,by rw[hN];exact Row.new w.drew 70 R,yF,um,by simpa using DT,rfl⟩⟩
   rw[←hN] at iI;obtain⟨W1,mc⟩:∃W1,W1=w.drew.alloc (.cells R.toArray 70):=⟨_,rfl⟩;rw[←mc] at iI mz B1;clear mc;have tC:Row W1 vb 70 ys:=hy.keep B1
   have hgN:g≠N:=by omega
   have hvN:vb≠N:=by omega
   have sW:=aO.below B1 jW;obtain⟨g1,aaV,tw,_,_,_,_,_,uG,qB,Bm⟩:=cj mz (by omega)
   injection tw with rC _ hcc1
   injection rC with rC
   injection rC with rC
   subst rC hcc1
   have pe:(R.take ((n+1)*5)).length=(n+1)*5:=by rw[List.length_take];omega
   have Bj:∀ty dc,(Builtin.copy_ #[27,27] ty #[.slice (some ⟨N,i*5,none⟩) (n+1 - i) dc,.slice (some ⟨vb,0,none⟩) 1 1]).run prog W1=.ok (goInt (1:Nat)) (W1.setCells N (i*5) ys):=fun ty dc=>
    f_ W1 _ _ ty 70 5 N (i*5) (n+1 - i) dc ⟨vb,0,none⟩ 1 1 1 ys underlying27 cM (by simp only[Nat.min_def];split<;>omega) (by omega)
     (fun j v hj=>by
      have:=tC.cl j v hj;rw[Nat.zero_add] at this
      rw[Addr.add_lit,Nat.zero_add];exact this)
     (fun j hj=>qB _ (by omega)) (fun j hj=>Bm _) uj
   have gW:=uG (i*5) ys (by rw[pe,xA];omega);have P1:cH N W1 (W1.setCells N (i*5) ys):=cH.iX _ _ _;obtain⟨W2,uu⟩:∃W2,W2=W1.setCells N (i*5) ys:=⟨_,rfl⟩;rw[←uu] at Bj gW P1;clear uu;have B2:Below w.heap.size w W2:=B1.trans (P1.below (by omega));have oz:=aO.below B2 jW;obtain⟨g2,KZ,tz,_,_,_,_,_,kC,iS,nU⟩:=cj gW.drew (by omega)
   injection tz with jV _ hcc2
   injection jV with jV
   injection jV with jV
   subst jV hcc2
   have Bk:∀ty dc sc,(Builtin.copy_ #[27,27] ty #[.slice (some ⟨N,(i+1)*5,none⟩) (n - i) dc,.slice (some ⟨g,i*5,none⟩) (n - i) sc]).run prog W2.drew=.ok (goInt (n - i:Nat)) (W2.drew.setCells N ((i+1)*5) (xs.drop (i*5))):=fun ty dc sc=>
    f_ W2.drew _ _ ty 70 5 N ((i+1)*5) (n - i) dc ⟨g,i*5,none⟩ (n - i) sc (n - i) (xs.drop (i*5)) underlying27 cM (by simp only[Nat.min_def];split<;>omega) mf
     (fun j v hj=>by
      rw[List.getElem?_drop] at hj;have:=oz _ _ hj;rw[Nat.zero_add] at this
      rw[Addr.add_lit];exact this)
     (fun j hj=>by rw[mf] at hj;exact iS _ (by omega)) (fun j hj=>nU _) (fun u hu=>FO u (List.mem_of_mem_drop hu))
   have gX:=kC ((i+1)*5) (xs.drop (i*5)) (by rw[mK (by rw[pe,xA];omega),pe,mf];omega);have P2:cH N W2.drew (W2.drew.setCells N ((i+1)*5) (xs.drop (i*5))):=cH.iX _ _ _
   have gG:ff (ff (R.take ((n+1)*5)) (i*5) ys) ((i+1)*5) (xs.drop (i*5))=ke xs ys (i*5):=by
    exact Ia
   rw[gG] at gX;have hG:w.grownBy (W2.drew.setCells N ((i+1)*5) (xs.drop (i*5))) ob:=pd (B2.trans ((oT P2).below (by omega))) _;obtain⟨W3,yH⟩:∃W3,W3=W2.drew.setCells N ((i+1)*5) (xs.drop (i*5)):=⟨_,rfl⟩;rw[←yH] at Bk gX hG
   have hGi:¬(G=i):=by omega
   have aa':¬(G=i+1):=by omega
   have aa_:(G:Int)≤9223372036854775807:=by unfold maxLen at um;omega
   clear yH P1 P2 tC kC iS nU uG qB Bm aO sW oz dW h mz gW gG mf Cz Lx pe DT Lw B1 B2 hN
   go_enter func86,ntmps86
   go_wp2_with (first
    |(refine Lib.wpList_append_run _ (by rfl) _ _ _ _ (by rfl) _ _ (by rfl) (by rfl) _ _ iI ?_)
    |(refine wpList_copy_runI _ (by rfl) _ _ 27 27 (by rfl) _ _ (by rfl) (by rfl) (Bj _ _) ?_)
    |fail)
   go_region_law (refine step_copy_runI rfl _ _ 27 27 rfl _ _ (by simp[Act.eval,Act.put]) (by simp[Act.eval,Act.put]) (Bk _ _ _) ?_)
   go_wp2_with fail
   go_ret
   exact⟨_,rfl,gX,hG⟩
theorem ach (w:World) (a b:Addr) (la ca lb cb:Nat) (cu:a.block≠b.block) (tA tB:TypeId) (kA kB:Nat) (L5:w.shape? a.block=some (tA,kA)) (Jh:w.shape? b.block=some (tB,kB)) (yJ:kB≠0)
  (Xb:w.frozen? a=false) (Xc:w.frozen? {block:=a.block,off:=kA}=false):(callFunc 140 #[.slice (some a) la ca,.slice (some b) lb cb]).run prog w=.ok (.value (.bool false)) w:=by
 rw[run_callFunc_extern func140 (by kernel_rfl) (by kernel_rfl) (by kernel_rfl) (e:=Extern.SlicesOverlaps.overlaps #[28,28] #[4]) (by kernel_rfl),
  Lib.run_overlaps_apart w 28 4 44 underlying28 7 sizeOf44 a b la ca lb cb cu tA tB kA kB L5 Jh yJ Xb Xc]
 rfl
theorem Mj (base:Nat) (v:Value) (n i:Nat) (xs ys:List Value) (vb:Nat) (w:World) (h:w.ownsRow base 44 7 v n xs) (hy:Row w vb 44 ys) (xA:ys.length=7) (FO:∀u∈xs,u.oneCell'=true) (uj:∀u∈ys,u.oneCell'=true) (hi:i≤n) (hn:n≤1100000) (sw:v.ownBlock≠some vb) (fD:base≤w.heap.size):
  Calls prog 89 #[v,.int .i64 i,.slice (some ⟨vb,0,none⟩) 1 1] w fun e w'=>∃v',e=.returned v'∧w'.ownsRow base 44 7 v' (n+1) (ke xs ys (i*7))∧w.grownBy w' v.ownBlock:=by
 obtain⟨X,c,rfl,su,DY⟩:=aj h;have kP:=h.1
 have cM:(prog.info? 44).map (·.size)=some 7:=by kernel_rfl
 have abl:c≤9223372036854775807:=by simpa[maxLen] using DY
 generalize LW:(Value.slice X n c).ownBlock=ob at sw ⊢
 by_cases dZ:i=n
 ·subst dZ;have X_:dF w (some ⟨vb,0,none⟩) 1 7 ys:=⟨by omega,fun _=>⟨vb,0,rfl,hy.cl⟩⟩
  have he:ke xs ys (i*7)=xs++ys:=by unfold ke;rw[List.take_of_length_le (by omega),List.drop_eq_nil_of_le (by omega),List.append_nil]
  rw[he];clear he
  have hcI:(i:Int)≤(c:Int):=by omega
  have yI:(0:Int)≤(i:Int):=by omega
  go_enter func89,ntmps89
  go_wp2_with (first|(refine cv (by rfl) (.tmp 23) (.tmp 24) 28 (by rfl) base 44 _ 7 136 underlying28 AB rfl (by decide) (.slice X i c) i xs (some ⟨vb,0,none⟩) 1 1 ys (by rfl) (by rfl) h X_ uj (by unfold maxLen;omega) (by omega) fD ?_;intro v2 w2 gM gy;rw[LW] at gy)|fail)
  all_goals
   go_ret
   exact⟨_,rfl,gM,gy⟩
 ·have v8:i<n:=by omega
  obtain⟨g,cap,hv,_,_,hb,dW,aO,_,_,kv⟩:=cj h (by omega)
  injection hv with hX _ OM
  subst hX OM;have jx:ob=some g:=LW.symm
  have cu:vb≠g:=fun e=>sw (by rw[jx,e])
  have jW:g<w.heap.size:=aO.lt (by rw[kP];omega);have yT:vb<w.heap.size:=hy.lt
  have Cz:i*7≤xs.length:=by rw[kP];omega
  have mf:(xs.drop (i*7)).length=(n - i)*7:=by rw[List.length_drop,kP];omega
  have hiI:(i:Int)<(n:Int):=by omega
  have abt:¬((i:Int)=(n:Int)):=by omega
  have yI:(0:Int)≤(i:Int):=by omega
  have nX:IntKind.i64.wrap ((i:Int)+1)=(i:Int)+1:=by rw[IntKind.wrap_i64];omega
  have htn:((i:Int)+1).toNat=i+1:=by omega
  have aC:(0:Int)≤(i:Int)+1:=by omega
  have eE:(i:Int)≤(n:Int):=by omega
  have gn:¬(c=i):=by omega
  by_cases hr:n+1≤c
  ·obtain⟨zs,uL,h'⟩:=AI h hr;obtain⟨g',mS,lr,_,_,_,L9,fy,rJ,jy,Bl⟩:=cj h'.drew (by omega)
   injection lr with hX' _ hcc'
   injection hX' with hX'
   injection hX' with hX'
   subst hX' hcc'
   have XK:(n:Int)+1≤(c:Int):=by omega
   have aby:¬((c:Int)<(n:Int)+1):=by omega
   have ax:¬(c=i+1):=by omega
   have iB:(i:Int)≤(n:Int)+1:=by omega
   have rE:(i:Int)+1≤(n:Int)+1:=by omega
   have L7:∃kB,w.shape? g=some (44,kB)∧kB≠0:=by
    exact H_
   obtain⟨kB,En,yJ⟩:=L7
   have xv:w.shape? vb=some (44,ys.length):=by unfold Row at hy;simp[World.shape?,hy]
   have XE:∀lb cb,(callFunc 140 #[.slice (some ⟨vb,0,none⟩) 1 1,.slice (some ⟨g,(i+1)*7,none⟩) lb cb]).run prog w=.ok (.value (.bool false)) w:=fun lb cb=>
    ach w ⟨vb,0,none⟩ ⟨g,(i+1)*7,none⟩ 1 1 lb cb cu _ _ _ _ xv En yJ (hy.frozen 0) (hy.frozen _)
   have Bh:∀ty dc sc,(Builtin.copy_ #[28,28] ty #[.slice (some ⟨g,(i+1)*7,none⟩) (n - i) dc,.slice (some ⟨g,i*7,none⟩) (n+1 - i) sc]).run prog w.drew=.ok (goInt (n - i:Nat)) (w.drew.setCells g ((i+1)*7) (xs.drop (i*7))):=fun ty dc sc=>
    f_ w.drew _ _ ty 44 7 g ((i+1)*7) (n - i) dc ⟨g,i*7,none⟩ (n+1 - i) sc (n - i) (xs.drop (i*7)) underlying28 cM (by simp only[Nat.min_def];split<;>omega) mf
     (fun j v hj=>by
      rw[List.getElem?_drop] at hj;have:=aO _ _ hj;rw[Nat.zero_add] at this
      rw[Addr.add_lit];exact this)
     (fun j hj=>by rw[mf] at hj;exact jy _ (by omega)) (fun j hj=>Bl _) (fun u hu=>FO u (List.mem_of_mem_drop hu))
   obtain⟨W1,mc⟩:∃W1,W1=w.drew.setCells g ((i+1)*7) (xs.drop (i*7)):=⟨_,rfl⟩;rw[←mc] at Bh;have gW:=rJ ((i+1)*7) (xs.drop (i*7)) (by rw[List.length_append,kP,uL,mf];omega)
   have P1:cH g w.drew W1:=by rw[mc];exact cH.iX _ _ _
   have tC:Row W1 vb 44 ys:=P1.row hy cu;rw[←mc] at gW;obtain⟨g2,KZ,tz,_,_,_,_,_,kC,iS,nU⟩:=cj gW (by omega)
   injection tz with jV _ hcc2
   injection jV with jV
   injection jV with jV
   subst jV hcc2
   have Bi:∀ty dc,(Builtin.copy_ #[28,28] ty #[.slice (some ⟨g,i*7,none⟩) (n+1 - i) dc,.slice (some ⟨vb,0,none⟩) 1 1]).run prog W1=.ok (goInt (1:Nat)) (W1.setCells g (i*7) ys):=fun ty dc=>
    f_ W1 _ _ ty 44 7 g (i*7) (n+1 - i) dc ⟨vb,0,none⟩ 1 1 1 ys underlying28 cM (by simp only[Nat.min_def];split<;>omega) (by omega)
     (fun j v hj=>by
      have:=tC.cl j v hj;rw[Nat.zero_add] at this
      rw[Addr.add_lit,Nat.zero_add];exact this)
     (fun j hj=>iS _ (by omega)) (fun j hj=>nU _) uj
   have gX:=kC (i*7) ys (by rw[mK (by rw[List.length_append,kP,uL,mf];omega),List.length_append,kP,uL,xA];omega);have P2:cH g W1 (W1.setCells g (i*7) ys):=cH.iX _ _ _
   have gG:ff (ff (xs++zs) ((i+1)*7) (xs.drop (i*7))) (i*7) ys=ke xs ys (i*7):=by
    rw[Nat.succ_mul];exact xF uL xA Cz
   rw[gG] at gX
   have hG:w.grownBy (W1.setCells g (i*7) ys) ob:=by rw[jx];exact sh ((oT P1).trans P2)
   obtain⟨W2,uu⟩:∃W2,W2=W1.setCells g (i*7) ys:=⟨_,rfl⟩;rw[←uu] at Bi gX hG;clear uu mc P1 P2 tC kC iS nU rJ jy Bl aO fy dW L9 h h' gW gG xv En yJ mf Cz
   go_enter func89,ntmps89
   go_wp2_with (simp only[XE])
   go_region_law (refine step_copy_runI rfl _ _ 28 28 rfl _ _ (by simp[Act.eval,Act.put]) (by simp[Act.eval,Act.put]) (Bh _ _ _) ?_)
   go_wp2_with (first|(refine wpList_copy_runI _ (by rfl) _ _ 28 28 (by rfl) _ _ (by rfl) (by rfl) (Bi _ _) ?_)|fail)
   go_ret
   exact⟨_,rfl,gX,hG⟩
  ·
   have Ej:c<n+1:=by omega
   have XK:(c:Int)<(n:Int)+1:=by omega
   obtain⟨i0,yI,cD,lJ,rK⟩:=info_parts AB
   have hold:(Builtin.firstCells i0.size i (.slice (some ⟨g,0,none⟩) i c)).run prog w.drew=.ok (xs.take (i*7)).toArray w.drew:=by
    rw[lJ]
    exact run_firstCells_some w.drew 7 i ⟨g,0,none⟩ i c (xs.take (i*7)) (by rw[List.length_take];omega) (fun j v hj=>by
     rw[List.getElem?_take] at hj
     split at hj
     ·have:=aO j v hj;rw[Addr.add_lit];exact this
     ·cases hj)
   have nV:(n:Int)+1 - (i:Int)=((n+1 - i:Nat):Int):=by omega
   have Bp:i+(n+1 - i)=n+1:=by omega
   have LZ:∀ty,∃(G:Nat) (R:List Value),(Builtin.append_ #[28,3] ty #[.slice (some ⟨g,0,none⟩) i c,.int .i64 ((n:Int)+1 - (i:Int))]).run prog w=.ok (.slice (some ⟨w.heap.size,0,none⟩) (n+1) G) (w.drew.alloc (.cells R.toArray 44))∧n+1≤G∧G≤maxLen∧R.length=G*7∧R.take (i*7)=xs.take (i*7):=fun ty=>by
    have hh:=Lib.run_append_grow_zeros w 28 3 ty 44 i0 _ .i64 .i64 underlying28 underlying3 yI cD (some ⟨g,0,none⟩) i c (xs.take (i*7)) hold (n+1 - i) (by omega) (by omega) (by omega) (by omega) (by rw[rK];omega) (by rw[rK,Bp];exact growslice_fits Ej (by omega));rw[Bp,←nV] at hh;have yF:=grownCap_ge w (n+1) c 44;have um:=grownCap_le_maxLen w (n+1) c 44 (by unfold maxLen;omega);generalize hGG:grownCap w (n+1) c 44=G at hh yF um;refine⟨G,_,hh.trans (congrArg (fun a=>Result.ok (Value.slice (some ⟨w.heap.size,0,none⟩) (n+1) G) (w.drew.alloc (.cells a 44))) (Array.toArray_toList).symm),by omega,um,?_,?_⟩
    ·exact H'
    ·rw[Array.toList_append,Array.toList_append,List.append_assoc,List.take_left' (by simp;omega)]
   obtain⟨G,R,iI,yF,um,DT,Lx⟩:=LZ 28;clear LZ hold nV yI cD lJ rK;obtain⟨N,hN⟩:∃N,N=w.heap.size:=⟨_,rfl⟩
   have Lw:(n+1)*7≤R.length:=by rw[DT];exact Nat.mul_le_mul_right 7 yF
   have B1:Below w.heap.size w (w.drew.alloc (.cells R.toArray 44)):=(Below.refl w.heap.size w).drew.alloc (Nat.le_refl _) _
   have mz:(w.drew.alloc (.cells R.toArray 44)).ownsRow base 44 7 (.slice (some ⟨N,0,none⟩) (n+1) G) (n+1) (R.take ((n+1)*7)):=
    ⟨by rw[List.length_take];omega,.inr ⟨N,G,R.toArray,rfl,by omega,by rw[hN];exact Row.new w.drew 44 R,yF,um,by simpa using DT,rfl⟩⟩
   rw[←hN] at iI;obtain⟨W1,mc⟩:∃W1,W1=w.drew.alloc (.cells R.toArray 44):=⟨_,rfl⟩;rw[←mc] at iI mz B1;clear mc;have tC:Row W1 vb 44 ys:=hy.keep B1
   have hgN:g≠N:=by omega
   have hvN:vb≠N:=by omega
   have sW:=aO.below B1 jW;obtain⟨g1,aaV,tw,_,_,_,_,_,uG,qB,Bm⟩:=cj mz (by omega)
   injection tw with rC _ hcc1
   injection rC with rC
   injection rC with rC
   subst rC hcc1
   have pe:(R.take ((n+1)*7)).length=(n+1)*7:=by rw[List.length_take];omega
   have Bj:∀ty dc,(Builtin.copy_ #[28,28] ty #[.slice (some ⟨N,i*7,none⟩) (n+1 - i) dc,.slice (some ⟨vb,0,none⟩) 1 1]).run prog W1=.ok (goInt (1:Nat)) (W1.setCells N (i*7) ys):=fun ty dc=>
    f_ W1 _ _ ty 44 7 N (i*7) (n+1 - i) dc ⟨vb,0,none⟩ 1 1 1 ys underlying28 cM (by simp only[Nat.min_def];split<;>omega) (by omega)
     (fun j v hj=>by
      have:=tC.cl j v hj;rw[Nat.zero_add] at this
      rw[Addr.add_lit,Nat.zero_add];exact this)
     (fun j hj=>qB _ (by omega)) (fun j hj=>Bm _) uj
   have gW:=uG (i*7) ys (by rw[pe,xA];omega);have P1:cH N W1 (W1.setCells N (i*7) ys):=cH.iX _ _ _;obtain⟨W2,uu⟩:∃W2,W2=W1.setCells N (i*7) ys:=⟨_,rfl⟩;rw[←uu] at Bj gW P1;clear uu;have B2:Below w.heap.size w W2:=B1.trans (P1.below (by omega));have oz:=aO.below B2 jW;obtain⟨g2,KZ,tz,_,_,_,_,_,kC,iS,nU⟩:=cj gW.drew (by omega)
   injection tz with jV _ hcc2
   injection jV with jV
   injection jV with jV
   subst jV hcc2
   have Bk:∀ty dc sc,(Builtin.copy_ #[28,28] ty #[.slice (some ⟨N,(i+1)*7,none⟩) (n - i) dc,.slice (some ⟨g,i*7,none⟩) (n - i) sc]).run prog W2.drew=.ok (goInt (n - i:Nat)) (W2.drew.setCells N ((i+1)*7) (xs.drop (i*7))):=fun ty dc sc=>
    f_ W2.drew _ _ ty 44 7 N ((i+1)*7) (n - i) dc ⟨g,i*7,none⟩ (n - i) sc (n - i) (xs.drop (i*7)) underlying28 cM (by simp only[Nat.min_def];split<;>omega) mf
     (fun j v hj=>by
      rw[List.getElem?_drop] at hj;have:=oz _ _ hj;rw[Nat.zero_add] at this
      rw[Addr.add_lit];exact this)
     (fun j hj=>by rw[mf] at hj;exact iS _ (by omega)) (fun j hj=>nU _) (fun u hu=>FO u (List.mem_of_mem_drop hu))
   have gX:=kC ((i+1)*7) (xs.drop (i*7)) (by rw[mK (by rw[pe,xA];omega),pe,mf];omega);have P2:cH N W2.drew (W2.drew.setCells N ((i+1)*7) (xs.drop (i*7))):=cH.iX _ _ _
   have gG:ff (ff (R.take ((n+1)*7)) (i*7) ys) ((i+1)*7) (xs.drop (i*7))=ke xs ys (i*7):=by
    exact Ia
   rw[gG] at gX;have hG:w.grownBy (W2.drew.setCells N ((i+1)*7) (xs.drop (i*7))) ob:=pd (B2.trans ((oT P2).below (by omega))) _;obtain⟨W3,yH⟩:∃W3,W3=W2.drew.setCells N ((i+1)*7) (xs.drop (i*7)):=⟨_,rfl⟩;rw[←yH] at Bk gX hG
   have hGi:¬(G=i):=by omega
   have aa':¬(G=i+1):=by omega
   have aa_:(G:Int)≤9223372036854775807:=by unfold maxLen at um;omega
   clear yH P1 P2 tC kC iS nU uG qB Bm aO sW oz dW h mz gW gG mf Cz Lx pe DT Lw B1 B2 hN
   go_enter func89,ntmps89
   go_wp2_with (first
    |(refine Lib.wpList_append_run _ (by rfl) _ _ _ _ (by rfl) _ _ (by rfl) (by rfl) _ _ iI ?_)
    |(refine wpList_copy_runI _ (by rfl) _ _ 28 28 (by rfl) _ _ (by rfl) (by rfl) (Bj _ _) ?_)
    |fail)
   go_region_law (refine step_copy_runI rfl _ _ 28 28 rfl _ _ (by simp[Act.eval,Act.put]) (by simp[Act.eval,Act.put]) (Bk _ _ _) ?_)
   go_wp2_with fail
   go_ret
   exact⟨_,rfl,gX,hG⟩
end
end Go.Proofs.YtdnpopjabpklnaaGreatDoor
