/- Contracts and plain laws that the proof of the top laws uses (G14). No condition beyond those stated. -/
import Derived.Test.YtdnpopjabpklnaaGreatDoorTrC
import Derived.Test.YtdnpopjabpklnaaGreatDoorG10
set_option maxRecDepth 100000
set_option maxHeartbeats 64000000
set_option linter.all false
namespace Go.Proofs.YtdnpopjabpklnaaGreatDoor
section
open Go.RowKit
theorem MN {P:Program} {ty k:Nat} {a:Act} {w:World} {K:Act→World→Prop} {Q:Exit→Act→World→Prop} {dst:Option Tmp} {t':TypeId} {pos:String} {after:Array Edge} {gd:Option (Nat × Bool)} {Z:List Value} (hz:gQ P ty Z) (hg:Rec P ty k)
  (h:∀w' g,w.heap.size=g→Row w' g ty Z→Below w.heap.size w w'→K (a.put dst (.pointer (some ⟨g,0,none⟩))) w'):Oper.wp P {dst:=dst,op:=.alloc ty,type:=t',pos:=pos,after:=after,guard:=gd} a w K Q:=by
 unfold gQ at hz
 cases hi:P.info? ty with
 |none=>rw[hi] at hz;cases hz
 |some i=>
  rw[hi] at hz;simp only[Option.map_some,Option.some.injEq] at hz;unfold Oper.wp execOp
  simp[Instr.alloc,zeroValue,typeInfo,hi,hz,newVar,newRow,Result.andThen,Value.cells]
  exact h _ _ rfl (Row.new w ty Z) (ai w _)
theorem mh.lower {B B' n1 n2 n3:Nat} {w:World} {R:List Value} (h:mh B n1 n2 n3 w R) (hb:B'≤B):mh B' n1 n2 n3 w R:=by
 obtain⟨st,au,va,vf,vl,zs,fs,log,e,h1,h2,h3,l⟩:=h;exact⟨st,au,va,vf,vl,zs,fs,log,e,aX h1 hb,aX h2 hb,aX h3 hb,l⟩
theorem mh.aa {B t n1 n2 n3:Nat} {w w':World} {R:List Value} (h:mh B n1 n2 n3 w R) (hk:ah t w w') (h1:t≠3:=by decide) (h2:t≠152:=by decide):mh B n1 n2 n3 w' R:=by
 obtain⟨st,au,va,vf,vl,zs,fs,log,e,a1,a2,a3,l⟩:=h;exact⟨st,au,va,vf,vl,zs,fs,log,e,hk.own a1 (Ne.symm h1),hk.own a2 (Ne.symm h1),hk.own a3 (Ne.symm h2),l⟩
def qQ (B n1 n2 n3 lo:Nat) (w:World) (p:Nat):Prop:=∃R,Row w p 39 R∧R.length=5∧(∀u∈R,u.oneCell'=true)∧mh B n1 n2 n3 w R∧lo≤p
theorem qQ.below {B n1 n2 n3 lo p:Nat} {w w':World} (h:qQ B n1 n2 n3 lo w p) (hb:Below w.heap.size w w'):qQ B n1 n2 n3 lo w' p:=by
 obtain⟨R,h1,h2,h3,h4,h5⟩:=h;exact⟨R,h1.keep hb,h2,h3,h4.aa (t:=39) (ah.ab hb),h5⟩
theorem qQ.st {B n1 n2 n3 lo p q:Nat} {w w':World} {R:List Value} (h:qQ B n1 n2 n3 lo w p) (hp:cH q w w') (dW:dE w q 39) (hq:Row w' q 39 R) (hl:R.length=5) (h1:∀u∈R,u.oneCell'=true) (hR:mh B n1 n2 n3 w' R):qQ B n1 n2 n3 lo w' p:=by
 obtain⟨R0,a1,a2,a3,a4,a5⟩:=h
 by_cases Eh:p=q
 ·subst Eh;exact⟨R,hq,hl,h1,hR,a5⟩
 ·exact⟨R0,hp.row a1 Eh,a2,a3,a4.aa (hp.aa dW),a5⟩
theorem mh.zero (B n1 n2 n3:Nat) (w:World):mh B n1 n2 n3 w [.int .i64 0,.int .i64 0,.slice none 0 0,.slice none 0 0,.slice none 0 0]:=
 ⟨0,0,_,_,_,[],[],[],rfl,db.nil _ _,db.nil _ _,World.ownsRow_nil _ _ _ _,Nat.zero_le _,Nat.zero_le _,Nat.zero_le _⟩
def jb (B n1 n2 n3 lo k:Nat) (j:Nat) (w w':World):Prop:=(j≠k→Below w.heap.size w w')∧ah 39 w w'∧∀p,qQ B n1 n2 n3 lo w p→qQ B n1 n2 n3 lo w' p
theorem jb.of {B n1 n2 n3 lo k j:Nat} {w w':World} (h:Below w.heap.size w w'):jb B n1 n2 n3 lo k j w w':=⟨fun _=>h,ah.ab h,fun _ hp=>hp.below h⟩
end
section
open Go.RowKit
theorem CT {P:Program} (w:World) (base:Nat) (t ty e:TypeId) (i:TypeInfo) (z:Value) (size bytes:Nat) (ht:P.underlying t=some (.slice e)) (hi:P.info? e=some i) (hz:i.zero=some z) (Eo:i.size=size) (hby:i.bytes=bytes) (lJ:z.cells.size=size) (cM:0<size)
  (v:Value) (n:Nat) (xs:List Value) (a_:w.ownsRow base e size v n xs) (hn:0<n) (q m c:Nat) (ys:List Value) (hl:ys.length=m*size) (hr:Cl w q 0 ys) (h1:∀u∈ys,u.oneCell'=true)
  (qT:n+m≤maxLen) (gR:(n+m)*bytes≤140737488355328) (fD:base≤w.heap.size):
  ∃v' w',(Builtin.append_ #[t,t] ty #[v,.slice (some ⟨q,0,none⟩) m c]).run P w=.ok v' w'∧w'.ownsRow base e size v' (n+m) (xs++ys)∧w.grownBy w' v.ownBlock∧(v'.ownBlock=v.ownBlock∨v'.ownBlock=some w.heap.size)∧w'.ownsRow base e size v n xs:=by
 have aO:∀j u,ys[j]? =some u→w.cell? ((⟨q,0,none⟩:Addr).add j)=some u:=fun j u hu=>by rw[Addr.add_lit];exact hr j u hu
 have aew:n+m≤9223372036854775807:=by simp only[maxLen] at qT;omega
 obtain⟨v',w',iI,h2,h3,_,h4⟩:=run_append_own_at (P:=P) w base t ty e i z size bytes ht hi hz Eo hby lJ cM v n xs a_ ⟨q,0,none⟩ m c ys hl aO h1 qT gR fD;refine⟨v',w',iI,h2,h3,h4,a_.1,?_⟩;have hlen:=a_.1
 have qy:=fun g (hg:v.ownBlock=some g)=>a_.cells (g:=g) hg
 obtain⟨_,⟨_,h0⟩|⟨g,cap,cur,rfl,hb,hg,su,DY,gu,XU⟩⟩:=a_
 ·omega
 right
 subst Eo
 by_cases XN:n+m≤cap
 ·have adg:n*i.size+ys.length≤cur.size:=by rw[hl,gu,←Nat.add_mul];exact Nat.mul_le_mul_right _ XN
  have h:=iI.symm.trans (run_append_room (P:=P) w t ty e i ht hi g n cap cur hg ⟨q,0,none⟩ m c ys hl aO h1 XN adg)
  injection h with ha hw
  subst hw;refine⟨g,cap,_,rfl,hb,setRow_heap w g cur _ e _ hg,su,DY,?_,?_⟩
  ·simp only[List.size_toArray,List.length_append,List.length_take,List.length_drop,Array.length_toList];omega
  ·rw[List.toList_toArray,XU,List.append_assoc,←hlen];exact List.take_left
 ·have h:=iI.symm.trans (run_append_grow (P:=P) w t ty e i z ht hi hz ⟨g,0,none⟩ n cap xs hlen (qy g rfl) ⟨q,0,none⟩ m c ys hl aO (by omega) (by omega) (growslice_fits (by omega) (by rw[hby];exact gR)))
  injection h with ha hw
  subst hw;have aS:g<w.drew.heap.size:=(Array.getElem?_eq_some_iff.1 hg).1;exact⟨g,cap,cur,rfl,hb,(heap_alloc_old w.drew _ aS).trans hg,su,DY,gu,XU⟩
theorem ly {P:Program} {o:Oper} {a:Act} {w:World} {K:Act→World→Prop} {Q:Exit→Act→World→Prop} (s x:Operand) (t:TypeId)
  (ho:o.op=.call {callee:=.builtin .append,args:=#[s,x],argTypes:=#[t,t]})
  (base:Nat) (e:TypeId) (z:Value) (size bytes:Nat) (ht:P.underlying t=some (.slice e)) (jh:(P.info? e).map (fun i=>(i.zero,i.size,i.bytes))=some (some z,size,bytes)) (lJ:z.cells.size=size) (cM:0<size)
  (v:Value) (n:Nat) (xs:List Value) (q m c:Nat) (ys:List Value) (hs:a.eval s=v) (hx:a.eval x=.slice (some ⟨q,0,none⟩) m c) (a_:w.ownsRow base e size v n xs) (hl:ys.length=m*size) (hr:Cl w q 0 ys) (h1:∀u∈ys,u.oneCell'=true)
  (qT:n+m≤maxLen) (gR:(n+m)*bytes≤140737488355328) (fD:base≤w.heap.size)
  (hn:0<n) (h:∀v' w',w'.ownsRow base e size v' (n+m) (xs++ys)→w.grownBy w' v.ownBlock→(v'.ownBlock=v.ownBlock∨v'.ownBlock=some w.heap.size)→w'.ownsRow base e size v n xs→K (a.put o.dst v') w'):Oper.wp P o a w K Q:=by
 obtain⟨i,hi,cD,iG,iM⟩:=info_parts jh;obtain⟨v',w',iI,h2,h3,h4,h5⟩:=CT (P:=P) w base t o.type e i z size bytes ht hi cD iG iM lJ cM v n xs a_ hn q m c ys hl hr h1 qT gR fD;unfold Oper.wp execOp;simp only[ho,resolve,invoke,builtin,Sem.run_bind,Sem.run_pure,Result.andThen_ok,List.map_toArray,List.map_cons,List.map_nil,hs,hx,iI];exact h v' w' h2 h3 h4 h5
theorem dE.aa {w w':World} {g t e:Nat} (h:dE w g e) (hk:ah t w w') (cu:e≠t:=by decide):dE w' g e:=by
 obtain⟨C,fr,hC⟩:=h;exact⟨C,fr,hk.2 g C e fr hC cu⟩
theorem Cl.aa {w w':World} {b o t e:Nat} {cs:List Value} (h:Cl w b o cs) (dW:dE w b e) (hk:ah t w w') (cu:e≠t:=by decide):Cl w' b o cs:=by
 obtain⟨C,fr,hC⟩:=dW;have h2:=hk.2 b C e fr hC cu;intro j u hu;have:=h j u hu;rw[←this];unfold World.cell?;simp only[h2,hC]
def pT (base:Nat) (w:World) (es:List aB) (Cs:List (List Value)) (k:Nat):Prop:=
 ∀(i:Nat) (C:List Value) (y:aB),i≠k→Cs[i]? =some C→es[i]? =some y→kg base w (C.getD 0 (.int .i64 0)) y.aD
theorem pT.below {base k:Nat} {w w':World} {es:List aB} {Cs:List (List Value)} (h:pT base w es Cs k) (hb:Below w.heap.size w w'):pT base w' es Cs k:=
 fun i C y a b c=>(h i C y a b c).aa (t:=31) (ah.ab hb) (by decide) (by decide) (by decide)
theorem fA.oth {base:Nat} {w:World} {gE n5 c5:Nat} {es:List aB} {k:Nat} {e:aB} {EC:List Value} {Cs:List (List Value)} (h:fA base w gE n5 c5 es k e EC Cs):pT base w es Cs k:=by
 intro i C y _ h1 h2;obtain⟨vv,va,vf,vl,vm,rfl,a1,_⟩:=h.DK i C y h1 h2;exact a1
theorem pT.grown {base k:Nat} {w w':World} {es:List aB} {Cs:List (List Value)} {u:Value} (h:pT base w es Cs k) (hg:w.grownBy w' u.ownBlock) (hk:ah 47 w w')
  (hd:∀(i:Nat) (C:List Value),i≠k→Cs[i]? =some C→dm C=none∨dm C≠u.ownBlock):pT base w' es Cs k:=by
 intro i C y a b c;obtain⟨Cv,h1,h2,h3,h4⟩:=h i C y a b c;refine⟨Cv,h1,h2,vK (u:=u) h3 hg ?_,fun j D x p q=>(h4 j D x p q).aa hk (by decide) (by decide)⟩
 rcases hd i C a b with q|q
 ·exact Or.inr (Or.inl q)
 ·exact Or.inr (Or.inr (Ne.symm q))
structure sR (base:Nat) (w:World) (gE n5 c5:Nat) (es:List aB) (k:Nat) (EC:List Value) (Cs:List (List Value)):Prop where
 len:Cs.length=es.length
 c7:∀C∈Cs,C.length=7
 own:w.ownsRow base 44 7 (.slice (some ⟨gE,0,none⟩) n5 c5) es.length Cs.flatten
 DK:∀(i:Nat) (C:List Value) (y:aB),i≠k→Cs[i]? =some C→es[i]? =some y→dn base w C y
 Cm:∀(i j:Nat) (C D:List Value),Cs[i]? =some C→Cs[j]? =some D→i<j→dm C=none∨dm C≠dm D
 at_:Cs[k]? =some EC
 hk:k<es.length
theorem sR.of {base:Nat} {w w':World} {gE n5 c5:Nat} {es:List aB} {k:Nat} {e:aB} {EC:List Value} {Cs:List (List Value)} (h:fA base w gE n5 c5 es k e EC Cs) (hk:ah 47 w w') (ho:pT base w' es Cs k):sR base w' gE n5 c5 es k EC Cs:=by
 refine⟨h.len,h.c7,hk.own h.own,fun i C y a b c=>?_,h.Cm,h.at_,h.hk⟩;obtain⟨vv,va,vf,vl,vm,rfl,a1,a2,a3,a4,a5⟩:=h.DK i C y b c;have:=ho i _ y a b c;exact⟨vv,va,vf,vl,vm,rfl,this,hk.own a2,hk.own a3,hk.own a4,a5.aa hk⟩
section
variable {P:Program} {ty m:Nat} {a:Act} {w:World} {K:Act→World→Prop} {Q:Exit→Act→World→Prop} {dst:Option Tmp} {x v:Operand} {t':TypeId} {pos:String} {after:Array Edge} {gd:Option (Nat × Bool)}
variable {base gE n5 c5 k:Nat} {es:List aB} {e:aB} {EC:List Value} {Cs:List (List Value)}
theorem sR.n (h:sR base w gE n5 c5 es k EC Cs):n5=es.length:=by
 obtain⟨_,_,lr,_⟩:=cj h.own (by have:=h.hk;omega);injection lr with _ q2
theorem sR.Zl (h:sR base w gE n5 c5 es k EC Cs):dE w gE 44:=by
 obtain⟨g',mS,lr,_,_,_,dW,_⟩:=cj h.own (by have:=h.hk;omega)
 injection lr with q1 _ q3
 injection q1 with q1
 injection q1 with q1
 subst q1;exact dW
theorem ER {j o:Nat} {u:Value} (hx:a.eval x=.pointer (some ⟨gE,o,none⟩)) (ho:o=k*7+j) (hv:a.eval v=u) (hag:∀w,(Go.isAgg ty).run P w=.ok false w) (cM:∀w,(Go.sizeOf ty).run P w=.ok 1 w) (hE:sR base w gE n5 c5 es k EC Cs) (hj:j<7) (h1:u.oneCell'=true)
  (h:∀w',Dk base gE n5 c5 es k j [u] EC Cs w w'→K (a.put dst noResult) w'):Oper.wp P {dst:=dst,op:=.store ty x v,type:=t',pos:=pos,after:=after,guard:=gd} a w K Q:=by
 have hn:=hE.n;subst ho hn;have uA:Cs.flatten.length=es.length*7:=hE.own.1;have nV:=hE.hk;obtain⟨g',mS,lr,h2,_,_,_,_,rJ,jy,kv⟩:=cj hE.own (by omega)
 injection lr with q1 _ q3
 injection q1 with q1
 injection q1 with q1
 subst q1 q3;have hle:es.length*7≤c5*7:=Nat.mul_le_mul_right 7 h2
 have bQ:=run_storeCells_cells (P:=P) gE (k*7+j) [u] 0 w (fun j' hj=>by
  simp only[List.length_cons,List.length_nil] at hj
  obtain rfl:j'=0:=by omega
  simp only[Nat.add_zero]
  exact jy _ (by omega)) (fun j' _=>kv _) (by simpa using h1)
 simp only[Nat.add_zero] at bQ
 have hc:u.cells=#[u]:=by cases u<;>first|rfl|cases h1
 have hw:=rJ (k*7+j) [u] (by have uA:Cs.flatten.length=es.length*7:=hE.own.1;rw[uA];simp only[List.length_cons,List.length_nil];omega);rw[Fi hE.c7 hE.at_ (by simp only[List.length_cons,List.length_nil];omega)] at hw;unfold Oper.wp execOp
 simp[hx,hv,Instr.storeAt,Instr.sureAddr,storeVar,hc,cM,bQ,Sem.run_bind,Result.andThen]
 exact h _ ⟨cH.iX [u] _ w,hw⟩
theorem sR.st {j:Nat} {D:List Value} {w0 w':World} {e':aB} (hE:sR base w gE n5 c5 es k EC Cs) (h:Dk base gE n5 c5 es k j D EC Cs w w') (sj:fA base w0 gE n5 c5 es k e EC Cs) (hj:j+D.length≤7) (uE:dn base w' (ff EC j D) e')
  (sw:dm (ff EC j D)=dm EC∨∀q,dm (ff EC j D)=some q→w0.heap.size≤q):fA base w' gE n5 c5 (es.set k e') k e' (ff EC j D) (Cs.set k (ff EC j D)):=by
 obtain⟨hp,a_⟩:=h;have nV:=hE.hk;have hl:=hE.len;have dp:=sj.ec
 have dW:dE w gE 44:=by
  obtain⟨g',mS,lr,_,_,_,dW,_⟩:=cj hE.own (by omega)
  injection lr with q1 _ q3
  injection q1 with q1
  injection q1 with q1
  subst q1;exact dW
 have I':=hp.aa dW
 have hlen:(ff EC j D).length=7:=by unfold ff;simp;omega
 have XC:∀(i:Nat) (C:List Value),i≠k→Cs[i]? =some C→dm C=none∨dm C≠dm (ff EC j D):=by
  intro i C hi hC
  have hd:dm C=none∨dm C≠dm EC:=by
   rcases Nat.lt_or_ge i k with aS|Ar
   ·exact hE.Cm i k C EC hC hE.at_ aS
   ·rcases hE.Cm k i EC C hE.at_ hC (by omega) with q|q
    ·by_cases hn:dm C=none
     ·exact Or.inl hn
     ·exact Or.inr (fun e=>hn (e.trans q))
    ·exact Or.inr (Ne.symm q)
  rcases sw with hv|hv
  ·rw[hv];exact hd
  ·cases hc:dm C with
   |none=>exact Or.inl rfl
   |some q=>
    refine Or.inr fun e=>?_
    have h1:=hv q (by rw[←e]);have I9:i<Cs.length:=(List.getElem?_eq_some_iff.1 hC).1;have h2:=(vj (sj.DK i C _ hC (List.getElem?_eq_getElem (by omega))) q hc).2;omega
 have lp:∀(i j':Nat) (C D':List Value),(Cs.set k (ff EC j D))[i]? =some C→(Cs.set k (ff EC j D))[j']? =some D'→i<j'→dm C=none∨dm C≠dm D':=by
  intro i j' C D' h1 h2 bE;rw[List.getElem?_set] at h1 h2
  by_cases b:k=i
  ·subst b;rw[if_neg (show ¬k=j' by omega)] at h2;rw[if_pos rfl,if_pos (by omega)] at h1
   injection h1 with h1
   subst h1
   rcases XC j' D' (by omega) h2 with q|q
   ·by_cases hn:dm (ff EC j D)=none
    ·exact Or.inl hn
    ·exact Or.inr (fun e=>hn (e.trans q))
   ·exact Or.inr (Ne.symm q)
  ·rw[if_neg b] at h1
   by_cases d:k=j'
   ·subst d;rw[if_pos rfl,if_pos (by omega)] at h2
    injection h2 with h2
    subst h2;exact XC i C (by omega) h1
   ·rw[if_neg d] at h2;exact hE.Cm i j' C D' h1 h2 bE
 refine⟨by rw[List.length_set,List.length_set,hl],fun C hC=>?_,by rw[List.length_set];exact a_,fun i C y h1 h2=>?_,lp,by rw[List.getElem?_set_self (by omega)],by rw[List.getElem?_set_self nV]⟩
 ·rcases qD hC with rfl|hC
  ·exact hlen
  ·exact hE.c7 C hC
 ·rw[List.getElem?_set] at h1 h2
  by_cases b:k=i
  ·subst b;rw[if_pos rfl,if_pos (by omega)] at h1;rw[if_pos rfl,if_pos nV] at h2
   injection h1 with h1
   injection h2 with h2
   subst h1 h2;exact uE
  ·rw[if_neg b] at h1 h2;exact(hE.DK i C y (Ne.symm b) h1 h2).aa I' (by decide) (by decide) (by decide) (by decide) (by decide)
end
theorem fA.apart {base:Nat} {w:World} {gE n5 c5:Nat} {es:List aB} {k:Nat} {e:aB} {EC:List Value} {Cs:List (List Value)} (h:fA base w gE n5 c5 es k e EC Cs):∀(i:Nat) (C:List Value),i≠k→Cs[i]? =some C→dm C=none∨dm C≠dm EC:=by
 intro i C hi hC
 rcases Nat.lt_or_ge i k with aS|Ar
 ·exact h.Cm i k C EC hC h.at_ aS
 ·rcases h.Cm k i EC C h.at_ hC (by omega) with q|q
  ·by_cases hn:dm C=none
   ·exact Or.inl hn
   ·exact Or.inr (fun e=>hn (e.trans q))
  ·exact Or.inr (Ne.symm q)
theorem sC {base n:Nat} {w:World} {v:Value} {bY:List aA} {it:aA} {Cv:List (List Value)} {CC:List Value} (hl:Cv.length=bY.length) (oh:∀C∈Cv,C.length=17) (hc:CC.length=17) (a_:w.ownsRow base 47 17 v n (Cv.flatten++CC)) (hn:n=bY.length+1)
  (dZ:∀(i:Nat) (C:List Value) (x:aA),Cv[i]? =some C→bY[i]? =some x→cy base w C x) (hI:cy base w CC it):kg base w v (bY++ [it]):=by
 subst hn;refine⟨Cv++ [CC],by simp[hl],fun C hC=>?_,by rw[List.length_append,List.flatten_append];simpa using a_,fun i C x h1 h2=>?_⟩
 ·rw[List.mem_append,List.mem_singleton] at hC
  rcases hC with hC|rfl
  ·exact oh C hC
  ·exact hc
 ·rcases Nat.lt_or_ge i Cv.length with hi|hi
  ·rw[List.getElem?_append_left hi] at h1;rw[List.getElem?_append_left (by omega)] at h2;exact dZ i C x h1 h2
  ·rw[List.getElem?_append_right hi] at h1;rw[List.getElem?_append_right (by omega)] at h2;rw[hl] at h1;generalize i - bY.length=r at h1 h2
   cases r with
   |zero=>
    simp only[List.getElem?_cons_zero,Option.some.injEq] at h1 h2;subst h1 h2;exact hI
   |succ r=>simp at h1
theorem Va {a b:aA} (h:AT a b=0):fb b=0∧b.id=a.id:=by
 unfold AT at h
 by_cases h1:fb b=0
 ·rw[if_pos h1] at h
  by_cases h2:b.id=a.id
  ·exact⟨h1,h2⟩
  ·rw[if_neg h2] at h;exact absurd h (by decide)
 ·rw[if_neg h1] at h;exact absurd h h1
end
section
open Go.RowKit
open Tryz
theorem M5:Rec prog 117 3:=⟨⟨by kernel_rfl,by kernel_rfl⟩,by kernel_rfl,by kernel_rfl⟩
theorem KE:kj prog 117 3:=M5.agg
theorem eK:Rec prog 76 6:=⟨⟨by kernel_rfl,by kernel_rfl⟩,by kernel_rfl,by kernel_rfl⟩
theorem bI:kj prog 76 6:=eK.agg
theorem rU (t:gF):∀u∈oE t,u.oneCell'=true:=by
 intro u hu;simp only[oE,List.mem_cons,List.not_mem_nil,or_false] at hu;rcases hu with rfl|rfl|rfl<;>rfl
def prC (A:Option Addr) (n c k:Nat):List Value:=[.slice A n c,.int .i64 (k:Int),.int .i64 0,.int .i64 0]
def eB (w:World) (g:Nat) (ch:List gF) (k:Nat):Prop:=
 ch.length≤1000∧∃b c,Row w g 113 (prC (some ⟨b,0,none⟩) ch.length c k)∧Cl w b 0 (ch.map oE).flatten∧dE w b 117
section
variable {w w':World} {g t k:Nat} {ch:List gF}
theorem eB.keep (h:eB w g ch k) (hb:Below w.heap.size w w'):eB w' g ch k:=by
 obtain⟨h0,b,c,h1,h2,h3⟩:=h;exact⟨h0,b,c,h1.keep hb,h2.below hb h3.lt,h3.keep hb⟩
theorem eB.aa (h:eB w g ch k) (hk:ah t w w') (n1:117≠t:=by decide) (n2:113≠t:=by decide):eB w' g ch k:=by
 obtain⟨h0,b,c,h1,h2,h3⟩:=h;exact⟨h0,b,c,h1.aa hk n2,h2.aa h3 hk n1,h3.aa hk n1⟩
theorem eB.ty (h:eB w g ch k):dE w g 113:=by
 obtain⟨h0,b,c,h1,h2,h3⟩:=h;exact h1.ty
theorem eB.step (h:eB w g ch k) (j:Nat):eB (w.setCell ⟨g,1,none⟩ (.int .i64 (j:Int))) g ch j:=by
 obtain⟨h0,b,c,h1,h2,h3⟩:=h;have P:=(cH.set w g 1 (.int .i64 (j:Int))).aa h1.ty;exact⟨h0,b,c,h1.cE 1 _,h2.aa h3 P,h3.aa P⟩
theorem eB.next (h:eB w g ch k):eB (w.setCell ⟨g,1,none⟩ (.int .i64 ((k:Int)+1))) g ch (k+1):=h.step (k+1)
theorem eB.Lm (h:eB w g ch k):w.frozen? ⟨g,1,none⟩=false:=by
 obtain⟨h0,b,c,h1,h2,h3⟩:=h;exact h1.frozen 1
theorem xR (h:eB w g ch k) {x:gF} (hx:ch[k]? =some x):∃b c,w.cell? ⟨g,0,none⟩=some (.slice (some ⟨b,0,none⟩) ch.length c)∧w.cell? ⟨g,1,none⟩=some (.int .i64 (k:Int))∧(k<ch.length∧ch.length≤1000)∧
  w.cell? ⟨b,k*3,none⟩=some (.int .i64 x.kind)∧w.cell? ⟨b,k*3+1,none⟩=some (.int .i64 x.pos)∧w.cell? ⟨b,k*3+2,none⟩=some (.string x.text):=by
 obtain⟨h0,b,c,h1,h2,h3⟩:=h
 have hk:k<ch.length:=by
  rcases Nat.lt_or_ge k ch.length with h|h
  ·exact h
  ·rw[List.getElem?_eq_none h] at hx;cases hx
 have xw:ch[k]=x:=by rw[List.getElem?_eq_getElem hk] at hx;injection hx
 have aO:Cl w b (0+k*3) (oE x):=by
  have:=h2.part (k*3) 3;rw[mr (k:=3) (ch.map oE) k (fun C hC=>by rw[List.mem_map] at hC;obtain⟨y,_,rfl⟩:=hC;rfl) (by simpa using hk)] at this
  simpa[xw] using this
 rw[Nat.zero_add] at aO;exact⟨b,c,h1.cell 0,h1.cell 1,⟨hk,h0⟩,aO 0 _ rfl,aO 1 _ rfl,aO 2 _ rfl⟩
end
theorem pI (w:World) (g k:Nat) (ch:List gF) (x:gF) (h:eB w g ch k) (hx:ch[k]? =some x):
  Calls prog 46 #[.pointer (some ⟨g,0,none⟩)] w fun e w'=>e=.returned (.agg (oE x).toArray)∧Below w.heap.size w w':=by
 obtain⟨b,c,c0,c1,⟨hk,hn⟩,d0,d1,d2⟩:=xR h hx;generalize ch.length=n at*
 have km:(k:Int)<(n:Int):=by omega
 clear h hx;obtain⟨xk,xp,xt⟩:=x;simp only at d0 d1 d2;have HB:=ai w (.cells #[.int .i64 0,.int .i64 0,.string ⟨#[]⟩] 117);replace c0:=aT (block_lt_of_cell c0) c0 HB;replace c1:=aT (block_lt_of_cell c1) c1 HB;replace d0:=aT (block_lt_of_cell d0) d0 HB;replace d1:=aT (block_lt_of_cell d1) d1 HB;replace d2:=aT (block_lt_of_cell d2) d2 HB;clear HB
 go_enter func46,ntmps46
 go_wp2_with fail
 go_region
 go_wp2_with fail
 refine bodyPost_ret (js rfl _ rfl KE (Row.new w 117 [.int .i64 xk,.int .i64 xp,.string xt]).drew rfl) rfl ?_;exact⟨rfl,(ai w _).drew⟩
def jG (x:gF) (wd:ByteArray):Bool:=decide (x.kind=6∧x.text=wd)
theorem Q7 {P:Prop} (h:P:=by
 go_wp2_with fail
 go_ret
 exact⟨rfl,(HK _ aC).keep (ai _ _),(Kp.ab aC).trans (Kp.ab (ai _ _))⟩):P:=h
theorem jr (w:World) (g k:Nat) (ch:List gF) (x:gF) (wd:ByteArray) (h:eB w g ch k) (hx:ch[k]? =some x):
  Calls prog 153 #[.pointer (some ⟨g,0,none⟩),.string wd] w fun e w'=>e=.returned (.bool (jG x wd))∧eB w' g ch (if jG x wd then k+1 else k)∧Kp [g] w w':=by
 have HT:=pI w g k ch x h hx;have hg:=h.ty.lt;obtain⟨_,_,_,c1,⟨hk,nW⟩,_⟩:=xR h hx
 have HK:=fun W (hb:Below w.heap.size w W)=>h.keep hb
 obtain⟨xk,xp,xt⟩:=x;obtain⟨r,hr⟩:∃r,r=jG ⟨xk,xp,xt⟩ wd:=⟨_,rfl⟩;rw[←hr];have HR:Hid (r=decide (xk=6∧xt=wd)):=hr;clear hr h hx;unfold oE at HT;simp only at HT
 go_enter func153,ntmps153
 go_wp2_with fail
 with_reducible refine HT.mono ?_
 rintro e w1 ⟨rfl,aC⟩;clear HT
 by_cases h6:xk=6
 ·subst h6
  by_cases ht:xt=wd
  ·subst ht
   have T7:r=true:=by rw[HR.out];simp
   subst T7;have d1:w1.cell? ⟨g,1,none⟩=some (.int .i64 (k:Int)):=aT hg c1 aC;have OU:=Nat.lt_of_lt_of_le hg aC.size;have fr:=(HK _ aC).Lm
   go_wp2_with fail
   go_ret
   exact⟨rfl,((HK _ aC).next).keep (ai _ _),((Kp.ab aC).trans (Kp.dr (cH.set w1 g 1 _) (by simp))).trans (Kp.ab (ai _ _))⟩
  ·have T7:r=false:=by rw[HR.out];simp[ht]
   subst T7
   have ht2:¬xt.toList=wd.toList:=fun h=>ht (Rx h)
   have ht3:(xt.toList==wd.toList)=false:=beq_eq_false_iff_ne.2 ht2;exact Q7
 ·have T7:r=false:=by rw[HR.out];simp[h6]
  subst T7;have h6':(xk==6)=false:=beq_eq_false_iff_ne.2 h6;exact Q7
theorem xJ (w:World):
  Calls prog 106 #[.int .i64 6] w fun e w'=>(∃b,e=.returned (.slice (some ⟨b,0,none⟩) 7 7)∧Row w' b 9 (gO.map Value.string))∧Below w.heap.size w w':=by
 go_enter func106,ntmps106
 go_wp2_with fail
 go_ret
 exact⟨⟨w.heap.size,rfl,Row.new w 9 (gO.map Value.string)⟩,ai w _⟩
end
section
open Go.RowKit
open Tryz
def cw:ByteArray:=⟨#[]⟩
def ed (base:Nat) (w:World):fe→List Value→Prop
 |.state s,C=>C=[.int .i64 6,.int .i64 0,.int .i64 0,.string cw,.string s,.slice none 0 0]∧(s=dK∨s=ef)
 |.neg k,C=>∃b c Ck,C=[.int .i64 3,.int .i64 0,.int .i64 0,.string cw,.string cw,.slice (some ⟨b,0,none⟩) 1 c]∧base≤b∧Cl w b 0 Ck∧dE w b 76∧Ck.length=6∧ed base w k Ck
 |.alt a d,C=>∃b c Ca Cd,C=[.int .i64 2,.int .i64 0,.int .i64 0,.string cw,.string cw,.slice (some ⟨b,0,none⟩) 2 c]∧base≤b∧Cl w b 0 (Ca++Cd)∧dE w b 76∧Ca.length=6∧Cd.length=6∧ed base w a Ca∧ed base w d Cd
theorem ed.kept {base zZ:Nat} {w w':World} (hk:∀(b:Nat) (cs:Array Value) (fr:Nat × Nat),base≤b→w.heap[b]? =some (Obj.cells cs 76 fr)→w'.heap[b]? =some (Obj.cells cs 76 fr)) (hl:zZ≤base):∀{q:fe} {C:List Value},ed base w q C→ed zZ w' q C
 |.state s,C,h=>h
 |.neg k,C,h=>by
  obtain⟨b,c,Ck,rfl,h0,h1,⟨cs,fr,h2⟩,h3,h4⟩:=h;have h5:=hk b cs fr h0 h2;refine⟨b,c,Ck,rfl,by omega,fun j u hu=>?_,⟨cs,fr,h5⟩,h3,ed.kept hk hl h4⟩;have:=h1 j u hu;simp only[World.cell?,h2,h5] at this ⊢;exact this
 |.alt a d,C,h=>by
  obtain⟨b,c,Ca,Cd,rfl,h0,h1,⟨cs,fr,h2⟩,h3,h4,h5,h6⟩:=h;have h7:=hk b cs fr h0 h2;refine⟨b,c,Ca,Cd,rfl,by omega,fun j u hu=>?_,⟨cs,fr,h7⟩,h3,h4,ed.kept hk hl h5,ed.kept hk hl h6⟩;have:=h1 j u hu;simp only[World.cell?,h2,h7] at this ⊢;exact this
theorem ed.aa {base:Nat} {w w':World} {t:Nat} (hk:ah t w w') (ht:76≠t:=by decide) {q:fe} {C:List Value} (h:ed base w q C):ed base w' q C:=
 h.kept (fun b cs fr _ hb=>hk.2 b cs _ fr hb ht) (Nat.le_refl _)
theorem ed.below {base:Nat} {w w':World} {q:fe} {C:List Value} (h:ed base w q C) (hb:Below w.heap.size w w'):ed base w' q C:=
 ed.aa (t:=113) (ah.ab hb) (by decide) h
theorem ed.lower {base b':Nat} {w:World} {q:fe} {C:List Value} (h:ed base w q C) (hb:b'≤base):ed b' w q C:=
 h.kept (fun _ _ _ _ h=>h) hb
theorem ed.put {base g:Nat} {w w':World} {q:fe} {C:List Value} (h:ed base w q C) (hp:cH g w w') (hg:g<base):ed base w' q C:=
 h.kept (fun b cs fr hb hh=>by rw[hp.block b (by omega)];exact hh) (Nat.le_refl _)
theorem ed.len {base:Nat} {w:World} {q:fe} {C:List Value} (h:ed base w q C):C.length=6:=by
 cases q with
 |state s=>obtain⟨rfl,_⟩:=h;rfl
 |neg k=>obtain⟨b,c,Ck,rfl,_⟩:=h;rfl
 |alt a d=>obtain⟨b,c,Ca,Cd,rfl,_⟩:=h;rfl
theorem ed.one {base:Nat} {w:World} {q:fe} {C:List Value} (h:ed base w q C):∀u∈C,u.oneCell'=true:=by
 intro u hu
 cases q with
 |state s=>obtain⟨rfl,_⟩:=h;simp only[List.mem_cons,List.not_mem_nil,or_false] at hu;rcases hu with rfl|rfl|rfl|rfl|rfl|rfl<;>rfl
 |neg k=>obtain⟨b,c,Ck,rfl,_⟩:=h;simp only[List.mem_cons,List.not_mem_nil,or_false] at hu;rcases hu with rfl|rfl|rfl|rfl|rfl|rfl<;>rfl
 |alt a d=>obtain⟨b,c,Ca,Cd,rfl,_⟩:=h;simp only[List.mem_cons,List.not_mem_nil,or_false] at hu;rcases hu with rfl|rfl|rfl|rfl|rfl|rfl<;>rfl
theorem Kp.aa {w w':World} {g t:Nat} (h:Kp [g] w w') (ht:dE w g t):ah t w w':=⟨h.size,fun b cs e fr hb he=>by
 have aS:b<w.heap.size:=(Array.getElem?_eq_some_iff.1 hb).1
 rw[h.block b aS (by
  intro hm;rw[List.mem_singleton] at hm;subst hm
  exact dE.ne ht ⟨cs,fr,hb⟩ (Ne.symm he) rfl)]
 exact hb⟩
def QP (w:World) (g:Nat) (ch:List gF) (k:Nat) (q:fe) (e:Ending) (w':World):Prop:=
 ∃C,e=.returned (.tuple #[.agg C.toArray,.bool true])∧ed w.heap.size w' q C∧eB w' g ch k∧Kp [g] w w'
theorem DD {s:ByteArray} (h:s=dK∨s=ef):Lib.containsS (gO.take 7) s=true:=by
 rcases h with rfl|rfl<;>rfl
theorem Uz (w:World) (g gq k:Nat) (ch:List gF) (p:Int) (s:ByteArray) (h:eB w g ch k) (hx:ch[k]? =some ⟨6,p,s⟩) (hs:s=dK∨s=ef) (hq:Row w gq 76 [.int .i64 6,.int .i64 0,.int .i64 0,.string cw,.string cw,.slice none 0 0]):
  Calls prog 280 #[.pointer (some ⟨g,0,none⟩),.pointer (some ⟨gq,0,none⟩)] w fun e w'=>e=.returned (.bool true)∧eB w' g ch (k+1)∧Row w' gq 76 [.int .i64 6,.int .i64 0,.int .i64 0,.string cw,.string s,.slice none 0 0]∧Kp [g,gq] w w':=by
 have HT:=pI w g k ch _ h hx;have hg:=h.ty.lt;have TT:=hq.lt;have cu:g≠gq:=dE.ne h.ty hq.ty (by decide);obtain⟨_,_,_,c1,⟨hk,nW⟩,_⟩:=xR h hx
 have HK:=fun W (hb:Below w.heap.size w W)=>h.keep hb
 have HC:∀(W:World) (b:Nat),Row W b 9 (gO.map Value.string)→Calls prog 151 #[.slice (some ⟨b,0,none⟩) 7 7,.string s] W fun e w'=>e=.returned (.bool true)∧w'=W:=fun W b hR=>by
  refine(slices_Contains_string b 0 7 7 gO s W (by decide) (by decide) (fun j hj=>?_)).mono ?_
  ·rw[Nat.zero_add,hR.cell,List.getElem?_map,List.getElem?_eq_getElem hj]
   simp[List.getD,List.getElem?_eq_getElem hj]
  ·rintro e w' ⟨rfl,rfl⟩;rw[DD hs];exact⟨rfl,rfl⟩
 clear h hx hs;unfold oE at HT;simp only at HT
 go_enter func280,ntmps280
 go_wp2_with fail
 with_reducible refine HT.mono ?_
 rintro e w1 ⟨rfl,aC⟩;clear HT;replace hq:=hq.keep aC;have p0:=U (hq.cell 0);replace TT:=Nat.lt_of_lt_of_le TT aC.size;replace hg:=Nat.lt_of_lt_of_le hg aC.size;replace c1:=aT (block_lt_of_cell c1) c1 aC
 go_wp2_with fail
 clear p0;obtain⟨w2,qY⟩:∃w2,w2=w1.alloc (.cells #[.int .i64 6,.int .i64 p,.string s] 117):=⟨_,rfl⟩
 have RT:Row w2 w1.heap.size 117 [.int .i64 6,.int .i64 p,.string s]:=by rw[qY];exact Row.new w1 _ _
 have kc:Below w1.heap.size w1 w2:=by rw[qY];exact ai w1 _
 rw[←qY];have B2:Below w.heap.size w w2:=az aC kc;have PR:=HK _ B2;replace hq:=hq.keep kc;replace c1:=aT (block_lt_of_cell c1) c1 kc;replace TT:=Nat.lt_of_lt_of_le TT kc.size;replace hg:=Nat.lt_of_lt_of_le hg kc.size;have lt:=RT.lt;have t2:=U (RT.cell 2);have q0:=U (hq.cell 0);clear HK aC kc;generalize w1.heap.size=gt at*;clear qY
 go_region_held3 (fun w'=>w'.cell? ⟨gt,2,none⟩=some (.string s)∧w'.cell? ⟨gq,0,none⟩=some (.int .i64 6))
  ((with_reducible refine And.intro (aT lt t2 ?_) (aT TT q0 ?_))<;>((repeat(first|with_reducible exact Below.refl _ _|with_reducible refine ar aC ?_|with_reducible refine al ?_ _|with_reducible refine bL ?_));done))
  (first
   |(go_at_call 106;((with_reducible refine(xJ _).mono ?_);rintro e wa ⟨⟨bn,rfl,El⟩,aC⟩))
   |(go_at_call 151;((with_reducible refine(HC _ bn El).mono ?_);rintro e wb ⟨rfl,rfl⟩)))
 replace aC:=fU aC;have PB:=PR.keep aC;have BB:=az B2 aC;replace hq:=hq.keep aC;replace c1:=aT hg c1 aC;replace t2:=aT lt t2 aC;have q4:=U (hq.cell 4);have fq:wb.frozen? ⟨gq,4,none⟩=false:=hq.frozen 4;have fg:wb.frozen? ⟨g,1,none⟩=false:=PB.Lm;have adv:gq≠g:=Ne.symm cu;clear HC El q0 lt TT hg PR B2 aC RT
 go_wp2_with fail
 go_ret
 have kt:=(cH.set wb gq 4 (.string s)).aa hq.ty;exact⟨rfl,(PB.aa kt).next,(cH.set _ g 1 _).row (hq.cE 4 _) adv,((Kp.ab BB).trans (Kp.dr (cH.set wb gq 4 _) (by simp))).trans (Kp.dr (cH.set _ g 1 _) (by simp))⟩
def jC:ByteArray:=⟨#[115,116,97,116,101]⟩
theorem dV:gQ prog 76 [.int .i64 0,.int .i64 0,.int .i64 0,.string cw,.string cw,.slice none 0 0]:=by unfold gQ;kernel_rfl
theorem Vf:gQ prog 117 [.int .i64 0,.int .i64 0,.string cw]:=by unfold gQ;kernel_rfl
theorem Q9 {P:Prop} (h:P:=by
 intro u hu;simp only[List.mem_cons,List.not_mem_nil,or_false] at hu;rcases hu with rfl|rfl|rfl|rfl|rfl|rfl<;>rfl):P:=h
theorem UA (b:Nat):∀u∈([.int .i64 3,.int .i64 0,.int .i64 0,.string cw,.string cw,.slice (some ⟨b,0,none⟩) 1 1]:List Value),u.oneCell'=true:=by
 exact Q9
theorem zA (a b:Int) (s:ByteArray) (w:World):(Instr.field 117 (.agg #[.int .i64 a,.int .i64 b,.string s]) 0).run prog w=.ok (.int .i64 a) w:=by kernel_rfl
theorem uX (a b:Int) (s:ByteArray):∀u∈([.int .i64 a,.int .i64 0,.int .i64 0,.string cw,.string s,.slice none 0 0]:List Value),u.oneCell'=true:=by
 exact Q9
theorem Tk (w:World) (g k:Nat) (ch:List gF) (p0 p1:Int) (s:ByteArray) (h:eB w g ch k) (Ay:ch[k]? =some ⟨6,p0,jC⟩) (aw:ch[k+1]? =some ⟨6,p1,s⟩) (hs:s=dK∨s=ef):
  Calls prog 245 #[.pointer (some ⟨g,0,none⟩)] w (QP w g ch (k+2) (.state s)):=by
 have PR:=h;have jW:=h.ty.lt;have Dn:=Lib.hid Ay;have zI:=Lib.hid aw;have HS:=Lib.hid hs;clear h Ay aw hs
 go_enter func245,ntmps245
 have aL:=trivial
 go_wp2_with (first
  |(clear aJ;(with_reducible refine bu eK dV ?_);intro x2 g4 cW R4 aF;have oL:=h_ R2 cW;have gl:=jq BB cW;replace R2:=R2.keep aF;replace PR:=PR.aa (t:=76) (ah.ab aF);replace BB:=az BB aF;clear aF cW;have bC:=trivial)
  |(clear aL;(with_reducible refine bu eK dV ?_);intro x1 g2 aR R2 aw;have fP:=Nat.le_of_eq aR;replace PR:=PR.aa (t:=76) (ah.ab aw);have BB:=aw;clear aw aR;have aJ:=trivial))
 try clear bC
 have KK:Kp [g] w x2:=Kp.ab BB;clear BB
 with_reducible refine(pI _ g k ch _ PR Dn.out).mono ?_
 rintro r x3 ⟨rfl,hb⟩;replace R2:=R2.keep hb;replace R4:=R4.keep hb;replace PR:=PR.keep hb;replace KK:=KK.trans (Kp.ab hb);clear hb;have bC:=trivial
 go_wp2_with (first
  |(clear cz;(with_reducible refine av (C:=(oE ⟨6,p0,jC⟩)) ?_ ?_ KE R6 rfl rfl (rU _) ?_);rfl;rfl;clear R6;intro x5 R6 Px;have hb:=hx.trans (Px.below (Nat.le_of_eq pP));have kX:w.heap.size≤g6:=(by have:=KK.size;omega);have lC:g2≠g6:=(by have:=R2.lt;omega);have mD:g4≠g6:=(by have:=R4.lt;omega);replace R2:=R2.keep hb;replace R4:=R4.keep hb;replace PR:=PR.keep hb;replace KK:=KK.trans (Kp.ab hb);clear Px hx hb pP;have cY:=trivial)
  |(clear bC;(with_reducible refine bu (Z:=[.int .i64 0,.int .i64 0,.string cw]) M5 Vf ?_);intro x4 g6 pP R6 hx;have cz:=trivial))
 try clear cY
 have jK:=PR.ty
 with_reducible refine(jr _ g k ch _ ⟨#[99,111,110,116,101,110,116]⟩ PR Dn.out).mono ?_
 clear PR;rintro r x6 ⟨rfl,PR,hk⟩
 have ea:jG ⟨6,p0,jC⟩ ⟨#[99,111,110,116,101,110,116]⟩=false:=by unfold jG jC;rfl
 rw[ea] at PR;rw[if_neg (by decide)] at PR;rw[ea];clear ea;replace R2:=R2.kp hk (by(simp only[List.mem_singleton,List.mem_cons,List.not_mem_nil,or_false];omega));replace R4:=R4.kp hk (by(simp only[List.mem_singleton,List.mem_cons,List.not_mem_nil,or_false];omega));replace R6:=R6.kp hk (by(simp only[List.mem_singleton,List.mem_cons,List.not_mem_nil,or_false];omega));replace KK:=KK.trans hk;clear jK;clear hk
 go_wp2_with fail
 have jK:=PR.ty
 with_reducible refine(jr _ g k ch _ ⟨#[115,116,97,116,101]⟩ PR Dn.out).mono ?_
 clear PR;rintro r x7 ⟨rfl,PR,hk⟩
 have ea:jG ⟨6,p0,jC⟩ ⟨#[115,116,97,116,101]⟩=true:=by unfold jG jC;simp
 rw[ea] at PR;rw[if_pos rfl] at PR;rw[ea];clear ea;replace R2:=R2.kp hk (by(simp only[List.mem_singleton,List.mem_cons,List.not_mem_nil,or_false];omega));replace R4:=R4.kp hk (by(simp only[List.mem_singleton,List.mem_cons,List.not_mem_nil,or_false];omega));replace R6:=R6.kp hk (by(simp only[List.mem_singleton,List.mem_cons,List.not_mem_nil,or_false];omega));replace KK:=KK.trans hk;clear jK;clear hk;have f4:=R4.frozen 0;have c4:=U (R4.cell 0)
 go_wp2_with fail
 clear f4 c4 R6 lC mD;have Px:=cH.set x7 g4 0 (.int .i64 6);have kt:=Px.aa R4.ty;replace R2:=Px.row R2 oL;replace R4:=R4.cE 0 (.int .i64 6);replace PR:=PR.aa kt;replace KK:=((KK.mono (M:=[g,g4]) (by simp)).trans (Kp.dr Px (by simp))).less (M:=[g]) (fun k hk=>by(simp only[List.mem_singleton,List.mem_cons,List.not_mem_nil,or_false] at hk ⊢;omega));clear kt Px;generalize x7.setCell ⟨g4,0,none⟩ (.int .i64 6)=w8 at*;replace R4:Row w8 g4 76 [.int .i64 6,.int .i64 0,.int .i64 0,.string cw,.string cw,.slice none 0 0]:=R4
 with_reducible refine(Uz w8 g g4 (k+1) ch p1 s PR zI.out HS.out R4).mono ?_
 clear PR R4;rintro r w9 ⟨rfl,PR,R4,hk⟩;replace R2:=R2.kp hk (by(simp only[List.mem_cons,List.not_mem_nil,or_false];omega));replace KK:=((KK.mono (M:=[g,g4]) (by simp)).trans (hk)).less (M:=[g]) (fun k hk=>by(simp only[List.mem_singleton,List.mem_cons,List.not_mem_nil,or_false] at hk ⊢;omega));clear hk;have aL:=trivial
 go_wp2_with (first
  |(clear aJ;(with_reducible refine av (C:=[.int .i64 6,.int .i64 0,.int .i64 0,.string cw,.string s,.slice none 0 0]) ?_ ?_ bI R2 rfl rfl (uX 6 0 s) ?_);rfl;rfl;intro wz RZ Pz;have bC:=trivial)
  |(clear aL;(with_reducible refine ak ?_ bI R4 rfl ?_);rfl;have aJ:=trivial))
 refine bodyPost_ret (bH rfl _ rfl bI RZ rfl) rfl ?_;exact⟨_,rfl,⟨rfl,HS.out⟩,PR.aa (Pz.aa R2.ty),((KK.mono (M:=[g,g2]) (by simp)).trans (Kp.dr Pz (by simp))).less (M:=[g]) (fun k hk=>by(simp only[List.mem_singleton,List.mem_cons,List.not_mem_nil,or_false] at hk ⊢;omega))⟩
theorem Q8 {P:Prop} (h:P:=by
 clear PR;rintro r x3 ⟨C,rfl,⟨rfl,_⟩,PR,hk⟩;replace R2:=R2.kp hk (by(simp only[List.mem_singleton,List.mem_cons,List.not_mem_nil,or_false];omega));replace KK:=KK.trans hk;clear jK;clear hk;have aL:=trivial
 go_wp2_with (first
  |(clear aL;(with_reducible refine av (C:=[.int .i64 6,.int .i64 0,.int .i64 0,.string cw,.string s,.slice none 0 0]) ?_ ?_ bI R2 rfl rfl (uX 6 0 s) ?_);rfl;rfl;intro wz RZ Pz;have aJ:=trivial))
 refine bodyPost_ret (bH rfl _ rfl bI RZ rfl) rfl ?_
 exact⟨_,rfl,⟨rfl,HS.out⟩,PR.aa (Pz.aa R2.ty),((KK.mono (M:=[g,g2]) (by simp)).trans (Kp.dr Pz (by simp))).less (M:=[g]) (fun k hk=>by(simp only[List.mem_singleton,List.mem_cons,List.not_mem_nil,or_false] at hk ⊢;omega))⟩):P:=h
theorem Hg (w:World) (g k:Nat) (ch:List gF) (p0 p1:Int) (s:ByteArray) (h:eB w g ch k) (Ay:ch[k]? =some ⟨6,p0,jC⟩) (aw:ch[k+1]? =some ⟨6,p1,s⟩) (hs:s=dK∨s=ef):
  Calls prog 206 #[.pointer (some ⟨g,0,none⟩)] w (QP w g ch (k+2) (.state s)):=by
 have PR:=h;have jW:=h.ty.lt;have Dn:=Lib.hid Ay;have zI:=Lib.hid aw;have HS:=Lib.hid hs;clear h Ay aw hs
 go_enter func206,ntmps206
 have aL:=trivial
 go_wp2_with (first
  |(clear aL;(with_reducible refine bu eK dV ?_);intro x1 g2 aR R2 aw;have fP:=Nat.le_of_eq aR;replace PR:=PR.aa (t:=76) (ah.ab aw);have BB:=aw;clear aw aR;have aJ:=trivial))
 try clear aJ
 have KK:Kp [g] w x1:=Kp.ab BB;clear BB
 with_reducible refine(pI _ g k ch _ PR Dn.out).mono ?_
 rintro r x2 ⟨rfl,hb⟩;replace R2:=R2.keep hb;replace PR:=PR.keep hb;replace KK:=KK.trans (Kp.ab hb);clear hb;unfold oE
 go_wp2_with (first|rw[zA,Result.andThen_ok])
 have jK:=PR.ty
 with_reducible refine(Tk _ g k ch p0 p1 s PR Dn.out zI.out HS.out).mono ?_
 exact Q8
theorem u_ (w:World) (g k:Nat) (ch:List gF) (p0 p1:Int) (s:ByteArray) (h:eB w g ch k) (Ay:ch[k]? =some ⟨6,p0,jC⟩) (aw:ch[k+1]? =some ⟨6,p1,s⟩) (hs:s=dK∨s=ef):
  Calls prog 154 #[.pointer (some ⟨g,0,none⟩)] w (QP w g ch (k+2) (.state s)):=by
 have PR:=h;have jW:=h.ty.lt;have Dn:=Lib.hid Ay;have zI:=Lib.hid aw;have HS:=Lib.hid hs;clear h Ay aw hs
 go_enter func154,ntmps154
 have aL:=trivial
 go_wp2_with (first
  |(clear aL;(with_reducible refine bu eK dV ?_);intro x1 g2 aR R2 aw;have fP:=Nat.le_of_eq aR;replace PR:=PR.aa (t:=76) (ah.ab aw);have BB:=aw;clear aw aR;have aJ:=trivial))
 try clear aJ
 have KK:Kp [g] w x1:=Kp.ab BB;clear BB;have jK:=PR.ty
 with_reducible refine(jr _ g k ch _ ⟨#[110,111,116]⟩ PR Dn.out).mono ?_
 clear PR;rintro r x2 ⟨rfl,PR,hk⟩
 have ea:jG ⟨6,p0,jC⟩ ⟨#[110,111,116]⟩=false:=by unfold jG jC;rfl
 rw[ea] at PR;rw[if_neg (by decide)] at PR;rw[ea];clear ea;replace R2:=R2.kp hk (by(simp only[List.mem_singleton,List.mem_cons,List.not_mem_nil,or_false];omega));replace KK:=KK.trans hk;clear jK;clear hk
 go_wp2_with fail
 have jK:=PR.ty
 with_reducible refine(Hg _ g k ch p0 p1 s PR Dn.out zI.out HS.out).mono ?_
 exact Q8
theorem Nu (w:World) (g k:Nat) (ch:List gF) (pn:Int) (p0 p1:Int) (s:ByteArray) (h:eB w g ch k) (hx:ch[k]? =some ⟨6,pn,⟨#[110,111,116]⟩⟩) (Ay:ch[k+1]? =some ⟨6,p0,jC⟩) (aw:ch[k+2]? =some ⟨6,p1,s⟩) (hs:s=dK∨s=ef):
  Calls prog 154 #[.pointer (some ⟨g,0,none⟩)] w (QP w g ch (k+3) (.neg (.state s))):=by
 have PR:=h;have jW:=h.ty.lt;have Dn:=Lib.hid Ay;have zI:=Lib.hid aw;have HS:=Lib.hid hs;have HX:=Lib.hid hx;clear hx;clear h Ay aw hs
 go_enter func154,ntmps154
 have aL:=trivial
 go_wp2_with (first
  |(clear aL;(with_reducible refine bu eK dV ?_);intro x1 g2 aR R2 aw;have fP:=Nat.le_of_eq aR;replace PR:=PR.aa (t:=76) (ah.ab aw);have BB:=aw;clear aw aR;have aJ:=trivial))
 try clear aJ
 have KK:Kp [g] w x1:=Kp.ab BB;clear BB;have jK:=PR.ty
 with_reducible refine(jr _ g k ch _ ⟨#[110,111,116]⟩ PR HX.out).mono ?_
 clear PR;rintro r x2 ⟨rfl,PR,hk⟩
 have ea:jG ⟨6,pn,⟨#[110,111,116]⟩⟩ ⟨#[110,111,116]⟩=true:=by unfold jG;simp
 rw[ea] at PR;rw[if_pos rfl] at PR;rw[ea];clear ea;replace R2:=R2.kp hk (by(simp only[List.mem_singleton,List.mem_cons,List.not_mem_nil,or_false];omega));replace KK:=KK.trans hk;clear jK;clear hk
 go_wp2_with fail
 have jK:=PR.ty
 with_reducible refine(Hg _ g (k+1) ch p0 p1 s PR Dn.out zI.out HS.out).mono ?_
 clear PR;rintro r x3 ⟨C,rfl,⟨rfl,_⟩,PR,hk⟩;replace R2:=R2.kp hk (by(simp only[List.mem_singleton,List.mem_cons,List.not_mem_nil,or_false];omega));replace KK:=KK.trans hk;clear jK;clear hk;have aJ:=trivial
 go_wp2_with (first
  |(clear cY;(with_reducible refine av (C:=[.int .i64 3,.int .i64 0,.int .i64 0,.string cw,.string cw,.slice (some ⟨x5.heap.size,0,none⟩) 1 1]) ?_ ?_ bI (R2.keep (ai _ _)) rfl rfl (UA _) ?_);rfl;rfl;intro wz RZ Pz;have dX:=trivial)
  |(clear cz;(with_reducible refine ak ?_ bI R4 rfl ?_);rfl;have cY:=trivial)
  |(clear bC;(with_reducible refine av (C:=[.int .i64 6,.int .i64 0,.int .i64 0,.string cw,.string s,.slice none 0 0]) ?_ ?_ bI R4 rfl rfl (uX 6 0 s) ?_);rfl;rfl;clear R4;intro x5 R4 Px;have hb:=hx.trans (Px.below (Nat.le_of_eq pP));have gl:w.heap.size≤g4:=(by have:=KK.size;omega);have oL:g2≠g4:=(by have:=R2.lt;omega);replace R2:=R2.keep hb;replace PR:=PR.keep hb;replace KK:=KK.trans (Kp.ab hb);clear Px hx hb pP;have cz:=trivial)
  |(clear aJ;(with_reducible refine bu eK dV ?_);intro x4 g4 pP R4 hx;have bC:=trivial))
 try clear cY
 have Jb:=ai x5 (.cells #[.int .i64 6,.int .i64 0,.int .i64 0,.string cw,.string s,.slice none 0 0] 76);have RN:=Row.new x5 76 [.int .i64 6,.int .i64 0,.int .i64 0,.string cw,.string s,.slice none 0 0];have qA:=R2.lt;have RN2:=Pz.row RN (show x5.heap.size≠g2 by omega);have PR2:=(PR.keep Jb).aa (Pz.aa (R2.keep Jb).ty) (by decide) (by decide);have adL:=KK.size;replace KK:=KK.trans (Kp.ab Jb);refine bodyPost_ret (bH rfl _ rfl bI RZ rfl) rfl ?_;exact⟨_,rfl,⟨_,1,_,rfl,adL,RN2.cl,RN2.ty,rfl,⟨rfl,HS.out⟩⟩,PR2,((KK.mono (M:=[g,g2]) (by simp)).trans (Kp.dr Pz (by simp))).less (M:=[g]) (fun k hk=>by(simp only[List.mem_singleton,List.mem_cons,List.not_mem_nil,or_false] at hk ⊢;omega))⟩
end
end Go.Proofs.YtdnpopjabpklnaaGreatDoor
