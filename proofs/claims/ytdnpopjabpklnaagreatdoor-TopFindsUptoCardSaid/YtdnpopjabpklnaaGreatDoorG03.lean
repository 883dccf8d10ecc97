/- Contracts and plain laws that the proof of the top laws uses (G03). No condition beyond those stated. -/
import Derived.Test.YtdnpopjabpklnaaGreatDoorG02
import Derived.Lib.SplitLaws
import Derived.Lib.Join
import Derived.Lib.Atoi
import Derived.Lib.ItoaNum
import Derived.Orders
set_option maxRecDepth 100000
set_option maxHeartbeats 64000000
set_option linter.all false
namespace Go.Proofs.YtdnpopjabpklnaaGreatDoor
section
def aV (ws:List (List UInt8)):List UInt8:=Lib.join ws [32]
theorem iF (w:List UInt8):aV [w]=w:=by unfold aV;exact Lib.join_one _ _
theorem kU (w v:List UInt8) (t:List (List UInt8)):aV (w::v::t)=w++32::aV (v::t):=by
 unfold aV;rw[Lib.join_cons,Lib.join_cons]
 simp[Lib.joinTail]
theorem sM (c:UInt8) (hc:c≠32):∀ws:List (List UInt8),(∀w∈ws,c∉w)→c∉aV ws
 |[],_=>by simp[aV,Lib.join,List.intercalate]
 |[w],h=>by rw[iF];exact h w (by simp)
 |w::v::t,h=>by
  rw[kU,List.mem_append,List.mem_cons];rintro(h1|h1|h1)
  ·exact h w (by simp) h1
  ·exact hc h1
  ·exact sM c hc (v::t) (fun x hx=>h x (by simp[hx])) h1
theorem GZ:∀l:List UInt8,32∉l→Lib.index l [32]= -1
 |[],_=>rfl
 |b::t,h=>by
  have h1:((32:UInt8)==b)=false:=by rw[beq_eq_false_iff_ne];rintro rfl;exact h (by simp)
  unfold Lib.index;rw[GZ t (fun h2=>h (by simp[h2]))]
  simp[List.isPrefixOf,h1]
theorem Az:∀(l t:List UInt8),32∉l→Lib.index (l++32::t) [32]=(l.length:Int)
 |[],t,_=>by simp[Lib.index,List.isPrefixOf]
 |b::l,t,h=>by
  have h1:((32:UInt8)==b)=false:=by rw[beq_eq_false_iff_ne];rintro rfl;exact h (by simp)
  rw[List.cons_append];unfold Lib.index;rw[Az l t (fun h2=>h (by simp[h2]))]
  have h2:(((l.length:Int))== -1)=false:=by rw[beq_eq_false_iff_ne];omega
  simp[List.isPrefixOf,h1,h2]
theorem GS:∀(w:List UInt8) (ws:List (List UInt8)),(∀x∈w::ws,32∉x)→Lib.count (aV (w::ws)) [32]=ws.length
 |w,[],h=>by rw[iF,Lib.count_miss (GZ w (h w (by simp)))];rfl
 |w,v::t,h=>by
  rw[kU,Lib.count_hit (by simp) (Az w _ (h w (by simp)))]
  have e:(w++32::aV (v::t)).drop (w.length+ [(32:UInt8)].length)=aV (v::t):=by simp
  rw[e,GS v t (fun x hx=>h x (by simp only[List.mem_cons] at hx ⊢;exact Or.inr hx))]
  simp;omega
theorem Fj:∀(w:List UInt8) (ws:List (List UInt8)),(∀x∈w::ws,32∉x)→Lib.splitK [32] 0 ws.length (aV (w::ws))=w::ws
 |w,[],h=>by rw[iF];rfl
 |w,v::t,h=>by
  rw[kU,List.length_cons];unfold Lib.splitK;rw[Az w _ (h w (by simp))]
  have h2:(((w.length:Int))== -1)=false:=by rw[beq_eq_false_iff_ne];omega
  rw[if_neg (by rw[h2];decide)]
  have e:(w++32::aV (v::t)).drop ((w.length:Int).toNat+ [(32:UInt8)].length)=aV (v::t):=by simp
  rw[e,Fj v t (fun x hx=>h x (by simp only[List.mem_cons] at hx ⊢;exact Or.inr hx))]
  simp
theorem VX {b:ByteArray} {l:List UInt8} (h:b.data.toList=l):b=⟨l.toArray⟩:=by
 cases b with
 |mk d=>simp only at h;subst h;simp
theorem F9 {a b:List ByteArray} (h:a.map (·.data.toList)=b.map (·.data.toList)):a=b:=by
 refine List.map_inj_right (f:=fun x:ByteArray=>x.data.toList) (fun x y e=>?_)|>.1 h;rw[VX e]
theorem J4 (s:ByteArray) (w:List UInt8) (ws:List (List UInt8)) (hs:s.data.toList=aV (w::ws)) (h:∀x∈w::ws,32∉x):
  Lib.countB s ⟨#[32]⟩=ws.length∧Lib.splitB ⟨#[32]⟩ 0 (Lib.countB s ⟨#[32]⟩) s=(w::ws).map (fun l=>(⟨l.toArray⟩:ByteArray)):=by
 have hc:Lib.countB s ⟨#[32]⟩=ws.length:=by
  have:Lib.countB s ⟨#[32]⟩=Lib.count s.data.toList [32]:=rfl;rw[this,hs,GS w ws h]
 refine⟨hc,?_⟩;rw[hc]
 apply F9
 rw[Lib.splitB_data,hs];have e:(⟨#[32]⟩:ByteArray).data.toList=[32]:=rfl;rw[e,Fj w ws h,List.map_map];exact(List.map_id'' (fun l=>by simp) _).symm
def vS:List UInt8:=[101,120,97,109,98,111,97,114,100,32,49]
def eG:List UInt8:=[105,116,101,109]
def cC:List UInt8:=[99,111,110,116,101,110,116]
def dw:List UInt8:=[112,111,105,110,116,115]
def fW:List UInt8:=[116,105,109,101]
def fV:List UInt8:=[102,97,109,105,108,121]
def ma:List UInt8:=[115,101,116]
def fc:List UInt8:=[97,115,115,101,116]
def lh:List UInt8:=[115,116,101,109]
def eh:List UInt8:=[111,112,116,105,111,110]
def ia:List UInt8:=[99,104,111,105,99,101]
def kV:List UInt8:=[118,97,108,117,101]
def rV:List UInt8:=[116,111,108]
def jF:List UInt8:=[116,101,120,116]
def lB:List UInt8:=[114,117,98,114,105,99]
def ki:List UInt8:=[101,110,100]
def og:List UInt8:=[100,105,103,101,115,116]
def dM (k:Int):List UInt8:=
 if k=1 then ia else if k=2 then [109,117,108,116,105] else if k=3 then [111,114,100,101,114] else if k=4 then [110,117,109,98,101,114] else if k=5 then jF else [101,115,115,97,121]
def bV (l:List UInt8):List UInt8:=34::(ev l++ [34])
def pN (n:Nat):List UInt8:=[UInt8.ofNat (48+n / 100 % 10),UInt8.ofNat (48+n / 10 % 10),UInt8.ofNat (48+n % 10)]
def dd (n:Int):List UInt8:=(if n<0 then [45] else [])++(Lib.decDigits (n.natAbs / 1000)++46::pN (n.natAbs % 1000))
def cF (it:aA):List (List UInt8):=
 if it.kind≤3 then [aV (ia::it.cA.map fun c=>Lib.itoa (c+1))]
 else if it.kind=4 then [aV [kV,dd it.value,rV,dd it.de]]
 else if it.kind=5 then it.texts.map fun t=>aV [jF,bV t.data.toList]
 else [aV [lB,Lib.itoa it.aH]]
def lK (Jl:List UInt8) (it:aA):List (List UInt8):=
 [aV [eG,Jl,Lib.itoa it.bj,dM it.kind],aV [cC,it.code.data.toList],aV [dw,Lib.itoa it.aP],aV [fW,Lib.itoa it.words,Lib.itoa it.ay]]++
 ((if it.bz=0 then [] else [aV [fV,Lib.itoa it.bz]])++((if it.bB=0 then [] else [aV [ma,Lib.itoa it.bB]])++
 (it.af.map (fun a=>aV [fc,Lib.itoa a])++(aV [lh,bV it.aW.data.toList]::(it.opts.map (fun o=>aV [eh,bV o.data.toList])++(cF it++ [ki]))))))
theorem oO:∀(n:Nat),∀c∈Lib.decDigits n,48≤c.toNat∧c.toNat≤57:=by
 intro n
 induction n using Nat.strongRecOn with
 |_ n ih=>
  intro c hc;rw[Lib.decDigits] at hc
  have one:∀d:Nat,d<10→48≤(UInt8.ofNat (48+d)).toNat∧(UInt8.ofNat (48+d)).toNat≤57:=fun d hd=>by
   rw[UInt8.toNat_ofNat',Nat.mod_eq_of_lt (by omega)];omega
  split at hc
  ·rename_i h
   rw[List.mem_singleton] at hc;subst hc;exact one n h
  ·rename_i h
   rw[List.mem_append,List.mem_singleton] at hc
   rcases hc with hc|rfl
   ·exact ih (n / 10) (by omega) c hc
   ·exact one (n % 10) (Nat.mod_lt _ (by omega))
theorem ru (n:Nat):Lib.decDigits n≠ []:=by
 rw[Lib.decDigits];split<;>simp
theorem vG (n:Nat):Lib.itoa (n:Int)=Lib.decDigits n:=by
 unfold Lib.itoa;rw[if_neg (by omega)];rfl
theorem Mm {n:Int} (hn:0≤n) {c:UInt8} (hc:c.toNat<48∨57<c.toNat):c∉Lib.itoa n:=by
 obtain⟨m,rfl⟩:∃m:Nat,n=m:=⟨n.toNat,by omega⟩;rw[vG];intro h;have:=oO m c h;omega
theorem rL {n lo hi:Int}:iH n lo hi=true↔lo≤n∧n≤hi:=by unfold iH;simp
structure Good (it:aA):Prop where
 id:1≤it.id∧it.id≤9999999
 bj:1≤it.bj∧it.bj≤50
 aP:1≤it.aP∧it.aP≤5
 words:0≤it.words∧it.words≤2000
 ay:1≤it.ay∧it.ay≤2000
 bz:0≤it.bz∧it.bz≤9999999
 bB:0≤it.bB∧it.bB≤9999999
 U4:0≤it.aH∧it.aH≤9999999
 kind:1≤it.kind∧it.kind≤6
 aW:cP (jd it.aW.data.toList) 2000=true
 opts:∀o∈it.opts,cP o.data.toList 200=true
 texts:∀o∈it.texts,cP o.data.toList 200=true
 code:jw it.code.data.toList=true
 xM:it.opts.length≤10
 Dh:it.texts.length≤10
 rn:it.af.length≤8
 only:sD it=true
 key:Bu it=true
 BQ:iE it.af 1 9999999=true
theorem jH {it:aA} (h:fb it=0):Good it:=by
 unfold fb at h
 by_cases h1:xL it=false
 ·rw[if_pos h1] at h;exact absurd h (by decide)
 rw[if_neg h1] at h
 by_cases h2:iH it.kind 1 6=false
 ·rw[if_pos h2] at h;exact absurd h (by decide)
 rw[if_neg h2] at h
 by_cases h3:AS it=false
 ·rw[if_pos h3] at h;exact absurd h (by decide)
 rw[if_neg h3] at h
 by_cases h4:10<it.opts.length∨10<it.texts.length∨8<it.af.length
 ·rw[if_pos h4] at h;exact absurd h (by decide)
 rw[if_neg h4] at h
 by_cases h5:sD it=false∨Bu it=false
 ·rw[if_pos h5] at h;exact absurd h (by decide)
 rw[if_neg h5] at h
 by_cases h6:iE it.af 1 9999999=false
 ·rw[if_pos h6] at h;exact absurd h (by decide)
 simp only[Bool.not_eq_false,not_or] at h1 h2 h3 h4 h5 h6;unfold xL at h1;simp only[Bool.and_eq_true,rL] at h1;rw[rL] at h2;unfold AS at h3;simp only[Bool.and_eq_true,List.all_eq_true] at h3;obtain⟨a1,a2,a3,a4,a5,a6,a7,a8⟩:=h1;obtain⟨b1,b2,b3,b4⟩:=h3;exact⟨a1,a2,a3,a4,a5,a6,a7,a8,h2,b1,b2,b3,b4,by omega,by omega,by omega,h5.1,h5.2,h6⟩
theorem YS {c:UInt8}:okB c=true↔32≤c.toNat∧c.toNat≤126:=by
 unfold okB;simp only[Bool.and_eq_true,decide_eq_true_eq];omega
theorem nZ {l:List UInt8} {m:Nat}:cP l m=true↔ (∀c∈l,32≤c.toNat∧c.toNat≤126)∧1≤l.length∧l.length≤m:=by
 unfold cP;simp only[Bool.and_eq_true,List.all_eq_true,decide_eq_true_eq,YS]
theorem Sr {c:UInt8} (h:32≤c.toNat∧c.toNat≤126):CQ c=true:=by
 unfold CQ
 have h1:(32:UInt8)≤c:=by rw[UInt8.le_iff_toNat_le];exact h.1
 have h2:c≤(126:UInt8):=by rw[UInt8.le_iff_toNat_le];exact h.2
 simp[h1,h2]
theorem Good.AO {it:aA} (h:Good it):(∀c∈it.aW.data.toList,CQ c=true)∧it.aW.data.toList.length≤2000:=by
 have h1:=nZ.1 h.aW;refine⟨fun c hc=>?_,by have:=h1.2.2;unfold jd at this;simpa using this⟩;have h2:=h1.1 (if c=10 then 32 else c) (by unfold jd;exact List.mem_map.2 ⟨c,hc,rfl⟩)
 by_cases h3:c=10
 ·subst h3;decide
 ·rw[if_neg h3] at h2;exact Sr h2
theorem kG {l:List UInt8} {m:Nat} (h:cP l m=true):(∀c∈l,CQ c=true)∧l.length≤m:=
 ⟨fun c hc=>Sr ((nZ.1 h).1 c hc),(nZ.1 h).2.2⟩
theorem Good.acf {it:aA} (h:Good it) (hk:it.kind≤3):it.value=0∧it.de=0∧it.texts=[]∧it.aH=0:=by
 have:=h.only;unfold sD at this;simp only[Bool.and_eq_true,Bool.or_eq_true,Bool.not_eq_true',Bool.and_eq_false_iff,Bool.or_eq_false_iff,decide_eq_true_eq,decide_eq_false_iff_not,Decidable.not_not] at this;obtain⟨_,h2,h3,h4⟩:=this;refine⟨?_,?_,?_,?_⟩
 ·rcases h2 with h2|h2;omega;exact h2.1
 ·rcases h2 with h2|h2;omega;exact h2.2
 ·rcases h3 with h3|h3;omega;exact List.length_eq_zero_iff.1 h3
 ·rcases h4 with h4|h4;omega;exact h4
theorem Good.YT {it:aA} (h:Good it) (hk:it.kind=4):it.opts=[]∧it.cA=[]∧it.texts=[]∧it.aH=0:=by
 have:=h.only;unfold sD at this;simp only[Bool.and_eq_true,Bool.or_eq_true,Bool.not_eq_true',Bool.and_eq_false_iff,Bool.or_eq_false_iff,decide_eq_true_eq,decide_eq_false_iff_not,Decidable.not_not,Nat.not_lt,Nat.le_zero_eq,Int.not_lt] at this;obtain⟨h1,h2,h3,h4⟩:=this;refine⟨?_,?_,?_,?_⟩
 ·rcases h1 with h1|h1;omega;exact List.length_eq_zero_iff.1 h1.1
 ·rcases h1 with h1|h1;omega;exact List.length_eq_zero_iff.1 h1.2
 ·rcases h3 with h3|h3;omega;exact List.length_eq_zero_iff.1 h3
 ·rcases h4 with h4|h4;omega;exact h4
theorem Good.PK {it:aA} (h:Good it) (hk:5≤it.kind):it.opts=[]∧it.cA=[]∧it.value=0∧it.de=0∧(it.kind=5→it.aH=0)∧(it.kind=6→it.texts=[]):=by
 have:=h.only;unfold sD at this;simp only[Bool.and_eq_true,Bool.or_eq_true,Bool.not_eq_true',Bool.and_eq_false_iff,Bool.or_eq_false_iff,decide_eq_true_eq,decide_eq_false_iff_not,Decidable.not_not,Nat.not_lt,Nat.le_zero_eq,Int.not_lt] at this;obtain⟨h1,h2,h3,h4⟩:=this;refine⟨?_,?_,?_,?_,fun h5=>?_,fun h6=>?_⟩
 ·rcases h1 with h1|h1;omega;exact List.length_eq_zero_iff.1 h1.1
 ·rcases h1 with h1|h1;omega;exact List.length_eq_zero_iff.1 h1.2
 ·rcases h2 with h2|h2;omega;exact h2.1
 ·rcases h2 with h2|h2;omega;exact h2.2
 ·rcases h4 with h4|h4;omega;exact h4
 ·rcases h3 with h3|h3;omega;exact List.length_eq_zero_iff.1 h3
theorem uQ {l:List Int} {lo hi:Int} (h:iE l lo hi=true):∀i,i<l.length→(lo≤l.getD i 0∧l.getD i 0≤hi)∧(0<i→l.getD (i - 1) 0<l.getD i 0):=by
 intro i v8;unfold iE at h;rw[List.all_eq_true] at h;have:=h i (List.mem_range.2 v8);rw[Bool.and_eq_true,rL] at this;refine⟨this.1,fun h0=>?_⟩;have h2:=this.2;simp only[Bool.not_eq_true',Bool.and_eq_false_iff,decide_eq_false_iff_not] at h2;omega
theorem Y' {l:List Int} {lo hi:Int} (h:iE l lo hi=true):∀i,i<l.length→lo+i≤l.getD i 0:=by
 intro i
 induction i with
 |zero=>intro hl;have:=(uQ h 0 hl).1.1;omega
 |succ i ih=>
  intro hl;have h1:=ih (by omega);have h2:=(uQ h (i+1) hl).2 (by omega);rw[Nat.add_sub_cancel] at h2;omega
theorem UZ {l:List Int} {lo hi:Int} (h:iE l lo hi=true) (h0:l≠ []):(l.length:Int)≤hi - lo+1:=by
 have hl:0<l.length:=List.length_pos_iff.2 h0;have h1:=Y' h (l.length - 1) (by omega);have h2:=(uQ h (l.length - 1) (by omega)).1.2;omega
theorem kT {l:List Int} {lo hi:Int} (h:iE l lo hi=true):∀x∈l,lo≤x∧x≤hi:=by
 intro x hx;obtain⟨i,v8,rfl⟩:=List.mem_iff_getElem.1 hx;have:=(uQ h i v8).1
 rwa [List.getD,List.getElem?_eq_getElem v8] at this
theorem Uy {l:List Int} {x:Int}:x∈kJ l↔x∈l:=by unfold kJ;exact List.mem_mergeSort
theorem Good.Ad {it:aA} (h:Good it) (hk:it.kind≤3):1≤it.cA.length∧it.cA.length≤10∧∀x∈it.cA,0≤x∧x≤9:=by
 have kx:=h.kind.1;have hl:=h.xM;have:=h.key;unfold Bu at this
 by_cases h1:it.kind=1
 ·rw[if_pos h1] at this;simp only[Bool.and_eq_true,decide_eq_true_eq,rL] at this;obtain⟨a,b,c⟩:=this;refine⟨by omega,by omega,fun x hx=>?_⟩;obtain⟨y,hy⟩:=List.length_eq_one_iff.1 b;rw[hy] at hx c;simp only[List.mem_singleton] at hx;subst hx
  simp at c
  omega
 rw[if_neg h1] at this
 by_cases h2:it.kind=2
 ·rw[if_pos h2] at this;simp only[Bool.and_eq_true,decide_eq_true_eq] at this;obtain⟨a,b,c⟩:=this
  have cu:it.cA≠ []:=by intro e;rw[e] at b;simp at b
  have:=UZ c cu;exact⟨b,by omega,fun x hx=>by have:=kT c x hx;omega⟩
 rw[if_neg h2,if_pos (by omega)] at this;simp only[Bool.and_eq_true,decide_eq_true_eq] at this;obtain⟨a,b,c⟩:=this;exact⟨by omega,by omega,fun x hx=>by have:=kT c x (Uy.2 hx);omega⟩
theorem Good.J' {it:aA} (h:Good it) (hk:it.kind=4):(-9999999≤it.value∧it.value≤9999999)∧(0≤it.de∧it.de≤9999999):=by
 have:=h.key;unfold Bu at this;rw[if_neg (by omega),if_neg (by omega),if_neg (by omega),if_pos hk,Bool.and_eq_true,rL,rL] at this;exact this
theorem mZ (k:Nat):∀n,n<10 ^ (k+1)→(Lib.decDigits n).length≤k+1:=by
 induction k with
 |zero=>intro n h;rw[Lib.decDigits_one (by simpa using h)];simp
 |succ k ih=>
  intro n h;rw[Lib.decDigits]
  split
  ·simp
  ·rw[Nat.pow_succ] at h;have:=ih (n / 10) (by omega)
   simp;omega
theorem iO {n:Int} (h0:0≤n) (h:n≤9999999):(Lib.itoa n).length≤7:=by
 obtain⟨m,rfl⟩:∃m:Nat,n=m:=⟨n.toNat,by omega⟩;rw[vG];exact mZ 6 m (by omega)
theorem jP (l:List UInt8):(bV l).length≤2*l.length+2:=by
 unfold bV;have:=(qF l).2
 simp;omega
theorem oe (B:Nat):∀ls:List (List UInt8),(∀l∈ls,l.length≤B)→(bf ls).length≤ls.length* (B+1)
 |[],_=>by simp[bf]
 |l::t,h=>by
  have h1:=oe B t (fun x hx=>h x (by simp[hx]));have h2:=h l (by simp);rw[ir,List.length_append,List.length_cons,List.length_cons,Nat.add_mul];omega
theorem sO {n:Int} (h1: -9999999≤n) (h2:n≤9999999):(dd n).length≤12:=by
 unfold dd pN;have:=mZ 3 (n.natAbs / 1000) (by omega)
 have h3:(if n<0 then [(45:UInt8)] else []).length≤1:=by split<;>simp
 simp only[List.length_append,List.length_cons,List.length_nil];omega
theorem mJ (B:Nat):∀ws:List (List UInt8),(∀w∈ws,w.length≤B)→(aV ws).length≤ws.length* (B+1)
 |[],_=>by simp[aV,Lib.join,List.intercalate]
 |[w],h=>by rw[iF];have:=h w (by simp);simp;omega
 |w::v::t,h=>by
  have h1:=mJ B (v::t) (fun x hx=>h x (by simp only[List.mem_cons] at hx ⊢;exact Or.inr hx));have h2:=h w (by simp);rw[kU,List.length_append,List.length_cons,List.length_cons,Nat.add_mul];omega
end
section
open Go.RowKit
def bD (ops:Array Oper) (i:Nat):Option Tmp:=(ops[i]?).bind (·.dst)
def jQ (ops:Array Oper) (n:Nat):Bool:=
 (List.range ops.size).all fun i=>match ops[i]? with
  |none=>true
  |some o=>
   (o.after.toList.all fun e=>!Region.binds .any e||decide (e.on<i))&&
   ((
    match o.dst with
    |none=>true
    |some d=>decide (d<n)&& (List.range ops.size).all fun j=>decide (j=i)||decide (bD ops j≠some d))&&
   ((o.looksAt ops).all fun t=>(List.range ops.size).all fun j=>decide (bD ops j≠some t)||o.after.toList.any fun e=>decide (e.on=j)&&Region.binds .any e))
theorem jM {ops:Array Oper} {i d:Nat} (h:bD ops i=some d):i<ops.size:=by
 rcases Nat.lt_or_ge i ops.size with h'|h'
 ·exact h'
 ·unfold bD at h;rw[Array.getElem?_eq_none h'] at h;cases h
section
variable {ops:Array Oper} {n:Nat}
theorem qG (h:jQ ops n=true) {i:Nat} {o:Oper} (ho:ops[i]? =some o) {e:Edge} (he:e∈o.after) (hb:Region.binds .any e=true):e.on<i:=by
 unfold jQ at h;rw[List.all_eq_true] at h;have:=h i (List.mem_range.2 (Array.getElem?_eq_some_iff.1 ho).1);rw[ho] at this;simp only[Bool.and_eq_true,List.all_eq_true] at this;have h1:=this.1 e (by simpa using he);rw[hb] at h1
 simpa using h1
theorem iq (h:jQ ops n=true) {i d:Nat} (hd:bD ops i=some d):d<n∧∀j,bD ops j=some d→j=i:=by
 have hi:=jM hd;unfold jQ at h;rw[List.all_eq_true] at h;have:=h i (List.mem_range.2 hi);unfold bD at hd
 cases ho:ops[i]? with
 |none=>rw[ho] at hd;cases hd
 |some o=>
  rw[ho] at hd this;have Cw:o.dst=some d:=hd;simp only[Bool.and_eq_true,Cw] at this;obtain⟨_,⟨h1,h2⟩,_⟩:=this;refine⟨by simpa using h1,fun j hj=>?_⟩;rw[List.all_eq_true] at h2;have h3:=h2 j (List.mem_range.2 (jM hj));rw[hj] at h3
  simpa using h3
theorem lD (h:jQ ops n=true) {i:Nat} {o:Oper} (ho:ops[i]? =some o) {t j:Nat} (ht:t∈o.looksAt ops) (hj:bD ops j=some t):∃e∈o.after,e.on=j∧Region.binds .any e=true:=by
 unfold jQ at h;rw[List.all_eq_true] at h;have:=h i (List.mem_range.2 (Array.getElem?_eq_some_iff.1 ho).1);rw[ho] at this;simp only[Bool.and_eq_true] at this;obtain⟨_,_,h1⟩:=this;rw[List.all_eq_true] at h1;have h2:=h1 t ht;rw[List.all_eq_true] at h2;have h3:=h2 j (List.mem_range.2 (jM hj));rw[hj] at h3;simp only[ne_eq,not_true_eq_false,decide_false,Bool.false_or,List.any_eq_true,Bool.and_eq_true,decide_eq_true_eq] at h3;obtain⟨e,he,h4,h5⟩:=h3;exact⟨e,by simpa using he,h4,h5⟩
def mB (ops:Array Oper) (L:Nat):Bool:=
 decide (ops.size=L+1)&& (List.range L).all fun i=>(List.range (L+1)).any fun j=>decide (i<j)&&match ops[j]? with
  |none=>false
  |some o=>o.after.toList.any fun e=>decide (e.on=i)&&Region.binds .any e
theorem uM {L i:Nat} (h:mB ops L=true) (hi:i<L):∃j o e,i<j∧j≤L∧ops[j]? =some o∧e∈o.after∧e.on=i∧Region.binds .any e=true:=by
 unfold mB at h;rw[Bool.and_eq_true,List.all_eq_true] at h;have h1:=h.2 i (List.mem_range.2 hi);rw[List.any_eq_true] at h1;obtain⟨j,hj,h2⟩:=h1;rw[Bool.and_eq_true,decide_eq_true_eq] at h2;obtain⟨h3,h4⟩:=h2
 cases ho:ops[j]? with
 |none=>rw[ho] at h4;cases h4
 |some o=>
  rw[ho] at h4;simp only[List.any_eq_true,Bool.and_eq_true,decide_eq_true_eq] at h4;obtain⟨e,he,h5,h6⟩:=h4;exact⟨j,o,e,h3,by have:=List.mem_range.1 hj;omega,ho,by simpa using he,h5,h6⟩
end
theorem fX {listed:Array Bool} {i:Nat} (h:i<listed.size):(listed.setIfInBounds i true).getD i true=true:=by simp[h]
theorem dH {listed:Array Bool} {i:Nat} (h:i<listed.size):(listed.setIfInBounds i true).getD i false=true:=by simp[h]
structure Hz (ops:Array Oper) (a0:Act) (cons:Nat→Option Nat) (G:World→Prop) (jT:Nat→Value→World→Prop) (listed:Array Bool) (a:Act) (w:World):Prop where
 g:G w
 df:a.defers=a0.defers
 sz:a.tmps.size=a0.tmps.size
 val:∀i,listed.getD i false=true→∃v,((∀k,cons i=some k→listed.getD k false=false)→jT i v w)∧∀d,bD ops i=some d→a.tmps[d]? =some v
 rP:∀t,(∀i,listed.getD i false=true→bD ops i≠some t)→a.tmps[t]? =a0.tmps[t]?
 cl:∀i o e,listed.getD i false=true→ops[i]? =some o→e∈o.after→Region.binds .any e=true→listed.getD e.on false=true
theorem put_defers (a:Act) (d:Option Tmp) (v:Value):(a.put d v).defers=a.defers:=by cases d<;>rfl
theorem vM (a:Act) (d:Option Tmp) (v:Value):(a.put d v).tmps.size=a.tmps.size:=by cases d<;>simp[Act.put]
theorem rQ (a:Act) (d:Tmp) (v:Value) (h:d<a.tmps.size):(a.put (some d) v).tmps[d]? =some v:=by simp[Act.put,h]
theorem kH (a:Act) (d:Option Tmp) (v:Value) (t:Nat) (h:d≠some t):(a.put d v).tmps[t]? =a.tmps[t]? :=by
 cases d with
 |none=>rfl
 |some d=>simp only[Act.put];exact Array.getElem?_setIfInBounds_ne (fun e=>h (by rw[e]))
def dh (ops:Array Oper) (v:Nat→Value) (l:List Nat) (a:Act):Act:=l.foldl (fun a i=>a.put (bD ops i) (v i)) a
theorem mH (ops:Array Oper) (v:Nat→Value):∀(l:List Nat) (a:Act),(dh ops v l a).defers=a.defers
 |[],a=>rfl
 |i::l,a=>(mH ops v l _).trans (put_defers _ _ _)
theorem mI (ops:Array Oper) (v:Nat→Value) (t:Nat):∀(l:List Nat) (a:Act),(∀i∈l,bD ops i≠some t)→(dh ops v l a).tmps[t]? =a.tmps[t]?
 |[],a,h=>rfl
 |i::l,a,h=>(mI ops v t l _ (fun j hj=>h j (List.mem_cons_of_mem _ hj))).trans (kH _ _ _ _ (h i List.mem_cons_self))
theorem oM (ops:Array Oper) (v:Nat→Value) (t i:Nat) (hd:bD ops i=some t):∀(l:List Nat) (a:Act),(∀j,bD ops j=some t→j=i)→i∈l→t<a.tmps.size→(dh ops v l a).tmps[t]? =some (v i)
 |[],a,_,h,_=>by cases h
 |j::l,a,hu,h,ht=>by
  by_cases hi:i∈l
  ·exact oM ops v t i hd l _ hu hi (by rw[vM];exact ht)
  ·have lg:j=i:=by
    rcases List.mem_cons.1 h with h1|h1
    ·exact h1.symm
    ·exact absurd h1 hi
   subst lg;refine(mI ops v t l _ (fun k hk e=>hi (by rw[←hu k e];exact hk))).trans ?_
   show(a.put (bD ops j) (v j)).tmps[t]? =some (v j)
   rw[hd];exact rQ _ _ _ ht
theorem Dv {a b:Act} (h1:a.defers=b.defers) (h2:a.tmps=b.tmps):a=b:=by
 cases a;cases b;cases h1;cases h2;rfl
theorem QX {P:Prop} (h:P:=by
 unfold wpOp;rw[ho]
 show if Region.wanted o (yielded ops a.tmps)=true then _ else _
 split
 ·rename_i hw;rw[if_pos hw] at jX;exact .inl jX
 ·rename_i hw;rw[if_neg hw] at jX;exact jX):P:=h
theorem Ft {P:Program} {id:Nat} {ops:Array Oper} {Q:Exit→Act→World→Prop} {a0:Act} {w0:World} (hm:P.follows .mixedOrders=true) (L:Nat) (cons:Nat→Option Nat)
  (G:World→Prop) (R:Nat→World→World→Prop) (jT:Nat→Value→World→Prop) (yG:∀j v w w' i,cons i≠some j→jT i v w→R j w w'→jT i v w')
  (iy:jQ ops a0.tmps.size=true) (ji:mB ops L=true) (uy:∀i k,cons i=some k→i<k∧k<L) (h0:G w0.drew)
  (uI:∀i o,i<L→ops[i]? =some o→∀(a:Act) (w:World),G w→
   (∀j t,t∈o.looksAt ops→bD ops j=some t→(cons j=none∨cons j=some i)→jT j (a.eval (.tmp t)) w)→
   (∀t,(∀j,bD ops j≠some t)→a.eval (.tmp t)=a0.eval (.tmp t))→
   ∀K:Act→World→Prop,(∀u w',jT i u w'→G w'→R i w w'→K (a.put o.dst u) w')→
    if Region.wanted o (yielded ops a.tmps)=true then o.wp P a w K Q else K (a.put o.dst undef) w)
  (nR:∀(v:Nat→Value) (w:World) (o:Oper),ops[L]? =some o→G w→(∀i,i<L→cons i=none→jT i (v i) w)→
   ∀K:Act→World→Prop,(∀a w,Q .normal a w→K a w)→
    if Region.wanted o (yielded ops (dh ops v (List.range L) a0).tmps)=true then o.wp P (dh ops v (List.range L) a0) w K Q else K ((dh ops v (List.range L) a0).put o.dst undef) w):
  (Code.region id ops true).wp P Q a0 w0:=by
 have Eo:ops.size=L+1:=by unfold mB at ji;rw[Bool.and_eq_true,decide_eq_true_eq] at ji;exact ji.1
 have kn:∀(listed:Array Bool),(∀i o e,listed.getD i false=true→ops[i]? =some o→e∈o.after→Region.binds .any e=true→listed.getD e.on false=true)→
   (∀o e,ops[L]? =some o→e∈o.after→Region.binds .any e=true→listed.getD e.on false=true)→∀d i,i+d=L→0<d→listed.getD i false=true:=by
  intro listed aO hL d
  induction d using Nat.strongRecOn with
  |_ d ih=>
   intro i hid hd;obtain⟨j,o,e,h1,h2,h3,h4,rfl,h6⟩:=uM ji (show i<L by omega)
   by_cases hj:j=L
   ·subst hj;exact hL o e h3 h4 h6
   ·exact aO j o e (ih (L - j) (by omega) j (by omega) (by omega)) h3 h4 h6
 have main:∀(fuel:Nat) (listed:Array Bool) (a:Act) (w:World),listed.size=ops.size→listed.getD L false=false→((List.range L).filter fun i=>!listed.getD i true).length<fuel→Hz ops a0 cons G jT listed a w→wpAny P .any ops Q fuel listed a w:=by
  intro fuel
  induction fuel with
  |zero=>intro listed a w hs hl hf hI;omega
  |succ fuel ih=>
   intro listed a w hs hl hf hI
   have cu:Region.ready .any ops listed≠ []:=by
    intro hr
    have dq:∀i,i<ops.size→listed.getD i false=true:=by
     intro i
     induction i using Nat.strongRecOn with
     |_ i Yg=>
      intro hi
      cases hl:listed.getD i false with
      |true=>rfl
      |false=>
       exfalso
       have hm:i∈Region.ready .any ops listed:=by
        rw[mem_ready];refine⟨?_,ops[i],Array.getElem?_eq_getElem hi,fun e he hb=>?_⟩
        ·simp[hs,hi] at hl ⊢;exact hl
        ·have:=qG iy (Array.getElem?_eq_getElem hi) he hb;exact Yg _ this (by omega)
       rw[hr] at hm
       cases hm
    have:=dq L (by omega);rw[hl] at this
    cases this
   refine⟨fun hr=>absurd hr cu,fun i hi=>?_⟩;obtain⟨xl,o,ho,rI⟩:=mem_ready.1 hi;have LQ:i<ops.size:=(Array.getElem?_eq_some_iff.1 ho).1
   have wF:listed.getD i false=false:=by simp[hs,LQ] at xl ⊢;exact xl
   have uz:bD ops i=o.dst:=by unfold bD;rw[ho];rfl
   by_cases LO:i=L
   ·
    subst LO
    have uv:∀k,k<i→listed.getD k false=true:=fun k hk=>kn listed hI.cl (fun o' e bU he hb=>by
     rw[ho] at bU;cases bU;exact rI e he hb) (i - k) k (by omega) (by omega)
    have hv:∀k:Nat,∃v:Value,k<i→((cons k=none→jT k v w)∧∀d,bD ops k=some d→a.tmps[d]? =some v):=fun k=>by
     by_cases hk:k<i
     ·obtain⟨v,h1,h2⟩:=hI.val k (uv k hk);exact⟨v,fun _=>⟨fun hc=>h1 (fun j hj=>by rw[hc] at hj;cases hj),h2⟩⟩
     ·exact⟨undef,fun h=>absurd h hk⟩
    obtain⟨v,hv⟩:=Classical.axiomOfChoice hv
    have he:a=dh ops v (List.range i) a0:=by
     refine Dv (by rw[mH,hI.df]) (Array.ext_getElem? fun t=>?_)
     by_cases hd:∃k,k<i∧bD ops k=some t
     ·obtain⟨k,hk,hd⟩:=hd;obtain⟨h1,h2⟩:=iq iy hd;rw[(hv k hk).2 t hd,oM ops v t k hd _ _ h2 (List.mem_range.2 hk) h1]
     ·have hn:∀k,k<i→bD ops k≠some t:=fun k hk e=>hd ⟨k,hk,e⟩
      rw[hI.rP t (fun k hk e=>by
       have mN:=jM e
       by_cases km:k=i
       ·subst km;rw[wF] at hk;cases hk
       ·exact hn k (by omega) e),mI ops v t _ _ (fun k hk e=>hn k (List.mem_range.1 hk) e)]
    have hK:∀a w,Q .normal a w→wpAny P .any ops Q fuel (listed.setIfInBounds i true) a w:=by
     intro a' w' hQ
     have hr:Region.ready .any ops (listed.setIfInBounds i true)=[]:=by
      rw[List.eq_nil_iff_forall_not_mem];intro k hk;obtain⟨h2,o',bU,_⟩:=mem_ready.1 hk;have xj:k<ops.size:=(Array.getElem?_eq_some_iff.1 bU).1
      by_cases km:k=i
      ·subst km;rw[fX (by omega)] at h2;cases h2
      ·rw[getD_set_ne true (Ne.symm km)] at h2;have:=uv k (by omega)
       simp[hs,xj] at h2 this
       rw[h2] at this;cases this
     cases fuel with
     |zero=>exact⟨hr,hQ⟩
     |succ f=>exact⟨fun _=>hQ,fun k hk=>by rw[hr] at hk;cases hk⟩
    have jX:=nR v w o ho hI.g (fun k hk hc=>(hv k hk).1 hc) _ hK;rw[←he] at jX;exact QX
   ·have Bn:i<L:=by omega
    have Ek:∀j t,t∈o.looksAt ops→bD ops j=some t→(cons j=none∨cons j=some i)→jT j (a.eval (.tmp t)) w:=by
     intro j t ht hj hc;obtain⟨e,he,rfl,hb⟩:=lD iy ho ht hj;obtain⟨v,hv,hd⟩:=hI.val _ (rI e he hb)
     have:a.eval (.tmp t)=v:=by
      show a.tmps.getD t undef=v
      simp[hd t hj]
     rw[this];refine hv (fun k hk=>?_)
     rcases hc with hc|hc
     ·rw[hc] at hk;cases hk
     ·rw[hc] at hk;cases hk;exact wF
    have fD:∀t,(∀j,bD ops j≠some t)→a.eval (.tmp t)=a0.eval (.tmp t):=by
     intro t ht
     show a.tmps.getD t undef=a0.tmps.getD t undef
     simp[hI.rP t (fun j _=>ht j)]
    have hK:∀u w',jT i u w'→G w'→R i w w'→wpAny P .any ops Q fuel (listed.setIfInBounds i true) (a.put o.dst u) w':=by
     intro u w' hu hg hR;refine ih _ _ _ (by simpa using hs) (by rw[getD_set_ne false LO];exact hl) ?_ ⟨hg,(put_defers _ _ _).trans hI.df,(vM _ _ _).trans hI.sz,fun j hj=>?_,fun t ht=>?_,fun j oj e hj Ef he hb=>?_⟩
     ·have aS:((List.range L).filter fun k=>!(listed.setIfInBounds i true).getD k true).length<((List.range L).filter fun k=>!listed.getD k true).length:=by
       have e1:((List.range L).filter fun k=>!(listed.setIfInBounds i true).getD k true)=((List.range L).filter fun k=>!listed.getD k true).filter (fun k=>decide (k≠i)):=by
        rw[List.filter_filter]
        refine List.filter_congr fun k hk=>?_
        by_cases km:k=i
        ·subst km;rw[fX (by omega)]
         simp
        ·rw[getD_set_ne true (Ne.symm km)]
         simp[km]
       rw[e1,List.length_filter_lt_length_iff_exists];exact⟨i,List.mem_filter.2 ⟨List.mem_range.2 Bn,by rw[xl];rfl⟩,by simp⟩
      omega
     ·by_cases lg:j=i
      ·subst lg;refine⟨u,fun _=>hu,fun d hd=>?_⟩;rw[uz] at hd;rw[hd];have:=(iq iy (uz.trans hd)).1;exact rQ _ _ _ (by rw[hI.sz];exact this)
      ·rw[getD_set_ne false (Ne.symm lg)] at hj;obtain⟨v,hv,hd⟩:=hI.val j hj;refine⟨v,fun hc=>?_,fun d Cw=>?_⟩
       ·have cu:cons j≠some i:=fun e=>by
         have:=hc i e;rw[dH (by omega)] at this
         cases this
        refine yG i v w w' j cu (hv (fun k hk=>?_)) hR;have:=hc k hk
        by_cases km:k=i
        ·subst km;exact absurd hk cu
        ·rwa [getD_set_ne false (Ne.symm km)] at this
       ·rw[kH _ _ _ _ (fun e=>lg (by have:=(iq iy Cw).2 i (uz.trans e);exact this.symm))];exact hd d Cw
     ·rw[kH _ _ _ _ (by rw[←uz];exact ht i (by rw[dH (by omega)]))]
      exact hI.rP t (fun j hj=>ht j (by
       by_cases lg:j=i
       ·subst lg;rw[dH (by omega)]
       ·rw[getD_set_ne false (Ne.symm lg)];exact hj))
     ·refine getD_set_true ?_
      by_cases lg:j=i
      ·subst lg;rw[ho] at Ef;cases Ef;exact rI e he hb
      ·rw[getD_set_ne false (Ne.symm lg)] at hj;exact hI.cl j oj e hj Ef he hb
    have jX:=uI i o Bn ho a w hI.g Ek fD _ hK;exact QX
 have hF:∀i,(Array.replicate ops.size false).getD i false=false:=by
  intro i
  rcases Nat.lt_or_ge i ops.size with h|h
  ·simp[h]
  ·simp[Nat.not_lt.2 h]
 have Lv:Hz ops a0 cons G jT (Array.replicate ops.size false) a0 w0.drew:=
  ⟨h0,rfl,rfl,fun i hi=>(by rw[hF i] at hi;cases hi),fun t _=>rfl,fun i o e hi=>(by rw[hF i] at hi;cases hi)⟩
 have hlen:((List.range L).filter fun i=>!(Array.replicate ops.size false).getD i true).length<ops.size:=
  Nat.lt_of_le_of_lt (List.length_filter_le _ _) (by rw[List.length_range];omega)
 have key:=main ops.size (Array.replicate ops.size false) a0 w0.drew Array.size_replicate (hF L) hlen Lv;clear main kn uI nR yG;have e:w0.drew= {w0 with drawn:=w0.drawn+1}:=rfl;rw[e] at key
 with_reducible exact wp_region_any hm key
def tI (step:Nat→Oper→Prop):List Oper→Nat→Prop
 |[],_=>True
 |o::r,i=>step i o∧tI step r (i+1)
theorem AP {step:Nat→Oper→Prop} (l:List Oper):∀(k:Nat),tI step l k→∀(i:Nat) (o:Oper),l[i]? =some o→step (k+i) o:=by
 induction l with
 |nil=>intro k _ i o e;simp at e
 |cons o r ih=>
  intro k h i o' e
  cases i with
  |zero=>
   simp only[List.getElem?_cons_zero,Option.some.injEq] at e;subst e;exact h.1
  |succ i=>
   simp only[List.getElem?_cons_succ] at e;have:=ih (k+1) h.2 i o' e
   rwa [Nat.add_assoc,Nat.add_comm 1 i] at this
def Df (ops:Array Oper) (t:Nat):Bool:=(List.range ops.size).all fun j=>decide (bD ops j≠some t)
theorem EK {ops:Array Oper} {t:Nat} (h:Df ops t=true):∀j,bD ops j≠some t:=fun j e=>by
 unfold Df at h;rw[List.all_eq_true] at h;have:=h j (List.mem_range.2 (jM e))
 simp[e] at this
theorem vL (a:Act) (u:Value):a.put none u=a:=rfl
theorem bR (a:Act) (t:Nat):a.eval (.tmp t)=a.tmps[t]?.getD undef:=by simp[Act.eval]
theorem aq {a:Act} {t:Nat} {v:Value} (h:a.eval (.tmp t)=v):a.tmps[t]?.getD undef=v:=(bR a t).symm.trans h
theorem fC {α:Type} {S:α→Prop} {L:List α} {d:α} (h:∀p∈L,S p) (hd:S d) (i:Nat):S (L.getD i d):=by
 rw[List.getD_eq_getElem?_getD]
 rcases Nat.lt_or_ge i L.length with hi|hi
 ·rw[List.getElem?_eq_getElem hi];exact h _ (List.getElem_mem hi)
 ·rw[List.getElem?_eq_none hi];exact hd
theorem cT {P:Program} {id:Nat} {ops:Array Oper} {Q:Exit→Act→World→Prop} {a0:Act} {w0:World} (hm:P.follows .mixedOrders=true) (L:Nat) (cons:Nat→Option Nat)
  (G:World→Prop) (R:Nat→World→World→Prop) (Vs:List (Value→World→Prop)) (yG:∀j v w w' i,cons i≠some j→(Vs.getD i (fun _ _=>True)) v w→R j w w'→(Vs.getD i (fun _ _=>True)) v w')
  (iy:jQ ops a0.tmps.size=true) (ji:mB ops L=true) (uy:∀i k,cons i=some k→i<k∧k<L) (h0:G w0.drew)
  (H:tI (fun i o=>i<L→∀(a:Act) (w:World),G w→
   (∀j t (_:(o.looksAt ops).contains t=true:=by kernel_rfl) (_:bD ops j=some t:=by rfl) (_:cons j=none∨cons j=some i:=by first|exact Or.inl rfl|exact Or.inr rfl),(Vs.getD j (fun _ _=>True)) (a.eval (.tmp t)) w)→
   (∀t (_:Df ops t=true:=by kernel_rfl),a.eval (.tmp t)=a0.eval (.tmp t))→
   ∀K:Act→World→Prop,(∀u w',(Vs.getD i (fun _ _=>True)) u w'→G w'→R i w w'→K (a.put o.dst u) w')→
    if Region.wanted o (yielded ops a.tmps)=true then o.wp P a w K Q else K (a.put o.dst undef) w) ops.toList 0)
  (nR:∀(v:Nat→Value) (w:World) (o:Oper) (A:Act),A=dh ops v (List.range L) a0→ops[L]? =some o→G w→(∀i,i<L→cons i=none→(Vs.getD i (fun _ _=>True)) (v i) w)→
   ∀K:Act→World→Prop,(∀a w,Q .normal a w→K a w)→
    if Region.wanted o (yielded ops A.tmps)=true then o.wp P A w K Q else K (A.put o.dst undef) w):
  (Code.region id ops true).wp P Q a0 w0:=by
 refine Ft hm L cons G R (fun i v w=>(Vs.getD i (fun _ _=>True)) v w) yG iy ji uy h0 ?_ (fun v w o ho hG hv K hK=>nR v w o _ rfl ho hG hv K hK);intro i o hi ho a w hG hr hb K hK;have h:=AP ops.toList 0 H i o (by simpa using ho);rw[Nat.zero_add] at h;exact h hi a w hG (fun j t ht=>hr j t (by simpa using ht)) (fun t ht=>hb t (EK ht)) K hK
section
variable {P:Program} {a:Act} {w:World} {K:Act→World→Prop} {Q:Exit→Act→World→Prop} {dst:Option Tmp} {x v:Operand} {ty t' k:Nat} {pos:String} {after:Array Edge} {gd:Option (Nat × Bool)}
theorem sF {g t:Nat} {C Z:List Value} (hx:a.eval x=.pointer (some ⟨g,0,none⟩)) (hv:a.eval v=.agg C.toArray) (hA:kj P ty k) (hr:Row w g t Z) (hk:C.length=k) (hz:Z.length=k) (h1:∀u∈C,u.oneCell'=true)
  (h:∀w',Row w' g t C→cH g w w'→K (a.put dst noResult) w'):Oper.wp P {dst:=dst,op:=.store ty x v,type:=t',pos:=pos,after:=after,guard:=gd} a w K Q:=by
 have bQ:=run_storeCells_cells (P:=P) g 0 C 0 w (fun j hj=>by rw[Nat.add_zero,Nat.zero_add,hr.cell,List.getElem?_eq_getElem (by omega)];rfl) (fun j _=>hr.frozen _) h1;simp only[Nat.add_zero] at bQ
 have mA:Row (w.setCells g 0 C) g t C:=by
  have:=Row.iX C 0 w Z hr (by omega)
  rwa [zB (by omega)] at this
 cases hq:P.info? ty with
 |none=>have:=hA.sz;simp[hq] at this
 |some i=>
  have hs:i.size=k:=by have:=hA.sz;simpa[hq] using this
  subst hk;unfold Oper.wp execOp
  simp[hx,hv,Instr.storeAt,Instr.sureAddr,storeVar,Value.cells,sizeOf,typeInfo,hq,hs,bQ,Result.andThen]
  exact h _ mA (cH.iX C 0 w)
theorem kh {g t:Nat} {C:List Value} (hx:a.eval x=.pointer (some ⟨g,0,none⟩)) (hA:kj P ty k) (hr:Row w g t C) (hk:C.length=k)
  (h:K (a.put dst (.agg C.toArray)) w):Oper.wp P {dst:=dst,op:=.load ty x,type:=t',pos:=pos,after:=after,guard:=gd} a w K Q:=by
 unfold Oper.wp execOp;simp only[hx,Instr.loadAt,Instr.sureAddr,Sem.run_bind,Sem.run_pure,Result.andThen_ok,gZ hA hr.cl hk];exact h
end
end
section
open Go.RowKit
open Tryz
def ov:List Int→Int→Int
 |[],s=>if s=1000 then 0 else 19
 |x::xs,s=>if x<1∨1000<x then 3 else ov xs (s+x)
def BR (K0:Nat) (row:List Int):Int:=if row.length≠K0 then 1 else ov row 0
def ou (K0:Nat):List (List Int)→Int
 |[]=>0
 |r::rs=>if BR K0 r=0 then ou K0 rs else BR K0 r
def kb (rows:List (List Int)):Nat:=(rows.getD 0 []).length
def EH (rows:List (List Int)) (n:Int):Int:=
 if n<1∨21<n∨(rows.length:Int)≠n then 1 else if kb rows<2∨6<kb rows then 3 else ou (kb rows) rows
theorem drop_cons {α:Type} (l:List α) (d:α) {k:Nat} (h:k<l.length):l.drop k=l.getD k d::l.drop (k+1):=by
 rw[List.drop_eq_getElem_cons h,List.getD_eq_getElem?_getD,List.getElem?_eq_getElem h];rfl
theorem Qf {l:List Int} {k:Nat} {s:Int} (h:k<l.length) (hx:l.getD k 0<1∨1000<l.getD k 0):ov (l.drop k) s=3:=by
 rw[drop_cons l 0 h,ov,if_pos hx]
theorem Ni {l:List Int} {k:Nat} {s:Int} (h:k<l.length) (h1:1≤l.getD k 0) (h2:l.getD k 0≤1000):ov (l.drop k) s=ov (l.drop (k+1)) (s+l.getD k 0):=by
 rw[drop_cons l 0 h,ov,if_neg (by omega)]
theorem Qg {l:List Int} {k:Nat} {s:Int} (h:l.length≤k):ov (l.drop k) s=if s=1000 then 0 else 19:=by
 rw[List.drop_eq_nil_of_le h,ov]
theorem Qd {c:Nat} {l:List (List Int)} {k:Nat} {e:Int} (h:k<l.length) (hx:BR c (l.getD k [])=e) (he:e≠0):ou c (l.drop k)=e:=by
 rw[drop_cons l [] h,ou,hx,if_neg he]
theorem Ng {c:Nat} {l:List (List Int)} {k:Nat} (h:k<l.length) (hx:BR c (l.getD k [])=0):ou c (l.drop k)=ou c (l.drop (k+1)):=by
 rw[drop_cons l [] h,ou,if_pos hx]
theorem Qe {c:Nat} {l:List (List Int)} {k:Nat} (h:l.length≤k):ou c (l.drop k)=0:=by
 rw[List.drop_eq_nil_of_le h,ou]
theorem U3 {c:Nat} {r:List Int} (h:r.length≠c):BR c r=1:=by unfold BR;rw[if_pos h]
theorem Qc {c:Nat} {r:List Int} (h:r.length=c):BR c r=ov r 0:=by unfold BR;rw[if_neg (by omega)]
theorem JM {rows:List (List Int)} {n:Int} (h:n<1∨21<n∨(rows.length:Int)≠n):EH rows n=1:=if_pos h
theorem aav {rows:List (List Int)} {n:Int} (h1:1≤n) (h2:n≤21) (h3:(rows.length:Int)=n) (h:kb rows<2∨6<kb rows):EH rows n=3:=by
 unfold EH;rw[if_neg (by omega),if_pos h]
theorem PE {rows:List (List Int)} {n:Int} (h1:1≤n) (h2:n≤21) (h3:(rows.length:Int)=n) (h4:2≤kb rows) (h5:kb rows≤6):EH rows n=ou (kb rows) rows:=by
 unfold EH;rw[if_neg (by omega),if_neg (by omega)]
theorem Rw {P:Prop} (h:P:=by
 generalize rows.length=n at*
 go_enter func149,ntmps149
 go_wp2
 go_ret
 exact⟨by rw[HE.out];rfl,(Below.refl _ _).alloc (Nat.le_refl _) _⟩):P:=h
theorem Th (rv:Value) (rows:List (List Int)) (w:World) (h:wT w rv rows):
  Calls prog 149 #[.agg #[rv]] w fun e w'=>e=.returned (.int .i64 ((kb rows:Nat):Int))∧Below w.heap.size w w':=by
 obtain⟨A,c,us,rfl,hc,hm,hs,hu⟩:=h;have HU:=Lib.hid hu;unfold maxLen at hm;clear hu
 rcases Nat.eq_zero_or_pos rows.length with h0|hp
 ·have HE:=Lib.hid (show kb rows=0 by unfold kb;rw[List.eq_nil_of_length_eq_zero h0];rfl)
  have Ww:((rows.length:Int)==0)=true:=by rw[beq_iff_eq];omega
  clear h0;exact Rw
 ·obtain⟨b,o,u,rfl,hb,g1,hr⟩:=JL hs HU.out hp;rw[Nat.add_zero] at g1
  have Ww:((rows.length:Int)==0)=false:=by rw[beq_eq_false_iff_ne];omega
  obtain⟨B,cB,rfl,k1,k2,k3⟩:=hr;have HE:=Lib.hid (show kb rows=(rows.getD 0 []).length from rfl);unfold maxLen at k2;clear hs HU k3;generalize (rows.getD 0 []).length=q at*;exact Rw
theorem Iq {P:Prop} (h:P:=by
 generalize rows.length=m at*
 go_enter func148,ntmps148
 go_wp2
 go_ret
 exact⟨by rw[HE.out];rfl,Bg⟩):P:=h
theorem MC (rv:Value) (rows:List (List Int)) (n:Int) (w:World) (h:wT w rv rows):
  Calls prog 148 #[.agg #[rv],.int .i64 n] w fun e w'=>e=.returned (.int .i64 (EH rows n))∧Below w.heap.size w w':=by
 obtain⟨A,c,us,rfl,hc,hm,hs,hu⟩:=h;have HU:=Lib.hid hu;unfold maxLen at hm;clear hu;have Bg:Below w.heap.size w (w.alloc (.cells #[.slice A rows.length c] 42)):=(Below.refl _ _).alloc (Nat.le_refl _) _
 by_cases c1:n<1
 ·have HE:=Lib.hid (JM (rows:=rows) (n:=n) (by omega))
  have d1:decide (n<1)=true:=by simpa using c1
  exact Iq
 have d1:decide (n<1)=false:=by simpa using c1
 by_cases c2:21<n
 ·have HE:=Lib.hid (JM (rows:=rows) (n:=n) (by omega))
  have d2:decide (21<n)=true:=by simpa using c2
  exact Iq
 have d2:decide (21<n)=false:=by simpa using c2
 by_cases c3:(rows.length:Int)=n
 ·subst c3
  have d3:((rows.length:Int) !=(rows.length:Int))=false:=by simp
  have hp:0<rows.length:=by omega
  obtain⟨b,o,u,rfl,hb,g1,hr⟩:=JL hs HU.out hp;rw[Nat.add_zero] at g1;obtain⟨B,cB,rfl,k1,k2,k3⟩:=hr;unfold maxLen at k2;clear k3;have HC:=Lib.hid (show kb rows=(rows.getD 0 []).length from rfl);have HM:=Lib.hid (PE (rows:=rows) (n:=(rows.length:Int)) (by omega) (by omega) rfl);have Zu:=Lib.hid (aav (rows:=rows) (n:=(rows.length:Int)) (by omega) (by omega) rfl);generalize hq:(rows.getD 0 []).length=q at*;clear hq;rw[HC.out] at HM Zu;generalize O7:rows.length=m at*;have HL:=Lib.hid O7;clear O7
  by_cases c4:(q:Int)<2
  ·have HE:=Lib.hid (Zu.out (by omega))
   have d4:decide ((q:Int)<2)=true:=by simpa using c4
   go_enter func148,ntmps148
   go_wp2
   go_ret
   exact⟨by rw[HE.out];rfl,Bg⟩
  have d4:decide ((q:Int)<2)=false:=by simpa using c4
  by_cases c5:6<(q:Int)
  ·have HE:=Lib.hid (Zu.out (by omega))
   have d5:decide (6<(q:Int))=true:=by simpa using c5
   go_enter func148,ntmps148
   go_wp2
   go_ret
   exact⟨by rw[HE.out];rfl,Bg⟩
  have d5:decide (6<(q:Int))=false:=by simpa using c5
  replace HM:=Lib.hid (HM.out (by omega) (by omega));clear Zu
  go_enter func148,ntmps148
  go_wp2
  clear d1 d2 d3 d4 d5
  go_loop [38] (fun i=>∃k:Nat,k≤m∧i=.int .i64 (k:Int)∧Hid (ou q rows=ou q (rows.drop k))) (fun i=>m - (intOf i).toNat)
  case atStart=>exact⟨0,by omega,rfl,rfl⟩
  case round=>
   obtain⟨k,hk,rfl,hinv⟩:=hrel
   by_cases aS:k<m
   ·obtain⟨b1,o1,u1,hA,aC,g2,hr⟩:=JL hs HU.out aS;obtain⟨X,cX,rfl,x1,x2,x3⟩:=hr;simp only[Option.some.injEq,Addr.mk.injEq] at hA;obtain⟨rfl,rfl,_⟩:=hA;unfold maxLen at x2
    have Cg:Hid (k<rows.length):=by unfold Hid;rw[HL.out];exact aS
    have aaQ:=fun e h1 h2=>(hinv.out.trans (Qd (c:=q) (l:=rows) (k:=k) (e:=e) Cg.out h1 h2))
    have HB:=Lib.hid aaQ;have abS:=Lib.hid (fun h1=>hinv.out.trans (Ng (c:=q) (l:=rows) (k:=k) Cg.out h1));clear aaQ hinv;generalize rows.getD k []=row at*
    by_cases yR:row.length=q
    ·have HR:=Lib.hid (Qc yR)
     have CF:((row.length:Int) !=(q:Int))=false:=by rw[yR];simp
     have hrq:row.length≤q:=by omega
     have hqr:q≤row.length:=by omega
     clear yR
     go_wp2
     clear CF
     go_loop [8,48] (fun s i=>∃(j:Nat) (t:Int),j≤row.length∧i=.int .i64 (j:Int)∧s=.int .i64 t∧0≤t∧t≤1000* (j:Int)∧Hid (ov row 0=ov (row.drop j) t)) (fun _ i=>row.length - (intOf i).toNat)
     case atStart=>exact⟨0,0,by omega,rfl,rfl,by omega,by omega,rfl⟩
     case round=>
      obtain⟨j,t,hj,rfl,rfl,t1,t2,hsc⟩:=hrel
      by_cases hlj:j<row.length
      ·obtain⟨b3,o3,rfl,eE,dQ⟩:=x3.num hlj;have g3:=dQ j hlj;have HB2:=Lib.hid (fun h=>hsc.out.trans (Qf (l:=row) (k:=j) (s:=t) hlj h));have wS:=Lib.hid (fun h1 h2=>hsc.out.trans (Ni (l:=row) (k:=j) (s:=t) hlj h1 h2));clear dQ hsc;generalize row.getD j 0=x at*
       by_cases e1:x<1
       ·have HE:=Lib.hid (HB.out 3 (HR.out.trans (HB2.out (.inl e1))) (by omega))
        have f1:decide (x<1)=true:=by simpa using e1
        go_wp2
        go_ret
        exact⟨by rw[HM.out,HE.out];rfl,Bg⟩
       ·have f1:decide (x<1)=false:=by simpa using e1
        by_cases e2:1000<x
        ·have HE:=Lib.hid (HB.out 3 (HR.out.trans (HB2.out (.inr e2))) (by omega))
         have f2:decide (1000<x)=true:=by simpa using e2
         go_wp2
         go_ret
         exact⟨by rw[HM.out,HE.out];rfl,Bg⟩
        ·have f2:decide (1000<x)=false:=by simpa using e2
         have HN:=Lib.hid (wS.out (by omega) (by omega))
         go_wp2
         go_round
         case rel=>exact⟨j+1,t+x,by omega,by go_num,rfl,by omega,by omega,HN.out⟩
         case measure=>simp[intOf];omega
      ·have HN:=Lib.hid (hsc.out.trans (Qg (l:=row) (k:=j) (s:=t) (by omega)))
       by_cases e3:t=1000
       ·have HZ:=Lib.hid (abS.out (HR.out.trans (by rw[HN.out,if_pos e3])))
        have f3:(t !=1000)=false:=by rw[bne_eq_false_iff_eq];exact e3
        clear e3
        go_wp2
        go_round
        case rel=>exact⟨k+1,by omega,by go_num,HZ.out⟩
        case measure=>simp[intOf];omega
       ·have HE:=Lib.hid (HB.out 19 (HR.out.trans (by rw[HN.out,if_neg e3])) (by omega))
        have f3:(t !=1000)=true:=by rw[bne_iff_ne];exact e3
        clear e3
        go_wp2
        go_ret
        exact⟨by rw[HM.out,HE.out];rfl,Bg⟩
    ·have HE:=Lib.hid (HB.out 1 (U3 yR) (by omega))
     have CF:((row.length:Int) !=(q:Int))=true:=by rw[bne_iff_ne];omega
     clear yR
     go_wp2
     go_ret
     exact⟨by rw[HM.out,HE.out];rfl,Bg⟩
   ·have HE:=Lib.hid (hinv.out.trans (Qe (c:=q) (l:=rows) (k:=k) (by rw[HL.out];omega)))
    go_wp2
    go_ret
    exact⟨by rw[HM.out,HE.out];rfl,Bg⟩
 ·have HE:=Lib.hid (JM (rows:=rows) (n:=n) (by omega))
  have d3:((rows.length:Int) !=n)=true:=by rw[bne_iff_ne];exact c3
  clear c3;exact Iq
end
section
open Go.RowKit
def depOn (ops:Array Oper) (i j:Nat):Bool:=match ops[i]? with|some o=>o.after.any (fun e=>decide (e.on=j)&&Region.binds .any e)|none=>false
def kI (ops:Array Oper) (n L:Nat):Bool:=
 (List.range ops.size).all fun i=>match ops[i]? with
  |none=>true
  |some o=>
   (o.after.toList.all fun e=>!Region.binds .any e||decide (e.on<i))&&
   ((
    match o.dst with
    |none=>true
    |some d=>decide (d<n)&& (List.range ops.size).all fun j=>decide (j=i)||decide (bD ops j≠some d))&&
   ((o.looksAt ops).all fun t=>(List.range ops.size).all fun j=>decide (j=L)||decide (bD ops j≠some t)||o.after.toList.any fun e=>decide (e.on=j)&&Region.binds .any e))
def yw (ops:Array Oper) (L i:Nat):Option Tmp:=if i=L then none else bD ops i
theorem Oj {ops:Array Oper} {L i t:Nat} (h:yw ops L i=some t):i≠L∧bD ops i=some t:=by
 unfold yw at h
 split at h
 ·cases h
 ·exact⟨by assumption,h⟩
section
variable {ops:Array Oper} {n L:Nat}
theorem xO (h:kI ops n L=true) {i:Nat} {o:Oper} (ho:ops[i]? =some o) {e:Edge} (he:e∈o.after) (hb:Region.binds .any e=true):e.on<i:=by
 unfold kI at h;rw[List.all_eq_true] at h;have:=h i (List.mem_range.2 (Array.getElem?_eq_some_iff.1 ho).1);rw[ho] at this;simp only[Bool.and_eq_true,List.all_eq_true] at this;have h1:=this.1 e (by simpa using he);rw[hb] at h1
 simpa using h1
theorem pE (h:kI ops n L=true) {i d:Nat} (hd:bD ops i=some d):d<n∧∀j,bD ops j=some d→j=i:=by
 have hi:=jM hd;unfold kI at h;rw[List.all_eq_true] at h;have:=h i (List.mem_range.2 hi);unfold bD at hd
 cases ho:ops[i]? with
 |none=>rw[ho] at hd;cases hd
 |some o=>
  rw[ho] at hd this;have Cw:o.dst=some d:=hd;simp only[Bool.and_eq_true,Cw] at this;obtain⟨_,⟨h1,h2⟩,_⟩:=this;refine⟨by simpa using h1,fun j hj=>?_⟩;rw[List.all_eq_true] at h2;have h3:=h2 j (List.mem_range.2 (jM hj));rw[hj] at h3
  simpa using h3
theorem AN (h:kI ops n L=true) {i:Nat} {o:Oper} (ho:ops[i]? =some o) {t j:Nat} (ht:t∈o.looksAt ops) (hj:bD ops j=some t) (hjL:j≠L):∃e∈o.after,e.on=j∧Region.binds .any e=true:=by
 unfold kI at h;rw[List.all_eq_true] at h;have:=h i (List.mem_range.2 (Array.getElem?_eq_some_iff.1 ho).1);rw[ho] at this;simp only[Bool.and_eq_true] at this;obtain⟨_,_,h1⟩:=this;rw[List.all_eq_true] at h1;have h2:=h1 t ht;rw[List.all_eq_true] at h2;have h3:=h2 j (List.mem_range.2 (jM hj));rw[hj] at h3;simp only[decide_eq_false hjL,ne_eq,not_true_eq_false,decide_false,Bool.false_or,List.any_eq_true,Bool.and_eq_true,decide_eq_true_eq] at h3;obtain⟨e,he,h4,h5⟩:=h3;exact⟨e,by simpa using he,h4,h5⟩
end
def EJ (ops:Array Oper) (L t:Nat):Bool:=(List.range ops.size).all fun j=>decide (j=L)||decide (bD ops j≠some t)
theorem MI {ops:Array Oper} {L t:Nat} (h:EJ ops L t=true):∀j,j≠L→bD ops j≠some t:=fun j hj e=>by
 unfold EJ at h;rw[List.all_eq_true] at h
 rcases Nat.lt_or_ge j ops.size with hl|hl
 ·have:=h j (List.mem_range.2 hl)
  simp[hj,e] at this
 ·unfold bD at e;rw[Array.getElem?_eq_none hl] at e
  cases e
theorem QY {P:Prop} (h:P:=by
 unfold wpOp;rw[ho]
 show if Region.wanted o (yielded ops a.tmps)=true then _ else _
 split
 ·rename_i hw;rw[if_pos hw] at jX;exact .inl jX
 ·rename_i hw;rw[if_neg hw] at jX;exact jX):P:=h
theorem CV {P:Program} {id:Nat} {ops:Array Oper} {Q:Exit→Act→World→Prop} {a0:Act} {w0:World} (hm:P.follows .mixedOrders=true) (L:Nat) (cons:Nat→Option Nat)
  (G:World→Prop) (R:Nat→World→World→Prop) (jT:Nat→Value→World→Prop) (yG:∀j v w w' i,i≠j→depOn ops i j=false→cons i≠some j→jT i v w→R j w w'→jT i v w')
  (iy:kI ops a0.tmps.size L=true) (ji:mB ops L=true) (uy:∀i k,cons i=some k→i<k∧k<L) (h0:G w0.drew)
  (uI:∀i o,i<L→ops[i]? =some o→∀(a:Act) (w:World),G w→
   (∀j t,t∈o.looksAt ops→yw ops L j=some t→(cons j=none∨cons j=some i)→jT j (a.eval (.tmp t)) w)→
   (∀t,(∀j,j≠L→bD ops j≠some t)→a.eval (.tmp t)=a0.eval (.tmp t))→
   ∀K:Act→World→Prop,(∀u w',jT i u w'→G w'→R i w w'→K (a.put o.dst u) w')→
    if Region.wanted o (yielded ops a.tmps)=true then o.wp P a w K Q else K (a.put o.dst undef) w)
  (nR:∀(v:Nat→Value) (w:World) (o:Oper),ops[L]? =some o→G w→(∀i,i<L→cons i=none→jT i (v i) w)→
   ∀K:Act→World→Prop,(∀a w,Q .normal a w→K a w)→
    if Region.wanted o (yielded ops (dh ops v (List.range L) a0).tmps)=true then o.wp P (dh ops v (List.range L) a0) w K Q else K ((dh ops v (List.range L) a0).put o.dst undef) w):
  (Code.region id ops true).wp P Q a0 w0:=by
 have Eo:ops.size=L+1:=by unfold mB at ji;rw[Bool.and_eq_true,decide_eq_true_eq] at ji;exact ji.1
 have kn:∀(listed:Array Bool),(∀i o e,listed.getD i false=true→ops[i]? =some o→e∈o.after→Region.binds .any e=true→listed.getD e.on false=true)→
   (∀o e,ops[L]? =some o→e∈o.after→Region.binds .any e=true→listed.getD e.on false=true)→∀d i,i+d=L→0<d→listed.getD i false=true:=by
  intro listed aO hL d
  induction d using Nat.strongRecOn with
  |_ d ih=>
   intro i hid hd;obtain⟨j,o,e,h1,h2,h3,h4,rfl,h6⟩:=uM ji (show i<L by omega)
   by_cases hj:j=L
   ·subst hj;exact hL o e h3 h4 h6
   ·exact aO j o e (ih (L - j) (by omega) j (by omega) (by omega)) h3 h4 h6
 have main:∀(fuel:Nat) (listed:Array Bool) (a:Act) (w:World),listed.size=ops.size→listed.getD L false=false→((List.range L).filter fun i=>!listed.getD i true).length<fuel→Hz ops a0 cons G jT listed a w→wpAny P .any ops Q fuel listed a w:=by
  intro fuel
  induction fuel with
  |zero=>intro listed a w hs hl hf hI;omega
  |succ fuel ih=>
   intro listed a w hs hl hf hI
   have cu:Region.ready .any ops listed≠ []:=by
    intro hr
    have dq:∀i,i<ops.size→listed.getD i false=true:=by
     intro i
     induction i using Nat.strongRecOn with
     |_ i Yg=>
      intro hi
      cases hl:listed.getD i false with
      |true=>rfl
      |false=>
       exfalso
       have hm:i∈Region.ready .any ops listed:=by
        rw[mem_ready];refine⟨?_,ops[i],Array.getElem?_eq_getElem hi,fun e he hb=>?_⟩
        ·simp[hs,hi] at hl ⊢;exact hl
        ·have:=xO iy (Array.getElem?_eq_getElem hi) he hb;exact Yg _ this (by omega)
       rw[hr] at hm
       cases hm
    have:=dq L (by omega);rw[hl] at this
    cases this
   refine⟨fun hr=>absurd hr cu,fun i hi=>?_⟩;obtain⟨xl,o,ho,rI⟩:=mem_ready.1 hi;have LQ:i<ops.size:=(Array.getElem?_eq_some_iff.1 ho).1
   have wF:listed.getD i false=false:=by simp[hs,LQ] at xl ⊢;exact xl
   have uz:bD ops i=o.dst:=by unfold bD;rw[ho];rfl
   by_cases LO:i=L
   ·
    subst LO
    have uv:∀k,k<i→listed.getD k false=true:=fun k hk=>kn listed hI.cl (fun o' e bU he hb=>by
     rw[ho] at bU;cases bU;exact rI e he hb) (i - k) k (by omega) (by omega)
    have hv:∀k:Nat,∃v:Value,k<i→((cons k=none→jT k v w)∧∀d,bD ops k=some d→a.tmps[d]? =some v):=fun k=>by
     by_cases hk:k<i
     ·obtain⟨v,h1,h2⟩:=hI.val k (uv k hk);exact⟨v,fun _=>⟨fun hc=>h1 (fun j hj=>by rw[hc] at hj;cases hj),h2⟩⟩
     ·exact⟨undef,fun h=>absurd h hk⟩
    obtain⟨v,hv⟩:=Classical.axiomOfChoice hv
    have he:a=dh ops v (List.range i) a0:=by
     refine Dv (by rw[mH,hI.df]) (Array.ext_getElem? fun t=>?_)
     by_cases hd:∃k,k<i∧bD ops k=some t
     ·obtain⟨k,hk,hd⟩:=hd;obtain⟨h1,h2⟩:=pE iy hd;rw[(hv k hk).2 t hd,oM ops v t k hd _ _ h2 (List.mem_range.2 hk) h1]
     ·have hn:∀k,k<i→bD ops k≠some t:=fun k hk e=>hd ⟨k,hk,e⟩
      rw[hI.rP t (fun k hk e=>by
       have mN:=jM e
       by_cases km:k=i
       ·subst km;rw[wF] at hk;cases hk
       ·exact hn k (by omega) e),mI ops v t _ _ (fun k hk e=>hn k (List.mem_range.1 hk) e)]
    have hK:∀a w,Q .normal a w→wpAny P .any ops Q fuel (listed.setIfInBounds i true) a w:=by
     intro a' w' hQ
     have hr:Region.ready .any ops (listed.setIfInBounds i true)=[]:=by
      rw[List.eq_nil_iff_forall_not_mem];intro k hk;obtain⟨h2,o',bU,_⟩:=mem_ready.1 hk;have xj:k<ops.size:=(Array.getElem?_eq_some_iff.1 bU).1
      by_cases km:k=i
      ·subst km;rw[fX (by omega)] at h2;cases h2
      ·rw[getD_set_ne true (Ne.symm km)] at h2;have:=uv k (by omega)
       simp[hs,xj] at h2 this
       rw[h2] at this;cases this
     cases fuel with
     |zero=>exact⟨hr,hQ⟩
     |succ f=>exact⟨fun _=>hQ,fun k hk=>by rw[hr] at hk;cases hk⟩
    have jX:=nR v w o ho hI.g (fun k hk hc=>(hv k hk).1 hc) _ hK;rw[←he] at jX;exact QY
   ·have Bn:i<L:=by omega
    have Ek:∀j t,t∈o.looksAt ops→yw ops L j=some t→(cons j=none∨cons j=some i)→jT j (a.eval (.tmp t)) w:=by
     intro j t ht hj0 hc;obtain⟨hjL,hj⟩:=Oj hj0;obtain⟨e,he,rfl,hb⟩:=AN iy ho ht hj hjL;obtain⟨v,hv,hd⟩:=hI.val _ (rI e he hb)
     have:a.eval (.tmp t)=v:=by
      show a.tmps.getD t undef=v
      simp[hd t hj]
     rw[this];refine hv (fun k hk=>?_)
     rcases hc with hc|hc
     ·rw[hc] at hk;cases hk
     ·rw[hc] at hk;cases hk;exact wF
    have fD:∀t,(∀j,j≠L→bD ops j≠some t)→a.eval (.tmp t)=a0.eval (.tmp t):=by
     intro t ht
     show a.tmps.getD t undef=a0.tmps.getD t undef
     simp[hI.rP t (fun j hj=>ht j (fun e=>by rw[e,hl] at hj;cases hj))]
    have hK:∀u w',jT i u w'→G w'→R i w w'→wpAny P .any ops Q fuel (listed.setIfInBounds i true) (a.put o.dst u) w':=by
     intro u w' hu hg hR;refine ih _ _ _ (by simpa using hs) (by rw[getD_set_ne false LO];exact hl) ?_ ⟨hg,(put_defers _ _ _).trans hI.df,(vM _ _ _).trans hI.sz,fun j hj=>?_,fun t ht=>?_,fun j oj e hj Ef he hb=>?_⟩
     ·have aS:((List.range L).filter fun k=>!(listed.setIfInBounds i true).getD k true).length<((List.range L).filter fun k=>!listed.getD k true).length:=by
       have e1:((List.range L).filter fun k=>!(listed.setIfInBounds i true).getD k true)=((List.range L).filter fun k=>!listed.getD k true).filter (fun k=>decide (k≠i)):=by
        rw[List.filter_filter]
        refine List.filter_congr fun k hk=>?_
        by_cases km:k=i
        ·subst km;rw[fX (by omega)]
         simp
        ·rw[getD_set_ne true (Ne.symm km)]
         simp[km]
       rw[e1,List.length_filter_lt_length_iff_exists];exact⟨i,List.mem_filter.2 ⟨List.mem_range.2 Bn,by rw[xl];rfl⟩,by simp⟩
      omega
     ·by_cases lg:j=i
      ·subst lg;refine⟨u,fun _=>hu,fun d hd=>?_⟩;rw[uz] at hd;rw[hd];have:=(pE iy (uz.trans hd)).1;exact rQ _ _ _ (by rw[hI.sz];exact this)
      ·rw[getD_set_ne false (Ne.symm lg)] at hj;obtain⟨v,hv,hd⟩:=hI.val j hj;refine⟨v,fun hc=>?_,fun d Cw=>?_⟩
       ·have cu:cons j≠some i:=fun e=>by
         have:=hc i e;rw[dH (by omega)] at this
         cases this
        have po:depOn ops j i=false:=by
         cases lp:depOn ops j i with
         |false=>rfl
         |true=>
          unfold depOn at lp
          cases bU:ops[j]? with
          |none=>rw[bU] at lp;cases lp
          |some o'=>
           rw[bU] at lp;simp only[Array.any_eq_true] at lp;obtain⟨q,hq,lp⟩:=lp;rw[Bool.and_eq_true,decide_eq_true_eq] at lp;have:=hI.cl j o' o'.after[q] hj bU (Array.getElem_mem hq) lp.2;rw[lp.1,wF] at this
           cases this
        refine yG i v w w' j lg po cu (hv (fun k hk=>?_)) hR;have:=hc k hk
        by_cases km:k=i
        ·subst km;exact absurd hk cu
        ·rwa [getD_set_ne false (Ne.symm km)] at this
       ·rw[kH _ _ _ _ (fun e=>lg (by have:=(pE iy Cw).2 i (uz.trans e);exact this.symm))];exact hd d Cw
     ·rw[kH _ _ _ _ (by rw[←uz];exact ht i (by rw[dH (by omega)]))]
      exact hI.rP t (fun j hj=>ht j (by
       by_cases lg:j=i
       ·subst lg;rw[dH (by omega)]
       ·rw[getD_set_ne false (Ne.symm lg)];exact hj))
     ·refine getD_set_true ?_
      by_cases lg:j=i
      ·subst lg;rw[ho] at Ef;cases Ef;exact rI e he hb
      ·rw[getD_set_ne false (Ne.symm lg)] at hj;exact hI.cl j oj e hj Ef he hb
    have jX:=uI i o Bn ho a w hI.g Ek fD _ hK;exact QY
 have hF:∀i,(Array.replicate ops.size false).getD i false=false:=by
  intro i
  rcases Nat.lt_or_ge i ops.size with h|h
  ·simp[h]
  ·simp[Nat.not_lt.2 h]
 have Lv:Hz ops a0 cons G jT (Array.replicate ops.size false) a0 w0.drew:=
  ⟨h0,rfl,rfl,fun i hi=>(by rw[hF i] at hi;cases hi),fun t _=>rfl,fun i o e hi=>(by rw[hF i] at hi;cases hi)⟩
 have hlen:((List.range L).filter fun i=>!(Array.replicate ops.size false).getD i true).length<ops.size:=
  Nat.lt_of_le_of_lt (List.length_filter_le _ _) (by rw[List.length_range];omega)
 have key:=main ops.size (Array.replicate ops.size false) a0 w0.drew Array.size_replicate (hF L) hlen Lv;clear main kn uI nR yG;have e:w0.drew= {w0 with drawn:=w0.drawn+1}:=rfl;rw[e] at key
 with_reducible exact wp_region_any hm key
theorem fl {P:Program} {id:Nat} {ops:Array Oper} {Q:Exit→Act→World→Prop} {a0:Act} {w0:World} (hm:P.follows .mixedOrders=true) (L:Nat) (cons:Nat→Option Nat)
  (G:World→Prop) (R:Nat→World→World→Prop) (Vs:List (Value→World→Prop)) (yG:∀j v w w' i,i≠j→depOn ops i j=false→cons i≠some j→(Vs.getD i (fun _ _=>True)) v w→R j w w'→(Vs.getD i (fun _ _=>True)) v w')
  (iy:kI ops a0.tmps.size L=true) (ji:mB ops L=true) (uy:∀i k,cons i=some k→i<k∧k<L) (h0:G w0.drew)
  (H:tI (fun i o=>i<L→∀(a:Act) (w:World),G w→
   (∀j t (_:(o.looksAt ops).contains t=true:=by kernel_rfl) (_:yw ops L j=some t:=by rfl) (_:cons j=none∨cons j=some i:=by first|exact Or.inl rfl|exact Or.inr rfl),(Vs.getD j (fun _ _=>True)) (a.eval (.tmp t)) w)→
   (∀t (_:EJ ops L t=true:=by kernel_rfl),a.eval (.tmp t)=a0.eval (.tmp t))→
   ∀K:Act→World→Prop,(∀u w',(Vs.getD i (fun _ _=>True)) u w'→G w'→R i w w'→K (a.put o.dst u) w')→
    if Region.wanted o (yielded ops a.tmps)=true then o.wp P a w K Q else K (a.put o.dst undef) w) ops.toList 0)
  (nR:∀(v:Nat→Value) (w:World) (o:Oper) (A:Act),A=dh ops v (List.range L) a0→ops[L]? =some o→G w→(∀i,i<L→cons i=none→(Vs.getD i (fun _ _=>True)) (v i) w)→
   ∀K:Act→World→Prop,(∀a w,Q .normal a w→K a w)→
    if Region.wanted o (yielded ops A.tmps)=true then o.wp P A w K Q else K (A.put o.dst undef) w):
  (Code.region id ops true).wp P Q a0 w0:=by
 refine CV hm L cons G R (fun i v w=>(Vs.getD i (fun _ _=>True)) v w) yG iy ji uy h0 ?_ (fun v w o ho hG hv K hK=>nR v w o _ rfl ho hG hv K hK);intro i o hi ho a w hG hr hb K hK;have h:=AP ops.toList 0 H i o (by simpa using ho);rw[Nat.zero_add] at h;exact h hi a w hG (fun j t ht=>hr j t (by simpa using ht)) (fun t ht=>hb t (MI ht)) K hK
end
section
open Go.RowKit
def rf (u v:Value):Prop:=u.ownBlock=none∨v.ownBlock=none∨u.ownBlock≠v.ownBlock
theorem rf.symm {u v:Value} (h:rf u v):rf v u:=by
 rcases h with h|h|h
 ·exact Or.inr (Or.inl h)
 ·exact Or.inl h
 ·exact Or.inr (Or.inr (Ne.symm h))
theorem rf.of {n:Nat} {u v:Value} (h1:∀k,u.ownBlock=some k→n≤k) (h2:∀k,v.ownBlock=some k→k<n):rf u v:=by
 cases hu:u.ownBlock with
 |none=>exact Or.inl hu
 |some p=>
  cases hv:v.ownBlock with
  |none=>exact Or.inr (Or.inl hv)
  |some q=>
   refine Or.inr (Or.inr (fun e=>?_));rw[hu,hv] at e;have e:=Option.some.inj e;have a:=h1 p hu;have b:=h2 q hv;omega
structure QG (Fr:Nat→Bool) (ops:Array Oper) (a0:Act) (cons:Nat→Option Nat) (G:World→Prop) (jT:Nat→Value→World→Prop) (listed:Array Bool) (a:Act) (w:World):Prop where
 g:G w
 df:a.defers=a0.defers
 sz:a.tmps.size=a0.tmps.size
 val:∀i,listed.getD i false=true→∃v,((∀k,cons i=some k→listed.getD k false=false)→jT i v w)∧∀d,bD ops i=some d→a.tmps[d]? =some v
 rP:∀t,(∀i,listed.getD i false=true→bD ops i≠some t)→a.tmps[t]? =a0.tmps[t]?
 cl:∀i o e,listed.getD i false=true→ops[i]? =some o→e∈o.after→Region.binds .any e=true→listed.getD e.on false=true
 aaZ:∀j1 j2 t1 t2,Fr j1=true→Fr j2=true→j1≠j2→listed.getD j1 false=true→listed.getD j2 false=true→bD ops j1=some t1→bD ops j2=some t2→rf (a.tmps[t1]?.getD undef) (a.tmps[t2]?.getD undef)
theorem QZ {P:Prop} (h:P:=by
 unfold wpOp;rw[ho]
 show if Region.wanted o (yielded ops a.tmps)=true then _ else _
 split
 ·rename_i hw;rw[if_pos hw] at jX;exact .inl jX
 ·rename_i hw;rw[if_neg hw] at jX;exact jX):P:=h
theorem CW {P:Program} {id:Nat} {ops:Array Oper} {Q:Exit→Act→World→Prop} {a0:Act} {w0:World} (hm:P.follows .mixedOrders=true) (L:Nat) (cons:Nat→Option Nat) (Fr:Nat→Bool)
  (G:World→Prop) (R:Nat→World→World→Prop) (jT:Nat→Value→World→Prop) (yG:∀j v w w' i,i≠j→depOn ops i j=false→cons i≠some j→jT i v w→R j w w'→jT i v w')
  (iy:jQ ops a0.tmps.size=true) (ji:mB ops L=true) (uy:∀i k,cons i=some k→i<k∧k<L) (hFc:∀i,Fr i=true→cons i=none) (hFl:∀i v w,Fr i=true→jT i v w→∀k,v.ownBlock=some k→k<w.heap.size) (h0:G w0.drew)
  (uI:∀i o,i<L→ops[i]? =some o→∀(a:Act) (w:World),G w→
   (∀j t,t∈o.looksAt ops→bD ops j=some t→(cons j=none∨cons j=some i)→jT j (a.eval (.tmp t)) w)→
   (∀t,(∀j,bD ops j≠some t)→a.eval (.tmp t)=a0.eval (.tmp t))→
   (∀j1 j2 t1 t2,Fr j1=true→Fr j2=true→j1≠j2→t1∈o.looksAt ops→t2∈o.looksAt ops→bD ops j1=some t1→bD ops j2=some t2→rf (a.eval (.tmp t1)) (a.eval (.tmp t2)))→
   ∀K:Act→World→Prop,(∀u w',jT i u w'→G w'→R i w w'→(Fr i=true→∀k,u.ownBlock=some k→w.heap.size≤k)→K (a.put o.dst u) w')→
    if Region.wanted o (yielded ops a.tmps)=true then o.wp P a w K Q else K (a.put o.dst undef) w)
  (nR:∀(v:Nat→Value) (w:World) (o:Oper),ops[L]? =some o→G w→(∀i,i<L→cons i=none→jT i (v i) w)→
   ∀K:Act→World→Prop,(∀a w,Q .normal a w→K a w)→
    if Region.wanted o (yielded ops (dh ops v (List.range L) a0).tmps)=true then o.wp P (dh ops v (List.range L) a0) w K Q else K ((dh ops v (List.range L) a0).put o.dst undef) w):
  (Code.region id ops true).wp P Q a0 w0:=by
 have Eo:ops.size=L+1:=by unfold mB at ji;rw[Bool.and_eq_true,decide_eq_true_eq] at ji;exact ji.1
 have kn:∀(listed:Array Bool),(∀i o e,listed.getD i false=true→ops[i]? =some o→e∈o.after→Region.binds .any e=true→listed.getD e.on false=true)→
   (∀o e,ops[L]? =some o→e∈o.after→Region.binds .any e=true→listed.getD e.on false=true)→∀d i,i+d=L→0<d→listed.getD i false=true:=by
  intro listed aO hL d
  induction d using Nat.strongRecOn with
  |_ d ih=>
   intro i hid hd;obtain⟨j,o,e,h1,h2,h3,h4,rfl,h6⟩:=uM ji (show i<L by omega)
   by_cases hj:j=L
   ·subst hj;exact hL o e h3 h4 h6
   ·exact aO j o e (ih (L - j) (by omega) j (by omega) (by omega)) h3 h4 h6
 have main:∀(fuel:Nat) (listed:Array Bool) (a:Act) (w:World),listed.size=ops.size→listed.getD L false=false→((List.range L).filter fun i=>!listed.getD i true).length<fuel→QG Fr ops a0 cons G jT listed a w→wpAny P .any ops Q fuel listed a w:=by
  intro fuel
  induction fuel with
  |zero=>intro listed a w hs hl hf hI;omega
  |succ fuel ih=>
   intro listed a w hs hl hf hI
   have cu:Region.ready .any ops listed≠ []:=by
    intro hr
    have dq:∀i,i<ops.size→listed.getD i false=true:=by
     intro i
     induction i using Nat.strongRecOn with
     |_ i Yg=>
      intro hi
      cases hl:listed.getD i false with
      |true=>rfl
      |false=>
       exfalso
       have hm:i∈Region.ready .any ops listed:=by
        rw[mem_ready];refine⟨?_,ops[i],Array.getElem?_eq_getElem hi,fun e he hb=>?_⟩
        ·simp[hs,hi] at hl ⊢;exact hl
        ·have:=qG iy (Array.getElem?_eq_getElem hi) he hb;exact Yg _ this (by omega)
       rw[hr] at hm
       cases hm
    have:=dq L (by omega);rw[hl] at this
    cases this
   refine⟨fun hr=>absurd hr cu,fun i hi=>?_⟩;obtain⟨xl,o,ho,rI⟩:=mem_ready.1 hi;have LQ:i<ops.size:=(Array.getElem?_eq_some_iff.1 ho).1
   have wF:listed.getD i false=false:=by simp[hs,LQ] at xl ⊢;exact xl
   have uz:bD ops i=o.dst:=by unfold bD;rw[ho];rfl
   by_cases LO:i=L
   ·
    subst LO
    have uv:∀k,k<i→listed.getD k false=true:=fun k hk=>kn listed hI.cl (fun o' e bU he hb=>by
     rw[ho] at bU;cases bU;exact rI e he hb) (i - k) k (by omega) (by omega)
    have hv:∀k:Nat,∃v:Value,k<i→((cons k=none→jT k v w)∧∀d,bD ops k=some d→a.tmps[d]? =some v):=fun k=>by
     by_cases hk:k<i
     ·obtain⟨v,h1,h2⟩:=hI.val k (uv k hk);exact⟨v,fun _=>⟨fun hc=>h1 (fun j hj=>by rw[hc] at hj;cases hj),h2⟩⟩
     ·exact⟨undef,fun h=>absurd h hk⟩
    obtain⟨v,hv⟩:=Classical.axiomOfChoice hv
    have he:a=dh ops v (List.range i) a0:=by
     refine Dv (by rw[mH,hI.df]) (Array.ext_getElem? fun t=>?_)
     by_cases hd:∃k,k<i∧bD ops k=some t
     ·obtain⟨k,hk,hd⟩:=hd;obtain⟨h1,h2⟩:=iq iy hd;rw[(hv k hk).2 t hd,oM ops v t k hd _ _ h2 (List.mem_range.2 hk) h1]
     ·have hn:∀k,k<i→bD ops k≠some t:=fun k hk e=>hd ⟨k,hk,e⟩
      rw[hI.rP t (fun k hk e=>by
       have mN:=jM e
       by_cases km:k=i
       ·subst km;rw[wF] at hk;cases hk
       ·exact hn k (by omega) e),mI ops v t _ _ (fun k hk e=>hn k (List.mem_range.1 hk) e)]
    have hK:∀a w,Q .normal a w→wpAny P .any ops Q fuel (listed.setIfInBounds i true) a w:=by
     intro a' w' hQ
     have hr:Region.ready .any ops (listed.setIfInBounds i true)=[]:=by
      rw[List.eq_nil_iff_forall_not_mem];intro k hk;obtain⟨h2,o',bU,_⟩:=mem_ready.1 hk;have xj:k<ops.size:=(Array.getElem?_eq_some_iff.1 bU).1
      by_cases km:k=i
      ·subst km;rw[fX (by omega)] at h2;cases h2
      ·rw[getD_set_ne true (Ne.symm km)] at h2;have:=uv k (by omega)
       simp[hs,xj] at h2 this
       rw[h2] at this;cases this
     cases fuel with
     |zero=>exact⟨hr,hQ⟩
     |succ f=>exact⟨fun _=>hQ,fun k hk=>by rw[hr] at hk;cases hk⟩
    have jX:=nR v w o ho hI.g (fun k hk hc=>(hv k hk).1 hc) _ hK;rw[←he] at jX;exact QZ
   ·have Bn:i<L:=by omega
    have Ek:∀j t,t∈o.looksAt ops→bD ops j=some t→(cons j=none∨cons j=some i)→jT j (a.eval (.tmp t)) w:=by
     intro j t ht hj hc;obtain⟨e,he,rfl,hb⟩:=lD iy ho ht hj;obtain⟨v,hv,hd⟩:=hI.val _ (rI e he hb)
     have:a.eval (.tmp t)=v:=by
      show a.tmps.getD t undef=v
      simp[hd t hj]
     rw[this];refine hv (fun k hk=>?_)
     rcases hc with hc|hc
     ·rw[hc] at hk;cases hk
     ·rw[hc] at hk;cases hk;exact wF
    have fD:∀t,(∀j,bD ops j≠some t)→a.eval (.tmp t)=a0.eval (.tmp t):=by
     intro t ht
     show a.tmps.getD t undef=a0.tmps.getD t undef
     simp[hI.rP t (fun j _=>ht j)]
    have hK:∀u w',jT i u w'→G w'→R i w w'→(Fr i=true→∀k,u.ownBlock=some k→w.heap.size≤k)→wpAny P .any ops Q fuel (listed.setIfInBounds i true) (a.put o.dst u) w':=by
     intro u w' hu hg hR kv;refine ih _ _ _ (by simpa using hs) (by rw[getD_set_ne false LO];exact hl) ?_ ⟨hg,(put_defers _ _ _).trans hI.df,(vM _ _ _).trans hI.sz,fun j hj=>?_,fun t ht=>?_,fun j oj e hj Ef he hb=>?_,fun j1 j2 t1 t2 f1 f2 cu l1 l2 d1 d2=>?_⟩
     ·have aS:((List.range L).filter fun k=>!(listed.setIfInBounds i true).getD k true).length<((List.range L).filter fun k=>!listed.getD k true).length:=by
       have e1:((List.range L).filter fun k=>!(listed.setIfInBounds i true).getD k true)=((List.range L).filter fun k=>!listed.getD k true).filter (fun k=>decide (k≠i)):=by
        rw[List.filter_filter]
        refine List.filter_congr fun k hk=>?_
        by_cases km:k=i
        ·subst km;rw[fX (by omega)]
         simp
        ·rw[getD_set_ne true (Ne.symm km)]
         simp[km]
       rw[e1,List.length_filter_lt_length_iff_exists];exact⟨i,List.mem_filter.2 ⟨List.mem_range.2 Bn,by rw[xl];rfl⟩,by simp⟩
      omega
     ·by_cases lg:j=i
      ·subst lg;refine⟨u,fun _=>hu,fun d hd=>?_⟩;rw[uz] at hd;rw[hd];have:=(iq iy (uz.trans hd)).1;exact rQ _ _ _ (by rw[hI.sz];exact this)
      ·rw[getD_set_ne false (Ne.symm lg)] at hj;obtain⟨v,hv,hd⟩:=hI.val j hj;refine⟨v,fun hc=>?_,fun d Cw=>?_⟩
       ·have cu:cons j≠some i:=fun e=>by
         have:=hc i e;rw[dH (by omega)] at this
         cases this
        have po:depOn ops j i=false:=by
         cases lp:depOn ops j i with
         |false=>rfl
         |true=>
          unfold depOn at lp
          cases bU:ops[j]? with
          |none=>rw[bU] at lp;cases lp
          |some o'=>
           rw[bU] at lp;simp only[Array.any_eq_true] at lp;obtain⟨q,hq,lp⟩:=lp;rw[Bool.and_eq_true,decide_eq_true_eq] at lp;have:=hI.cl j o' o'.after[q] hj bU (Array.getElem_mem hq) lp.2;rw[lp.1,wF] at this
           cases this
        refine yG i v w w' j lg po cu (hv (fun k hk=>?_)) hR;have:=hc k hk
        by_cases km:k=i
        ·subst km;exact absurd hk cu
        ·rwa [getD_set_ne false (Ne.symm km)] at this
       ·rw[kH _ _ _ _ (fun e=>lg (by have:=(iq iy Cw).2 i (uz.trans e);exact this.symm))];exact hd d Cw
     ·rw[kH _ _ _ _ (by rw[←uz];exact ht i (by rw[dH (by omega)]))]
      exact hI.rP t (fun j hj=>ht j (by
       by_cases lg:j=i
       ·subst lg;rw[dH (by omega)]
       ·rw[getD_set_ne false (Ne.symm lg)];exact hj))
     ·refine getD_set_true ?_
      by_cases lg:j=i
      ·subst lg;rw[ho] at Ef;cases Ef;exact rI e he hb
      ·rw[getD_set_ne false (Ne.symm lg)] at hj;exact hI.cl j oj e hj Ef he hb
     ·have Y0:∀t,bD ops i=some t→(a.put o.dst u).tmps[t]?.getD undef=u:=fun t d=>by
       rw[uz] at d;rw[d,rQ _ _ _ (by rw[hI.sz];exact(iq iy (uz.trans d)).1)];rfl
      have JY:∀j t,j≠i→bD ops j=some t→(a.put o.dst u).tmps[t]?.getD undef=a.tmps[t]?.getD undef:=fun j t hj d=>by
       rw[kH _ _ _ _ (fun e=>hj (by have:=(iq iy d).2 i (uz.trans e);exact this.symm))]
      have rP:∀j t,Fr j=true→listed.getD j false=true→bD ops j=some t→∀k,(a.tmps[t]?.getD undef).ownBlock=some k→k<w.heap.size:=fun j t fj lj d k hk=>by
       obtain⟨v,hv,hd⟩:=hI.val j lj;rw[hd t d] at hk;exact hFl j v w fj (hv (fun k hk=>by rw[hFc j fj] at hk;cases hk)) k hk
      by_cases e1:j1=i
      ·subst e1;rw[getD_set_ne false cu] at l2;rw[Y0 t1 d1,JY j2 t2 (Ne.symm cu) d2];exact rf.of (kv f1) (rP j2 t2 f2 l2 d2)
      ·rw[getD_set_ne false (Ne.symm e1)] at l1
       by_cases e2:j2=i
       ·subst e2;rw[Y0 t2 d2,JY j1 t1 cu d1];exact(rf.of (kv f2) (rP j1 t1 f1 l1 d1)).symm
       ·rw[getD_set_ne false (Ne.symm e2)] at l2;rw[JY j1 t1 e1 d1,JY j2 t2 e2 d2];exact hI.aaZ j1 j2 t1 t2 f1 f2 cu l1 l2 d1 d2
    have nQ:∀j1 j2 t1 t2,Fr j1=true→Fr j2=true→j1≠j2→t1∈o.looksAt ops→t2∈o.looksAt ops→bD ops j1=some t1→bD ops j2=some t2→rf (a.eval (.tmp t1)) (a.eval (.tmp t2)):=by
     intro j1 j2 t1 t2 f1 f2 cu m1 m2 d1 d2;obtain⟨e1,he1,rfl,aC⟩:=lD iy ho m1 d1;obtain⟨e2,FR,rfl,ax⟩:=lD iy ho m2 d2;rw[bR,bR];exact hI.aaZ _ _ t1 t2 f1 f2 cu (rI e1 he1 aC) (rI e2 FR ax) d1 d2
    have jX:=uI i o Bn ho a w hI.g Ek fD nQ _ hK;exact QZ
 have hF:∀i,(Array.replicate ops.size false).getD i false=false:=by
  intro i
  rcases Nat.lt_or_ge i ops.size with h|h
  ·simp[h]
  ·simp[Nat.not_lt.2 h]
 have Lv:QG Fr ops a0 cons G jT (Array.replicate ops.size false) a0 w0.drew:=
  ⟨h0,rfl,rfl,fun i hi=>(by rw[hF i] at hi;cases hi),fun t _=>rfl,fun i o e hi=>(by rw[hF i] at hi;cases hi),fun j1 j2 t1 t2 f1 f2 cu l1=>(by rw[hF j1] at l1;cases l1)⟩
 have hlen:((List.range L).filter fun i=>!(Array.replicate ops.size false).getD i true).length<ops.size:=
  Nat.lt_of_le_of_lt (List.length_filter_le _ _) (by rw[List.length_range];omega)
 have key:=main ops.size (Array.replicate ops.size false) a0 w0.drew Array.size_replicate (hF L) hlen Lv;clear main kn uI nR yG hFl hFc;have e:w0.drew= {w0 with drawn:=w0.drawn+1}:=rfl;rw[e] at key
 with_reducible exact wp_region_any hm key
theorem zD {P:Program} {id:Nat} {ops:Array Oper} {Q:Exit→Act→World→Prop} {a0:Act} {w0:World} (hm:P.follows .mixedOrders=true) (L:Nat) (cons:Nat→Option Nat) (Fr:Nat→Bool)
  (G:World→Prop) (R:Nat→World→World→Prop) (Vs:List (Value→World→Prop)) (yG:∀j v w w' i,i≠j→depOn ops i j=false→cons i≠some j→(Vs.getD i (fun _ _=>True)) v w→R j w w'→(Vs.getD i (fun _ _=>True)) v w')
  (iy:jQ ops a0.tmps.size=true) (ji:mB ops L=true) (uy:∀i k,cons i=some k→i<k∧k<L) (hFc:∀i,Fr i=true→cons i=none) (hFl:∀i v w,Fr i=true→(Vs.getD i (fun _ _=>True)) v w→∀k,v.ownBlock=some k→k<w.heap.size) (h0:G w0.drew)
  (H:tI (fun i o=>i<L→∀(a:Act) (w:World),G w→
   (∀j t (_:(o.looksAt ops).contains t=true:=by kernel_rfl) (_:bD ops j=some t:=by rfl) (_:cons j=none∨cons j=some i:=by first|exact Or.inl rfl|exact Or.inr rfl),(Vs.getD j (fun _ _=>True)) (a.eval (.tmp t)) w)→
   (∀t (_:Df ops t=true:=by kernel_rfl),a.eval (.tmp t)=a0.eval (.tmp t))→
   (∀j1 j2 t1 t2,Fr j1=true→Fr j2=true→j1≠j2→(o.looksAt ops).contains t1=true→(o.looksAt ops).contains t2=true→bD ops j1=some t1→bD ops j2=some t2→rf (a.eval (.tmp t1)) (a.eval (.tmp t2)))→
   ∀K:Act→World→Prop,(∀u w',(Vs.getD i (fun _ _=>True)) u w'→G w'→R i w w'→(Fr i=true→∀k,u.ownBlock=some k→w.heap.size≤k)→K (a.put o.dst u) w')→
    if Region.wanted o (yielded ops a.tmps)=true then o.wp P a w K Q else K (a.put o.dst undef) w) ops.toList 0)
  (nR:∀(v:Nat→Value) (w:World) (o:Oper) (A:Act),A=dh ops v (List.range L) a0→ops[L]? =some o→G w→(∀i,i<L→cons i=none→(Vs.getD i (fun _ _=>True)) (v i) w)→
   ∀K:Act→World→Prop,(∀a w,Q .normal a w→K a w)→
    if Region.wanted o (yielded ops A.tmps)=true then o.wp P A w K Q else K (A.put o.dst undef) w):
  (Code.region id ops true).wp P Q a0 w0:=by
 refine CW hm L cons Fr G R (fun i v w=>(Vs.getD i (fun _ _=>True)) v w) yG iy ji uy hFc hFl h0 ?_ (fun v w o ho hG hv K hK=>nR v w o _ rfl ho hG hv K hK);intro i o hi ho a w hG hr hb hd K hK;have h:=AP ops.toList 0 H i o (by simpa using ho);rw[Nat.zero_add] at h;exact h hi a w hG (fun j t ht=>hr j t (by simpa using ht)) (fun t ht=>hb t (EK ht)) (fun j1 j2 t1 t2 f1 f2 cu m1 m2=>hd j1 j2 t1 t2 f1 f2 cu (by simpa using m1) (by simpa using m2)) K hK
end
section
open Go.RowKit
open Tryz
def MM (p r:Int):Bool:=decide (-1000≤p)&&decide (p≤1000)&&decide (1≤r)&&decide (r≤1000)
def uS (ps rs:List Int):Bool:=(List.range ps.length).all fun i=>MM (ps.getD i 0) (rs.getD i 0)
def sI (ps:List Int):Bool:=(List.range (ps.length - 1)).all fun i=>decide (ps.getD i 0<ps.getD (i+1) 0)
def jU (ps rs:List Int):Int:=
 if 21<ps.length then 5 else if ps.length=0 then 20 else if rs.length≠ps.length then 1 else if uS ps rs=false then 3 else if sI ps=false then 23 else 0
theorem Hc (p r:Int):MM p r=true↔ -1000≤p∧p≤1000∧1≤r∧r≤1000:=by
 unfold MM;simp[and_assoc]
theorem U2 {ps rs:List Int} {k:Nat} (hk:k<ps.length) (h:¬(-1000≤ps.getD k 0∧ps.getD k 0≤1000∧1≤rs.getD k 0∧rs.getD k 0≤1000)):uS ps rs=false:=by
 unfold uS;rw[List.all_eq_false];exact⟨k,by simpa using hk,by rw[Hc];exact h⟩
theorem Qb {ps rs:List Int} (h:∀j,j<ps.length→MM (ps.getD j 0) (rs.getD j 0)=true):uS ps rs=true:=by
 unfold uS;rw[List.all_eq_true];exact fun i hi=>h i (by simpa using hi)
theorem Qa {ps:List Int} {k:Nat} (hk:k+1<ps.length) (h:ps.getD (k+1) 0≤ps.getD k 0):sI ps=false:=by
 unfold sI;rw[List.all_eq_false];exact⟨k,by simp;omega,by simp only[decide_eq_true_eq];omega⟩
theorem Nd {ps:List Int} (h:∀j,j+1<ps.length→ps.getD j 0<ps.getD (j+1) 0):sI ps=true:=by
 unfold sI;rw[List.all_eq_true];intro i hi;simp only[decide_eq_true_eq];exact h i (by have:=List.mem_range.1 hi;omega)
theorem Ln {ps rs:List Int} (h:21<ps.length):jU ps rs=5:=if_pos h
theorem IP {ps rs:List Int} (h:ps.length=0):jU ps rs=20:=by unfold jU;rw[if_neg (by omega),if_pos h]
theorem Oy {ps rs:List Int} (h1:ps.length≤21) (h2:0<ps.length) (h:rs.length≠ps.length):jU ps rs=1:=by unfold jU;rw[if_neg (by omega),if_neg (by omega),if_pos h]
theorem Oz {ps rs:List Int} (h1:ps.length≤21) (h2:0<ps.length) (h3:rs.length=ps.length) (h:uS ps rs=false):jU ps rs=3:=by unfold jU;rw[if_neg (by omega),if_neg (by omega),if_neg (by omega),if_pos h]
theorem Lo {ps rs:List Int} (h1:ps.length≤21) (h2:0<ps.length) (h3:rs.length=ps.length) (h4:uS ps rs=true) (h:sI ps=false):jU ps rs=23:=by unfold jU;rw[if_neg (by omega),if_neg (by omega),if_neg (by omega),if_neg (by simp[h4]),if_pos h]
theorem TF {ps rs:List Int} (h1:ps.length≤21) (h2:0<ps.length) (h3:rs.length=ps.length) (h4:uS ps rs=true) (h:sI ps=true):jU ps rs=0:=by unfold jU;rw[if_neg (by omega),if_neg (by omega),if_neg (by omega),if_neg (by simp[h4]),if_neg (by simp[h])]
theorem vw {P:Prop} (h:P:=by
 have HE:=Lib.hid (Oz L21.out L0.out HL.out (U2 gA.out (by rw[HX.out,HY.out];omega)))
 go_wp2
 go_ret
 exact⟨by rw[HE.out];rfl,(Below.refl _ _).alloc (Nat.le_refl _) _⟩):P:=h
theorem zX {P:Prop} (h:P:=by
 go_enter func34,ntmps34
 go_wp2
 go_ret
 exact⟨by rw[HE.out];rfl,(Below.refl _ _).alloc (Nat.le_refl _) _⟩):P:=h
theorem Lp (pv rv:Value) (ps rs:List Int) (w:World) (hp:eI .i64 w pv ps) (hr:eI .i64 w rv rs):
  Calls prog 34 #[.agg #[pv,rv]] w fun e w'=>e=.returned (.int .i64 (jU ps rs))∧Below w.heap.size w w':=by
 obtain⟨A,c,rfl,hc,hm,qW⟩:=hp;obtain⟨B,c',rfl,jc,O7,hsr⟩:=hr;unfold maxLen at hm O7;obtain⟨n,hn⟩:∃n,ps.length=n:=⟨_,rfl⟩;obtain⟨m,v_⟩:∃m,rs.length=m:=⟨_,rfl⟩;have HN:=Lib.hid hn;have HM:=Lib.hid v_;rw[hn] at hc qW ⊢;rw[v_] at jc hsr ⊢;clear hn v_
 by_cases h21:21<n
 ·have HE:=Lib.hid (Ln (ps:=ps) (rs:=rs) (by rw[HN.out];exact h21));exact zX
 by_cases h0:n=0
 ·have HE:=Lib.hid (IP (ps:=ps) (rs:=rs) (by rw[HN.out];exact h0))
  have Ww:((n:Int)==0)=true:=by rw[beq_iff_eq];omega
  clear h0;exact zX
 have Ww:((n:Int)==0)=false:=by rw[beq_eq_false_iff_ne];omega
 have afb:0<n:=by omega
 clear h0
 by_cases hlen:m=n
 ·subst hlen
  have CF:((m:Int) !=(m:Int))=false:=by simp
  have HL:=Lib.hid (show rs.length=ps.length by rw[HN.out,HM.out])
  have L21:Hid (ps.length≤21):=by unfold Hid;rw[HN.out];omega
  have L0:Hid (0<ps.length):=by unfold Hid;rw[HN.out];omega
  go_enter func34,ntmps34
  go_wp2
  go_loopw [3,4,24] (fun _ _ i wr=>∃k:Nat,k≤m∧i=.int .i64 (k:Int)∧Hid (∀j,j<k→MM (ps.getD j 0) (rs.getD j 0)=true)∧wr=w.alloc (.cells #[.slice A m c,.slice B m c'] 24)) (fun _ _ i _=>m - (intOf i).toNat)
  case atStart=>exact⟨0,by omega,rfl,by unfold Hid;intro j hj;omega,rfl⟩
  case round=>
   obtain⟨k,hk,rfl,iy,rfl⟩:=hrel
   by_cases aS:k<m
   ·obtain⟨b1,o1,rfl,aC,vC⟩:=qW.num aS;obtain⟨b2,o2,rfl,ax,RY⟩:=hsr.num aS;have g1:=vC k aS;have g2:=RY k aS
    have gA:Hid (k<ps.length):=by unfold Hid;rw[HN.out];exact aS
    clear vC RY;generalize Mb:ps.getD k 0=x at*;generalize X8:rs.getD k 0=y at*;have HX:=Lib.hid Mb;have HY:=Lib.hid X8;clear Mb X8
    by_cases c1:x< -1000
    ·have d1:decide (x< -1000)=true:=by simpa using c1
     exact vw
    ·have d1:decide (x< -1000)=false:=by simpa using c1
     by_cases c2:1000<x
     ·have d2:decide (1000<x)=true:=by simpa using c2
      exact vw
     ·have d2:decide (1000<x)=false:=by simpa using c2
      by_cases c3:y<1
      ·have d3:decide (y<1)=true:=by simpa using c3
       exact vw
      ·have d3:decide (y<1)=false:=by simpa using c3
       by_cases c4:1000<y
       ·have d4:decide (1000<y)=true:=by simpa using c4
        exact vw
       ·have d4:decide (1000<y)=false:=by simpa using c4
        have HO:=Lib.hid ((Hc x y).2 ⟨by omega,by omega,by omega,by omega⟩)
        go_wp2
        go_roundw
        case rel=>exact⟨k+1,by omega,by go_num,by unfold Hid;intro j hj;rcases Nat.lt_succ_iff_lt_or_eq.1 hj with h|h;exact iy.out j h;subst h;rw[HX.out,HY.out];exact HO.out,by first|trivial|rfl⟩
        case measure=>simp[intOf];omega
   ·obtain rfl:k=m:=by omega
    have HR:=Lib.hid (Qb (ps:=ps) (rs:=rs) (fun j hj=>iy.out j (by rw[HN.out] at hj;exact hj)));clear iy
    go_wp2
    go_loopw [5] (fun i wr=>∃j:Nat,j+1≤k∧i=.int .i64 ((j:Int)+1)∧Hid (∀q,q<j→ps.getD q 0<ps.getD (q+1) 0)∧∃d,wr=(w.alloc (.cells #[.slice A k c,.slice B k c'] 24)).drewN d) (fun i _=>k - (intOf i).toNat)
    case atStart=>exact⟨0,by omega,rfl,by unfold Hid;intro q hq;omega,0,rfl⟩
    case round=>
     obtain⟨j,hj,rfl,abz,d,rfl⟩:=hrel
     by_cases qA:j+1<k
     ·obtain⟨b1,o1,rfl,aC,vC⟩:=qW.num qA;have g1:=vC j (by omega);have g2:=vC (j+1) qA
      have gA:Hid (j+1<ps.length):=by unfold Hid;rw[HN.out];exact qA
      have s1:IntKind.i64.wrap ((j:Int)+1 - 1)=(j:Int):=by rw[IntKind.wrap_i64];omega
      have s2:((j:Int)+1).toNat=j+1:=by omega
      have s3:(j:Int)+1 - 1=(j:Int):=by omega
      have i1:0≤(j:Int)+1:=by omega
      have i2:(j:Int)+1<(k:Int):=by omega
      clear vC;generalize Mb:ps.getD j 0=x at*;generalize X8:ps.getD (j+1) 0=y at*;have HX:=Lib.hid Mb;have HY:=Lib.hid X8;clear Mb X8
      by_cases hle:y≤x
      ·have HE:=Lib.hid (Lo L21.out L0.out HL.out HR.out (Qa gA.out (by rw[HX.out,HY.out];exact hle)))
       go_wp2
       go_quiet (fail)
       clear s1 s2 s3
       go_wp2
       go_ret
       exact⟨by rw[HE.out];rfl,cr (cr ((Below.refl _ _).alloc (Nat.le_refl _) _) _) _⟩
      ·go_wp2
       go_quiet (fail)
       clear s1 s2 s3
       go_wp2
       go_roundw
       case rel=>
        refine⟨j+1,by omega,by go_num,?_,_,rfl⟩;unfold Hid;intro q hq
        rcases Nat.lt_succ_iff_lt_or_eq.1 hq with h|h
        ·exact abz.out q h
        ·subst h;rw[HX.out,HY.out];omega
       case measure=>simp[intOf];omega
     ·have HE:=Lib.hid (TF L21.out L0.out HL.out HR.out (Nd (fun q hq=>abz.out q (by rw[HN.out] at hq;omega))))
      go_wp2
      go_ret
      exact⟨by rw[HE.out];rfl,cr ((Below.refl _ _).alloc (Nat.le_refl _) _) _⟩
 ·have HE:=Lib.hid (Oy (ps:=ps) (rs:=rs) (by rw[HN.out];omega) (by rw[HN.out];omega) (by rw[HN.out,HM.out];exact hlen))
  have CF:((m:Int) !=(n:Int))=true:=by rw[bne_iff_ne];omega
  clear hlen;exact zX
end
section
theorem jA {n:Int} (hn:0≤n):(10:UInt8)∉Lib.itoa n:=Mm hn (Or.inl (by decide))
theorem AG (l:List UInt8):(10:UInt8)∉bV l:=by
 unfold bV;rw[List.mem_cons,List.mem_append,List.mem_singleton];rintro(h|h|h)
 ·exact absurd h (by decide)
 ·exact J1 l h
 ·exact absurd h (by decide)
theorem DG (n:Nat):∀c∈pN n,48≤c.toNat∧c.toNat≤57:=by
 have one:∀d:Nat,d<10→48≤(UInt8.ofNat (48+d)).toNat∧(UInt8.ofNat (48+d)).toNat≤57:=fun d hd=>by
  rw[UInt8.toNat_ofNat',Nat.mod_eq_of_lt (by omega)];omega
 intro c hc;unfold pN at hc;simp only[List.mem_cons,List.not_mem_nil,or_false] at hc
 rcases hc with rfl|rfl|rfl<;>exact one _ (Nat.mod_lt _ (by omega))
theorem vR {n:Int} {c:UInt8} (hc:c=10∨c=32):c∉dd n:=by
 unfold dd;rw[List.mem_append,List.mem_append,List.mem_cons]
 have k1:∀d:UInt8,48≤d.toNat∧d.toNat≤57→c≠d:=by
  rintro d hd rfl
  rcases hc with rfl|rfl<;>simp at hd
 rintro(h|h|h|h)
 ·split at h
  ·rw[List.mem_singleton] at h;rcases hc with rfl|rfl<;>exact absurd h (by decide)
  ·simp at h
 ·exact k1 c (oO _ c h) rfl
 ·rcases hc with rfl|rfl<;>exact absurd h (by decide)
 ·exact k1 c (DG _ c h) rfl
theorem Uo {k:Int} {c:UInt8} (hc:c=10∨c=32):c∉dM k:=by
 unfold dM ia jF
 rcases hc with rfl|rfl<;>(repeat' split)<;>decide
theorem Ex (k:Int):(dM k).length≤6:=by
 unfold dM ia jF
 (repeat' split)<;>decide
theorem Mw {it:aA} (h:Good it) {Jl:List UInt8} (hi:(10:UInt8)∉Jl):∀l∈lK Jl it,(10:UInt8)∉l:=by
 have KX:(10:UInt8)≠32:=by decide
 have Ap:(10:UInt8)∉it.code.data.toList:=fun hm=>((Ae h.code).2.2 10 hm).2.1 rfl
 have two:∀a b:List UInt8,(10:UInt8)∉a→(10:UInt8)∉b→(10:UInt8)∉aV [a,b]:=fun a b ha hb=>sM 10 KX _ (fun w hw=>by
  simp only[List.mem_cons,List.not_mem_nil,or_false] at hw
  rcases hw with rfl|rfl<;>assumption)
 intro l hl;unfold lK at hl;simp only[List.mem_append,List.mem_cons,List.not_mem_nil,or_false,List.mem_map] at hl
 rcases hl with (rfl|rfl|rfl|rfl)|h1|h1|⟨a,ha,rfl⟩|rfl|⟨o,ho,rfl⟩|h1|rfl
 ·refine sM 10 KX _ (fun w hw=>?_);simp only[List.mem_cons,List.not_mem_nil,or_false] at hw
  rcases hw with rfl|rfl|rfl|rfl
  ·decide
  ·exact hi
  ·exact jA (by have:=h.bj;omega)
  ·exact Uo (Or.inl rfl)
 ·exact two _ _ (by decide) Ap
 ·exact two _ _ (by decide) (jA (by have:=h.aP;omega))
 ·refine sM 10 KX _ (fun w hw=>?_);simp only[List.mem_cons,List.not_mem_nil,or_false] at hw
  rcases hw with rfl|rfl|rfl
  ·decide
  ·exact jA (by have:=h.words;omega)
  ·exact jA (by have:=h.ay;omega)
 ·split at h1
  ·cases h1
  ·rw[List.mem_singleton] at h1;subst h1;exact two _ _ (by decide) (jA (by have:=h.bz;omega))
 ·split at h1
  ·cases h1
  ·rw[List.mem_singleton] at h1;subst h1;exact two _ _ (by decide) (jA (by have:=h.bB;omega))
 ·exact two _ _ (by decide) (jA (by have:=(kT h.BQ a ha).1;omega))
 ·exact two _ _ (by decide) (AG _)
 ·exact two _ _ (by decide) (AG _)
 ·unfold cF at h1
  split at h1
  ·rename_i hk
   rw[List.mem_singleton] at h1;subst h1;refine sM 10 KX _ (fun w hw=>?_);rw[List.mem_cons,List.mem_map] at hw
   rcases hw with rfl|⟨c,hc,rfl⟩
   ·decide
   ·exact jA (by have:=((h.Ad hk).2.2 c hc).1;omega)
  split at h1
  ·rw[List.mem_singleton] at h1;subst h1;refine sM 10 KX _ (fun w hw=>?_);simp only[List.mem_cons,List.not_mem_nil,or_false] at hw
   rcases hw with rfl|rfl|rfl|rfl
   ·decide
   ·exact vR (Or.inl rfl)
   ·decide
   ·exact vR (Or.inl rfl)
  split at h1
  ·rw[List.mem_map] at h1;obtain⟨t,ht,rfl⟩:=h1;exact two _ _ (by decide) (AG _)
  ·rw[List.mem_singleton] at h1;subst h1;exact two _ _ (by decide) (jA (by have:=h.U4;omega))
 ·decide
theorem lA {a b:List UInt8} {A B:Nat} (ha:a.length≤A) (hb:b.length≤B):(aV [a,b]).length≤A+1+B:=by
 rw[kU,iF];simp;omega
theorem F0 {it:aA} (h:Good it):(bf (cF it)).length≤4210:=by
 unfold cF
 split
 ·rename_i hk
  have h2:=h.Ad hk
  have h1:=mJ 8 (ia::it.cA.map fun c=>Lib.itoa (c+1)) (fun w hw=>by
   rw[List.mem_cons,List.mem_map] at hw
   rcases hw with rfl|⟨c,hc,rfl⟩
   ·decide
   ·have:=h2.2.2 c hc;have:=iO (n:=c+1) (by omega) (by omega);omega)
  rw[im,List.length_append];simp only[List.length_cons,List.length_map,List.length_nil] at h1 ⊢;have:=Nat.mul_le_mul_right (8+1) (show it.cA.length+1≤11 by omega);omega
 split
 ·rename_i hk
  have h2:=h.J' hk
  have h1:=mJ 12 [kV,dd it.value,rV,dd it.de] (fun w hw=>by
   simp only[List.mem_cons,List.not_mem_nil,or_false] at hw
   rcases hw with rfl|rfl|rfl|rfl
   ·decide
   ·exact sO h2.1.1 h2.1.2
   ·decide
   ·exact sO (by omega) h2.2.2)
  rw[im,List.length_append];simp only[List.length_cons,List.length_nil] at h1 ⊢;omega
 split
 ·have h1:=oe 420 (it.texts.map fun t=>aV [jF,bV t.data.toList]) (fun l hl=>by
   rw[List.mem_map] at hl;obtain⟨t,ht,rfl⟩:=hl;have h2:=(nZ.1 (h.texts t ht)).2.2;have h3:=jP t.data.toList;have:=lA (a:=jF) (b:=bV t.data.toList) (A:=4) (B:=402) (by decide) (by omega)
   omega)
  rw[List.length_map] at h1;have:=h.Dh;have:=Nat.mul_le_mul_right (420+1) this;omega
 ·have h2:=iO h.U4.1 h.U4.2;have h1:=lA (a:=lB) (b:=Lib.itoa it.aH) (A:=6) (B:=7) (by decide) h2;rw[im,List.length_append];simp only[List.length_cons,List.length_nil];omega
theorem Pw {it:aA} (h:Good it) {Jl:List UInt8} (hi:Jl.length=14):(bf (lK Jl it)).length≤20000:=by
 unfold lK;rw[eL,eL,eL,eL,ir (aV [lh,bV it.aW.data.toList]),eL,eL];simp only[List.length_append,List.length_cons]
 have a1:=oe 60 [aV [eG,Jl,Lib.itoa it.bj,dM it.kind],aV [cC,it.code.data.toList],aV [dw,Lib.itoa it.aP],aV [fW,Lib.itoa it.words,Lib.itoa it.ay]] (fun l hl=>by
  simp only[List.mem_cons,List.not_mem_nil,or_false] at hl;have v1:=iO (n:=it.bj) (by have:=h.bj;omega) (by have:=h.bj;omega);have v2:=iO (n:=it.aP) (by have:=h.aP;omega) (by have:=h.aP;omega);have v3:=iO (n:=it.words) (by have:=h.words;omega) (by have:=h.words;omega);have v4:=iO (n:=it.ay) (by have:=h.ay;omega) (by have:=h.ay;omega);have v5:=Ex it.kind;have v6:=(Ae h.code).2.1
  rcases hl with rfl|rfl|rfl|rfl
  ·have:=mJ 14 [eG,Jl,Lib.itoa it.bj,dM it.kind] (fun w hw=>by
    simp only[List.mem_cons,List.not_mem_nil,or_false] at hw
    rcases hw with rfl|rfl|rfl|rfl
    ·decide
    all_goals omega)
   simpa using this
  ·have:=lA (a:=cC) (b:=it.code.data.toList) (A:=7) (B:=24) (by decide) v6;omega
  ·have:=lA (a:=dw) (b:=Lib.itoa it.aP) (A:=6) (B:=7) (by decide) v2;omega
  ·have:=mJ 14 [fW,Lib.itoa it.words,Lib.itoa it.ay] (fun w hw=>by
    simp only[List.mem_cons,List.not_mem_nil,or_false] at hw
    rcases hw with rfl|rfl|rfl
    ·decide
    all_goals omega)
   simp only[List.length_cons,List.length_nil] at this
   omega)
 have a2:(bf (if it.bz=0 then [] else [aV [fV,Lib.itoa it.bz]])).length≤20:=by
  split
  ·simp[bf]
  ·have:=lA (a:=fV) (b:=Lib.itoa it.bz) (A:=6) (B:=7) (by decide) (iO h.bz.1 h.bz.2);rw[im];simp;omega
 have a3:(bf (if it.bB=0 then [] else [aV [ma,Lib.itoa it.bB]])).length≤20:=by
  split
  ·simp[bf]
  ·have:=lA (a:=ma) (b:=Lib.itoa it.bB) (A:=6) (B:=7) (by decide) (iO h.bB.1 h.bB.2);rw[im];simp;omega
 have a4:=oe 20 (it.af.map (fun a=>aV [fc,Lib.itoa a])) (fun l hl=>by
  rw[List.mem_map] at hl;obtain⟨t,ht,rfl⟩:=hl;have h2:=kT h.BQ t ht;have:=lA (a:=fc) (b:=Lib.itoa t) (A:=5) (B:=7) (by decide) (iO (by omega) (by omega))
  omega)
 rw[List.length_map] at a4;have a4':=Nat.mul_le_mul_right (20+1) h.rn;have a5:=lA (a:=lh) (b:=bV it.aW.data.toList) (A:=4) (B:=4002) (by decide) (by have:=jP it.aW.data.toList;have:=h.AO.2;omega)
 have a6:=oe 420 (it.opts.map (fun o=>aV [eh,bV o.data.toList])) (fun l hl=>by
  rw[List.mem_map] at hl;obtain⟨t,ht,rfl⟩:=hl;have h2:=(nZ.1 (h.opts t ht)).2.2;have h3:=jP t.data.toList;have:=lA (a:=eh) (b:=bV t.data.toList) (A:=6) (B:=402) (by decide) (by omega)
  omega)
 rw[List.length_map] at a6;have a6':=Nat.mul_le_mul_right (420+1) h.xM;have a7:=F0 h
 have a8:(bf [ki]).length=4:=by decide
 simp only[List.length_cons,List.length_nil] at a1;omega
def E0:Nat:=1099511628211
def kK:Nat:=14695981039346656037
def ll (h:Nat) (l:List UInt8):Nat:=l.foldl (fun h c=>(h ^^^ c.toNat)*E0 % 18446744073709551616) h
theorem Lf (h:Nat) (hh:h<18446744073709551616) (l:List UInt8):ll h l<18446744073709551616:=by
 unfold ll
 induction l generalizing h with
 |nil=>exact hh
 |cons c t ih=>exact ih _ (Nat.mod_lt _ (by decide))
theorem Oe (h:Nat) (l:List UInt8) (c:UInt8):ll h (l++ [c])=(ll h l ^^^ c.toNat)*E0 % 18446744073709551616:=by
 unfold ll;rw[List.foldl_append,List.foldl_cons,List.foldl_nil]
def nS (d:Nat):UInt8:=if d<10 then UInt8.ofNat (48+d) else UInt8.ofNat (87+d)
def jg (h:Nat):List UInt8:=(List.range 16).map fun i=>nS (h / 2 ^ (60 - 4*i) % 16)
theorem nc (h:Nat):(jg h).length=16:=by unfold jg;simp
theorem LH:∀d:Fin 16,((48≤(nS d.val).toNat∧(nS d.val).toNat≤57∧(nS d.val).toNat - 48=d.val)∨(¬(nS d.val).toNat≤57∧97≤(nS d.val).toNat∧(nS d.val).toNat≤102∧(nS d.val).toNat - 87=d.val)):=by decide
theorem LI (h i:Nat) (hi:i<16):(jg h)[i]? =some (nS (h / 2 ^ (60 - 4*i) % 16)):=by
 unfold jg;rw[List.getElem?_map,List.getElem?_range hi];rfl
theorem TR (h i:Nat) (hi:i<16):h / 2 ^ (64 - 4*i)*16+h / 2 ^ (60 - 4*i) % 16=h / 2 ^ (60 - 4*i):=by
 have e:64 - 4*i=(60 - 4*i)+4:=by omega
 rw[e,Nat.pow_add,←Nat.div_div_eq_div_mul];have:=Nat.div_add_mod (h / 2 ^ (60 - 4*i)) 16
 have e2:(2:Nat) ^ 4=16:=by decide
 rw[e2];omega
theorem yu:∀(a b:List UInt8) (acc:Nat),Lib.decFrom acc (a++b)=(Lib.decFrom acc a).bind (fun m=>Lib.decFrom m b)
 |[],b,acc=>rfl
 |c::t,b,acc=>by
  simp only[List.cons_append,Lib.decFrom]
  cases Lib.digitVal c with
  |none=>rfl
  |some d=>exact yu t b _
theorem sb {d:Nat} (h:d<10):Lib.digitVal (UInt8.ofNat (48+d))=some d:=by
 unfold Lib.digitVal
 have:(UInt8.ofNat (48+d)).toNat=48+d:=by rw[UInt8.toNat_ofNat',Nat.mod_eq_of_lt (by omega)]
 rw[this,if_pos (by omega)]
 congr 1;omega
theorem IK (n:Nat):Lib.decFrom 0 (Lib.decDigits n)=some n:=by
 induction n using Nat.strongRecOn with
 |_ n ih=>
  rw[Lib.decDigits]
  split
  ·rename_i h
   simp only[Lib.decFrom,sb h]
   congr 1;omega
  ·rename_i h
   rw[yu,ih (n / 10) (by omega)];simp only[Option.bind_some,Lib.decFrom,sb (Nat.mod_lt n (by omega:0<10))]
   congr 1;omega
theorem Ld (n:Nat):Lib.decNat (Lib.decDigits n)=some n:=by
 unfold Lib.decNat
 have:(Lib.decDigits n).isEmpty=false:=by
  have:=ru n
  cases h:Lib.decDigits n with
  |nil=>exact absurd h this
  |cons=>rfl
 rw[this];exact IK n
theorem Dy {l:List UInt8} (hd:∀c∈l,48≤c.toNat∧c.toNat≤57) (hn:l≠ []):Lib.atoi l=(Lib.decNat l).map fun(m:Nat)=>(m:Int):=by
 cases l with
 |nil=>exact absurd rfl hn
 |cons b r=>
  have hb:=hd b (by simp)
  have h1:(b==45)=false:=by rw[beq_eq_false_iff_ne];rintro rfl;exact absurd hb.1 (by decide)
  have h2:(b==43)=false:=by rw[beq_eq_false_iff_ne];rintro rfl;exact absurd hb.1 (by decide)
  show(if (b==45)=true then _ else if (b==43)=true then _ else _)=_
  rw[h1,h2];rfl
theorem Tb (n:Nat):Lib.atoi (Lib.decDigits n)=some (n:Int):=by
 rw[Dy (oO n) (ru n),Ld];rfl
theorem Wj {m:Nat} (h:m<1000):Lib.atoi (pN m)=some (m:Int):=by
 rw[Dy (DG m) (by unfold pN;simp)];unfold Lib.decNat pN;simp only[List.isEmpty_cons,Bool.false_eq_true,if_false,Lib.decFrom,sb (Nat.mod_lt _ (by omega:0<10))];rw[Option.map_some]
 congr 2;omega
theorem Tp:∀n:Nat,0<n→∃c t,Lib.decDigits n=c::t∧c≠48:=by
 intro n
 induction n using Nat.strongRecOn with
 |_ n ih=>
  intro h0;rw[Lib.decDigits]
  split
  ·rename_i h
   refine⟨_,[],rfl,fun e=>?_⟩;have:=congrArg UInt8.toNat e;rw[UInt8.toNat_ofNat',Nat.mod_eq_of_lt (by omega)] at this
   simp at this
   omega
  ·rename_i h
   obtain⟨c,t,e,hc⟩:=ih (n / 10) (by omega) (by omega);exact⟨c,t++ [UInt8.ofNat (48+n % 10)],by rw[e];rfl,hc⟩
theorem Ah:Lib.decDigits 0=[48]:=by rw[Lib.decDigits_one (by omega)];rfl
def ad_ (l:List UInt8):Prop:=l≠ []∧(∀c∈l,48≤c.toNat∧c.toNat≤57)∧(1<l.length→l.head? ≠some 48)
theorem UF (n:Nat):ad_ (Lib.decDigits n):=by
 refine⟨ru n,oO n,fun h=>?_⟩
 rcases Nat.eq_zero_or_pos n with rfl|h0
 ·rw[Ah] at h;simp at h
 ·obtain⟨c,t,e,hc⟩:=Tp n h0;rw[e]
  simpa using hc
theorem Hf:∀(w v r:List UInt8),32∉w→32∉v→Lib.hasPrefix (w++32::r) (v++ [32])=decide (w=v)
 |[],[],r,_,_=>rfl
 |[],c::v,r,_,hv=>by
  have:(c==32)=false:=by rw[beq_eq_false_iff_ne];rintro rfl;exact hv (by simp)
  simp[Lib.hasPrefix,List.isPrefixOf,this]
 |b::w,[],r,hw,_=>by
  have:((32:UInt8)==b)=false:=by rw[beq_eq_false_iff_ne];rintro rfl;exact hw (by simp)
  simp[Lib.hasPrefix,List.isPrefixOf,this]
 |b::w,c::v,r,hw,hv=>by
  have ih:=Hf w v r (fun h=>hw (by simp[h])) (fun h=>hv (by simp[h]));unfold Lib.hasPrefix at ih ⊢;simp only[List.cons_append,List.isPrefixOf,ih]
  by_cases h:c=b
  ·subst h;simp
  ·have h1:(c==b)=false:=by rw[beq_eq_false_iff_ne];exact h
   rw[h1,Bool.false_and,decide_eq_false (fun e=>h (by injection e with e1;exact e1.symm))]
theorem AK:∀(l v:List UInt8),32∉l→Lib.hasPrefix l (v++ [32])=false
 |[],v,_=>by unfold Lib.hasPrefix;cases v<;>rfl
 |b::l,[],h=>by
  have:((32:UInt8)==b)=false:=by rw[beq_eq_false_iff_ne];rintro rfl;exact h (by simp)
  simp[Lib.hasPrefix,List.isPrefixOf,this]
 |b::l,c::v,h=>by
  have ih:=AK l v (fun hh=>h (by simp[hh]));unfold Lib.hasPrefix at ih ⊢;simp only[List.cons_append,List.isPrefixOf,ih,Bool.and_false]
theorem M0 {c:UInt8} (h:CQ c=true):(c=34∨c=92→fa c=[92,c])∧(c=10→fa c=[92,110])∧(¬(c=34∨c=92)→c≠10→fa c=[c]∧32≤c.toNat∧c.toNat≤126):=by
 refine⟨fun h1=>by unfold fa;rw[if_pos h1],fun h1=>by subst h1;decide,fun h1 h2=>⟨by unfold fa;rw[if_neg h1,if_neg h2],?_⟩⟩;unfold CQ at h;rw[Bool.or_eq_true,decide_eq_true_eq,Bool.and_eq_true,decide_eq_true_eq,decide_eq_true_eq] at h
 rcases h with h|⟨h3,h4⟩
 ·exact absurd h h2
 ·rw[UInt8.le_iff_toNat_le] at h3 h4;exact⟨h3,h4⟩
def val:List Nat→Nat
 |[]=>0
 |x::xs=>x+4294967296*val xs
def dj (l:List Nat):Prop:=∀x∈l,x<4294967296
def kZ (l:List Nat):Prop:=l=[]∨∃m x,l=m++ [x]∧0<x
def bp (k:Nat):Nat:=4294967296 ^ k
theorem KW:bp 0=1:=rfl
theorem KV (k:Nat):bp (k+1)=bp k*4294967296:=Nat.pow_succ ..
theorem Rz (k:Nat):0<bp k:=Nat.pow_pos (by omega)
theorem yd {i j:Nat} (h:i≤j):bp i≤bp j:=Nat.pow_le_pow_right (by omega) h
theorem dj.nil:dj []:=fun _ h=>by simp at h
theorem dj.cons {x:Nat} {l:List Nat} (hx:x<4294967296) (h:dj l):dj (x::l):=fun y hy=>by
 rcases List.mem_cons.1 hy with rfl|h'
 ·exact hx
 ·exact h y h'
theorem dj.head {x:Nat} {l:List Nat} (h:dj (x::l)):x<4294967296:=h x (by simp)
theorem dj.tail {x:Nat} {l:List Nat} (h:dj (x::l)):dj l:=fun y hy=>h y (by simp[hy])
theorem dj.append {l m:List Nat} (h:dj l) (h':dj m):dj (l++m):=fun y hy=>by
 rcases List.mem_append.1 hy with h1|h1
 ·exact h y h1
 ·exact h' y h1
theorem dj.left {l m:List Nat} (h:dj (l++m)):dj l:=fun y hy=>h y (by simp[hy])
theorem dj.right {l m:List Nat} (h:dj (l++m)):dj m:=fun y hy=>h y (by simp[hy])
theorem dj.snoc {l:List Nat} {x:Nat} (h:dj l) (hx:x<4294967296):dj (l++ [x]):=h.append (dj.cons hx dj.nil)
theorem dj.take {l:List Nat} (h:dj l) (k:Nat):dj (l.take k):=fun y hy=>h y (List.mem_of_mem_take hy)
theorem dj.drop {l:List Nat} (h:dj l) (k:Nat):dj (l.drop k):=fun y hy=>h y (List.mem_of_mem_drop hy)
theorem dj.getD {l:List Nat} (h:dj l) (k:Nat):l.getD k 0<4294967296:=by
 rw[List.getD_eq_getElem?_getD]
 rcases Nat.lt_or_ge k l.length with hk|hk
 ·rw[List.getElem?_eq_getElem hk];exact h _ (List.getElem_mem hk)
 ·rw[List.getElem?_eq_none hk];simp
theorem dj.set {l:List Nat} (h:dj l) (k:Nat) {x:Nat} (hx:x<4294967296):dj (l.set k x):=fun y hy=>by
 rcases List.mem_or_eq_of_mem_set hy with h1|h1
 ·exact h y h1
 ·omega
theorem vd (l m:List Nat):val (l++m)=val l+bp l.length*val m:=by
 induction l with
 |nil=>simp[val,KW]
 |cons x l ih=>simp only[List.cons_append,val,ih,List.length_cons,KV];grind
theorem AU (l:List Nat) (x:Nat):val (l++ [x])=val l+bp l.length*x:=by
 rw[vd];simp[val]
theorem Qv (n:Nat):val (List.replicate n 0)=0:=by
 induction n with
 |zero=>rfl
 |succ n ih=>rw[List.replicate_succ,val,ih]
theorem Zm (l:List Nat) (n:Nat):val (l++List.replicate n 0)=val l:=by
 rw[vd,Qv];simp
theorem vi (l:List Nat) (k:Nat):val (l.take (k+1))=val (l.take k)+bp k*l.getD k 0:=by
 rcases Nat.lt_or_ge k l.length with hk|hk
 ·rw[List.take_succ_eq_append_getElem hk,AU,List.length_take,Nat.min_eq_left (by omega),List.getD_eq_getElem?_getD,List.getElem?_eq_getElem hk];rfl
 ·rw[List.take_of_length_le (by omega),List.take_of_length_le hk,List.getD_eq_getElem?_getD,List.getElem?_eq_none hk]
  simp
theorem Di {l:List Nat} (h:dj l):val l<bp l.length:=by
 induction l with
 |nil=>simp[val,KW]
 |cons x l ih=>
  have:=ih h.tail;have hx:=h.head;rw[val,List.length_cons,KV];have:val l+1≤bp l.length:=this;have:=Nat.mul_le_mul_right 4294967296 this
  grind
theorem vg (l:List Nat) (k:Nat) (h:k≤l.length):val l=val (l.take k)+bp k*val (l.drop k):=by
 have:=vd (l.take k) (l.drop k);rw[List.take_append_drop,List.length_take,Nat.min_eq_left h] at this;exact this
theorem kZ.snoc {l:List Nat} {x:Nat} (h:kZ (l++ [x])):0<x:=by
 rcases h with h|⟨m,y,e,hy⟩
 ·simp at h
 ·have:=congrArg List.getLast? e
  simp at this
  omega
theorem kZ.ge {l:List Nat} (h:kZ l) (hn:0<l.length):bp (l.length - 1)≤val l:=by
 rcases h with rfl|⟨m,x,rfl,hx⟩
 ·simp at hn
 ·rw[AU]
  simp
  have:=Nat.mul_le_mul_left (bp m.length) hx;omega
theorem kZ.zero {l:List Nat} (h:kZ l) (hv:val l=0):l=[]:=by
 rcases h with rfl|⟨m,x,rfl,hx⟩
 ·rfl
 ·rw[AU] at hv;have:=Rz m.length;have:=Nat.mul_pos this hx;omega
theorem JN {l m:List Nat} (hl:dj l) (hm:dj m) (h1:kZ l) (h2:kZ m) (hv:val l=val m):l.length=m.length:=by
 rcases Nat.lt_trichotomy l.length m.length with h|h|h
 ·have a:=Di hl;have b:=h2.ge (by omega);have:=yd (show l.length≤m.length - 1 by omega);omega
 ·exact h
 ·have a:=Di hm;have b:=h1.ge (by omega);have:=yd (show m.length≤l.length - 1 by omega);omega
theorem val_inj:∀{l m:List Nat},dj l→dj m→l.length=m.length→val l=val m→l=m
 |[],[],_,_,_,_=>rfl
 |[],_::_,_,_,h,_=>by simp at h
 |_::_,[],_,_,h,_=>by simp at h
 |x::l,y::m,hl,hm,h,hv=>by
  have hx:=hl.head;have hy:=hm.head;simp only[val] at hv
  have e1:x=y:=by omega
  have e2:val l=val m:=by omega
  rw[e1,val_inj hl.tail hm.tail (by simpa using h) e2]
theorem G_ {l m:List Nat} (hl:dj l) (hm:dj m) (h1:kZ l) (h2:kZ m) (hv:val l=val m):l=m:=
 val_inj hl hm (JN hl hm h1 h2 hv) hv
def strip:List Nat→List Nat
 |[]=>[]
 |x::l=>match strip l with
  |[]=>if x=0 then [] else [x]
  |y::r=>x::y::r
theorem l_ (x:Nat) (l:List Nat):strip (x::l)=if strip l=[] then (if x=0 then [] else [x]) else x::strip l:=by
 rw[strip]
 split
 ·rename_i h;simp[h]
 ·rename_i y r h;simp[h]
theorem xQ (l:List Nat):∃n,l=strip l++List.replicate n 0:=by
 induction l with
 |nil=>exact⟨0,rfl⟩
 |cons x l ih=>
  obtain⟨n,hn⟩:=ih;rw[l_]
  split
  ·rename_i h
   rw[h] at hn
   split
   ·rename_i hx;subst hx;exact⟨n+1,by rw[hn];simp[List.replicate_succ]⟩
   ·exact⟨n,by rw[hn];simp⟩
  ·exact⟨n,by rw[List.cons_append,←hn]⟩
theorem lP (l:List Nat):val (strip l)=val l:=by
 obtain⟨n,hn⟩:=xQ l
 conv=>rhs;rw[hn,Zm]
theorem lO (l:List Nat):(strip l).length≤l.length:=by
 obtain⟨n,hn⟩:=xQ l;have:=congrArg List.length hn
 simp at this
 omega
theorem B9 (l:List Nat):l.take (strip l).length=strip l:=by
 obtain⟨n,hn⟩:=xQ l;generalize strip l=r at*;subst hn
 simp
theorem pH {l:List Nat} (h:dj l):dj (strip l):=by rw[←B9];exact h.take _
theorem jD (l:List Nat):kZ (strip l):=by
 induction l with
 |nil=>exact .inl rfl
 |cons x l ih=>
  rw[l_]
  split
  ·split
   ·exact .inl rfl
   ·exact .inr ⟨[],x,rfl,by omega⟩
  ·rename_i h
   rcases ih with ih|⟨m,y,e,hy⟩
   ·exact absurd ih h
   ·exact .inr ⟨x::m,y,by rw[e];rfl,hy⟩
theorem AQ (l:List Nat):strip (l++ [0])=strip l:=by
 induction l with
 |nil=>rfl
 |cons x l ih=>rw[List.cons_append,l_,l_,ih]
theorem CU (l:List Nat) {x:Nat} (h:0<x):strip (l++ [x])=l++ [x]:=by
 induction l with
 |nil=>rw[List.nil_append,l_,strip,if_pos rfl,if_neg (by omega)]
 |cons y l ih=>rw[List.cons_append,l_,ih,if_neg (by simp)]
theorem xP {l:List Nat} (h:val l=0):strip l=[]:=(jD l).zero (by rw[lP];exact h)
theorem s8 {l:List Nat} {k:Nat} (h:strip l=strip (l.take k)) (hk:k≤l.length) (h0:k=0∨0<l.getD (k - 1) 0):(strip l).length=k:=by
 rcases Nat.eq_zero_or_pos k with rfl|hp
 ·rw[h];rfl
 ·rcases h0 with h0|h0
  ·omega
  ·have e:l.take k=l.take (k - 1)++ [l.getD (k - 1) 0]:=by
    conv=>lhs;rw[show k=(k - 1)+1 by omega]
    rw[List.take_succ_eq_append_getElem (by omega),List.getD_eq_getElem?_getD,List.getElem?_eq_getElem (by omega)];rfl
   rw[h,e,CU _ h0]
   simp;omega
theorem AR {l:List Nat} {k:Nat} (hk:k<l.length) (h0:l.getD k 0=0):strip (l.take (k+1))=strip (l.take k):=by
 rw[List.take_succ_eq_append_getElem hk];rw[List.getD_eq_getElem?_getD,List.getElem?_eq_getElem hk] at h0
 simp at h0
 rw[h0,AQ]
theorem Tu {Q R d x V:Nat} (hV:V=Q*d+R) (hR:R<d) (hd:d≤4294967296) (hx:x<4294967296):
  x+4294967296*V=((R*4294967296+x) / d+4294967296*Q)*d+(R*4294967296+x) % d∧(R*4294967296+x) / d<4294967296∧(R*4294967296+x) % d<d:=by
 have h0:0<d:=by omega
 have h1:=Nat.div_add_mod (R*4294967296+x) d;have h2:=Nat.mod_lt (R*4294967296+x) h0;refine⟨?_,?_,h2⟩
 ·subst hV;generalize (R*4294967296+x) / d=q at*;generalize (R*4294967296+x) % d=r at*;rw[Nat.mul_add,Nat.add_mul,Nat.mul_assoc,Nat.mul_comm q d];omega
 ·rw[Nat.div_lt_iff_lt_mul h0]
  have:R*4294967296+4294967296≤d*4294967296:=by
   have:(R+1)*4294967296≤d*4294967296:=Nat.mul_le_mul_right _ hR;omega
  omega
end
end Go.Proofs.YtdnpopjabpklnaaGreatDoor
