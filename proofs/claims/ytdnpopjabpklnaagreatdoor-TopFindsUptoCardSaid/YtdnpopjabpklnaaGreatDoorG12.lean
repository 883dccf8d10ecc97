/- Contracts and plain laws that the proof of the top laws uses (G12). No condition beyond those stated. -/
import Derived.Test.YtdnpopjabpklnaaGreatDoorIns
import Derived.Lib.SlicesCompact
set_option maxRecDepth 100000
set_option maxHeartbeats 64000000
set_option linter.all false
namespace Go.Proofs.YtdnpopjabpklnaaGreatDoor
section
open Go.RowKit
structure wm (t:Nat) (e:aB):Prop where
 ne:0<e.aD.length
 item:∀v∈e.aD,fb v=0∧jS v∧A7 v
 aD:e.aD.length≤t
 b_:e.b_.length≤t
 fair:e.fair.length≤t
 log:e.log.length≤t
 rows:e.rows.length≤1100000
 row:∀r∈e.rows,r.length≤1100000
structure gL (t:Nat) (b:cK):Prop where
 aP:b.aP.length≤1100000
 pri:b.pri.length≤1100000
 dJ:b.dJ.length≤t
 bX:∀x∈b.dJ,x.code.size≤4000000∧x.title.size≤4000000
 af:b.af.length≤t
 aZ:∀a∈b.af,(1≤a.id∧a.id≤9999999)∧a.alt.size≤4000000
 ft:b.ft.length≤t
 entries:b.entries.length≤t
 entry:∀e∈b.entries,wm t e
 ids:(b.entries.map du).Nodup
structure lR (c:eH):Prop where
 item:jS c.item
 Qj:A7 c.item
 bX:c.bX.code.size≤4000000∧c.bX.title.size≤4000000
 alt:c.aZ.alt.size≤4000000
 rows:c.rows.length≤1100000
 row:∀r∈c.rows,r.length≤1100000
theorem wm.mono {t u:Nat} {e:aB} (h:wm t e) (hu:t≤u):wm u e:=
 ⟨h.ne,h.item,Nat.le_trans h.aD hu,Nat.le_trans h.b_ hu,Nat.le_trans h.fair hu,Nat.le_trans h.log hu,h.rows,h.row⟩
theorem wm.short {t:Nat} {e:aB} (h:wm t e) (ht:t≤1000):CX e:=
 ⟨by have:=h.aD;omega,fun x hx=>(h.item x hx).2.1,by have:=h.b_;omega,by have:=h.fair;omega,by have:=h.log;omega,h.rows,h.row⟩
theorem gL.short {t:Nat} {b:cK} (h:gL t b) (ht:t≤1000):QI b:=
 ⟨h.aP,h.pri,by have:=h.dJ;omega,by have:=h.af;omega,by have:=h.ft;omega,by have:=h.entries;omega,fun e he=>(h.entry e he).short ht⟩
def gj {α:Type} (l:List α) (k:Nat) (x:α):List α:=l.take k++x::l.drop k
theorem kD {α:Type} (l:List α) (k:Nat) (x:α):(gj l k x).length=l.length+1:=by
 unfold gj;rw[List.length_append,List.length_cons,List.length_take,List.length_drop];omega
theorem pt {α:Type} {l:List α} {k:Nat} {x y:α} (h:y∈gj l k x):y=x∨y∈l:=by
 unfold gj at h;rw[List.mem_append,List.mem_cons] at h
 rcases h with h|h|h
 ·exact Or.inr (List.mem_of_mem_take h)
 ·exact Or.inl h
 ·exact Or.inr (List.mem_of_mem_drop h)
theorem Mi {α:Type} (l:List α) (k:Nat) (x:α):(gj l k x).Perm (x::l):=by
 unfold gj;refine List.perm_middle.trans ?_;rw[List.take_append_drop]
theorem xE {α:Type} (k:Nat) (x:α):gj [] k x=[x]:=by unfold gj;simp
theorem Rk {P:Prop} (h:P:=by
 rw[rz (k:=m) _ (fun C hC=>by rw[List.mem_map] at hC;obtain⟨y,_,rfl⟩:=hC;exact hf y),List.length_map,List.length_take,Nat.min_eq_left hk]):P:=h
theorem Ev {α:Type} {f:α→List Value} {m:Nat} (hf:∀x,(f x).length=m) (l:List α) (k:Nat) (x:α) (hk:k≤l.length):ke (l.map f).flatten (f x) (k*m)=((gj l k x).map f).flatten:=by
 unfold ke gj
 have e1:(l.map f).flatten.take (k*m)=((l.take k).map f).flatten:=by
  have h:=congrArg (fun l=>(l.map f).flatten) (List.take_append_drop k l).symm;simp only[List.map_append,List.flatten_append] at h;rw[h,List.take_left'];exact Rk
 have e2:(l.map f).flatten.drop (k*m)=((l.drop k).map f).flatten:=by
  have h:=congrArg (fun l=>(l.map f).flatten) (List.take_append_drop k l).symm;simp only[List.map_append,List.flatten_append] at h;rw[h,List.drop_left'];exact Rk
 rw[e1,e2]
 simp
theorem Pt {e:aB} (h:0<e.aD.length):∃v,e.aD.getLast? =some v∧v∈e.aD∧du e=v.id∧e.aD[e.aD.length - 1]? =some v:=by
 have h1:e.aD[e.aD.length - 1]? =some (e.aD[e.aD.length - 1]'(by omega)):=List.getElem?_eq_getElem _;refine⟨_,?_,List.getElem_mem (by omega),?_,h1⟩
 ·rw[List.getLast?_eq_getElem?,h1]
 ·unfold du;rw[List.getLast?_eq_getElem?,h1]
theorem Ph {e:aB} {v:aA} {vs:List aA} (h:e.aD=vs++ [v]):du e=v.id:=by
 unfold du;rw[h,List.getLast?_concat]
theorem Ll {es:List aB} {q:Int} (h:fR es q<0) (cu:∀e∈es,0<e.aD.length):q∉es.map du:=by
 unfold fR at h
 cases hf:es.findIdx? (my q) with
 |some i=>rw[hf] at h;simp only at h;omega
 |none=>
  rw[List.findIdx?_eq_none_iff] at hf;rintro hm;rw[List.mem_map] at hm;obtain⟨e,he,hq⟩:=hm;have:=hf e he;unfold my at this
  simp[cu e he,hq] at this
theorem qv {es:List aB} {q:Int} (h:0≤fR es q):∃k e,fR es q=(k:Nat)∧es[k]? =some e∧du e=q∧0<e.aD.length∧k<es.length:=by
 unfold fR at h ⊢
 cases hf:es.findIdx? (my q) with
 |none=>rw[hf] at h;exact absurd h (by decide)
 |some i=>
  rw[List.findIdx?_eq_some_iff_getElem] at hf;obtain⟨hi,hh,_⟩:=hf;unfold my at hh;rw[Bool.and_eq_true,decide_eq_true_eq,decide_eq_true_eq] at hh;exact⟨i,es[i],rfl,List.getElem?_eq_getElem hi,hh.2,hh.1,hi⟩
def lu (it:aA) (u:Int):aB:=⟨[it],1,u,[],[],[],[]⟩
structure Km (e e':aB) (rows:List (List Int)):Prop where
 b_:e'.b_.length≤e.b_.length+1
 fair:e'.fair.length≤e.fair.length+1
 log:e'.log.length≤e.log.length+1
 rows:e'.rows=e.rows∨e'.rows=[]∨e'.rows=rows
inductive Hs (b:cK) (c:eH) (b':cK):Prop where
 |bX (k:Nat) (hk:k≤b.dJ.length) (h:b'= {b with dJ:=gj b.dJ k c.bX})
 |aZ (k:Nat) (hk:k≤b.af.length) (ha:1≤c.aZ.id∧c.aZ.id≤9999999) (h:b'= {b with af:=gj b.af k c.aZ})
 |create (k:Nat) (hk:k≤b.entries.length) (hv:fb c.item=0) (hn:fR b.entries c.item.id<0) (h:b'= {b with entries:=gj b.entries k (lu c.item c.user)})
 |SD (k:Nat) (e e':aB) (hk:b.entries[k]? =some e) (hv:fb c.item=0) (hi:c.item.id=du e) (hn:e'.aD=e.aD++ [c.item]) (hr:Km e e' c.rows) (h:b'= {b with entries:=b.entries.set k e'})
 |change(k:Nat) (e e':aB) (hk:b.entries[k]? =some e) (hn:e'.aD=e.aD) (hr:Km e e' c.rows) (h:b'= {b with entries:=b.entries.set k e'})
 |SC (l:List (Int × Int)) (hl:l.length≤b.ft.length+1) (h:b'= {b with ft:=l})
theorem Km.aa0 {t:Nat} {e e':aB} {c:eH} (h:Km e e' c.rows) (he:wm t e) (hc:lR c) (h1:0<e'.aD.length) (h2:∀v∈e'.aD,fb v=0∧jS v∧A7 v) (h3:e'.aD.length≤t+1):wm (t+1) e':=by
 have a1:=h.b_;have a2:=h.fair;have a3:=h.log;have b1:=he.b_;have b2:=he.fair;have b3:=he.log;refine⟨h1,h2,h3,by omega,by omega,by omega,?_,?_⟩
 ·rcases h.rows with e1|e1|e1<;>rw[e1]
  ·exact he.rows
  ·simp
  ·exact hc.rows
 ·rcases h.rows with e1|e1|e1<;>rw[e1]
  ·exact he.row
  ·simp
  ·exact hc.row
theorem Nl {es:List aB} {k:Nat} {e e':aB} (hk:es[k]? =some e) (h:du e'=du e):(es.set k e').map du=es.map du:=by
 rw[List.map_set,h]
 refine List.ext_getElem? fun j=>?_
 rw[List.getElem?_set]
 split
 ·rename_i hj
  subst hj;rw[List.getElem?_map,hk]
  split
  ·rfl
  ·rename_i hl
   rw[List.length_map] at hl;rw[List.getElem?_eq_none (by omega)] at hk
   cases hk
 ·rfl
theorem qD {α:Type} {l:List α} {k:Nat} {x y:α} (h:y∈l.set k x):y=x∨y∈l:=(List.mem_or_eq_of_mem_set h).symm
theorem Hs.Iv {t:Nat} {b b':cK} {c:eH} (h:Hs b c b') (hb:gL t b) (hc:lR c):gL (t+1) b':=by
 have m:t≤t+1:=Nat.le_succ t;have i1:=hb.dJ;have i2:=hb.af;have i3:=hb.ft;have i4:=hb.entries
 have me:∀e∈b.entries,wm (t+1) e:=fun e he=>(hb.entry e he).mono m
 cases h with
 |bX k hk h=>
  subst h;refine⟨hb.aP,hb.pri,?_,?_,Nat.le_succ_of_le i2,hb.aZ,Nat.le_succ_of_le i3,Nat.le_succ_of_le i4,me,hb.ids⟩
  ·show(gj b.dJ k c.bX).length≤t+1
   rw[kD];omega
  ·intro x hx
   rcases pt hx with rfl|hx
   ·exact hc.bX
   ·exact hb.bX x hx
 |aZ k hk ha h=>
  subst h;refine⟨hb.aP,hb.pri,Nat.le_succ_of_le i1,hb.bX,?_,?_,Nat.le_succ_of_le i3,Nat.le_succ_of_le i4,me,hb.ids⟩
  ·show(gj b.af k c.aZ).length≤t+1
   rw[kD];omega
  ·intro x hx
   rcases pt hx with rfl|hx
   ·exact⟨ha,hc.alt⟩
   ·exact hb.aZ x hx
 |create k hk hv hn h=>
  subst h;refine⟨hb.aP,hb.pri,Nat.le_succ_of_le i1,hb.bX,Nat.le_succ_of_le i2,hb.aZ,Nat.le_succ_of_le i3,?_,?_,?_⟩
  ·show(gj b.entries k (lu c.item c.user)).length≤t+1
   rw[kD];omega
  ·intro x hx
   rcases pt hx with rfl|hx
   ·refine⟨by simp[lu],?_,by simp[lu],by simp[lu],by simp[lu],by simp[lu],by simp[lu],by simp[lu]⟩;intro v lr;simp only[lu,List.mem_singleton] at lr;subst lr;exact⟨hv,hc.item,hc.Qj⟩
   ·exact me x hx
  ·show((gj b.entries k (lu c.item c.user)).map du).Nodup
   rw[((Mi b.entries k (lu c.item c.user)).map du).nodup_iff,List.map_cons,List.nodup_cons];exact⟨Ll hn (fun e he=>(hb.entry e he).ne),hb.ids⟩
 |SD k e e' hk hv hi hn hr h=>
  subst h;have he:=hb.entry e (List.mem_of_getElem? hk);have i5:=he.aD;refine⟨hb.aP,hb.pri,Nat.le_succ_of_le i1,hb.bX,Nat.le_succ_of_le i2,hb.aZ,Nat.le_succ_of_le i3,?_,?_,?_⟩
  ·show(b.entries.set k e').length≤t+1
   rw[List.length_set];omega
  ·intro x hx
   rcases qD hx with rfl|hx
   ·refine hr.aa0 he hc (by rw[hn];simp) ?_ (by rw[hn];simp;omega);intro v lr;rw[hn,List.mem_append,List.mem_singleton] at lr
    rcases lr with lr|rfl
    ·exact he.item v lr
    ·exact⟨hv,hc.item,hc.Qj⟩
   ·exact me x hx
  ·show((b.entries.set k e').map du).Nodup
   rw[Nl hk (by rw[Ph hn];exact hi)];exact hb.ids
 |change k e e' hk hn hr h=>
  subst h;have he:=hb.entry e (List.mem_of_getElem? hk);have i5:=he.aD;refine⟨hb.aP,hb.pri,Nat.le_succ_of_le i1,hb.bX,Nat.le_succ_of_le i2,hb.aZ,Nat.le_succ_of_le i3,?_,?_,?_⟩
  ·show(b.entries.set k e').length≤t+1
   rw[List.length_set];omega
  ·intro x hx
   rcases qD hx with rfl|hx
   ·exact hr.aa0 he hc (by rw[hn];exact he.ne) (by rw[hn];exact he.item) (by rw[hn];omega)
   ·exact me x hx
  ·show((b.entries.set k e').map du).Nodup
   rw[Nl hk (by unfold du;rw[hn])];exact hb.ids
 |SC l hl h=>
  subst h;refine⟨hb.aP,hb.pri,Nat.le_succ_of_le i1,hb.bX,Nat.le_succ_of_le i2,hb.aZ,?_,Nat.le_succ_of_le i4,me,hb.ids⟩
  show l.length≤t+1
  omega
end
section
open Go.RowKit
theorem cZ.open_ {w:World} {C:List Value} {b:cK} {base:Nat} (h:cZ base w C b):∃A1 n1 c1 A2 n2 c2 A3 n3 c3 A4 n4 c4 A5 n5 c5 A6 n6 c6,
  C=[.int .i64 b.now,.slice A1 n1 c1,.slice A2 n2 c2,.slice A3 n3 c3,.slice A4 n4 c4,.slice A5 n5 c5,.slice A6 n6 c6]∧
  db base w (.slice A1 n1 c1) b.aP∧db base w (.slice A2 n2 c2) b.pri∧kE base w (.slice A3 n3 c3) b.dJ∧jI base w (.slice A4 n4 c4) b.af∧ej base w (.slice A5 n5 c5) b.entries∧zt base w (.slice A6 n6 c6) b.ft∧
  n1=b.aP.length∧n2=b.pri.length∧n3=b.dJ.length∧n4=b.af.length∧n5=b.entries.length∧n6=b.ft.length∧n3≤c3∧n4≤c4∧n5≤c5∧n6≤c6:=by
 obtain⟨vp,vr,vo,va,ve,vn,rfl,h1,h2,h3,h4,h5,h6⟩:=h;obtain⟨A1,c1,rfl,_⟩:=aj h1;obtain⟨A2,c2,rfl,_⟩:=aj h2;obtain⟨A3,c3,rfl,e3,_⟩:=aj h3;obtain⟨A4,c4,rfl,e4,_⟩:=aj h4;obtain⟨A5,c5,rfl,e5,_⟩:=h5.BJ.slice;obtain⟨A6,c6,rfl,e6,_⟩:=aj h6;exact⟨A1,_,c1,A2,_,c2,A3,_,c3,A4,_,c4,A5,_,c5,A6,_,c6,rfl,h1,h2,h3,h4,h5,h6,rfl,rfl,rfl,rfl,rfl,rfl,e3,e4,e5,e6⟩
theorem ko {w:World} {D:List Value} {c:eH} (h:je w D c):D.length=32∧D[0]? =some (.int .i64 c.kind)∧D[1]? =some (.int .i64 c.user)∧D[2]? =some (.int .i64 c.il)∧D[3]? =some (.int .i64 c.time)∧D[4]? =some (.int .i64 c.id)∧D[5]? =some (.int .i64 c.other)∧D[6]? =some (.int .i64 c.act)∧
  D[24]? =some (.string c.bX.code)∧D[25]? =some (.string c.bX.title)∧D[26]? =some (.int .i64 c.aZ.id)∧D[27]? =some (.int .i64 c.aZ.bytes)∧D[28]? =some (.string c.aZ.alt)∧D[29]? =some (.int .i64 c.aZ.from_)∧D[30]? =some (.int .i64 c.aZ.gT):=by
 obtain⟨vo,vc,vt,va,A,n,k,rfl,_⟩:=h;exact⟨rfl,rfl,rfl,rfl,rfl,rfl,rfl,rfl,rfl,rfl,rfl,rfl,rfl,rfl,rfl⟩
def fH (w0:World) (g:Nat) (b:cK) (c:eH) (M:Prop) (X:cK→Prop) (e:Ending) (w':World):Prop:=
 ∃z:Int,e=.returned (.int .i64 z)∧Below w0.heap.size w0 w'∧(z=0→∃b' C',Hs b c b'∧X b'∧Row w' g 31 C'∧cZ w0.heap.size w' C' b')∧(M→z=0)
theorem fH.err {w0 w':World} {g:Nat} {b:cK} {c:eH} {M:Prop} {X:cK→Prop} {z:Int} (hz:z≠0) (hM:¬M) (hb:Below w0.heap.size w0 w'):fH w0 g b c M X (.returned (.int .i64 z)) w':=
 ⟨z,rfl,hb,fun h=>absurd h hz,fun h=>absurd h hM⟩
def VB (b:cK) (c:eH):Prop:=sJ c.il 16=true∧b.dJ=[]∧jw c.bX.code.data.toList=true∧cP c.bX.title.data.toList 60=true∧(46:UInt8)∉c.bX.code.data.toList
theorem Vb {l:List gH} {q:ByteArray} (h:pJ l q=true):l≠ []:=by rintro rfl;cases h
theorem kE.jZ {base n c:Nat} {w:World} {A:Option Addr} {l:List gH} (h:kE base w (.slice A n c) l) (hn:n=l.length):dF w A n 2 (l.map fL).flatten:=by subst hn;exact bZ h
theorem jI.jZ {base n c:Nat} {w:World} {A:Option Addr} {l:List j0} (h:jI base w (.slice A n c) l) (hn:n=l.length):dF w A n 5 (l.map fJ).flatten:=by subst hn;exact bZ h
theorem fF {w:World} {base e k n m:Nat} {v:Value} {xs:List Value} (h:w.ownsRow base e k v m xs) (hn:n=m):w.ownsRow base e k v n xs:=by subst hn;exact h
section
variable {P:Program} {ty k:Nat} {ops:Array Oper} {rest:List Oper} {a:Act} {w:World} {K:Act→World→Prop} {Q:Exit→Act→World→Prop} {dst:Option Tmp} {x v:Operand} {t':TypeId} {pos:String} {after:Array Edge} {gd:Option (Nat × Bool)}
theorem Row.part {w:World} {g t:Nat} {C D:List Value} {o k:Nat} (hr:Row w g t C) (hD:(C.drop o).take k=D):Cl w g o D:=by
 have:=hr.cl.part o k;rw[hD,Nat.zero_add] at this;exact this
theorem sN {g t o:Nat} {C D:List Value} (hx:a.eval x=.pointer (some ⟨g,o,none⟩)) (hA:kj P ty k) (hr:Row w g t C) (hD:(C.drop o).take k=D) (hk:D.length=k)
  (h:wpList P ops Q rest (a.put dst (.agg D.toArray)) w):wpList P ops Q ({dst:=dst,op:=.load ty x,type:=t',pos:=pos,after:=after,guard:=none}::rest) a w:=
 cJ hx hA (hr.part hD) hk h
theorem sE {b o:Nat} {D:List Value} (hx:a.eval x=.pointer (some ⟨b,o,none⟩)) (hA:kj P ty k) (hr:Cl w b o D) (hk:D.length=k)
  (h:K (a.put dst (.agg D.toArray)) w):Oper.wp P {dst:=dst,op:=.load ty x,type:=t',pos:=pos,after:=after,guard:=gd} a w K Q:=by
 unfold Oper.wp execOp;simp only[hx,Instr.loadAt,Instr.sureAddr,Sem.run_bind,Sem.run_pure,Result.andThen_ok,gZ hA hr hk];exact h
theorem uN {g t o:Nat} {C D:List Value} (hx:a.eval x=.pointer (some ⟨g,o,none⟩)) (hA:kj P ty k) (hr:Row w g t C) (hD:(C.drop o).take k=D) (hk:D.length=k)
  (h:K (a.put dst (.agg D.toArray)) w):Oper.wp P {dst:=dst,op:=.load ty x,type:=t',pos:=pos,after:=after,guard:=gd} a w K Q:=
 sE hx hA (hr.part hD) hk h
theorem vJ (hA:Rec P ty k)
  (h:∀w' g Z,w.heap.size=g→Z.length=k→Row w' g ty Z→Below w.heap.size w w'→K (a.put dst (.pointer (some ⟨g,0,none⟩))) w'):Oper.wp P {dst:=dst,op:=.alloc ty,type:=t',pos:=pos,after:=after,guard:=gd} a w K Q:=by
 have hz:=hA.zero;have hg:=hA.st
 cases hi:P.info? ty with
 |none=>rw[hi] at hz;cases hz
 |some i=>
  rw[hi] at hz
  cases cD:i.zero with
  |none=>simp only[cD] at hz;cases hz
  |some z=>
   simp only[cD,beq_iff_eq] at hz
   cases hu:P.underlying ty with
   |none=>rw[hu] at hg;cases hg
   |some d=>
    rw[hu] at hg;unfold Oper.wp execOp
    cases d<;>simp only[Bool.false_eq_true] at hg
    simp[Instr.alloc,zeroValue,typeInfo,hi,cD,newVar,newRow,Result.andThen]
    have:=h _ _ z.cells.toList rfl (by simpa using hz) (Row.new w ty z.cells.toList) (ai w _);rw[Array.toArray_toList] at this;exact this
end
theorem GO {w:World} {D:List Value} {c:eH} (h:je w D c):∃CI,(D.drop 7).take 17=CI∧CI.length=17∧dO w CI c.item∧D[7]? =some (.int .i64 c.item.id)∧D[8]? =some (.int .i64 c.item.bj)∧D[9]? =some (.int .i64 c.item.kind):=by
 obtain⟨vo,vc,vt,va,A,n,k,rfl,h1,h2,h3,h4,_⟩:=h;exact⟨_,rfl,rfl,⟨_,_,_,_,rfl,h1,h2,h3,h4⟩,rfl,rfl,rfl⟩
theorem Oa {w:World} {D:List Value} {c:eH} (h:je w D c):∃A n k,(D.drop 31).take 1=[.slice A n k]∧D[31]? =some (.slice A n k)∧oY w A n c.rows∧n≤k:=by
 obtain⟨vo,vc,vt,va,A,n,k,rfl,_,_,_,_,h5,h6⟩:=h;exact⟨A,n,k,rfl,rfl,h5,h6⟩
theorem xD {α:Type} {l:List α} {k:Nat} {x:α} (hk:k≤l.length) (i:Nat):(gj l k x)[i]? =if i<k then l[i]? else if i=k then some x else l[i - 1]? :=by
 unfold gj
 by_cases h1:i<k
 ·rw[if_pos h1,List.getElem?_append_left (by simp;omega),List.getElem?_take_of_lt h1]
 ·rw[if_neg h1,List.getElem?_append_right (by simp;omega),List.length_take,Nat.min_eq_left hk]
  by_cases h2:i=k
  ·subst h2;rw[if_pos rfl,Nat.sub_self];rfl
  ·rw[if_neg h2];obtain⟨m,hm⟩:∃m,i - k=m+1:=⟨i - k - 1,by omega⟩;rw[hm,List.getElem?_cons_succ,List.getElem?_drop]
   congr 1;omega
theorem F_ {w:World} {base:Nat} {v:Value} {es:List aB} {Cs:List (List Value)} {k:Nat} {x:aB} {Cn:List Value} (hl:Cs.length=es.length) (h7:∀C∈Cs,C.length=7) (hk:k≤es.length) (pk:Cn.length=7)
  (a_:w.ownsRow base 44 7 v (es.length+1) (ke Cs.flatten Cn (k*7))) (dZ:∀(i:Nat) (C:List Value) (y:aB),Cs[i]? =some C→es[i]? =some y→dn base w C y) (uE:dn base w Cn x)
  (nQ:∀(i j:Nat) (C D:List Value),Cs[i]? =some C→Cs[j]? =some D→i<j→dm C=none∨dm C≠dm D) (hd2:∀C∈Cs,dm C≠dm Cn):ej base w v (gj es k x):=by
 have hf:ke Cs.flatten Cn (k*7)=(gj Cs k Cn).flatten:=by
  have e1:(Cs.take k).flatten.length=k*7:=by
   rw[rz (k:=7) _ (fun C hC=>h7 C (List.mem_of_mem_take hC)),List.length_take,Nat.min_eq_left (by omega)]
  have e2:Cs.flatten=(Cs.take k).flatten++(Cs.drop k).flatten:=by rw[←List.flatten_append,List.take_append_drop]
  unfold ke gj;rw[e2,←e1,List.take_left,List.drop_left]
  simp
 rw[hf] at a_
 have TV:k≤Cs.length:=by omega
 refine⟨gj Cs k Cn,by rw[kD,kD,hl],fun C hC=>?_,by rw[kD];exact a_,fun i C y h1 h2=>?_,fun i j C D h1 h2 bE=>?_⟩
 ·rcases pt hC with rfl|hC
  ·exact pk
  ·exact h7 C hC
 ·rw[xD TV] at h1;rw[xD hk] at h2
  by_cases a:i<k
  ·rw[if_pos a] at h1 h2;exact dZ i C y h1 h2
  ·rw[if_neg a] at h1 h2
   by_cases b:i=k
   ·rw[if_pos b] at h1 h2
    injection h1 with h1;injection h2 with h2
    subst h1 h2;exact uE
   ·rw[if_neg b] at h1 h2;exact dZ (i - 1) C y h1 h2
 ·rw[xD TV] at h1 h2
  by_cases a:i<k
  ·rw[if_pos a] at h1
   by_cases b:j<k
   ·rw[if_pos b] at h2;exact nQ i j C D h1 h2 bE
   ·rw[if_neg b] at h2
    by_cases d:j=k
    ·rw[if_pos d] at h2;injection h2 with h2;subst h2;exact Or.inr (hd2 C (List.mem_of_getElem? h1))
    ·rw[if_neg d] at h2;exact nQ i (j - 1) C D h1 h2 (by omega)
  ·rw[if_neg a] at h1;rw[if_neg (show ¬j<k by omega),if_neg (show j≠k by omega)] at h2
   by_cases b:i=k
   ·rw[if_pos b] at h1;injection h1 with h1;subst h1;exact Or.inr (fun e=>hd2 D (List.mem_of_getElem? h2) e.symm)
   ·rw[if_neg b] at h1;exact nQ (i - 1) (j - 1) C D h1 h2 (by omega)
end
section
open Go.RowKit
open Tryz
theorem nj (p:Int × Int):(ja p).length=2:=rfl
theorem mF (x y:Int) (w:World):
  Calls prog 145 #[.int .i64 x,.int .i64 y] w fun e w'=>e=.returned (.agg #[.int .i64 (min x y),.int .i64 (max x y)])∧Below w.heap.size w w':=by
 go_enter func145,ntmps145
 go_wp2_with fail
 have R:=Row.new w 158 [.int .i64 (min x y),.int .i64 (max x y)];have hb:=ai w (.cells #[.int .i64 (min x y),.int .i64 (max x y)] 158);refine bodyPost_ret (js rfl _ rfl Ta R rfl) rfl ?_;exact⟨rfl,hb⟩
theorem H6 {P:Prop} (h:P:=by
 go_region_held3 (fun w'=>w'.cell? ⟨g7,0,none⟩=some (.int .i64 p)∧w'.cell? ⟨g7,1,none⟩=some (.int .i64 q)∧w'.cell? ⟨g9,0,none⟩=some (.int .i64 z.1)∧w'.cell? ⟨g9,1,none⟩=some (.int .i64 z.2))
  ((with_reducible refine And.intro (aT l73 e0 ?_) (And.intro (aT l73 e1 ?_) (And.intro (aT l9 d0 ?_) (aT l9 d1 ?_))))<;>((repeat(first|with_reducible exact Below.refl _ _|with_reducible refine ar aC ?_|with_reducible refine al ?_ _|with_reducible refine bL ?_));done))
  (first|(go_at_call 145;((with_reducible refine(HO _).mono ?_);rintro e wa ⟨rfl,aC⟩)))
 go_wp2_with fail
 first
  |(go_ret;exact⟨⟨_,rfl⟩,BH.trans ((fU aC).mono BH.size)⟩)
  |(
   go_roundg g2
   case measure=>omega
   case rel=>exact⟨j+1,by omega,by go_num,BG3.trans ((fU aC).mono BG3.size)⟩)):P:=h
theorem KF (A:Option Addr) (n c:Nat) (ps:List (Int × Int)) (x y:Int) (w:World) (h:dF w A n 2 (ps.map ja).flatten) (hn:n=ps.length) (ix:n≤1100000):
  Calls prog 107 #[.slice A n c,.int .i64 x,.int .i64 y] w fun e w'=>Kl e∧Below w.heap.size w w':=by
 have HN:=Lib.hid hn;clear hn
 go_enter func107,ntmps107
 by_cases Pe:x=y
 ·have adP:(x==y)=true:=beq_iff_eq.2 Pe;clear Pe
  go_wp2_with fail
  go_ret
  exact⟨⟨_,rfl⟩,Below.refl _ _⟩
 have adP:(x==y)=false:=beq_eq_false_iff_ne.2 Pe;clear Pe
 go_wp2_with fail
 with_reducible refine(mF x y w).mono ?_
 rintro e w1 ⟨rfl,aC⟩;generalize min x y=p at*;generalize max x y=q at*
 go_wp2_with fail
 obtain⟨w2,qY⟩:∃w2,w2=w1.alloc (.cells #[.int .i64 p,.int .i64 q] 158):=⟨_,rfl⟩
 have R7:Row w2 w1.heap.size 158 [.int .i64 p,.int .i64 q]:=by rw[qY];exact Row.new w1 _ _
 have BB:Below w.heap.size w w2:=by rw[qY];exact al aC _
 rw[←qY];have ax:w.heap.size≤w1.heap.size:=aC.size;generalize w1.heap.size=g7 at*;clear qY aC
 go_loopg [18] (n) (fun gg i wy=>∃j:Nat,j+gg=n∧i=.int .i64 j∧Below w2.heap.size w2 wy)
 case atStart=>exact⟨0,by omega,rfl,Below.refl _ _⟩
 case round=>
  obtain⟨j,hjg,rfl,BG⟩:=hrel
  cases gk with
  |zero=>
   have qA:¬((j:Int)<(n:Int)):=by omega
   go_wp2_with fail
   go_ret
   exact⟨⟨_,rfl⟩,az BB BG⟩
  |succ g2=>
   have qA:(j:Int)<(n:Int):=by omega
   have BH:=az BB BG;obtain⟨b',o',sn,jc⟩:=lE h HN.out nj j (by have:=HN.out;omega);subst sn;have fy:=jc.below BH (jc.lt (by rw[nj];decide));generalize ps[j]'(by have:=HN.out;omega)=z at fy;have f0:wr.cell? ⟨b',o'+j*2,none⟩=some (.int .i64 z.1):=fy 0 _ rfl;have f1:wr.cell? ⟨b',o'+j*2+1,none⟩=some (.int .i64 z.2):=fy 1 _ rfl;have e0:wr.cell? ⟨g7,0,none⟩=some (.int .i64 p):=(R7.keep BG).cell 0;have e1:wr.cell? ⟨g7,1,none⟩=some (.int .i64 q):=(R7.keep BG).cell 1;have l7:=R7.lt;have l7r:=Nat.lt_of_lt_of_le l7 BG.size;clear fy jc
   go_wp2_with fail
   obtain⟨w3,Ji⟩:∃w3,w3=wr.alloc (.cells #[.int .i64 z.1,.int .i64 z.2] 158):=⟨_,rfl⟩
   have R9:Row w3 wr.heap.size 158 [.int .i64 z.1,.int .i64 z.2]:=by rw[Ji];exact Row.new wr _ _
   have BC:Below wr.heap.size wr w3:=by rw[Ji];exact ai wr _
   rw[←Ji];clear Ji;replace BH:=az BH BC;have BG3:=az BG BC;replace e0:=aT l7r e0 BC;replace e1:=aT l7r e1 BC;have l73:=Nat.lt_of_lt_of_le l7r BC.size;have l9:=R9.lt;have d0:=U (R9.cell 0);have d1:=U (R9.cell 1);generalize wr.heap.size=g9 at*;clear BC R9 BG l7r f0 f1
   have HO:=fun W=>mF z.1 z.2 W
   generalize min z.1 z.2=p' at HO;generalize max z.1 z.2=q' at HO
   by_cases hp:p'=p
   ·by_cases hq:q'=q
    ·
     have CG:(p'==p)=true:=beq_iff_eq.2 hp;have O9:(q'==q)=true:=beq_iff_eq.2 hq;clear hp hq;exact H6
    ·
     have CG:(p'==p)=true:=beq_iff_eq.2 hp;have O9:(q'==q)=false:=beq_eq_false_iff_ne.2 hq;clear hp hq;exact H6
   ·
    have CG:(p'==p)=false:=beq_eq_false_iff_ne.2 hp;clear hp;exact H6
end
section
open Go.RowKit
section
variable {P:Program} {ty k:Nat} {ops:Array Oper} {rest:List Oper} {a:Act} {w:World} {K:Act→World→Prop} {Q:Exit→Act→World→Prop} {dst:Option Tmp} {x v:Operand} {t':TypeId} {pos:String} {after:Array Edge} {gd:Option (Nat × Bool)}
theorem Gi {base e kk n cap g o:Nat} {xs D:List Value} (hx:a.eval x=.pointer (some ⟨g,o,none⟩)) (hv:a.eval v=.agg D.toArray) (hA:kj P ty k) (a_:w.ownsRow base e kk (.slice (some ⟨g,0,none⟩) n cap) n xs) (hn:0<n) (hk:D.length=k)
  (dZ:o+D.length≤xs.length) (h1:∀u∈D,u.oneCell'=true)
  (h:∀w',w'.ownsRow base e kk (.slice (some ⟨g,0,none⟩) n cap) n (ff xs o D)→cH g w w'→wpList P ops Q rest (a.put dst noResult) w'):wpList P ops Q ({dst:=dst,op:=.store ty x v,type:=t',pos:=pos,after:=after,guard:=none}::rest) a w:=by
 obtain⟨g',mS,lr,h2,_,_,_,_,rJ,jy,kv⟩:=cj a_ hn
 injection lr with q1 _ q3
 injection q1 with q1
 injection q1 with q1
 subst q1 q3;have hl:=a_.1;have hle:n*kk≤cap*kk:=Nat.mul_le_mul_right kk h2;exact BY hx hv hA hk (fun j hj=>jy _ (by omega)) (fun j hj=>kv _) h1 (h _ (rJ o D dZ) (cH.iX D o w))
theorem Zf {b o:Nat} {D:List Value} (hx:a.eval x=.pointer (some ⟨b,o,none⟩)) (hA:kj P ty k) (hr:Cl w b o D) (hk:D.length=k)
  (h:wpList P ops Q rest (a.put dst (.agg D.toArray)) w):wpList P ops Q ({dst:=dst,op:=.load ty x,type:=t',pos:=pos,after:=after,guard:=none}::rest) a w:=
 cJ hx hA hr hk h
end
structure fA (base:Nat) (w:World) (gE n5 c5:Nat) (es:List aB) (k:Nat) (e:aB) (EC:List Value) (Cs:List (List Value)):Prop where
 len:Cs.length=es.length
 c7:∀C∈Cs,C.length=7
 own:w.ownsRow base 44 7 (.slice (some ⟨gE,0,none⟩) n5 c5) es.length Cs.flatten
 DK:∀(i:Nat) (C:List Value) (y:aB),Cs[i]? =some C→es[i]? =some y→dn base w C y
 Cm:∀(i j:Nat) (C D:List Value),Cs[i]? =some C→Cs[j]? =some D→i<j→dm C=none∨dm C≠dm D
 at_:Cs[k]? =some EC
 ZY:es[k]? =some e
theorem fA.hk {base:Nat} {w:World} {gE n5 c5:Nat} {es:List aB} {k:Nat} {e:aB} {EC:List Value} {Cs:List (List Value)} (h:fA base w gE n5 c5 es k e EC Cs):k<es.length:=by
 rcases Nat.lt_or_ge k es.length with hl|hl
 ·exact hl
 ·have:=h.ZY;rw[List.getElem?_eq_none hl] at this;cases this
theorem fA.cl {base:Nat} {w:World} {gE n5 c5:Nat} {es:List aB} {k:Nat} {e:aB} {EC:List Value} {Cs:List (List Value)} (h:fA base w gE n5 c5 es k e EC Cs):Cl w gE (k*7) EC∧dE w gE 44∧base≤gE:=by
 obtain⟨g',mS,lr,_,_,hb,dW,aO,_⟩:=cj h.own (by have:=h.hk;omega)
 injection lr with q1
 injection q1 with q1
 injection q1 with q1
 subst q1;have h2:=h.at_;have hk:=h.hk;have hl:=h.len;rw[List.getElem?_eq_getElem (by omega)] at h2
 injection h2 with h2
 have:=aO.part (k*7) 7;rw[mr Cs k h.c7 (by omega),Nat.zero_add,h2] at this;exact⟨this,dW,hb⟩
theorem fA.aa {base t:Nat} {w w':World} {gE n5 c5:Nat} {es:List aB} {k:Nat} {e:aB} {EC:List Value} {Cs:List (List Value)} (h:fA base w gE n5 c5 es k e EC Cs) (hk:ah t w w')
  (h1:t≠3:=by decide) (h2:t≠9:=by decide) (h3:t≠47:=by decide) (h4:t≠152:=by decide) (h5:t≠22:=by decide) (h6:t≠44:=by decide):fA base w' gE n5 c5 es k e EC Cs:=
 ⟨h.len,h.c7,hk.own h.own (Ne.symm h6),fun i C y a b=>(h.DK i C y a b).aa hk h1 h2 h3 h4 h5,h.Cm,h.at_,h.ZY⟩
theorem fA.ej {base:Nat} {w:World} {gE n5 c5:Nat} {es:List aB} {k:Nat} {e:aB} {EC:List Value} {Cs:List (List Value)} (h:fA base w gE n5 c5 es k e EC Cs):ej base w (.slice (some ⟨gE,0,none⟩) n5 c5) es:=⟨Cs,h.len,h.c7,h.own,h.DK,h.Cm⟩
def dP (e:aB) (E1:Option Addr) (b1:Nat) (E2:Option Addr) (b2:Nat) (E3:Option Addr) (b3:Nat) (E4:Option Addr) (b4:Nat) (E5:Option Addr) (b5:Nat):List Value:=
 [.slice E1 e.aD.length b1,.int .i64 e.state,.int .i64 e.bF,.slice E2 e.b_.length b2,.slice E3 e.fair.length b3,.slice E4 e.log.length b4,.slice E5 e.rows.length b5]
theorem qu {base:Nat} {w:World} {A5:Option Addr} {n5 c5:Nat} {es:List aB} {k:Nat} {e:aB} (h:ej base w (.slice A5 n5 c5) es) (hk:es[k]? =some e):
  ∃gE E1 b1 E2 b2 E3 b3 E4 b4 E5 b5 Cs,A5=some ⟨gE,0,none⟩∧fA base w gE n5 c5 es k e (dP e E1 b1 E2 b2 E3 b3 E4 b4 E5 b5) Cs:=by
 obtain⟨Cs,hl,h7,a_,dZ,nQ⟩:=h;have aS:k<es.length:=(List.getElem?_eq_some_iff.1 hk).1;obtain⟨g',mS,lr,_⟩:=cj a_ (by omega)
 injection lr with q1 q2 q3
 subst q1;have hc:Cs[k]? =some (Cs[k]'(by omega)):=List.getElem?_eq_getElem _;obtain⟨E1,b1,E2,b2,E3,b3,E4,b4,E5,b5,hC,_,_⟩:=(dZ k _ e hc hk).out;rw[hC] at hc;exact⟨g',E1,b1,E2,b2,E3,b3,E4,b4,E5,b5,Cs,rfl,hl,h7,a_,dZ,nQ,hc,hk⟩
theorem AV {base:Nat} {w:World} {gE n5 c5:Nat} {es:List aB} {k:Nat} {e:aB} {E1:Option Addr} {b1:Nat} {E2:Option Addr} {b2:Nat} {E3:Option Addr} {b3:Nat} {E4:Option Addr} {b4:Nat} {E5:Option Addr} {b5:Nat} {Cs:List (List Value)}
  (h:fA base w gE n5 c5 es k e (dP e E1 b1 E2 b2 E3 b3 E4 b4 E5 b5) Cs) {m:Nat} (hm:e.aD.length=m+1):
  ∃gV it CL,E1=some ⟨gV,0,none⟩∧e.aD[m]? =some it∧it∈e.aD∧du e=it.id∧Cl w gV (m*17) CL∧CL.length=17∧dO w CL it∧gV<w.heap.size∧dE w gV 47∧base≤gV∧m+1≤b1:=by
 have hO:=h.DK k _ e h.at_ h.ZY;obtain⟨vv,va,vf,vl,vm,he,h1,_⟩:=hO;unfold dP ig at he
 injection he with q1 he
 subst q1;have hx:e.aD[m]? =some (e.aD[m]'(by omega)):=List.getElem?_eq_getElem _;obtain⟨g,cap,C,hv,pg,_,hb,dW,oh,aO,hR⟩:=j_.get h1 hx
 injection hv with q2 q3 q4
 subst q2 q4;obtain⟨v,tw,tz,T_,hv4⟩:=Pt (e:=e) (by omega);rw[hm,Nat.add_sub_cancel,hx] at hv4
 injection hv4 with hv4
 refine⟨g,_,C,rfl,hx,List.getElem_mem _,?_,aO,oh,cy.s_ hR,dW.lt,dW,hb,by omega⟩;rw[T_,←hv4]
theorem Fi {Cs:List (List Value)} {k j:Nat} {EC D:List Value} (h7:∀C∈Cs,C.length=7) (h:Cs[k]? =some EC) (hj:j+D.length≤7):ff Cs.flatten (k*7+j) D=(Cs.set k (ff EC j D)).flatten:=by
 have hk:k<Cs.length:=(List.getElem?_eq_some_iff.1 h).1;rw[List.getElem?_eq_getElem hk] at h
 injection h with h
 rw[Hm Cs k j D h7 hk hj,h]
section
variable {P:Program} {ty m:Nat} {ops:Array Oper} {rest:List Oper} {a:Act} {w:World} {K:Act→World→Prop} {Q:Exit→Act→World→Prop} {dst:Option Tmp} {x v:Operand} {t':TypeId} {pos:String} {after:Array Edge}
variable {base gE n5 c5 k:Nat} {es:List aB} {e:aB} {EC:List Value} {Cs:List (List Value)}
theorem fA.n (h:fA base w gE n5 c5 es k e EC Cs):n5=es.length:=by
 obtain⟨_,_,lr,_⟩:=cj h.own (by have:=h.hk;omega);injection lr with _ q2
theorem fA.ec (h:fA base w gE n5 c5 es k e EC Cs):EC.length=7:=h.c7 EC (List.mem_of_getElem? h.at_)
theorem fA.entry (h:fA base w gE n5 c5 es k e EC Cs):dn base w EC e:=h.DK k EC e h.at_ h.ZY
def Dk (base:Nat) (gE n5 c5:Nat) (es:List aB) (k j:Nat) (D EC:List Value) (Cs:List (List Value)) (w w':World):Prop:=
 cH gE w w'∧w'.ownsRow base 44 7 (.slice (some ⟨gE,0,none⟩) n5 c5) es.length (Cs.set k (ff EC j D)).flatten
theorem vO {j o:Nat} {D:List Value} (hx:a.eval x=.pointer (some ⟨gE,o,none⟩)) (ho:o=k*7+j) (hv:a.eval v=.agg D.toArray) (hA:kj P ty m) (hE:fA base w gE n5 c5 es k e EC Cs) (hk:D.length=m) (hj:j+D.length≤7) (h1:∀u∈D,u.oneCell'=true)
  (h:∀w',Dk base gE n5 c5 es k j D EC Cs w w'→wpList P ops Q rest (a.put dst noResult) w'):wpList P ops Q ({dst:=dst,op:=.store ty x v,type:=t',pos:=pos,after:=after,guard:=none}::rest) a w:=by
 have hn:=hE.n;subst ho hn;have uA:Cs.flatten.length=es.length*7:=hE.own.1;have nV:=hE.hk
 refine Gi hx hv hA hE.own (by omega) hk (by rw[uA];omega) h1 fun w' hw hp=>h w' ⟨hp,?_⟩
 rw[Fi hE.c7 hE.at_ hj] at hw;exact hw
theorem Dk.at_ {j:Nat} {D:List Value} {w':World} {e':aB} (h:Dk base gE n5 c5 es k j D EC Cs w w') (hE:fA base w gE n5 c5 es k e EC Cs) (hj:j+D.length≤7) (uE:dn base w' (ff EC j D) e')
  (sw:dm (ff EC j D)=dm EC∨∀q,dm (ff EC j D)=some q→w.heap.size≤q):fA base w' gE n5 c5 (es.set k e') k e' (ff EC j D) (Cs.set k (ff EC j D)):=by
 obtain⟨hp,a_⟩:=h;have nV:=hE.hk;have hl:=hE.len;have dW:=hE.cl.2.1;have dp:=hE.ec;have I':=hp.aa dW
 have hlen:(ff EC j D).length=7:=by unfold ff;simp;omega
 have XC:∀(i:Nat) (C:List Value),i≠k→Cs[i]? =some C→dm C=none∨dm C≠dm (ff EC j D):=by
  intro i C hi hC
  have hd:dm C=none∨dm C≠dm EC:=by
   rcases Nat.lt_or_ge i k with aS|Ar
   ·exact hE.Cm i k C EC hC hE.at_ aS
   ·rcases hE.Cm k i EC C hE.at_ hC (by omega) with q|q
    ·by_cases hn:dm C=none
     ·exact Or.inl hn
     ·exact Or.inr (fun e=>hn (e.trans q))
    ·exact Or.inr (Ne.symm q)
  rcases sw with hv|hv
  ·rw[hv];exact hd
  ·cases hc:dm C with
   |none=>exact Or.inl rfl
   |some q=>
    refine Or.inr fun e=>?_
    have h1:=hv q (by rw[←e]);have I9:i<Cs.length:=(List.getElem?_eq_some_iff.1 hC).1;have h2:=(vj (hE.DK i C _ hC (List.getElem?_eq_getElem (by omega))) q hc).2;omega
 have lp:∀(i j':Nat) (C D':List Value),(Cs.set k (ff EC j D))[i]? =some C→(Cs.set k (ff EC j D))[j']? =some D'→i<j'→dm C=none∨dm C≠dm D':=by
  intro i j' C D' h1 h2 bE;rw[List.getElem?_set] at h1 h2
  by_cases b:k=i
  ·subst b;rw[if_neg (show ¬k=j' by omega)] at h2;rw[if_pos rfl,if_pos (by omega)] at h1
   injection h1 with h1
   subst h1
   rcases XC j' D' (by omega) h2 with q|q
   ·by_cases hn:dm (ff EC j D)=none
    ·exact Or.inl hn
    ·exact Or.inr (fun e=>hn (e.trans q))
   ·exact Or.inr (Ne.symm q)
  ·rw[if_neg b] at h1
   by_cases d:k=j'
   ·subst d;rw[if_pos rfl,if_pos (by omega)] at h2
    injection h2 with h2
    subst h2;exact XC i C (by omega) h1
   ·rw[if_neg d] at h2;exact hE.Cm i j' C D' h1 h2 bE
 refine⟨by rw[List.length_set,List.length_set,hl],fun C hC=>?_,by rw[List.length_set];exact a_,fun i C y h1 h2=>?_,lp,by rw[List.getElem?_set_self (by omega)],by rw[List.getElem?_set_self nV]⟩
 ·rcases qD hC with rfl|hC
  ·exact hlen
  ·exact hE.c7 C hC
 ·rw[List.getElem?_set] at h1 h2
  by_cases b:k=i
  ·subst b;rw[if_pos rfl,if_pos (by omega)] at h1;rw[if_pos rfl,if_pos nV] at h2
   injection h1 with h1
   injection h2 with h2
   subst h1 h2;exact uE
  ·rw[if_neg b] at h1 h2;exact(hE.DK i C y h1 h2).aa I' (by decide) (by decide) (by decide) (by decide) (by decide)
theorem jf {E1:Option Addr} {b1:Nat} {E2:Option Addr} {b2:Nat} {E3:Option Addr} {b3:Nat} {E4:Option Addr} {b4:Nat} {E5:Option Addr} {b5:Nat} (h:dn base w (dP e E1 b1 E2 b2 E3 b3 E4 b4 E5 b5) e):
  kg base w (.slice E1 e.aD.length b1) e.aD∧db base w (.slice E2 e.b_.length b2) e.b_∧db base w (.slice E3 e.fair.length b3) e.fair∧nh base w (.slice E4 e.log.length b4) e.log∧i' base w (.slice E5 e.rows.length b5) e.rows:=by
 obtain⟨vv,va,vf,vl,vm,he,h1,h2,h3,h4,h5⟩:=h;unfold dP ig at he;simp only[List.cons.injEq] at he;obtain⟨rfl,_,_,rfl,rfl,rfl,rfl,_⟩:=he;exact⟨h1,h2,h3,h4,h5⟩
end
theorem oG {w0 w':World} {g gE n5 c5 k:Nat} {b:cK} {c:eH} {M:Prop} {es:List aB} {e e':aB} {EC:List Value} {Cs:List (List Value)} {v1 v2 v3 v4 v6:Value} (hb:Below w0.heap.size w0 w')
  (hR:Row w' g 31 [.int .i64 b.now,v1,v2,v3,v4,.slice (some ⟨gE,0,none⟩) n5 c5,v6]) (h1:db w0.heap.size w' v1 b.aP) (h2:db w0.heap.size w' v2 b.pri) (h3:kE w0.heap.size w' v3 b.dJ) (h4:jI w0.heap.size w' v4 b.af) (h6:zt w0.heap.size w' v6 b.ft)
  (hE:fA w0.heap.size w' gE n5 c5 es k e' EC Cs) (I3:es=b.entries.set k e') (hk:b.entries[k]? =some e)
  (hn:(e'.aD=e.aD)∨(fb c.item=0∧c.item.id=du e∧e'.aD=e.aD++ [c.item])) (hr:Km e e' c.rows):fH w0 g b c M (fun _=>True) (.returned (.int .i64 0)) w':=by
 refine⟨0,rfl,hb,fun _=>⟨{b with entries:=b.entries.set k e'},_,?_,trivial,hR,⟨_,_,_,_,_,_,rfl,h1,h2,h3,h4,?_,h6⟩⟩,fun _=>rfl⟩
 ·rcases hn with hn|⟨a,b,c⟩
  ·exact .change k e e' hk hn hr rfl
  ·exact .SD k e e' hk a b c hr rfl
 ·subst I3;exact hE.ej
theorem fZ {a:Act} {t:Nat} {b:Bool} (h:a.tmps[t]?.getD undef=.bool b):a.tmps[t]? =some (.bool b):=by
 cases hh:a.tmps[t]? with
 |none=>rw[hh] at h;cases h
 |some v=>rw[hh] at h;exact congrArg some h
end
section
open Go.RowKit
open Tryz
theorem oY.xG {w:World} {A:Option Addr} {n k:Nat} {rows:List (List Int)} (h:oY w A n rows) (hk:n≤k) (hn:n≤1100000):wT w (.slice A n k) rows:=by
 obtain⟨hl,us,hs,hu⟩:=h;subst hl;refine⟨A,k,us,rfl,hk,by unfold maxLen;omega,hs,fun i u hi=>?_⟩
 have aS:i<rows.length:=by rw[←hs.1];exact(List.getElem?_eq_some_iff.1 hi).1
 have:=(hu i u rows[i] hi (List.getElem?_eq_getElem aS)).1
 simpa[List.getD,List.getElem?_eq_getElem aS] using this
theorem Ew {w:World} {C:List Value} {it:aA} (h:dO w C it):C[2]? =some (.int .i64 it.kind)∧C[9]? =some (.int .i64 it.aP):=by
 obtain⟨_,_,_,_,rfl,_⟩:=h;exact⟨rfl,rfl⟩
theorem Qo (C CI:List Value) (A1 A:Option Addr) (n1 c1 n k:Nat) (it:aA) (rows:List (List Int)) (w:World) (hC:C.length=7) (nb:C[1]? =some (.slice A1 n1 c1)) (ix:n1≤1100000) (hI:dO w CI it) (hp: -1100000≤it.aP∧it.aP≤1100000) (hr:oY w A n rows) (hnk:n≤k) (hn:n≤1100000):
  Calls prog 96 #[.agg C.toArray,.agg CI.toArray,.agg #[.slice A n k]] w fun e w'=>IsE e∧Below w.heap.size w w':=by
 have ae1:=hI.len;obtain⟨i2,i9⟩:=Ew hI
 have HM:=fun W (hb:Below w.heap.size w W)=>MC (.slice A n k) rows (n1:Int) W ((hr.below hb).xG hnk hn)
 have HC:=fun W (hb:Below w.heap.size w W)=>Th (.slice A n k) rows W ((hr.below hb).xG hnk hn)
 clear hI hr;generalize EH rows (n1:Int)=me at HM;generalize OM:((kb rows:Nat):Int)=cc at HC;generalize it.aP=aP at*;generalize it.kind=kd at*;clear OM
 go_enter func96,ntmps96
 by_cases pQ:kd=6
 case pos=>
  have Xm:(kd==6)=true:=beq_iff_eq.2 pQ;clear pQ;have aL:=trivial
  go_wp2_with (first
   |(clear bC;(with_reducible refine ao (C:=[.slice A n k]) ?_ ?_);rfl;intro x3 g5 ew R5 bh;have zo:=h_ R3 ew;have zr:=h_ R4 ew;have EO:=jq BB ew;replace R3:=R3.keep bh;replace R4:=R4.keep bh;replace BB:=az BB bh;clear aG pc tK;have aG:=ae R3 nb;have pc:=ae R4 i2;have tK:=ae R4 i9;have mn:=U (R5.cell 0);clear bh ew;have cz:=trivial)
   |(clear aJ;(with_reducible refine ao (C:=CI) ?_ ?_);rfl;intro x2 g4 cW R4 aF;have nF:=h_ R3 cW;have gl:=jq BB cW;replace R3:=R3.keep aF;replace BB:=az BB aF;clear aG;have aG:=ae R3 nb;have pc:=ae R4 i2;have tK:=ae R4 i9;clear aF cW;have bC:=trivial)
   |(clear aL;(with_reducible refine ao (C:=C) ?_ ?_);rfl;intro x1 g3 aR R3 aw;have jJ:=Nat.le_of_eq aR;have BB:=aw;have aG:=ae R3 nb;clear aw aR;have aJ:=trivial))
  try clear cz
  go_ret
  exact⟨⟨_,rfl⟩,BB⟩
 have Xm:(kd==6)=false:=beq_eq_false_iff_ne.2 pQ;clear pQ;have aL:=trivial
 go_wp2_with (first
  |(clear bC;(with_reducible refine ao (C:=[.slice A n k]) ?_ ?_);rfl;intro x3 g5 ew R5 bh;have zo:=h_ R3 ew;have zr:=h_ R4 ew;have EO:=jq BB ew;replace R3:=R3.keep bh;replace R4:=R4.keep bh;replace BB:=az BB bh;clear aG pc tK;have aG:=ae R3 nb;have pc:=ae R4 i2;have tK:=ae R4 i9;have mn:=U (R5.cell 0);clear bh ew;have cz:=trivial)
  |(clear aJ;(with_reducible refine ao (C:=CI) ?_ ?_);rfl;intro x2 g4 cW R4 aF;have nF:=h_ R3 cW;have gl:=jq BB cW;replace R3:=R3.keep aF;replace BB:=az BB aF;clear aG;have aG:=ae R3 nb;have pc:=ae R4 i2;have tK:=ae R4 i9;clear aF cW;have bC:=trivial)
  |(clear aL;(with_reducible refine ao (C:=C) ?_ ?_);rfl;intro x1 g3 aR R3 aw;have jJ:=Nat.le_of_eq aR;have BB:=aw;have aG:=ae R3 nb;clear aw aR;have aJ:=trivial))
 try clear cz
 have HM':=HM _ BB;refine(HM').mono ?_;rintro r x4 ⟨rfl,ek⟩;replace R3:=R3.keep ek;replace R4:=R4.keep ek;replace R5:=R5.keep ek;replace BB:=az BB ek;clear aG pc tK mn;have aG:=ae R3 nb;have pc:=ae R4 i2;have tK:=ae R4 i9;have mn:=U (R5.cell 0);clear ek
 by_cases hm0:me=0
 case neg=>
  go_wp2_with fail
  go_ret
  exact⟨⟨_,rfl⟩,BB⟩
 subst hm0
 go_wp2_with fail
 have z4:=R4.lt;have z5:=R5.lt
 have Vj:=fun W (hb:Below x4.heap.size x4 W)=>HC W (az BB hb)
 clear HC HM
 go_region_held3 (fun w'=>w'.cell? ⟨g4,9,none⟩=some (.int .i64 aP)∧w'.cell? ⟨g5,0,none⟩=some (.slice A n k))
  ((with_reducible refine And.intro (aT z4 tK ?_) (aT z5 mn ?_))<;>((repeat(first|with_reducible exact Below.refl _ _|with_reducible refine ar ax ?_|with_reducible refine ar aC ?_|with_reducible refine al ?_ _|with_reducible refine bL ?_));done))
  (first
   |(go_at_call 149;((with_reducible refine(Vj _ ?_).mono ?_);(repeat(first|with_reducible exact Below.refl _ _|with_reducible refine ar ax ?_|with_reducible refine ar aC ?_|with_reducible refine al ?_ _|with_reducible refine bL ?_));rintro e wa ⟨rfl,aC⟩)))
 replace aC:=BB.trans ((fU aC).mono BB.size)
 go_wp2_with fail
 all_goals (go_ret;exact⟨⟨_,rfl⟩,aC⟩)
def ME (ps rs:List Int):cK:=⟨0,ps,rs,[],[],[],[]⟩
theorem Td (A1 A2:Option Addr) (n1 c1 n2 c2:Nat) (ps rs:List Int) (w:World) (hp:eI .i64 w (.slice A1 n1 c1) ps) (hr:eI .i64 w (.slice A2 n2 c2) rs) (h1:dF w A1 n1 1 (ps.map (Value.int .i64))) (h2:dF w A2 n2 1 (rs.map (Value.int .i64))) (q1:n1=ps.length) (q2:n2=rs.length) (m1:n1≤1100000) (m2:n2≤1100000):
  Calls prog 15 #[.agg #[.slice A1 n1 c1,.slice A2 n2 c2]] w fun e w'=>∃C:List Value,C.length=7∧(∀u∈C,u.oneCell'=true)∧e=.returned (.tuple #[.agg C.toArray,.int .i64 (jU ps rs)])∧Below w.heap.size w w'∧(jU ps rs=0→cZ w.heap.size w' C (ME ps rs)):=by
 have rj:=Lib.hid q1;have rk:=Lib.hid q2;clear q1 q2
 have HV:=fun W (hb:Below w.heap.size w W)=>Lp (.slice A1 n1 c1) (.slice A2 n2 c2) ps rs W (hp.below hb) (hr.below hb)
 have HC:=fun W (hb:Below w.heap.size w W)=>wA A1 A2 n1 n2 c1 c2 ps rs W (h1.below (by decide) hb) (h2.below (by decide) hb) m1 m2
 clear hp hr h1 h2;generalize jU ps rs=ge at HV ⊢
 go_enter func15,ntmps15
 have aL:=trivial
 go_wp2_with (first
  |(clear bC;(with_reducible refine ak ?_ lT R1 rfl ?_);rfl;have cz:=trivial)
  |(clear aJ;(with_reducible refine bu dG fG ?_);intro x2 g2 cW R2 aF;have jz:=h_ R1 cW;have fP:=jq BB cW;replace R1:=R1.keep aF;replace BB:=az BB aF;clear aF cW;have bC:=trivial)
  |(clear aL;(with_reducible refine ao (C:=[.slice A1 n1 c1,.slice A2 n2 c2]) ?_ ?_);rfl;intro x1 g1 aR R1 aw;have eV:=Nat.le_of_eq aR;have BB:=aw;clear aw aR;have aJ:=trivial))
 try clear cz
 have HV':=HV _ BB;refine(HV').mono ?_;rintro r x3 ⟨rfl,bh⟩;replace R1:=R1.keep bh;replace R2:=R2.keep bh;replace BB:=az BB bh;clear bh;clear HV
 by_cases hz:ge=0
 case neg=>
  have cz:=trivial
  go_wp2_with (first
   |(clear cz;(with_reducible refine av (C:=[.int .i64 0,.slice none 0 0,.slice none 0 0,.slice none 0 0,.slice none 0 0,.slice none 0 0,.slice none 0 0]) ?_ ?_ aN R2 rfl rfl (by simp[Value.oneCell']) ?_);rfl;rfl;have bg:=R2.ty;clear R2;intro x4 R2 jm;have kt:=jm.aa bg;replace R1:=jm.row R1;replace BB:=BB.trans (jm.below fP);clear jm kt bg;have cY:=trivial))
  try clear cY
  refine bodyPost_ret (bH rfl _ rfl aN R2 rfl) rfl ?_;exact⟨[.int .i64 0,.slice none 0 0,.slice none 0 0,.slice none 0 0,.slice none 0 0,.slice none 0 0,.slice none 0 0],rfl,by simp[Value.oneCell'],rfl,BB,fun h=>absurd h hz⟩
 subst hz;have cz:=trivial
 go_wp2_with (first
  |(clear cz;(with_reducible refine ak ?_ lT R1 rfl ?_);rfl;have cY:=trivial))
 try clear cY
 have Vj:=HC _ BB;refine(Vj).mono ?_;rintro r x4 ⟨v,u,rfl,o1,o2,ek⟩;obtain⟨X1,y1,rfl,_,_⟩:=aj o1;obtain⟨X2,y2,rfl,_,_⟩:=aj o2;replace o1:=aX o1 BB.size;replace o2:=aX o2 BB.size;replace R1:=R1.keep ek;replace R2:=R2.keep ek;replace BB:=az BB ek;clear ek;have cY:=trivial
 go_wp2_with (first
  |(clear cY;(with_reducible refine av (C:=[.int .i64 0,.slice X1 n1 y1,.slice X2 n2 y2,.slice none 0 0,.slice none 0 0,.slice none 0 0,.slice none 0 0]) ?_ ?_ aN R2 rfl rfl (by simp[Value.oneCell']) ?_);rfl;rfl;have bg:=R2.ty;clear R2;intro x5 R2 wU;have kt:=wU.aa bg;replace R1:=wU.row R1;replace o1:=kt.own o1;replace o2:=kt.own o2;replace BB:=BB.trans (wU.below fP);clear wU kt bg;have dX:=trivial))
 try clear dX
 refine bodyPost_ret (bH rfl _ rfl aN R2 rfl) rfl ?_;refine⟨[.int .i64 0,.slice X1 n1 y1,.slice X2 n2 y2,.slice none 0 0,.slice none 0 0,.slice none 0 0,.slice none 0 0],rfl,by simp[Value.oneCell'],rfl,BB,⟨_,_,_,_,_,_,rfl,fF o1 rj.out.symm,fF o2 rk.out.symm,World.ownsRow_nil _ _ _ _,World.ownsRow_nil _ _ _ _,ej.nil _ _,World.ownsRow_nil _ _ _ _⟩⟩
theorem Fg {w:World} {A:Option Addr} {n:Nat} {l:List Int} (h:dF w A n 1 (l.map (Value.int .i64))) (hn:n=l.length) (i:Nat) (hi:i<l.length):∃b o,A=some ⟨b,o,none⟩∧w.cell? ⟨b,o+i,none⟩=some (.int .i64 l[i]):=by
 obtain⟨b,o,e,hc⟩:=h.2 (by omega);exact⟨b,o,e,hc i _ (by rw[List.getElem?_map,List.getElem?_eq_getElem hi];rfl)⟩
theorem uY (A:Option Addr) (n c:Nat) (l:List Int) (x:Int) (w:World) (h:dF w A n 1 (l.map (Value.int .i64))) (hn:n=l.length) (ix:n≤1100000):
  Calls prog 13 #[.slice A n c,.int .i64 x] w fun e w'=>e=.returned (.bool (decide (x∈l)))∧Below w.heap.size w w':=by
 have HN:=Lib.hid hn;clear hn;obtain⟨r,hr⟩:∃r,r=decide (x∈l):=⟨_,rfl⟩;rw[←hr];have HR:=Lib.hid hr;clear hr
 go_enter func13,ntmps13
 go_wp2_with fail
 go_loopw [9] (fun i wr=>∃k:Nat,k≤n∧i=.int .i64 k∧Hid (∀j:Nat,j<k→l[j]? ≠some x)∧Below w.heap.size w wr) (fun i _=>n - (intOf i).toNat)
 case atStart=>exact⟨0,Nat.zero_le _,rfl,fun j hj=>absurd hj (Nat.not_lt_zero _),Below.refl _ _⟩
 case round=>
  obtain⟨k,hk,rfl,HM,hb⟩:=hrel
  have kx:(k:Int)<(n:Int)∨¬((k:Int)<(n:Int)):=by omega
  rcases kx with aS|aS
  ·have gA:k<l.length:=by rw[←HN.out];omega
   obtain⟨b,o,rfl,hc⟩:=Fg h HN.out k gA;have jc:=(hb.cell (p:=⟨b,o+k,none⟩) (block_lt_of_cell hc)).trans hc;have HX:Hid (l[k]? =some l[k]):=List.getElem?_eq_getElem gA;generalize l[k]=z at jc HX;clear hc
   by_cases hz:z=x
   ·have CK:(z==x)=true:=beq_iff_eq.2 hz
    have HE:Hid (r=true):=by unfold Hid;rw[HR.out];exact decide_eq_true (by rw[←hz];exact List.mem_of_getElem? HX.out)
    clear hz
    go_wp2_with fail
    go_ret
    exact⟨by rw[HE.out];rfl,hb⟩
   ·have CK:(z==x)=false:=beq_eq_false_iff_ne.2 hz
    have SN:Hid (∀j:Nat,j<k+1→l[j]? ≠some x):=fun j hj=>by
     rcases Nat.lt_or_ge j k with h1|h1
     ·exact HM.out j h1
     ·obtain rfl:j=k:=by omega
      rw[HX.out];intro e;injection e with e;exact hz e
    clear hz
    go_wp2_with fail
    exact⟨⟨k+1,by omega,by go_num,SN,hb⟩,by simp[intOf];omega⟩
  ·have HE:Hid (r=false):=by
    unfold Hid;rw[HR.out];refine decide_eq_false (fun hm=>?_);obtain⟨j,hj,he⟩:=List.mem_iff_getElem.1 hm;exact HM.out j (by have:=HN.out;omega) (by rw[List.getElem?_eq_getElem hj,he])
   go_wp2_with fail
   go_ret
   exact⟨by rw[HE.out];rfl,hb⟩
theorem Fp (A:Option Addr) (n c:Nat) (w:World) (su:n≤c) (ix:n≤9000000000000000000):
  Calls prog 16 #[.slice A n c] w fun e w'=>(∃m c',e=.returned (.slice A m c')∧m≤n∧m≤40∧m≤c'∧(n≤40→m=n))∧Below w.heap.size w w':=by
 go_enter func16,ntmps16
 by_cases h40:(40:Int)<(n:Int)
 ·go_wp2_with fail
  go_ret
  exact⟨⟨40,c,rfl,by omega,Nat.le_refl _,by omega,fun h=>by omega⟩,Below.refl _ _⟩
 ·go_wp2_with fail
  go_ret
  exact⟨⟨n,c,rfl,by omega,by omega,su,fun _=>rfl⟩,Below.refl _ _⟩
theorem wM (A:Option Addr) (n c:Nat) (l:List Int) (w:World) (h:dF w A n 1 (l.map (Value.int .i64))) (hn:n=l.length) (ix:n≤1100000) (hs:∀(i:Nat) (x y:Int),l[i]? =some x→l[i+1]? =some y→x<y):
  Calls prog 11 #[.slice A n c] w fun e w'=>e=.returned (.bool true)∧Below w.heap.size w w':=by
 have HN:=Lib.hid hn;have HS:=Lib.hid hs;clear hn hs
 go_enter func11,ntmps11
 go_wp2_with fail
 go_loopw [3] (fun i wr=>∃k:Nat,1≤k∧k≤n+1∧i=.int .i64 k∧Below w.heap.size w wr) (fun i _=>n+1 - (intOf i).toNat)
 case atStart=>exact⟨1,Nat.le_refl _,by omega,rfl,Below.refl _ _⟩
 case round=>
  obtain⟨k,hk0,hk,rfl,hb⟩:=hrel
  have kx:(k:Int)<(n:Int)∨¬((k:Int)<(n:Int)):=by omega
  rcases kx with aS|aS
  ·have gA:k<l.length:=by rw[←HN.out];omega
   obtain⟨m,rfl⟩:∃m,k=m+1:=⟨k - 1,by omega⟩;obtain⟨b,o,rfl,hc⟩:=Fg h HN.out (m+1) gA;obtain⟨b2,o2,sn,FQ⟩:=Fg h HN.out m (by omega)
   injection sn with sn
   injection sn with hbo1 hbo2
   subst hbo1 hbo2;have jc:=(hb.cell (p:=⟨b,o+(m+1),none⟩) (block_lt_of_cell hc)).trans hc;have ac_:=(hb.cell (p:=⟨b,o+m,none⟩) (block_lt_of_cell FQ)).trans FQ;have Pe:=HS.out m l[m] l[m+1] (List.getElem?_eq_getElem (by omega)) (List.getElem?_eq_getElem gA);generalize l[m]=x at ac_ Pe;generalize l[m+1]=y at jc Pe;clear hc FQ
   have hle:¬(y≤x):=by omega
   have Ax:IntKind.i64.wrap (m:Int)=(m:Int):=by rw[IntKind.wrap_i64];omega
   have hmn:(m:Int)<(n:Int):=by omega
   have ads:(0:Int)≤(m:Int):=by omega
   go_wp2_with fail
   go_quiet (fail)
   go_wp2_with fail
   exact⟨⟨m+1+1,by omega,by omega,by go_num,cr hb nq⟩,by simp[intOf];omega⟩
  ·go_wp2_with fail
   go_ret
   exact⟨rfl,hb⟩
end
section
open Go.RowKit
structure gF where
 kind:Int
 pos:Int
 text:ByteArray
def oE (t:gF):List Value:=[.int .i64 t.kind,.int .i64 t.pos,.string t.text]
def mG (c:UInt8):Bool:=decide (c.toNat<128)&& (c !=40&& (c !=41&& (c !=34&& (c !=60&& (c !=62&& (c !=61&&c !=33))))))
def dU (s:ByteArray):Nat→Int × List gF
 |0=>(-1,[])
 |k+1=>
  if s.data.toList.getD k 0=32 then
   (if 0≤(dU s k).1 then (-1,(dU s k).2++ [⟨6,(dU s k).1,s.extract (dU s k).1.toNat k⟩]) else dU s k)
  else (if (dU s k).1<0 then ((k:Int),(dU s k).2) else dU s k)
def lz (s:ByteArray):List gF:=
 (if 0≤(dU s s.size).1 then (dU s s.size).2++ [⟨6,(dU s s.size).1,s.extract (dU s s.size).1.toNat s.size⟩] else (dU s s.size).2)++ [⟨0,s.size,ByteArray.empty⟩]
theorem vN (s:ByteArray):∀k:Nat,(dU s k).1<(k:Int)∧ -1≤(dU s k).1∧(dU s k).2.length≤k
 |0=>by simp[dU]
 |k+1=>by
  have ih:=vN s k;rw[dU]
  split
  ·split
   ·simp;omega
   ·omega
  ·split
   ·simp;omega
   ·omega
inductive fe where
 |state (s:ByteArray)
 |neg (k:fe)
 |alt (a b:fe)
def gO:List ByteArray:=[⟨#[100,114,97,102,116]⟩,⟨#[99,111,110,116,101,110,116]⟩,⟨#[102,97,105,114]⟩,⟨#[112,114,101,116,101,115,116]⟩,⟨#[97,99,116,105,118,101]⟩,⟨#[104,101,108,100]⟩,⟨#[114,101,116,105,114,101,100]⟩]
def dK:ByteArray:=⟨#[100,114,97,102,116]⟩
def ef:ByteArray:=⟨#[97,99,116,105,118,101]⟩
def eN (st:Int):fe→Bool
 |.state s=>if s=dK then decide (st=1) else decide (st=5)
 |.neg k=>!eN st k
 |.alt a b=>eN st a||eN st b
def iK (es:List aB) (q:fe):List Int:=kJ ((es.filter fun e=>eN e.state q).map du)
theorem oa (l:List Int):(kJ l).Perm l:=List.mergeSort_perm _ _
theorem Nn (l:List Int):(kJ l).Pairwise (· ≤ ·):=by
 have h:=List.pairwise_mergeSort (le:=fun x y:Int=>decide (x≤y)) (fun a b c h1 h2=>by simp at*;omega) (fun a b=>by simp;omega) l;exact h.imp fun h=>by simpa using h
theorem Fe {es:List aB} {q:fe} {i:Int}:i∈iK es q↔∃e∈es,eN e.state q=true∧du e=i:=by
 unfold iK;rw[(oa _).mem_iff,List.mem_map]
 constructor
 ·rintro⟨e,he,hi⟩;rw[List.mem_filter] at he;exact⟨e,he.1,he.2,hi⟩
 ·rintro⟨e,he,hm,hi⟩;exact⟨e,List.mem_filter.2 ⟨he,hm⟩,hi⟩
theorem Md {es:List aB} (h:(es.map du).Nodup) (f:aB→Bool):((es.filter f).map du).Nodup:=
 h.sublist ((List.filter_sublist).map du)
theorem uV {es:List aB} (h:(es.map du).Nodup) (q:fe):(iK es q).Pairwise (· < ·):=by
 have h1:=Nn ((es.filter fun e=>eN e.state q).map du);have h2:(iK es q).Nodup:=(oa _).nodup_iff.2 (Md h _);unfold iK at h2 ⊢;exact(h1.and h2).imp fun⟨a,b⟩=>by omega
theorem Cj {l:List Int} (h:l.Pairwise (· < ·)):Go.Lib.compact l=l:=by
 refine Go.Lib.compact_all l fun j hj=>?_
 rcases Nat.eq_zero_or_pos j with rfl|h0
 ·simp[Go.Lib.keeps]
 ·refine Go.Lib.keeps_pos ?_;have:=(List.pairwise_iff_getElem.1 h) (j - 1) j (by omega) hj (by omega)
  simp[hj,show j - 1<l.length by omega]
  omega
theorem Zc {es:List aB} (q:fe) (h:∀e∈es,eN e.state q=true):(iK es q).length=es.length:=by
 unfold iK;rw[(oa _).length_eq,List.length_map,List.filter_eq_self.2 h]
theorem DM {es:List aB} (h:(es.map du).Nodup) (cu:∀e∈es,0<e.aD.length) {e:aB} (he:e∈es):∃k:Nat,fR es (du e)=k∧es[k]? =some e:=by
 obtain⟨k,hk,rfl⟩:=List.mem_iff_getElem.1 he;refine⟨k,?_,List.getElem?_eq_getElem hk⟩
 refine DL hk ?_ fun j hj=>?_
 ·unfold my;simp[cu _ he]
 ·unfold my;rw[Bool.and_eq_false_iff]
  right
  rw[decide_eq_false_iff_not];have h1:=List.pairwise_iff_getElem.1 h j k (by simp;omega) (by simp;omega) hj
  simpa using h1
end
end Go.Proofs.YtdnpopjabpklnaaGreatDoor
