/- Contracts and plain laws that the proof of the top laws uses (G02). No condition beyond those stated. -/
import Derived.Below
import Derived.ChangeSame
import Derived.Deep.Draws
import Derived.ProofKit
import Derived.OpenShut
import Derived.Laws.OwnMore
import Derived.Laws.Rows
import Derived.Laws.NewBlocks
import Derived.Laws.MakeOwn
import Derived.OwnWalk
import Derived.Lib.Hide
import Derived.Laws.CopyOwn
import Derived.Maps.AppendAt
import Derived.Lib.IndexMore
import Derived.Lib.Strings
import Derived.Test.YtdnpopjabpklnaaGreatDoorProg
import Derived.WalkKit
import Derived.LoopTactic
import Derived.Outline
import Derived.WalkSpells
import Derived.Deep.QuietTactic
import Derived.BigQuiet
import Derived.Deep.Cut
import Derived.Deep.DeepCutAuto
import Derived.Deep.Light
import Derived.Deep.RegionHeld3
import Derived.Lib.SliceRun
import Derived.RowKit
set_option maxRecDepth 100000
set_option maxHeartbeats 64000000
set_option linter.all false
namespace Go.Proofs.YtdnpopjabpklnaaGreatDoor
section
open Go.RowKit Go.WideShapes Go.ChangeShapes
theorem cr {B:Nat} {a w:World} (h:Below B a w) (n:Nat):Below B a (w.drewN n):=⟨h.os,h.tape,h.output,h.size,h.block⟩
theorem fU {B:Nat} {w w':World} (h:Below B w.drew w'):Below B w w':=⟨h.os,h.tape,h.output,h.size,h.block⟩
section
variable {H:Type} {enc:TypeId × Value→H} {P:Program}
theorem EZ {f:Func} {s:ChangeSpec} {apart fresh handsOn again:Bool} {W W':World} {args:Array Value} {v:Value} {ds gs:List (DataW H)} {before pa pv:List MemPlace}
  (hW:DataW.Whole enc P f.params.toList s.vars apart W args.toList ds gs before)
  (wH:∀(b:Nat) (sp:Nat→Bool) (hd:Bool),DataW.TrodAll enc P W' b sp hd f.resultTypes.toList (v.resultList f.resultTypes.size) (s.fn H (ds++gs)).results [])
  (IY:∀sp:Nat→Bool,(∀p∈before,sp p.block=true)→DataW.TrodAll enc P W' 0 sp true f.params.toList args.toList (s.fn H (ds++gs)).args pa)
  (XW:∀sp:Nat→Bool,(∀p∈before,sp p.block=true)→DataW.TrodVars enc P W' sp s.vars (s.fn H (ds++gs)).vars pv)
  (jk:before=pa++pv) (hb:Below W.heap.size W W')
  (iy:∀(j:Nat) (t:TypeId) (r:Value),f.resultTypes[j]? =some t→(v.resultList f.resultTypes.size)[j]? =some r→Value.okWide P W' .any 0 t r):
  s.post enc P f apart fresh handsOn again W args v W':=by
 have aS:∀p∈before,p.block<W.heap.size:=fun p hp=>hW.lt p hp
 have hold:∀p∈before,(fun b=>decide (b<W.heap.size)) p.block=true:=fun p hp=>by simpa using aS p hp
 refine⟨ds,gs,before,[],pa,pv,hW,wH _ _ _,IY _ hold,XW _ hold,World.keptBut_mono (fun p hp=>⟨hp,?_⟩) (hb.frame (· ∈before)),fun _=>?_⟩
 ·rw[jk,List.mem_append] at hp;exact Or.inr hp
 ·obtain⟨_,_,_,_,_,hz,hn⟩:=hW;refine⟨iy,_,_,([]++pa)++pv,⟨[]++pa,pv,trodAll_append (IY _ (fun _ _=>rfl)) (wH _ _ _),XW _ (fun _ _=>rfl),rfl,?_,?_⟩,?_⟩
  ·intro b off hp
   have dZ:MemPlace.cell b off∈before:=by rw[jk];simpa using hp
   rw[hb.frozen (aS _ dZ)];exact hz b off dZ
  ·intro ha;have:=hn ha;rw[jk] at this
   simpa using this
  ·intro p hp _;rw[jk]
   simpa using hp
theorem uZ (hl:laidOutB P=true) {W W':World} {sp':Nat→Bool}:∀{ts:List TypeId} {vs:List Value} {ds:List (DataW H)} {ps:List MemPlace},
  (∀t∈ts,P.readableRec t=true∧t<P.types.size)→DataW.TrodAll enc P W 0 (fun _=>true) true ts vs ds ps→(∀p∈ps,W.sameAt W' p)→(∀p∈ps,sp' p.block=true)→
  DataW.TrodAll enc P W' 0 sp' true ts vs ds ps
 |[],[],[],_,_,h,_,_=>h
 |t::ts,v::vs,d::ds,ps,hr,h,h1,h2=>by
  obtain⟨p,q,ha,hb,rfl⟩:=h
  refine⟨p,q,WideElems.Trod_stays hl (hr t (by simp)).1 (hr t (by simp)).2 ha (fun x hx=>h1 x (by simp[hx])) (fun x hx=>h2 x (by simp[hx])),
   uZ hl (fun t ht=>hr t (by simp[ht])) hb (fun x hx=>h1 x (by simp[hx])) (fun x hx=>h2 x (by simp[hx])),rfl⟩
 |[],_::_,_,_,_,h,_,_=>h.elim
 |[],[],_::_,_,_,h,_,_=>h.elim
 |_::_,[],_,_,_,h,_,_=>h.elim
 |_::_,_::_,[],_,_,h,_,_=>h.elim
theorem G4 {f:Func} {s:ChangeSpec} {tb:TypeId} {W W':World} {args:Array Value} {ds gs:List (DataW H)} {before:List MemPlace}
  (hl:laidOutB P=true) (hr:∀t∈f.params.toList,P.readableRec t=true∧t<P.types.size) (hv:s.vars=[]) (wH:f.resultTypes=#[tb]) (ab7:P.underlying tb=some .bool)
  (iy:∀(j:Nat) (t:TypeId) (r:Value),f.resultTypes[j]? =some t→((Value.bool true).resultList f.resultTypes.size)[j]? =some r→Value.okWide P W' .any 0 t r)
  (I6:(s.fn H (ds++gs)).results=[.lit (.bool true)]∧(s.fn H (ds++gs)).args=ds∧(s.fn H (ds++gs)).vars=[])
  (hW:DataW.Whole enc P f.params.toList s.vars false W args.toList ds gs before) (hb:Below W.heap.size W W'):
  s.post enc P f false true false false W args (.bool true) W':=by
 have aS:∀p∈before,p.block<W.heap.size:=fun p hp=>hW.lt p hp
 have Ly:=hW;obtain⟨p,q,hA,hV,rfl,hfz,po⟩:=hW;rw[hv] at hV;obtain⟨rfl,rfl⟩:=trodVars_none hV;simp only[List.append_nil] at aS Ly;refine EZ (pa:=p) (pv:=[]) Ly (fun _ _ _=>?_) (fun sp qW=>?_) (fun _ _=>?_) (by simp) hb iy
 ·rw[I6.1,wH];exact trodAll_cons_mk (shut_bool ab7 _) trodAll_mk0
 ·rw[I6.2.1];exact uZ hl hr hA (fun x hx=>hb.same (aS x hx)) qW
 ·rw[I6.2.2,hv];rfl
end
def Sl (w:World) (A:Option Addr) (n:Nat) (xs:List Value):Prop:=
 xs.length=n∧(0<n→∃b o,A=some ⟨b,o,none⟩∧∀j u,xs[j]? =some u→w.cell? ⟨b,o+j,none⟩=some u)
def Row (w:World) (g t:Nat) (xs:List Value):Prop:=w.heap[g]? =some (.cells xs.toArray t (0,0))
def Fu (z:Value) (n:Nat):Array Value:=(List.replicate n z).toArray
section
variable {w w':World} {A:Option Addr} {n g t:Nat} {xs ys:List Value}
theorem Sl.nil:Sl w A 0 []:=⟨rfl,fun h=>absurd h (by omega)⟩
theorem Sl.len (h:Sl w A n xs):xs.length=n:=h.1
theorem Sl.at_ (h:Sl w A n xs) {k:Nat} (hk:k<n):∃b o,A=some ⟨b,o,none⟩∧∀j u,xs[j]? =some u→w.cell? ⟨b,o+j,none⟩=some u:=h.2 (by omega)
theorem Sl.lt (h:Sl w A n xs) {b o:Nat} (hn:0<n) (hA:A=some ⟨b,o,none⟩):b<w.heap.size:=by
 obtain⟨b',o',e,hc⟩:=h.2 hn;subst hA;simp only[Option.some.injEq,Addr.mk.injEq] at e;obtain⟨rfl,rfl,_⟩:=e
 have hx:0<xs.length:=by rw[h.1];exact hn
 exact block_lt_of_cell (hc 0 _ (List.getElem?_eq_getElem hx))
theorem Sl.below (h:Sl w A n xs) (hb:Below w.heap.size w w'):Sl w' A n xs:=by
 refine⟨h.1,fun hn=>?_⟩;obtain⟨b,o,e,hc⟩:=h.2 hn;have aS:=h.lt hn e;exact⟨b,o,e,fun j u hu=>(hb.cell (p:=⟨b,o+j,none⟩) aS).trans (hc j u hu)⟩
theorem Sl.cut (h:Sl w A n xs) {k m c:Nat} (hk:k+m≤n) (hc:n≤c):Sl w (if c=k then A else A.map (·.add k)) m ((xs.drop k).take m):=by
 refine⟨by rw[List.length_take,List.length_drop,h.1];omega,fun hm=>?_⟩;obtain⟨b,o,rfl,dQ⟩:=h.2 (by omega);rw[if_neg (by omega)];refine⟨b,o+k,?_,fun j u hu=>?_⟩
 ·simp only[Option.map_some,Addr.add];split<;>simp_all
 ·rw[Nat.add_assoc];refine dQ _ u ?_;rw[List.getElem?_take] at hu
  split at hu
  ·rw[←hu,List.getElem?_drop]
  ·cases hu
theorem Sl.head (h:Sl w A n xs) {m:Nat} (hm:m≤n):Sl w A m (xs.take m):=by
 refine⟨by rw[List.length_take,h.1];omega,fun hp=>?_⟩;obtain⟨b,o,e,dQ⟩:=h.2 (by omega);refine⟨b,o,e,fun j u hu=>dQ j u ?_⟩;rw[List.getElem?_take] at hu
 split at hu
 ·exact hu
 ·cases hu
theorem Row.lt (h:Row w g t xs):g<w.heap.size:=by
 rcases Nat.lt_or_ge g w.heap.size with aS|Ar
 ·exact aS
 ·unfold Row at h;rw[Array.getElem?_eq_none Ar] at h;cases h
theorem Row.cell (h:Row w g t xs) (i:Nat):w.cell? ⟨g,i,none⟩=xs[i]? :=by
 rw[cell_of_row w g i _ t (0,0) h];simp
theorem U {α:Type} {o:Option α} {v:α} (h:o=some v):o=some v:=h
theorem aM {α:Type} {a b:α} (h:a=b):a=b:=h
theorem Row.frozen (h:Row w g t xs) (i:Nat):w.frozen? ⟨g,i,none⟩=false:=by
 unfold Row at h
 simp[World.frozen?,h]
theorem Row.new (w:World) (t:Nat) (xs:List Value):Row (w.alloc (.cells xs.toArray t)) w.heap.size t xs:=heap_alloc_new w _
theorem Row.abK (w:World) (t:Nat) (z:Value) (n:Nat):Row (w.alloc (.cells (Fu z n) t)) w.heap.size t (List.replicate n z):=heap_alloc_new w _
theorem Row.alloc (h:Row w g t xs) (o:Obj):Row (w.alloc o) g t xs:=(Below.heap_alloc w o g h.lt).trans h
theorem Row.cE (h:Row w g t xs) (i:Nat) (u:Value):Row (w.setCell ⟨g,i,none⟩ u) g t (xs.set i u):=by
 unfold Row at h ⊢
 simp[World.setCell,Array.getElem?_modify,h]
theorem Row.far (h:Row w g t xs) {p:Addr} (hp:g≠p.block) (u:Value):Row (w.setCell p u) g t xs:=(Below.heap_setCell w p u g hp).trans h
theorem Row.below {B:Nat} (h:Row w g t xs) (hb:Below B w w') (hg:g<B):Row w' g t xs:=(hb.block g hg).trans h
theorem Row.keep (h:Row w g t xs) (hb:Below w.heap.size w w'):Row w' g t xs:=h.below hb h.lt
theorem Row.drew (h:Row w g t xs):Row w.drew g t xs:=h
theorem Row.drewN (h:Row w g t xs) (k:Nat):Row (w.drewN k) g t xs:=h
theorem Row.sl (h:Row w g t xs):Sl w (some ⟨g,0,none⟩) xs.length xs:=by
 refine⟨rfl,fun _=>⟨g,0,rfl,fun j u hu=>?_⟩⟩;rw[Nat.zero_add,h.cell,hu]
theorem Sl.fK {base:Nat} {e:TypeId} {v:Value} (h:w.ownsRow base e 1 v n xs):∃A c,v=.slice A n c∧n≤c∧c≤maxLen∧Sl w A n xs:=by
 obtain⟨hl,h⟩:=h
 rcases h with ⟨rfl,rfl⟩|⟨g,cap,cur,rfl,_,hh,su,hm,hs,hx⟩
 ·exact⟨none,0,rfl,by omega,by omega,by simpa using hl,fun h=>absurd h (by omega)⟩
 ·refine⟨_,cap,rfl,su,hm,by simpa using hl,fun _=>⟨g,0,rfl,fun j u hu=>?_⟩⟩;rw[Nat.zero_add,cell_of_row w g j cur e (0,0) hh];rw[←hx,List.getElem?_take] at hu
  split at hu
  ·simpa using hu
  ·cases hu
end
def eI (k:IntKind) (w:World) (v:Value) (zs:List Int):Prop:=
 ∃A c,v=.slice A zs.length c∧zs.length≤c∧c≤maxLen∧Sl w A zs.length (zs.map (Value.int k))
theorem eI.below {k:IntKind} {w w':World} {v:Value} {zs:List Int} (h:eI k w v zs) (hb:Below w.heap.size w w'):eI k w' v zs:=by
 obtain⟨A,c,hv,h1,h2,hs⟩:=h;exact⟨A,c,hv,h1,h2,hs.below hb⟩
theorem eI.fK {k:IntKind} {w:World} {base e n:Nat} {v:Value} {zs:List Int} (h:w.ownsRow base e 1 v n (zs.map (Value.int k))):eI k w v zs:=by
 have hl:n=zs.length:=by have:=h.1;simp at this;omega
 subst hl;obtain⟨A,c,hv,h1,h2,hs⟩:=Sl.fK h;exact⟨A,c,hv,h1,h2,hs⟩
theorem eI.nil (k:IntKind) (w:World):eI k w (.slice none 0 0) []:=⟨none,0,rfl,by simp,by simp,Sl.nil⟩
theorem Sl.num {k:IntKind} {w:World} {A:Option Addr} {n:Nat} {zs:List Int} (h:Sl w A n (zs.map (Value.int k))) {i:Nat} (hi:i<n):
  ∃b o,A=some ⟨b,o,none⟩∧b<w.heap.size∧∀j,j<n→w.cell? ⟨b,o+j,none⟩=some (.int k (zs.getD j 0)):=by
 obtain⟨b,o,e,hc⟩:=h.2 (by omega);refine⟨b,o,e,h.lt (by omega) e,fun j hj=>hc j _ ?_⟩
 have hl:zs.length=n:=by simpa using h.1
 rw[List.getElem?_map,List.getElem?_eq_getElem (by omega)]
 simp[List.getD,List.getElem?_eq_getElem (show j<zs.length by omega)]
def kY (base:Nat):Value→Prop
 |.slice (some a) _ _=>base≤a.block
 |_=>True
theorem kY.mono {b b':Nat} {v:Value} (h:kY b v) (hb:b'≤b):kY b' v:=by
 unfold kY at*
 split
 ·simp only at h;omega
 ·trivial
theorem Sl.cE {w:World} {A:Option Addr} {n:Nat} {xs:List Value} (h:Sl w A n xs) {base c:Nat} (hf:kY base (.slice A n c)) {p:Addr} (hp:p.block<base) (u:Value):Sl (w.setCell p u) A n xs:=by
 refine⟨h.1,fun hn=>?_⟩;obtain⟨b,o,e,hc⟩:=h.2 hn;subst e;have hb:base≤b:=hf;refine⟨b,o,rfl,fun j u' hu=>?_⟩;rw[World.cell?_setCell_other w p _ u (fun e=>by subst e;simp at hp;omega)];exact hc j u' hu
theorem eI.cE {k:IntKind} {w:World} {v:Value} {zs:List Int} (h:eI k w v zs) {base:Nat} (hf:kY base v) {p:Addr} (hp:p.block<base) (u:Value):eI k (w.setCell p u) v zs:=by
 obtain⟨A,c,rfl,h1,h2,hs⟩:=h;exact⟨A,c,rfl,h1,h2,hs.cE hf hp u⟩
theorem Ow {w:World} {base e n:Nat} {v:Value} {xs:List Value} (h:w.ownsRow base e 1 v n xs):kY base v:=by
 rcases h.2 with ⟨rfl,_⟩|⟨g,cap,cur,rfl,hg,_⟩
 ·trivial
 ·exact hg
def Kn (row:Option Nat):Value→Prop
 |.slice (some a) n _=>0<n→row≠some a.block
 |_=>True
theorem Sl.grown {w w':World} {A:Option Addr} {n c:Nat} {xs:List Value} {row:Option Nat} (h:Sl w A n xs) (hg:w.grownBy w' row) (ho:Kn row (.slice A n c)):Sl w' A n xs:=by
 refine⟨h.1,fun hn=>?_⟩;obtain⟨b,o,e,hc⟩:=h.2 hn;have aS:=h.lt hn e;subst e;refine⟨b,o,rfl,fun j u hu=>?_⟩;rw[World.cell?_of_block (w:=w) (hg.block b aS (fun e=>ho hn e.symm))];exact hc j u hu
theorem Sl.off {w:World} {A:Option Addr} {n c:Nat} {xs:List Value} (h:Sl w A n xs) {k:Nat} (hk:w.heap.size≤k):Kn (some k) (.slice A n c):=by
 unfold Kn
 split
 ·rename_i a n' c' e
  injection e with e1 e2 e3
  subst e2;intro hn he;obtain⟨b,o,hA,_⟩:=h.2 hn;have aS:=h.lt hn hA;rw[e1] at hA
  injection hA with hA
  subst hA
  injection he with he
  subst he;omega
 ·trivial
section
variable {P:Program}
theorem run_mk {t e:TypeId} {z:Value} {bytes:Nat} (ht:P.underlying t=some (.slice e)) (jh:(P.info? e).map (fun i=>(i.zero,i.size,i.bytes))=some (some z,1,bytes)) (hz:z.cells=#[z])
  (n:Nat) (hb:bytes*n≤281474976710656) (hm:n≤9223372036854775807) (w:World):
  (Instr.makeSlice t (.int .i64 (n:Int)) (.int .i64 (n:Int))).run P w=.ok (.slice (some ⟨w.heap.size,0,none⟩) n n) (w.alloc (.cells (Fu z n) e)):=by
 obtain⟨i,hi,cD,iG,iM⟩:=info_parts jh
 have aY:(i.bytes:Int)* (n:Int)≤281474976710656:=by
  have h:((i.bytes*n:Nat):Int)≤281474976710656:=by rw[iM];omega
  rwa [Int.natCast_mul] at h
 have hr:=run_make (P:=P) w t e i z ht hi cD .i64 .i64 n n (by omega) (Int.le_refl _) aY (by omega);simp only[Int.toNat_natCast,iG,Nat.mul_one,hz] at hr;rw[hr]
 congr 3
 unfold Fu;rw[←toList_madeCells_one]
theorem az {w x y:World} (h:Below w.heap.size w x) (h':Below x.heap.size x y):Below w.heap.size w y:=h.trans (h'.mono h.size)
theorem jq {B g:Nat} {w x:World} (h:Below B w x) (e:x.heap.size=g):w.heap.size≤g:=e▸h.size
theorem h_ {w:World} {g g' t:Nat} {C:List Value} (h:Row w g t C) (e:w.heap.size=g'):g≠g':=Nat.ne_of_lt (e▸h.lt)
theorem ae {w:World} {g t i:Nat} {C:List Value} {v:Value} (h:Row w g t C) (c:C[i]? =some v):w.cell? ⟨g,i,none⟩=some v:=(h.cell i).trans c
theorem I {w w':World} {base e size n:Nat} {v:Value} {xs:List Value} (h:w.ownsRow base e size v n xs) (hb:Below w.heap.size w w'):w'.ownsRow base e size v n xs:=by
 refine⟨h.1,?_⟩
 rcases h.2 with h0|⟨g,cap,cur,hv,hg,hh,r⟩
 ·exact .inl h0
 ·refine .inr ⟨g,cap,cur,hv,hg,?_,r⟩
  have aS:g<w.heap.size:=by
   rcases Nat.lt_or_ge g w.heap.size with aS|Ar
   ·exact aS
   ·rw[Array.getElem?_eq_none Ar] at hh;cases hh
  exact(hb.block g aS).trans hh
theorem uO {w:World} {base e size n:Nat} {v:Value} {xs:List Value} (h:w.ownsRow base e size v n xs) {p:Addr} (hp:p.block<base) (u:Value):(w.setCell p u).ownsRow base e size v n xs:=ownsRow_setCell_below h hp u
theorem ZO {P:Prop} (h:P:=by
 simp only[List.getElem?_cons_zero,Option.some.injEq] at hu';subst hu'
 exact World.cell?_alloc_at (w:=w) #[u] e w.heap.size 0 rfl):P:=h
theorem lQ (w:World) {ops:Array Oper} {rest:List Oper} {o:Oper} {a:Act} {Q:Exit→Act→World→Prop} (OY:o.guard=none) (s x:Operand) (t:TypeId)
  (ho:o.op=.call {callee:=.builtin .append,args:=#[s,x],argTypes:=#[t,t]})
  (base:Nat) (e:TypeId) (z:Value) (bytes:Nat) (ht:P.underlying t=some (.slice e)) (jh:(P.info? e).map (fun i=>(i.zero,i.size,i.bytes))=some (some z,1,bytes)) (hz:z.cells.size=1)
  (v:Value) (n:Nat) (xs:List Value) (u:Value) (hs:a.eval s=v) (hx:a.eval x=.slice (some ⟨w.heap.size,0,none⟩) 1 1) (a_:w.ownsRow base e 1 v n xs) (hu:u.oneCell'=true)
  (qT:n+1≤maxLen) (gR:(n+1)*bytes≤140737488355328) (fD:base≤w.heap.size)
  (h:∀A' c' w',w'.ownsRow base e 1 (.slice A' (n+1) c') (n+1) (xs++ [u])→Below base w w'→wpList P ops Q rest (a.put o.dst (.slice A' (n+1) c')) w'):wpList P ops Q (o::rest) a (w.alloc (.cells #[u] e)):=by
 obtain⟨i,hi,cD,iG,iM⟩:=info_parts jh;refine wpList_append_own _ OY s x t ho base e i z 1 bytes ht hi cD iG iM hz (by omega) v n xs hs (a_.alloc _) ⟨w.heap.size,0,none⟩ 1 1 [u] hx rfl ?_ (by simpa using hu) qT gR (by simp;omega) ?_
 ·intro j u' hu'
  cases j with
  |zero=>
   exact ZO
  |succ j=>simp at hu'
 ·intro v' w' bU hg _;obtain⟨A',c',rfl,_,_,_⟩:=Sl.fK bU;refine h A' c' w' bU ?_;have aC:Below base w (w.alloc (.cells #[u] e)):=(Below.refl _ _).alloc fD _;exact aC.grown hg (by simp;omega) (fun k hk=>(a_.lt k hk).1)
theorem pF (w:World) (base:Nat) (t ty e:TypeId) (i:TypeInfo) (size:Nat) (ht:P.underlying t=some (.slice e)) (hi:P.info? e=some i)
  (v:Value) (n:Nat) (xs:List Value) (a_:w.ownsRow base e size v n xs) (c:Nat):(Builtin.append_ #[t,t] ty #[v,.slice none 0 c]).run P w=.ok v w:=by
 rcases a_.2 with ⟨rfl,rfl⟩|⟨g,cap,cur,rfl,_,_,su,_⟩
 ·simp[Builtin.append_,run_underlying ht,sizeOf,typeInfo,hi,Builtin.lenOf,Builtin.firstCells]
 ·simp[Builtin.append_,run_underlying ht,sizeOf,typeInfo,hi,Builtin.lenOf,Builtin.firstCells,su,storeCells]
theorem Fc (w:World) (base:Nat) (t ty e:TypeId) (z:Value) (bytes:Nat) (ht:P.underlying t=some (.slice e)) (jh:(P.info? e).map (fun i=>(i.zero,i.size,i.bytes))=some (some z,1,bytes)) (hz:z.cells.size=1)
  (v:Value) (n:Nat) (xs:List Value) (a_:w.ownsRow base e 1 v n xs) (A:Option Addr) (m c:Nat) (ys:List Value) (hr:Sl w A m ys) (h1:∀u∈ys,u.oneCell'=true)
  (qT:n+m≤maxLen) (gR:(n+m)*bytes≤140737488355328) (fD:base≤w.heap.size):
  ∃A' c' w',(Builtin.append_ #[t,t] ty #[v,.slice A m c]).run P w=.ok (.slice A' (n+m) c') w'∧w'.ownsRow base e 1 (.slice A' (n+m) c') (n+m) (xs++ys)∧Below base w w':=by
 obtain⟨i,hi,cD,iG,iM⟩:=info_parts jh
 rcases A with _|ad
 ·have hm:m=0:=by
   rcases Nat.eq_zero_or_pos m with h0|h0
   ·exact h0
   ·obtain⟨b,o,h,_⟩:=hr.2 h0
    cases h
  subst hm;have hn:ys=[]:=List.eq_nil_of_length_eq_zero hr.1;subst hn;obtain⟨A',c',rfl,_,_,_⟩:=Sl.fK a_;exact⟨A',c',w,pF w base t ty e i 1 ht hi _ n xs a_ c,by simpa using a_,Below.refl _ _⟩
 ·have qy:∀j u,ys[j]? =some u→w.cell? (ad.add j)=some u:=by
   intro j u hu
   rcases Nat.eq_zero_or_pos m with h0|h0
   ·subst h0;have hn:ys=[]:=List.eq_nil_of_length_eq_zero hr.1;subst hn
    simp at hu
   ·obtain⟨b,o,h,hc⟩:=hr.2 h0
    injection h with h
    subst h;have:=hc j u hu;unfold Addr.add
    split
    ·rename_i h;subst h;exact this
    ·exact this
  obtain⟨v',w',iI,h2,h3,_⟩:=run_append_own (P:=P) w base t ty e i z 1 bytes ht hi cD iG iM hz (by omega) v n xs a_ ad m c ys (by simpa using hr.1) qy h1 qT gR fD;obtain⟨A',c',rfl,_,_,_⟩:=Sl.fK h2;exact⟨A',c',w',iI,h2,(Below.refl _ _).grown h3 fD (fun k hk=>(a_.lt k hk).1)⟩
theorem ZN {P:Prop} (h:P:=by
 refine wpList_plain OY fun K hK=>?_
 unfold Oper.wp execOp;simp only[ho,resolve,invoke,builtin,Sem.run_bind,Sem.run_pure,Result.andThen_ok,List.map_toArray,List.map_cons,List.map_nil,hs,hx,iI]
 exact hK _ _ (h A' c' w' h2 h3)):P:=h
theorem zy (w:World) (t ty e:TypeId) (z:Value) (bytes:Nat) (ht:P.underlying t=some (.slice e)) (jh:(P.info? e).map (fun i=>(i.zero,i.size,i.bytes))=some (some z,1,bytes)) (hz:z.cells.size=1)
  (A:Option Addr) (m c:Nat) (ys:List Value) (hr:Sl w A m ys) (h1:∀u∈ys,u.oneCell'=true) (qT:m≤maxLen) (gR:m*bytes≤281474976710656):
  ∃A' c' w',(Builtin.append_ #[t,t] ty #[.slice none 0 0,.slice A m c]).run P w=.ok (.slice A' m c') w'∧w'.ownsRow w.heap.size e 1 (.slice A' m c') m ys∧Below w.heap.size w w':=by
 by_cases hs:m*bytes≤140737488355328
 ·have:=Fc (P:=P) w w.heap.size t ty e z bytes ht jh hz (.slice none 0 0) 0 [] (World.ownsRow_nil _ _ _ _) A m c ys hr h1 (by omega) (by simpa using hs) (Nat.le_refl _)
  simpa using this
 ·have hm:0<m:=by
   rcases m with _|m
   ·simp at hs
   ·omega
  obtain⟨i,hi,cD,iG,iM⟩:=info_parts jh;obtain⟨b,o,hA,hc⟩:=hr.2 hm;subst hA
  have hl:ys.length=m*i.size:=by rw[iG,hr.1];omega
  have hg:=grownCap_ge w m 0 e;have DY:grownCap w m 0 e≤maxLen:=grownCap_le_maxLen w m 0 e qT;have iI:=run_append_nil (P:=P) w t ty e i z ht hi cD ⟨b,o,none⟩ m c ys hl (fun j v hv=>by have:=hc j v hv;rw[Addr.add_lit];exact this) hm (by have h:=qT;unfold maxLen at h;omega) (by rw[iM];exact gR);refine⟨_,_,_,iI,⟨by rw[hr.1];omega,.inr ⟨w.heap.size,_,_,rfl,Nat.le_refl _,heap_alloc_new w.drew _,hg,DY,?_,?_⟩⟩,?_⟩
  ·simp only[Array.size_append,List.size_toArray,size_zeroCells,hz,hr.1];omega
  ·rw[←hr.1]
   simp
  ·exact(Below.refl _ _).grown (row:=none) ⟨rfl,rfl,rfl,by simp,fun k hk _=>by first|exact heap_alloc_old w.drew _ k hk|exact heap_alloc_old w.drew _ hk⟩ (Nat.le_refl _) (fun k hk=>by cases hk)
theorem vk (w:World) {ops:Array Oper} {rest:List Oper} {o:Oper} {a:Act} {Q:Exit→Act→World→Prop} (OY:o.guard=none) (s x:Operand) (t:TypeId)
  (ho:o.op=.call {callee:=.builtin .append,args:=#[s,x],argTypes:=#[t,t]})
  (e:TypeId) (z:Value) (bytes:Nat) (ht:P.underlying t=some (.slice e)) (jh:(P.info? e).map (fun i=>(i.zero,i.size,i.bytes))=some (some z,1,bytes)) (hz:z.cells.size=1)
  (A:Option Addr) (m c:Nat) (ys:List Value) (hs:a.eval s=.slice none 0 0) (hx:a.eval x=.slice A m c) (hr:Sl w A m ys) (h1:∀u∈ys,u.oneCell'=true)
  (qT:m≤maxLen) (gR:m*bytes≤281474976710656)
  (h:∀A' c' w',w'.ownsRow w.heap.size e 1 (.slice A' m c') m ys→Below w.heap.size w w'→wpList P ops Q rest (a.put o.dst (.slice A' m c')) w'):wpList P ops Q (o::rest) a w:=by
 obtain⟨A',c',w',iI,h2,h3⟩:=zy (P:=P) w t o.type e z bytes ht jh hz A m c ys hr h1 qT gR;exact ZN
end
end
section
open Go.RowKit
def Cl (w:World) (b o:Nat) (cs:List Value):Prop:=∀j u,cs[j]? =some u→w.cell? ⟨b,o+j,none⟩=some u
section
variable {w w':World} {b o g t e k n base:Nat} {cs xs:List Value} {v:Value}
theorem Cl.below (h:Cl w b o cs) (hb:Below w.heap.size w w') (hl:b<w.heap.size):Cl w' b o cs:=fun j u hu=>(hb.cell (p:=⟨b,o+j,none⟩) hl).trans (h j u hu)
theorem Row.cl (h:Row w g t xs):Cl w g 0 xs:=fun j u hu=>by rw[Nat.zero_add,h.cell,hu]
theorem Cl.lt (h:Cl w b o cs) (hk:0<cs.length):b<w.heap.size:=block_lt_of_cell (h 0 _ (List.getElem?_eq_getElem hk))
theorem Cl.part (h:Cl w b o cs) (i m:Nat):Cl w b (o+i) ((cs.drop i).take m):=fun j u hu=>by
 rw[Nat.add_assoc];refine h _ u ?_;rw[List.getElem?_take] at hu
 split at hu
 ·rw[←hu,List.getElem?_drop]
 ·cases hu
theorem Cl.app {ys:List Value} (h:Cl w b o (xs++ys)):Cl w b o xs∧Cl w b (o+xs.length) ys:=by
 refine⟨fun j u hu=>h j u ?_,fun j u hu=>?_⟩
 ·rw[List.getElem?_append_left];exact hu
  rcases Nat.lt_or_ge j xs.length with hj|hj
  ·exact hj
  ·rw[List.getElem?_eq_none hj] at hu;cases hu
 ·rw[Nat.add_assoc];refine h _ u ?_;rw[List.getElem?_append_right (by omega),Nat.add_sub_cancel_left];exact hu
end
def dF (w:World) (A:Option Addr) (n k:Nat) (xs:List Value):Prop:=xs.length=n*k∧(0<n→∃b o,A=some ⟨b,o,none⟩∧Cl w b o xs)
theorem dF.below {w w':World} {A:Option Addr} {n k:Nat} {xs:List Value} (h:dF w A n k xs) (hk:0<k) (hb:Below w.heap.size w w'):dF w' A n k xs:=by
 refine⟨h.1,fun hn=>?_⟩;obtain⟨b,o,hA,hc⟩:=h.2 hn;exact⟨b,o,hA,hc.below hb (hc.lt (by rw[h.1];exact Nat.mul_pos hn hk))⟩
theorem Sl.jZ {w:World} {A:Option Addr} {n:Nat} {xs:List Value} (h:Sl w A n xs):dF w A n 1 xs:=⟨by rw[h.1];omega,h.2⟩
theorem dF.fK {w:World} {base e n k:Nat} {v:Value} {xs:List Value} (h:w.ownsRow base e k v n xs):∃A c,v=.slice A n c∧n≤c∧c≤maxLen∧dF w A n k xs:=by
 obtain⟨hl,h⟩:=h
 rcases h with ⟨rfl,rfl⟩|⟨g,cap,cur,rfl,_,hh,su,hm,hs,hx⟩
 ·exact⟨none,0,rfl,by omega,by simp[maxLen],hl,fun h=>absurd h (by omega)⟩
 ·refine⟨_,cap,rfl,su,hm,hl,fun _=>⟨g,0,rfl,fun j u hu=>?_⟩⟩;rw[Nat.zero_add,cell_of_row w g j cur e (0,0) hh];rw[←hx,List.getElem?_take] at hu
  split at hu
  ·simpa using hu
  ·cases hu
theorem ai (w:World) (o:Obj):Below w.heap.size w (w.alloc o):=(Below.refl _ _).alloc (Nat.le_refl _) _
theorem aaJ {w:World} {g t:Nat} {xs:List Value} (h:w.heap.size=g):Row (w.alloc (.cells xs.toArray t)) g t xs:=by subst h;exact Row.new w t xs
structure kj (P:Program) (ty k:Nat):Prop where
 un:(match P.underlying ty with|some (.struct _)|some (.array _ _)=>true|_=>false)=true
 sz:(P.info? ty).map (·.size)=some k
structure Rec (P:Program) (ty k:Nat):Prop where
 agg:kj P ty k
 zero:(match P.info? ty with|some i=>(match i.zero with|some z=>z.cells.size==k|none=>false)|none=>false)=true
 st:(match P.underlying ty with|some (.struct _)=>true|_=>false)=true
section
variable {P:Program} {ty k:Nat}
theorem kj.isAgg (h:kj P ty k) (w:World):(Go.isAgg ty).run P w=.ok true w:=by
 have hun:=h.un
 cases hu:P.underlying ty with
 |none=>rw[hu] at hun;cases hun
 |some d=>
  rw[hu] at hun;unfold Go.isAgg;rw[Sem.run_bind,run_underlying hu w]
  cases d<;>simp_all
theorem gZ (h:kj P ty k) {w:World} {b o:Nat} {C:List Value} (hC:Cl w b o C) (hk:C.length=k):(loadVar ty ⟨b,o,none⟩).run P w=.ok (.agg C.toArray) w:=by
 have hl:(loadCells ⟨b,o,none⟩ C.length).run P w=.ok C.toArray w:=
  run_loadCells_list (P:=P) w ⟨b,o,none⟩ C (fun j v hv=>by rw[Addr.add_lit];exact hC j v hv)
 cases hq:P.info? ty with
 |none=>have:=h.sz;simp[hq] at this
 |some i=>
  have hs:i.size=k:=by have:=h.sz;simpa[hq] using this
  subst hk
  simp[loadVar,Sem.run_bind,h.isAgg,sizeOf,typeInfo,hq,hs,hl]
theorem cJ {ops:Array Oper} {rest:List Oper} {a:Act} {w:World} {Q:Exit→Act→World→Prop} {dst:Option Tmp} {x:Operand} {t':TypeId} {pos:String} {after:Array Edge}
  {b o:Nat} {C:List Value} (hx:a.eval x=.pointer (some ⟨b,o,none⟩)) (hA:kj P ty k) (hC:Cl w b o C) (hk:C.length=k)
  (h:wpList P ops Q rest (a.put dst (.agg C.toArray)) w):wpList P ops Q ({dst:=dst,op:=.load ty x,type:=t',pos:=pos,after:=after,guard:=none}::rest) a w:=
 wpList_plain rfl fun K hK=>by
  unfold Oper.wp execOp;simp only[hx,Instr.loadAt,Instr.sureAddr,Sem.run_bind,Sem.run_pure,Result.andThen_ok,gZ hA hC hk];exact hK _ _ h
theorem BY {ops:Array Oper} {rest:List Oper} {a:Act} {w:World} {Q:Exit→Act→World→Prop} {dst:Option Tmp} {x v:Operand} {t':TypeId} {pos:String} {after:Array Edge}
  {b o:Nat} {C:List Value} (hx:a.eval x=.pointer (some ⟨b,o,none⟩)) (hv:a.eval v=.agg C.toArray) (hA:kj P ty k) (hk:C.length=k)
  (hc:∀j,j<C.length→(w.cell? ⟨b,o+j,none⟩).isSome=true) (hf:∀j,j<C.length→w.frozen? ⟨b,o+j,none⟩=false) (h1:∀u∈C,u.oneCell'=true)
  (h:wpList P ops Q rest (a.put dst noResult) (w.setCells b o C)):wpList P ops Q ({dst:=dst,op:=.store ty x v,type:=t',pos:=pos,after:=after,guard:=none}::rest) a w:=
 wpList_plain rfl fun K hK=>by
  have bQ:=run_storeCells_cells (P:=P) b o C 0 w (by simpa using hc) (by simpa using hf) h1;simp only[Nat.add_zero] at bQ
  cases hq:P.info? ty with
  |none=>have:=hA.sz;simp[hq] at this
  |some i=>
   have hs:i.size=k:=by have:=hA.sz;simpa[hq] using this
   subst hk;unfold Oper.wp execOp
   simp[hx,hv,Instr.storeAt,Instr.sureAddr,storeVar,Value.cells,sizeOf,typeInfo,hq,hs,bQ,Result.andThen]
   exact hK _ _ h
theorem Nr {ops:Array Oper} {rest:List Oper} {a:Act} {w:World} {Q:Exit→Act→World→Prop} {dst:Option Tmp} {t':TypeId} {pos:String} {after:Array Edge}
  (hA:Rec P ty k)
  (h:∀Z:List Value,Z.length=k→wpList P ops Q rest (a.put dst (.pointer (some ⟨w.heap.size,0,none⟩))) (w.alloc (.cells Z.toArray ty))):wpList P ops Q ({dst:=dst,op:=.alloc ty,type:=t',pos:=pos,after:=after,guard:=none}::rest) a w:=
 wpList_plain rfl fun K hK=>by
  have hz:=hA.zero;have hg:=hA.st
  cases hi:P.info? ty with
  |none=>rw[hi] at hz;cases hz
  |some i=>
   rw[hi] at hz
   cases cD:i.zero with
   |none=>simp only[cD] at hz;cases hz
   |some z=>
    simp only[cD,beq_iff_eq] at hz
    cases hu:P.underlying ty with
    |none=>rw[hu] at hg;cases hg
    |some d=>
     rw[hu] at hg;unfold Oper.wp execOp
     cases d<;>simp only[Bool.false_eq_true] at hg
     simp[Instr.alloc,zeroValue,typeInfo,hi,cD,newVar,newRow,Result.andThen]
     have:=hK _ _ (h z.cells.toList (by simpa using hz));rw[Array.toArray_toList] at this;exact this
end
end
section
open Go.RowKit
def dE (w:World) (g t:Nat):Prop:=∃cs fr,w.heap[g]? =some (.cells cs t fr)
def ah (t:TypeId) (w w':World):Prop:=w.heap.size≤w'.heap.size∧∀(b:Nat) (cs:Array Value) (e:TypeId) (fr:Nat × Nat),w.heap[b]? =some (Obj.cells cs e fr)→e≠t→w'.heap[b]? =some (Obj.cells cs e fr)
section
variable {w w' w2:World} {t e g base k n:Nat} {v:Value} {xs:List Value}
theorem Row.ty (h:Row w g t xs):dE w g t:=⟨_,_,h⟩
theorem dE.lt (h:dE w g t):g<w.heap.size:=by
 obtain⟨cs,fr,h⟩:=h
 rcases Nat.lt_or_ge g w.heap.size with hl|hl
 ·exact hl
 ·rw[Array.getElem?_eq_none hl] at h;cases h
theorem dE.keep (h:dE w g t) (hb:Below w.heap.size w w'):dE w' g t:=by
 obtain⟨cs,fr,h0⟩:=id h;exact⟨cs,fr,(hb.block g h.lt).trans h0⟩
theorem dE.ne {t' g':Nat} (h:dE w g t) (h':dE w g' t') (cu:t≠t'):g≠g':=by
 rintro rfl;obtain⟨_,_,a⟩:=h;obtain⟨_,_,b⟩:=h';rw[a] at b
 injection b with b
 injection b with _ b _
 exact cu b
theorem ah.refl (t:TypeId) (w:World):ah t w w:=⟨Nat.le_refl _,fun _ _ _ _ h _=>h⟩
theorem ah.trans (h:ah t w w') (h':ah t w' w2):ah t w w2:=⟨Nat.le_trans h.1 h'.1,fun b cs e fr hb he=>h'.2 b cs e fr (h.2 b cs e fr hb he) he⟩
theorem ah.ab (hb:Below w.heap.size w w'):ah t w w':=⟨hb.size,fun b cs e fr h he=>by
 have hl:b<w.heap.size:=dE.lt ⟨cs,fr,h⟩
 rw[hb.block b hl,h]⟩
theorem ah.Hb {row:Option Nat} (hg:w.grownBy w' row) (hr:∀g,row=some g→dE w g t):ah t w w':=⟨hg.size,fun b cs e fr h he=>by
 have hl:b<w.heap.size:=dE.lt ⟨cs,fr,h⟩;rw[hg.block b hl ?_,h];intro hh
 exact absurd rfl (dE.ne ⟨cs,fr,h⟩ (hr b hh.symm) he)⟩
theorem ah.set (h:dE w g t) (o:Nat) (u:Value):ah t w (w.setCell ⟨g,o,none⟩ u):=by
 refine⟨by simp,fun b cs e fr hb he=>?_⟩;have cu:b≠g:=dE.ne ⟨cs,fr,hb⟩ h he;rw[Below.heap_setCell w ⟨g,o,none⟩ u b cu,hb]
theorem dE.set (h:dE w g t) (p:Addr) (u:Value):dE (w.setCell p u) g t:=by
 obtain⟨cs,fr,h⟩:=h
 by_cases hp:g=p.block
 ·subst hp;unfold dE;simp only[World.setCell,Array.getElem?_modify,h,Option.map_some,if_true];exact⟨_,_,rfl⟩
 ·exact⟨cs,fr,by rw[Below.heap_setCell w p u g hp,h]⟩
theorem ah.iX:∀(us:List Value) (w:World) (o:Nat),dE w g t→ah t w (w.setCells g o us)
 |[],w,o,_=>ah.refl t w
 |u::r,w,o,h=>by
  rw[World.setCells];exact(ah.set h o u).trans (ah.iX r _ (o+1) (h.set _ _))
theorem ah.own (h:w.ownsRow base e k v n xs) (hk:ah t w w') (he:e≠t:=by decide):w'.ownsRow base e k v n xs:=by
 refine⟨h.1,?_⟩
 rcases h.2 with h0|⟨g,cap,cur,hv,hg,hh,r⟩
 ·exact .inl h0
 ·exact .inr ⟨g,cap,cur,hv,hg,hk.2 g cur e (0,0) hh he,r⟩
theorem aX {zZ:Nat} (h:w.ownsRow base e k v n xs) (hb:zZ≤base):w.ownsRow zZ e k v n xs:=by
 refine⟨h.1,?_⟩
 rcases h.2 with h0|⟨g,cap,cur,hv,hg,hh,r⟩
 ·exact .inl h0
 ·exact .inr ⟨g,cap,cur,hv,by omega,hh,r⟩
end
def ff (xs:List Value) (o:Nat) (D:List Value):List Value:=xs.take o++(D++xs.drop (o+D.length))
theorem mK {xs D:List Value} {o:Nat} (h:o+D.length≤xs.length):(ff xs o D).length=xs.length:=by
 unfold ff;simp;omega
theorem Hl {xs r:List Value} {o:Nat} {u:Value} (h:o+(u::r).length≤xs.length):ff xs o (u::r)=ff (xs.set o u) (o+1) r:=by
 simp only[List.length_cons] at h;unfold ff;rw[List.take_succ_eq_append_getElem (by simp;omega),List.take_set_of_le (Nat.le_refl o),List.getElem_set_self,List.drop_set_of_lt (by omega)]
 simp[Nat.add_assoc,Nat.add_comm 1]
theorem zB {xs D:List Value} (h:D.length=xs.length):ff xs 0 D=D:=by
 unfold ff;simp[h]
theorem Hm {k:Nat}:∀(Cs:List (List Value)) (i j:Nat) (D:List Value),(∀C∈Cs,C.length=k)→(hi:i<Cs.length)→j+D.length≤k→ff Cs.flatten (i*k+j) D=(Cs.set i (ff Cs[i] j D)).flatten
 |[],i,j,D,_,hi,_=>by simp at hi
 |C::t,0,j,D,h,hi,hj=>by
  have hC:C.length=k:=h C (by simp);unfold ff;simp only[Nat.zero_mul,Nat.zero_add,List.flatten_cons,List.set_cons_zero,List.getElem_cons_zero];rw[List.take_append_of_le_length (by omega),List.drop_append_of_le_length (by omega)]
  simp
 |C::t,i+1,j,D,h,hi,hj=>by
  have hC:C.length=k:=h C (by simp);have ih:=Hm t i j D (fun x hx=>h x (by simp[hx])) (by simpa using hi) hj;simp only[List.set_cons_succ,List.flatten_cons,List.getElem_cons_succ];rw[←ih];unfold ff
  have e1:(i+1)*k+j=C.length+(i*k+j):=by rw[Nat.succ_mul];omega
  rw[e1,List.take_length_add_append,Nat.add_assoc,List.drop_length_add_append,List.append_assoc]
theorem rz {k:Nat}:∀(Cs:List (List Value)),(∀C∈Cs,C.length=k)→Cs.flatten.length=Cs.length*k
 |[],_=>by simp
 |C::t,h=>by
  have:=rz t (fun x hx=>h x (by simp[hx]));have hC:C.length=k:=h C (by simp);rw[List.flatten_cons,List.length_append,List.length_cons,Nat.succ_mul];omega
theorem mr {k:Nat}:∀(Cs:List (List Value)) (i:Nat),(∀C∈Cs,C.length=k)→(hi:i<Cs.length)→(Cs.flatten.drop (i*k)).take k=Cs[i]
 |[],i,_,hi=>by simp at hi
 |C::t,0,h,hi=>by
  have hC:C.length=k:=h C (by simp);simp only[Nat.zero_mul,List.drop_zero,List.flatten_cons,List.getElem_cons_zero];rw[←hC,List.take_left]
 |C::t,i+1,h,hi=>by
  have hC:C.length=k:=h C (by simp);have ih:=mr t i (fun x hx=>h x (by simp[hx])) (by simpa using hi);rw[List.flatten_cons,List.getElem_cons_succ,←ih]
  have e1:(i+1)*k=C.length+i*k:=by rw[Nat.succ_mul];omega
  rw[e1,List.drop_length_add_append]
section
variable {w:World} {base e k n:Nat} {v:Value} {xs:List Value}
theorem cj (h:w.ownsRow base e k v n xs) (hn:0<n):∃g cap,v=.slice (some ⟨g,0,none⟩) n cap∧n≤cap∧cap≤maxLen∧base≤g∧dE w g e∧Cl w g 0 xs∧
  (∀o D,o+D.length≤xs.length→(w.setCells g o D).ownsRow base e k v n (ff xs o D))∧(∀j,j<cap*k→(w.cell? ⟨g,j,none⟩).isSome=true)∧(∀j,w.frozen? ⟨g,j,none⟩=false):=by
 rcases h.2 with ⟨_,h0⟩|⟨g,cap,cur,hv,hg,hh,su,hm,hs,hx⟩
 ·omega
 ·refine⟨g,cap,hv,su,hm,hg,⟨_,_,hh⟩,fun j u hu=>?_,fun o D hD=>?_,fun j hj=>?_,fun j=>by simp[World.frozen?,hh]⟩
  ·rw[Nat.zero_add,cell_of_row w g j cur e (0,0) hh];rw[←hx,List.getElem?_take] at hu
   split at hu
   ·simpa using hu
   ·cases hu
  ·have key:∀(D:List Value) (o:Nat) (w:World) (xs:List Value),w.ownsRow base e k v n xs→o+D.length≤xs.length→(w.setCells g o D).ownsRow base e k v n (ff xs o D):=by
    intro D
    induction D with
    |nil=>
     intro o w xs h _
     have:ff xs o []=xs:=by unfold ff;simp
     rw[this,World.setCells];exact h
    |cons u r ih=>
     intro o w xs h hl;rw[World.setCells,Hl hl];refine ih (o+1) _ _ ?_ (by simp only[List.length_cons] at hl;simp;omega);refine⟨by simpa using h.1,?_⟩
     rcases h.2 with ⟨_,h0⟩|⟨g',mS,acJ,lr,oi,hh',ae',O7,jX,xw⟩
     ·omega
     ·rw[hv] at lr
      injection lr with a1 a2 a3
      injection a1 with a1
      injection a1 with a1
      subst a1;subst a3;refine .inr ⟨g,cap,acJ.setIfInBounds o u,hv,hg,?_,su,hm,by simpa using jX,?_⟩
      ·simp[World.setCell,Array.getElem?_modify,hh']
      ·rw[Array.toList_setIfInBounds,List.take_set,xw]
   exact key D o w xs h hD
  ·rw[cell_of_row w g j cur e (0,0) hh,Array.getElem?_eq_getElem (by omega)];rfl
end
def j_ {α:Type} (e k:Nat) (R:World→List Value→α→Prop) (base:Nat) (w:World) (v:Value) (xs:List α):Prop:=
 ∃Cs:List (List Value),Cs.length=xs.length∧(∀C∈Cs,C.length=k)∧w.ownsRow base e k v xs.length Cs.flatten∧∀(i:Nat) (C:List Value) (x:α),Cs[i]? =some C→xs[i]? =some x→R w C x
section
variable {α:Type} {e k base t:Nat} {R:World→List Value→α→Prop} {w w':World} {v:Value} {xs:List α}
theorem j_.nil:j_ e k R base w (.slice none 0 0) ([]:List α):=⟨[],rfl,by simp,World.ownsRow_nil _ _ _ _,by simp⟩
theorem j_.aa (h:j_ e k R base w v xs) (hk:ah t w w') (he:e≠t) (hR:∀C x,R w C x→R w' C x):j_ e k R base w' v xs:=by
 obtain⟨Cs,h1,h2,h3,h4⟩:=h;exact⟨Cs,h1,h2,hk.own h3 he,fun i C x a b=>hR C x (h4 i C x a b)⟩
theorem j_.zZ {b':Nat} (h:j_ e k R base w v xs) (hb:b'≤base) (hR:∀C x,R w C x→R w C x):j_ e k R b' w v xs:=by
 obtain⟨Cs,h1,h2,h3,h4⟩:=h;exact⟨Cs,h1,h2,aX h3 hb,fun i C x a b=>hR C x (h4 i C x a b)⟩
theorem j_.mono {R':World→List Value→α→Prop} {b':Nat} (h:j_ e k R base w v xs) (hb:b'≤base) (hR:∀C x,x∈xs→R w C x→R' w C x):j_ e k R' b' w v xs:=by
 obtain⟨Cs,h1,h2,h3,h4⟩:=h;exact⟨Cs,h1,h2,aX h3 hb,fun i C x a b=>hR C x (List.mem_of_getElem? b) (h4 i C x a b)⟩
theorem j_.slice (h:j_ e k R base w v xs):∃A c,v=.slice A xs.length c∧xs.length≤c∧c≤maxLen:=by
 obtain⟨Cs,h1,h2,h3,h4⟩:=h
 rcases h3.2 with ⟨rfl,h0⟩|⟨g,cap,cur,rfl,hg,hh,su,hm,_⟩
 ·exact⟨none,0,by rw[h0],by omega,by simp[maxLen]⟩
 ·exact⟨_,cap,rfl,su,hm⟩
theorem j_.get (h:j_ e k R base w v xs) {i:Nat} {x:α} (hx:xs[i]? =some x):∃g cap C,v=.slice (some ⟨g,0,none⟩) xs.length cap∧xs.length≤cap∧cap≤maxLen∧base≤g∧dE w g e∧C.length=k∧Cl w g (i*k) C∧R w C x:=by
 obtain⟨Cs,h1,h2,h3,h4⟩:=h
 have hi:i<xs.length:=by
  rcases Nat.lt_or_ge i xs.length with hl|hl
  ·exact hl
  ·rw[List.getElem?_eq_none hl] at hx;cases hx
 obtain⟨g,cap,hv,a1,a2,a3,a4,a5,_⟩:=cj h3 (by omega);refine⟨g,cap,Cs[i],hv,a1,a2,a3,a4,h2 _ (List.getElem_mem _),?_,h4 i _ x (List.getElem?_eq_getElem (by omega)) hx⟩;have:=a5.part (i*k) k;rw[mr Cs i h2 (by omega),Nat.zero_add] at this;exact this
end
structure cH (g:Nat) (w w':World):Prop where
 os:w'.os=w.os
 tape:w'.tape=w.tape
 output:w'.output=w.output
 size:w'.heap.size=w.heap.size
 block:∀b,b≠g→w'.heap[b]? =w.heap[b]?
section
variable {w w' w2:World} {g g' t k B:Nat} {xs C:List Value}
theorem cH.below (h:cH g w w') (hB:B≤g):Below B w w':=⟨h.os,h.tape,h.output,Nat.le_of_eq h.size.symm,fun b hb=>h.block b (by omega)⟩
theorem cH.row (h:cH g w w') (hr:Row w g' t xs) (cu:g'≠g:=by first|assumption|exact Ne.symm (by assumption)):Row w' g' t xs:=(h.block g' cu).trans hr
theorem cH.aa (h:cH g w w') (ht:dE w g t):ah t w w':=⟨Nat.le_of_eq h.size.symm,fun b cs e fr hb he=>by
 rw[h.block b (dE.ne ⟨cs,fr,hb⟩ ht he)];exact hb⟩
theorem cH.set (w:World) (g i:Nat) (u:Value):cH g w (w.setCell ⟨g,i,none⟩ u):=
 ⟨rfl,rfl,rfl,by simp,fun b hb=>Below.heap_setCell w ⟨g,i,none⟩ u b hb⟩
theorem cH.refl (g:Nat) (w:World):cH g w w:=⟨rfl,rfl,rfl,rfl,fun _ _=>rfl⟩
theorem cH.trans (h:cH g w w') (h':cH g w' w2):cH g w w2:=⟨h'.os.trans h.os,h'.tape.trans h.tape,h'.output.trans h.output,h'.size.trans h.size,fun b hb=>(h'.block b hb).trans (h.block b hb)⟩
theorem cH.iX:∀(us:List Value) (o:Nat) (w:World),cH g w (w.setCells g o us)
 |[],_,w=>cH.refl g w
 |u::r,o,w=>by rw[World.setCells];exact(cH.set w g o u).trans (cH.iX r (o+1) _)
theorem Row.iX:∀(us:List Value) (o:Nat) (w:World) (xs:List Value),Row w g t xs→o+us.length≤xs.length→Row (w.setCells g o us) g t (ff xs o us)
 |[],o,w,xs,h,_=>by
  have:ff xs o []=xs:=by unfold ff;simp
  rw[this,World.setCells];exact h
 |u::r,o,w,xs,h,hl=>by
  rw[World.setCells,Hl hl];exact Row.iX r (o+1) _ _ (h.cE o u) (by simp only[List.length_cons] at hl;simp;omega)
end
section
variable {P:Program} {ty k:Nat} {ops:Array Oper} {rest:List Oper} {a:Act} {w:World} {Q:Exit→Act→World→Prop} {dst:Option Tmp} {x v:Operand} {t':TypeId} {pos:String} {after:Array Edge}
theorem ao {C:List Value} (hv:a.eval v=.agg C.toArray)
  (h:∀w' g,w.heap.size=g→Row w' g ty C→Below w.heap.size w w'→wpList P ops Q rest (a.put dst (.pointer (some ⟨g,0,none⟩))) w'):wpList P ops Q ({dst:=dst,op:=.box ty v,type:=t',pos:=pos,after:=after,guard:=none}::rest) a w:=
 wpList_plain rfl fun K hK=>by
  unfold Oper.wp execOp;simp only[hv,Instr.box,newVar,newRow,Value.cells,Sem.run_bind,Sem.run_pure];exact hK _ _ (h _ _ rfl (Row.new w ty C) (ai w _))
theorem cR (hA:Rec P ty k)
  (h:∀w' g Z,w.heap.size=g→Z.length=k→Row w' g ty Z→Below w.heap.size w w'→wpList P ops Q rest (a.put dst (.pointer (some ⟨g,0,none⟩))) w'):wpList P ops Q ({dst:=dst,op:=.alloc ty,type:=t',pos:=pos,after:=after,guard:=none}::rest) a w:=
 Nr hA fun Z hZ=>h _ _ Z rfl hZ (Row.new w ty Z) (ai w _)
def gQ (P:Program) (ty:Nat) (Z:List Value):Prop:=(P.info? ty).map (fun i=>i.zero)=some (some (.agg Z.toArray))
theorem bu {Z:List Value} (hA:Rec P ty k) (hz:gQ P ty Z)
  (h:∀w' g,w.heap.size=g→Row w' g ty Z→Below w.heap.size w w'→wpList P ops Q rest (a.put dst (.pointer (some ⟨g,0,none⟩))) w'):wpList P ops Q ({dst:=dst,op:=.alloc ty,type:=t',pos:=pos,after:=after,guard:=none}::rest) a w:=
 wpList_plain rfl fun K hK=>by
  unfold gQ at hz
  cases hi:P.info? ty with
  |none=>rw[hi] at hz;cases hz
  |some i=>
   rw[hi] at hz;simp only[Option.map_some,Option.some.injEq] at hz;unfold Oper.wp execOp
   simp[Instr.alloc,zeroValue,typeInfo,hi,hz,newVar,newRow,Result.andThen,Value.cells]
   exact hK _ _ (h _ _ rfl (Row.new w ty Z) (ai w _))
theorem ak {g t:Nat} {C:List Value} (hx:a.eval x=.pointer (some ⟨g,0,none⟩)) (hA:kj P ty k) (hr:Row w g t C) (hk:C.length=k)
  (h:wpList P ops Q rest (a.put dst (.agg C.toArray)) w):wpList P ops Q ({dst:=dst,op:=.load ty x,type:=t',pos:=pos,after:=after,guard:=none}::rest) a w:=
 cJ hx hA hr.cl hk h
theorem av {g t:Nat} {C Z:List Value} (hx:a.eval x=.pointer (some ⟨g,0,none⟩)) (hv:a.eval v=.agg C.toArray) (hA:kj P ty k) (hr:Row w g t Z) (hk:C.length=k) (hz:Z.length=k) (h1:∀u∈C,u.oneCell'=true)
  (h:∀w',Row w' g t C→cH g w w'→wpList P ops Q rest (a.put dst noResult) w'):wpList P ops Q ({dst:=dst,op:=.store ty x v,type:=t',pos:=pos,after:=after,guard:=none}::rest) a w:=by
 refine BY hx hv hA hk (fun j hj=>?_) (fun j _=>hr.frozen _) h1 (h _ ?_ (cH.iX C 0 w))
 ·rw[Nat.zero_add,hr.cell,List.getElem?_eq_getElem (by omega)];rfl
 ·have:=Row.iX C 0 w Z hr (by omega)
  rwa [zB (by omega)] at this
theorem cQ {g t i:Nat} {C:List Value} {u:Value} (hx:a.eval x=.pointer (some ⟨g,i,none⟩)) (hv:a.eval v=u) (hag:∀w,(Go.isAgg ty).run P w=.ok false w) (cM:∀w,(Go.sizeOf ty).run P w=.ok 1 w) (hr:Row w g t C) (hi:i<C.length) (h1:u.oneCell'=true)
  (h:∀w',Row w' g t (C.set i u)→cH g w w'→wpList P ops Q rest (a.put dst noResult) w'):wpList P ops Q ({dst:=dst,op:=.store ty x v,type:=t',pos:=pos,after:=after,guard:=none}::rest) a w:=
 wpList_plain rfl fun K hK=>by
  have bQ:=run_storeCells_cells (P:=P) g i [u] 0 w (fun j hj=>by
   simp only[List.length_cons,List.length_nil] at hj
   obtain rfl:j=0:=by omega
   simp only[Nat.add_zero]
   rw[hr.cell,List.getElem?_eq_getElem hi];rfl) (fun j _=>hr.frozen _) (by simpa using h1)
  simp only[Nat.add_zero] at bQ
  have hc:u.cells=#[u]:=by cases u<;>first|rfl|cases h1
  unfold Oper.wp execOp
  simp[hx,hv,Instr.storeAt,Instr.sureAddr,storeVar,hc,cM,bQ,Sem.run_bind,Result.andThen]
  refine hK _ _ (h _ ?_ (cH.iX [u] i w));have:=Row.iX [u] i w C hr (by simp;omega)
  have e:ff C i [u]=C.set i u:=by
   unfold ff;rw[List.set_eq_take_append_cons_drop,if_pos hi];rfl
  rwa [e] at this
theorem js {fn:Func} {p:Tmp} {g t:Nat} {C:List Value} (h:fn.results=#[.cell p ty]) (tmps:Array Value) (hp:tmps.getD p undef=.pointer (some ⟨g,0,none⟩)) (hA:kj P ty k) (hr:Row w g t C) (hk:C.length=k):
  (results fn tmps).run P w=.ok (.agg C.toArray) w:=by
 have CG:tmps[p]?.getD undef=.pointer (some ⟨g,0,none⟩):=by simpa using hp
 simp[results,h,CG,asAddr,gZ hA hr.cl hk]
theorem bH {fn:Func} {p u:Tmp} {g t:Nat} {C:List Value} (h:fn.results=#[.cell p ty,.tmp u]) (tmps:Array Value) (hp:tmps.getD p undef=.pointer (some ⟨g,0,none⟩)) (hA:kj P ty k) (hr:Row w g t C) (hk:C.length=k):
  (results fn tmps).run P w=.ok (.tuple #[.agg C.toArray,tmps.getD u undef]) w:=by
 have CG:tmps[p]?.getD undef=.pointer (some ⟨g,0,none⟩):=by simpa using hp
 simp[results,h,CG,asAddr,gZ hA hr.cl hk,Result.andThen]
end
theorem lF {P:Program} {ops:Array Oper} {o:Oper} {a:Act} {w:World} {K:Act→World→Prop} {Q:Exit→Act→World→Prop} {E:Prop} (OY:o.guard=none) (s x:Operand) (t:TypeId)
  (ho:o.op=.call {callee:=.builtin .append,args:=#[s,x],argTypes:=#[t,t]})
  (base:Nat) (e:TypeId) (z:Value) (size bytes:Nat) (ht:P.underlying t=some (.slice e)) (jh:(P.info? e).map (fun i=>(i.zero,i.size,i.bytes))=some (some z,size,bytes)) (lJ:z.cells.size=size) (cM:0<size)
  (v:Value) (n:Nat) (xs:List Value) (A:Option Addr) (m c:Nat) (news:List Value) (hs:a.eval s=v) (hx:a.eval x=.slice A m c) (a_:w.ownsRow base e size v n xs) (hr:dF w A m size news) (hm:0<m) (h1:∀u∈news,u.oneCell'=true)
  (qT:n+m≤maxLen) (gR:(n+m)*bytes≤140737488355328) (fD:base≤w.heap.size)
  (h:∀v' w',w'.ownsRow base e size v' (n+m) (xs++news)→w.grownBy w' v.ownBlock→K (a.put o.dst v') w'):if Region.wanted o (yielded ops a.tmps)=true then Oper.wp P o a w K Q else E:=by
 have hw:Region.wanted o (yielded ops a.tmps)=true:=by simp[Region.wanted,OY]
 rw[if_pos hw];obtain⟨i,hi,cD,iG,iM⟩:=info_parts jh;obtain⟨hl,hc⟩:=hr;obtain⟨b,off,rfl,aO⟩:=hc hm;exact wp_append_own w s x t ho base e i z size bytes ht hi cD iG iM lJ cM v n xs hs a_ ⟨b,off,none⟩ m c news hx hl (fun j u hu=>by rw[Addr.add_lit];exact aO j u hu) h1 qT gR fD (fun v' w' h2 h3 _=>h v' w' h2 h3)
section
variable {w w':World} {e t g base k n:Nat} {v:Value} {xs ys:List Value}
theorem Sv (h:w.ownsRow base e k v n xs):∀g,v.ownBlock=some g→dE w g e:=by
 intro g hg
 rcases h.2 with ⟨rfl,_⟩|⟨g',cap,cur,rfl,_,hh,_⟩
 ·simp[Value.ownBlock] at hg
 ·simp[Value.ownBlock] at hg
  subst hg;exact⟨_,_,hh⟩
theorem dN (h:w.ownsRow base e k v n xs) (hg:w.grownBy w' v.ownBlock):ah e w w':=ah.Hb hg (Sv h)
theorem Row.aa (h:Row w g t ys) (hk:ah e w w') (cu:t≠e:=by decide):Row w' g t ys:=hk.2 g _ t _ h cu
theorem bG (h:w.ownsRow base e k v n xs) (hg:w.grownBy w' v.ownBlock) {B:Nat} (hB:B≤base) (hw:B≤w.heap.size):Below B w w':=
 (Below.refl _ _).grown hg hw (fun g gJ=>Nat.le_trans hB (h.lt g gJ).1)
end
end
section
structure aA where
 id:Int
 bj:Int
 kind:Int
 aW:ByteArray
 opts:List ByteArray
 cA:List Int
 value:Int
 de:Int
 texts:List ByteArray
 aP:Int
 code:ByteArray
 bz:Int
 bB:Int
 words:Int
 ay:Int
 af:List Int
 aH:Int
def okB (c:UInt8):Bool:=decide ((32:Int)≤(c.toNat:Int))&&decide ((c.toNat:Int)≤126)
def cP (l:List UInt8) (ad5:Nat):Bool:=l.all okB&& (decide (1≤l.length)&&decide (l.length≤ad5))
def wo (c:UInt8):Bool:=(decide ((65:Int)≤(c.toNat:Int))&&decide ((c.toNat:Int)≤90))||(decide ((48:Int)≤(c.toNat:Int))&&decide ((c.toNat:Int)≤57))
def n_ (l:List UInt8):Bool:=l.all wo&& (decide (1≤l.length)&&decide (l.length≤8))
def mV:Nat→List UInt8→Option (List (List UInt8))
 |0,_=>none
 |n+1,l=>if (Lib.cut l [46]).2.2 then (mV n (Lib.cut l [46]).2.1).map ((Lib.cut l [46]).1:: ·) else some [(Lib.cut l [46]).1]
def jw (l:List UInt8):Bool:=decide (l.length≤24)&& (match mV 5 l with|none=>false|some ps=>ps.all n_)
theorem V6 {c:UInt8} (h:wo c=true):c≠32∧c≠10∧c≠34∧c≠92:=by
 refine⟨?_,?_,?_,?_⟩<;>(rintro rfl;revert h;decide)
theorem DF (l:List UInt8):((Lib.cut l [46]).2.2=true∧l=(Lib.cut l [46]).1++46::(Lib.cut l [46]).2.1)∨((Lib.cut l [46]).2.2=false∧(Lib.cut l [46]).1=l):=by
 unfold Lib.cut
 rcases Lib.index_spec l [46] with ⟨h1,_⟩|⟨i,h1,h2,h3,_⟩
 ·rw[if_neg (by omega)];exact Or.inr ⟨rfl,rfl⟩
 ·rw[if_pos (by omega),h1];refine Or.inl ⟨rfl,?_⟩;simp only[Int.toNat_natCast,List.length_cons,List.length_nil,Nat.zero_add]
  have h4:l.drop i=46::l.drop (i+1):=by
   unfold Lib.occAt at h3;rw[List.isPrefixOf_iff_prefix] at h3;obtain⟨t,ht⟩:=h3;rw[←ht]
   have:l.drop (i+1)=(l.drop i).drop 1:=by rw[List.drop_drop]
   rw[this,←ht];rfl
  rw[←h4,List.take_append_drop]
theorem Hi:∀(n:Nat) (l:List UInt8) (ps:List (List UInt8)),mV n l=some ps→ps.all n_=true→l≠ []∧∀c∈l,wo c=true∨c=46
 |0,l,ps,h,_=>by unfold mV at h;cases h
 |n+1,l,ps,h,ha=>by
  unfold mV at h
  rcases DF l with ⟨h1,h2⟩|⟨h1,h2⟩
  ·rw[if_pos h1] at h
   cases hs:mV n (Lib.cut l [46]).2.1 with
   |none=>rw[hs] at h;cases h
   |some qs=>
    rw[hs] at h;simp only[Option.map_some,Option.some.injEq] at h;subst h;rw[List.all_cons,Bool.and_eq_true] at ha;have h3:=Hi n _ qs hs ha.2;unfold n_ at ha;have h4:=ha.1;rw[Bool.and_eq_true,List.all_eq_true] at h4;rw[h2];refine⟨by simp,fun c hc=>?_⟩;rw[List.mem_append,List.mem_cons] at hc
    rcases hc with hc|rfl|hc
    ·exact Or.inl (h4.1 c hc)
    ·exact Or.inr rfl
    ·exact h3.2 c hc
  ·rw[if_neg (by rw[h1];decide)] at h
   injection h with h
   subst h;rw[h2,List.all_cons,Bool.and_eq_true] at ha;unfold n_ at ha;have h4:=ha.1;rw[Bool.and_eq_true,List.all_eq_true,Bool.and_eq_true] at h4;refine⟨?_,fun c hc=>Or.inl (h4.1 c hc)⟩;rintro rfl;have:=h4.2.1
   simp at this
theorem Ae {l:List UInt8} (h:jw l=true):l≠ []∧l.length≤24∧∀c∈l,c≠32∧c≠10∧c≠34∧c≠92:=by
 unfold jw at h;rw[Bool.and_eq_true,decide_eq_true_eq] at h
 cases hs:mV 5 l with
 |none=>rw[hs] at h;exact absurd h.2 (by decide)
 |some ps=>
  rw[hs] at h;have h3:=Hi 5 l ps hs h.2;refine⟨h3.1,h.1,fun c hc=>?_⟩
  rcases h3.2 c hc with h4|rfl
  ·exact V6 h4
  ·decide
def iH (n lo hi:Int):Bool:=decide (lo≤n)&&decide (n≤hi)
def iE (l:List Int) (lo hi:Int):Bool:=(List.range l.length).all fun i=>iH (l.getD i 0) lo hi&& !(decide (0<i)&&decide (l.getD i 0≤l.getD (i - 1) 0))
def By (c:UInt8):Bool:=decide (c=32)||(iH c.toNat 97 122||iH c.toNat 48 57)
def mE (l:List UInt8):Bool:=l.all By&& (!Lib.hasPrefix l [32]&& (!Lib.hasSuffix l [32]&& !Lib.contains l [32,32]))
def zj (a b:ByteArray):Bool:=Op.bytesLess a.toList b.toList||a.toList==b.toList
def qJ (l:List ByteArray):Bool:=(List.range l.length).all fun i=>mE (l.getD i ByteArray.empty).data.toList&& !(decide (0<i)&&zj (l.getD i ByteArray.empty) (l.getD (i - 1) ByteArray.empty))
def xL (it:aA):Bool:=iH it.id 1 9999999&& (iH it.bj 1 50&& (iH it.aP 1 5&& (iH it.words 0 2000&& (iH it.ay 1 2000&& (iH it.bz 0 9999999&& (iH it.bB 0 9999999&&iH it.aH 0 9999999))))))
def jd (l:List UInt8):List UInt8:=l.map fun c=>if c=10 then 32 else c
def AS (it:aA):Bool:=cP (jd it.aW.data.toList) 2000&& (it.opts.all (fun s=>cP s.data.toList 200)&& (it.texts.all (fun s=>cP s.data.toList 200)&&jw it.code.data.toList))
def sD (it:aA):Bool:=
 !(
  decide (3<it.kind)&& (decide (0<it.opts.length)||decide (0<it.cA.length)))&& (!(decide (it.kind≠4)&& (decide (it.value≠0)||decide (it.de≠0)))&&
  ((decide (it.kind=5)||decide (it.texts.length=0))&& (decide (it.kind=6)||decide (it.aH=0))))
def kJ (l:List Int):List Int:=l.mergeSort fun x y=>decide (x≤y)
def Bu (it:aA):Bool:=
 if it.kind=1 then decide (1≤(it.opts.length:Int) - 1)&& (decide (it.cA.length=1)&&iH (it.cA.getD 0 0) 0 ((it.opts.length:Int) - 1))
 else if it.kind=2 then decide (1≤(it.opts.length:Int) - 1)&& (decide (1≤it.cA.length)&&iE it.cA 0 ((it.opts.length:Int) - 1))
 else if it.kind=3 then decide (1≤(it.opts.length:Int) - 1)&& (decide (it.cA.length=it.opts.length)&&iE (kJ it.cA) 0 ((it.opts.length:Int) - 1))
 else if it.kind=4 then iH it.value (-9999999) 9999999&&iH it.de 0 9999999
 else if it.kind=5 then qJ it.texts&&decide (1≤it.texts.length)
 else decide (1≤it.aH)
def fb (it:aA):Int:=
 if xL it=false then 3 else if iH it.kind 1 6=false then 1 else if AS it=false then 2
 else if 10<it.opts.length∨10<it.texts.length∨8<it.af.length then 5
 else if sD it=false∨Bu it=false then 19 else if iE it.af 1 9999999=false then 23 else 0
end
section
open Go.RowKit
def Strs (w:World) (v:Value) (xs:List ByteArray):Prop:=
 ∃A c,v=.slice A xs.length c∧xs.length≤c∧c≤maxLen∧Sl w A xs.length (xs.map Value.string)
theorem Strs.below {w w':World} {v:Value} {xs:List ByteArray} (h:Strs w v xs) (hb:Below w.heap.size w w'):Strs w' v xs:=by
 obtain⟨A,c,hv,h1,h2,hs⟩:=h;exact⟨A,c,hv,h1,h2,hs.below hb⟩
theorem Strs.fK {w:World} {base e n:Nat} {v:Value} {xs:List ByteArray} (h:w.ownsRow base e 1 v n (xs.map Value.string)):Strs w v xs:=by
 have hl:n=xs.length:=by have:=h.1;simp at this;omega
 subst hl;obtain⟨A,c,hv,h1,h2,hs⟩:=Sl.fK h;exact⟨A,c,hv,h1,h2,hs⟩
theorem Strs.nil (w:World):Strs w (.slice none 0 0) []:=⟨none,0,rfl,by simp,by simp,Sl.nil⟩
def db (base:Nat) (w:World) (v:Value) (zs:List Int):Prop:=w.ownsRow base 3 1 v zs.length (zs.map (Value.int .i64))
def iD (base:Nat) (w:World) (v:Value) (xs:List ByteArray):Prop:=w.ownsRow base 9 1 v xs.length (xs.map Value.string)
theorem db.nums {base:Nat} {w:World} {v:Value} {zs:List Int} (h:db base w v zs):eI .i64 w v zs:=eI.fK h
theorem iD.strs {base:Nat} {w:World} {v:Value} {zs:List ByteArray} (h:iD base w v zs):Strs w v zs:=Strs.fK h
theorem db.nil (base:Nat) (w:World):db base w (.slice none 0 0) []:=World.ownsRow_nil _ _ _ _
theorem iD.nil (base:Nat) (w:World):iD base w (.slice none 0 0) []:=World.ownsRow_nil _ _ _ _
def fS (it:aA) (vo vc vt va:Value):List Value:=
 [.int .i64 it.id,.int .i64 it.bj,.int .i64 it.kind,.string it.aW,vo,vc,.int .i64 it.value,.int .i64 it.de,vt,.int .i64 it.aP,.string it.code,.int .i64 it.bz,.int .i64 it.bB,.int .i64 it.words,.int .i64 it.ay,va,.int .i64 it.aH]
def dO (w:World) (C:List Value) (it:aA):Prop:=∃vo vc vt va,C=fS it vo vc vt va∧Strs w vo it.opts∧eI .i64 w vc it.cA∧Strs w vt it.texts∧eI .i64 w va it.af
def cy (base:Nat) (w:World) (C:List Value) (it:aA):Prop:=∃vo vc vt va,C=fS it vo vc vt va∧iD base w vo it.opts∧db base w vc it.cA∧iD base w vt it.texts∧db base w va it.af
section
variable {w w':World} {C:List Value} {it:aA} {base b' t:Nat}
theorem dO.below (h:dO w C it) (hb:Below w.heap.size w w'):dO w' C it:=by
 obtain⟨vo,vc,vt,va,e,h1,h2,h3,h4⟩:=h;exact⟨vo,vc,vt,va,e,h1.below hb,h2.below hb,h3.below hb,h4.below hb⟩
theorem cy.s_ (h:cy base w C it):dO w C it:=by
 obtain⟨vo,vc,vt,va,e,h1,h2,h3,h4⟩:=h;exact⟨vo,vc,vt,va,e,h1.strs,h2.nums,h3.strs,h4.nums⟩
theorem cy.aa (h:cy base w C it) (hk:ah t w w') (h1:t≠3:=by decide) (h2:t≠9:=by decide):cy base w' C it:=by
 obtain⟨vo,vc,vt,va,e,a1,a2,a3,a4⟩:=h;exact⟨vo,vc,vt,va,e,hk.own a1 (Ne.symm h2),hk.own a2 (Ne.symm h1),hk.own a3 (Ne.symm h2),hk.own a4 (Ne.symm h1)⟩
theorem cy.lower (h:cy base w C it) (hb:b'≤base):cy b' w C it:=by
 obtain⟨vo,vc,vt,va,e,a1,a2,a3,a4⟩:=h;exact⟨vo,vc,vt,va,e,aX a1 hb,aX a2 hb,aX a3 hb,aX a4 hb⟩
theorem dO.len (h:dO w C it):C.length=17:=by
 obtain⟨vo,vc,vt,va,rfl,_⟩:=h;rfl
theorem cy.len (h:cy base w C it):C.length=17:=h.s_.len
end
structure wk where
 kind:Int
 user:Int
 il:Int
 time:Int
def mi (a:wk):List Value:=[.int .i64 a.kind,.int .i64 a.user,.int .i64 a.il,.int .i64 a.time]
def nh (base:Nat) (w:World) (v:Value) (l:List wk):Prop:=w.ownsRow base 152 4 v l.length (l.map mi).flatten
def i' (base:Nat) (w:World) (v:Value) (rows:List (List Int)):Prop:=∃us:List Value,us.length=rows.length∧w.ownsRow base 22 1 v rows.length us∧∀(i:Nat) (u:Value) (r:List Int),us[i]? =some u→rows[i]? =some r→db base w u r
structure aB where
 aD:List aA
 state:Int
 bF:Int
 b_:List Int
 fair:List Int
 log:List wk
 rows:List (List Int)
def kg (base:Nat):World→Value→List aA→Prop:=j_ 47 17 (cy base) base
def ig (e:aB) (vv va vf vl vm:Value):List Value:=[vv,.int .i64 e.state,.int .i64 e.bF,va,vf,vl,vm]
def dn (base:Nat) (w:World) (C:List Value) (e:aB):Prop:=
 ∃vv va vf vl vm,C=ig e vv va vf vl vm∧kg base w vv e.aD∧db base w va e.b_∧db base w vf e.fair∧nh base w vl e.log∧i' base w vm e.rows
section
variable {w w':World} {C:List Value} {e:aB} {v:Value} {rows:List (List Int)} {bY:List aA} {base b' t:Nat}
theorem i'.aa (h:i' base w v rows) (hk:ah t w w') (h1:t≠3:=by decide) (h2:t≠22:=by decide):i' base w' v rows:=by
 obtain⟨us,a,b,c⟩:=h;exact⟨us,a,hk.own b (Ne.symm h2),fun i u r x y=>hk.own (c i u r x y) (Ne.symm h1)⟩
theorem i'.lower (h:i' base w v rows) (hb:b'≤base):i' b' w v rows:=by
 obtain⟨us,a,b,c⟩:=h;exact⟨us,a,aX b hb,fun i u r x y=>aX (c i u r x y) hb⟩
theorem i'.xG (h:i' base w v rows):∃A c us,v=.slice A rows.length c∧rows.length≤c∧c≤maxLen∧Sl w A rows.length us∧∀(i:Nat) (u:Value) (r:List Int),us[i]? =some u→rows[i]? =some r→eI .i64 w u r:=by
 obtain⟨us,a,b,c⟩:=h;obtain⟨A,cc,hv,h1,h2,hs⟩:=Sl.fK b;exact⟨A,cc,us,hv,h1,h2,hs,fun i u r x y=>(c i u r x y).nums⟩
theorem kg.aa (h:kg base w v bY) (hk:ah t w w') (h1:t≠3:=by decide) (h2:t≠9:=by decide) (h3:t≠47:=by decide):kg base w' v bY:=
 j_.aa h hk (Ne.symm h3) (fun C x hx=>cy.aa hx hk h1 h2)
theorem kg.lower (h:kg base w v bY) (hb:b'≤base):kg b' w v bY:=j_.mono h hb (fun C x _ hx=>cy.lower hx hb)
theorem dn.aa (h:dn base w C e) (hk:ah t w w') (h1:t≠3:=by decide) (h2:t≠9:=by decide) (h3:t≠47:=by decide) (h4:t≠152:=by decide) (h5:t≠22:=by decide):dn base w' C e:=by
 obtain⟨vv,va,vf,vl,vm,ec,a1,a2,a3,a4,a5⟩:=h;exact⟨vv,va,vf,vl,vm,ec,a1.aa hk h1 h2 h3,hk.own a2 (Ne.symm h1),hk.own a3 (Ne.symm h1),hk.own a4 (Ne.symm h4),a5.aa hk h1 h5⟩
theorem dn.lower (h:dn base w C e) (hb:b'≤base):dn b' w C e:=by
 obtain⟨vv,va,vf,vl,vm,ec,a1,a2,a3,a4,a5⟩:=h;exact⟨vv,va,vf,vl,vm,ec,a1.lower hb,aX a2 hb,aX a3 hb,aX a4 hb,a5.lower hb⟩
theorem dn.len (h:dn base w C e):C.length=7:=by
 obtain⟨vv,va,vf,vl,vm,rfl,_⟩:=h;rfl
end
theorem dv {w:World} {base e k n:Nat} {v:Value} {xs:List Value} (h:w.ownsRow base e k v n xs):v.oneCell'=true:=by
 rcases h.2 with ⟨rfl,_⟩|⟨g,cap,cur,rfl,_⟩<;>rfl
theorem j_.one {α:Type} {e k base:Nat} {R:World→List Value→α→Prop} {w:World} {v:Value} {xs:List α} (h:j_ e k R base w v xs):v.oneCell'=true:=by
 obtain⟨_,_,_,h,_⟩:=h;exact dv h
theorem aj {w:World} {base e k n:Nat} {v:Value} {xs:List Value} (h:w.ownsRow base e k v n xs):∃A c,v=.slice A n c∧n≤c∧c≤maxLen:=by
 rcases h.2 with ⟨rfl,rfl⟩|⟨g,cap,cur,rfl,_,_,h1,h2,_⟩
 ·exact⟨none,0,rfl,by omega,by simp[maxLen]⟩
 ·exact⟨_,_,rfl,h1,h2⟩
theorem dn.out {w:World} {C:List Value} {e:aB} {base:Nat} (h:dn base w C e):∃A1 c1 A2 c2 A3 c3 A4 c4 A5 c5,
  C=ig e (.slice A1 e.aD.length c1) (.slice A2 e.b_.length c2) (.slice A3 e.fair.length c3) (.slice A4 e.log.length c4) (.slice A5 e.rows.length c5)∧e.aD.length≤9223372036854775807∧e.rows.length≤9223372036854775807:=by
 obtain⟨vv,va,vf,vl,vm,rfl,h1,h2,h3,h4,⟨_,_,h5,_⟩⟩:=h;obtain⟨_,c1,rfl,b1,b2⟩:=j_.slice h1;obtain⟨_,c2,rfl,_⟩:=aj h2;obtain⟨_,c3,rfl,_⟩:=aj h3;obtain⟨_,c4,rfl,_⟩:=aj h4;obtain⟨_,c5,rfl,b3,b4⟩:=aj h5;refine⟨_,_,_,_,_,_,_,_,_,_,rfl,?_,?_⟩<;>simp only[maxLen] at b2 b4<;>omega
theorem dn.one {w:World} {C:List Value} {e:aB} {base:Nat} (h:dn base w C e):∀u∈C,u.oneCell'=true:=by
 obtain⟨vv,va,vf,vl,vm,rfl,h1,h2,h3,h4,⟨_,_,h5,_⟩⟩:=h;intro u hu;simp only[ig,List.mem_cons,List.not_mem_nil,or_false] at hu
 rcases hu with rfl|rfl|rfl|rfl|rfl|rfl|rfl
 ·exact j_.one h1
 ·rfl
 ·rfl
 ·exact dv h2
 ·exact dv h3
 ·exact dv h4
 ·exact dv h5
theorem Strs.one {w:World} {v:Value} {xs:List ByteArray} (h:Strs w v xs):v.oneCell'=true:=by
 obtain⟨A,c,rfl,_⟩:=h;rfl
theorem eI.one {k:IntKind} {w:World} {v:Value} {xs:List Int} (h:eI k w v xs):v.oneCell'=true:=by
 obtain⟨A,c,rfl,_⟩:=h;rfl
theorem dO.one {w:World} {C:List Value} {it:aA} (h:dO w C it):∀u∈C,u.oneCell'=true:=by
 obtain⟨vo,vc,vt,va,rfl,h1,h2,h3,h4⟩:=h;intro u hu;simp only[fS,List.mem_cons,List.not_mem_nil,or_false] at hu
 rcases hu with rfl|rfl|rfl|rfl|rfl|rfl|rfl|rfl|rfl|rfl|rfl|rfl|rfl|rfl|rfl|rfl|rfl<;>first|rfl|exact h1.one|exact h2.one|exact h3.one|exact h4.one
def dm (C:List Value):Option Nat:=(C.getD 0 (.int .i64 0)).ownBlock
def ej (base:Nat) (w:World) (v:Value) (es:List aB):Prop:=
 ∃Cs:List (List Value),Cs.length=es.length∧(∀C∈Cs,C.length=7)∧w.ownsRow base 44 7 v es.length Cs.flatten∧(∀(i:Nat) (C:List Value) (x:aB),Cs[i]? =some C→es[i]? =some x→dn base w C x)∧
  ∀(i j:Nat) (C D:List Value),Cs[i]? =some C→Cs[j]? =some D→i<j→dm C=none∨dm C≠dm D
structure gH where
 code:ByteArray
 title:ByteArray
def fL (a:gH):List Value:=[.string a.code,.string a.title]
structure j0 where
 id:Int
 bytes:Int
 alt:ByteArray
 from_:Int
 gT:Int
def fJ (a:j0):List Value:=[.int .i64 a.id,.int .i64 a.bytes,.string a.alt,.int .i64 a.from_,.int .i64 a.gT]
def ja (p:Int × Int):List Value:=[.int .i64 p.1,.int .i64 p.2]
def kE (base:Nat) (w:World) (v:Value) (l:List gH):Prop:=w.ownsRow base 68 2 v l.length (l.map fL).flatten
def jI (base:Nat) (w:World) (v:Value) (l:List j0):Prop:=w.ownsRow base 70 5 v l.length (l.map fJ).flatten
def zt (base:Nat) (w:World) (v:Value) (l:List (Int × Int)):Prop:=w.ownsRow base 158 2 v l.length (l.map ja).flatten
structure cK where
 now:Int
 aP:List Int
 pri:List Int
 dJ:List gH
 af:List j0
 entries:List aB
 ft:List (Int × Int)
def zY (b:cK) (vp vr vo va ve vn:Value):List Value:=[.int .i64 b.now,vp,vr,vo,va,ve,vn]
def cZ (base:Nat) (w:World) (C:List Value) (b:cK):Prop:=
 ∃vp vr vo va ve vn,C=zY b vp vr vo va ve vn∧db base w vp b.aP∧db base w vr b.pri∧kE base w vo b.dJ∧jI base w va b.af∧ej base w ve b.entries∧zt base w vn b.ft
section
variable {w w':World} {C:List Value} {b:cK} {v:Value} {es:List aB} {base b' t:Nat}
theorem ej.aa (h:ej base w v es) (hk:ah t w w') (h1:t≠3:=by decide) (h2:t≠9:=by decide) (h3:t≠47:=by decide) (h4:t≠152:=by decide) (h5:t≠22:=by decide) (h6:t≠44:=by decide):ej base w' v es:=by
 obtain⟨Cs,a,b,c,d,e⟩:=h;exact⟨Cs,a,b,hk.own c (Ne.symm h6),fun i C x u1 u2=>(d i C x u1 u2).aa hk h1 h2 h3 h4 h5,e⟩
theorem ej.lower (h:ej base w v es) (hb:b'≤base):ej b' w v es:=by
 obtain⟨Cs,a,b,c,d,e⟩:=h;exact⟨Cs,a,b,aX c hb,fun i C x u1 u2=>(d i C x u1 u2).lower hb,e⟩
theorem ej.BJ (h:ej base w v es):j_ 44 7 (dn base) base w v es:=by
 obtain⟨Cs,a,b,c,d,_⟩:=h;exact⟨Cs,a,b,c,d⟩
theorem ej.nil (base:Nat) (w:World):ej base w (.slice none 0 0) []:=⟨[],rfl,by simp,World.ownsRow_nil _ _ _ _,by simp,by simp⟩
theorem cZ.len (h:cZ base w C b):C.length=7:=by
 obtain⟨vp,vr,vo,va,ve,vn,rfl,_⟩:=h;rfl
theorem cZ.lower (h:cZ base w C b) (hb:b'≤base):cZ b' w C b:=by
 obtain⟨vp,vr,vo,va,ve,vn,e,a1,a2,a3,a4,a5,a6⟩:=h;exact⟨vp,vr,vo,va,ve,vn,e,aX a1 hb,aX a2 hb,aX a3 hb,aX a4 hb,a5.lower hb,aX a6 hb⟩
theorem cZ.aa (h:cZ base w C b) (hk:ah t w w') (h1:t≠3:=by decide) (h2:t≠9:=by decide) (h3:t≠47:=by decide) (h4:t≠152:=by decide) (h5:t≠22:=by decide) (h6:t≠44:=by decide)
  (h7:t≠68:=by decide) (h8:t≠70:=by decide) (h9:t≠158:=by decide):cZ base w' C b:=by
 obtain⟨vp,vr,vo,va,ve,vn,e,a1,a2,a3,a4,a5,a6⟩:=h;exact⟨vp,vr,vo,va,ve,vn,e,hk.own a1 (Ne.symm h1),hk.own a2 (Ne.symm h1),hk.own a3 (Ne.symm h7),hk.own a4 (Ne.symm h8),a5.aa hk h1 h2 h3 h4 h5 h6,hk.own a6 (Ne.symm h9)⟩
theorem cZ.one (h:cZ base w C b):∀u∈C,u.oneCell'=true:=by
 obtain⟨vp,vr,vo,va,ve,vn,rfl,h1,h2,h3,h4,⟨_,_,_,h5,_⟩,h6⟩:=h;intro u hu;simp only[zY,List.mem_cons,List.not_mem_nil,or_false] at hu
 rcases hu with rfl|rfl|rfl|rfl|rfl|rfl|rfl
 ·rfl
 ·exact dv h1
 ·exact dv h2
 ·exact dv h3
 ·exact dv h4
 ·exact dv h5
 ·exact dv h6
theorem cZ.below (h:cZ base w C b) (hb:Below w.heap.size w w'):cZ base w' C b:=
 h.aa (t:=31) (ah.ab hb)
end
end
section
open Go.RowKit
open Tryz
theorem fY:Rec prog 47 17:=⟨⟨by kernel_rfl,by kernel_rfl⟩,by kernel_rfl,by kernel_rfl⟩
theorem aU:kj prog 47 17:=fY.agg
theorem gY:Rec prog 44 7:=⟨⟨by kernel_rfl,by kernel_rfl⟩,by kernel_rfl,by kernel_rfl⟩
theorem cN:kj prog 44 7:=gY.agg
theorem dG:Rec prog 31 7:=⟨⟨by kernel_rfl,by kernel_rfl⟩,by kernel_rfl,by kernel_rfl⟩
theorem aN:kj prog 31 7:=dG.agg
theorem M4:Rec prog 72 32:=⟨⟨by kernel_rfl,by kernel_rfl⟩,by kernel_rfl,by kernel_rfl⟩
theorem fp:kj prog 72 32:=M4.agg
theorem P_:Rec prog 70 5:=⟨⟨by kernel_rfl,by kernel_rfl⟩,by kernel_rfl,by kernel_rfl⟩
theorem o0:kj prog 70 5:=P_.agg
theorem lZ:Rec prog 39 5:=⟨⟨by kernel_rfl,by kernel_rfl⟩,by kernel_rfl,by kernel_rfl⟩
theorem bd:kj prog 39 5:=lZ.agg
theorem BP:Rec prog 152 4:=⟨⟨by kernel_rfl,by kernel_rfl⟩,by kernel_rfl,by kernel_rfl⟩
theorem pU:kj prog 152 4:=BP.agg
theorem AL:Rec prog 24 2:=⟨⟨by kernel_rfl,by kernel_rfl⟩,by kernel_rfl,by kernel_rfl⟩
theorem lT:kj prog 24 2:=AL.agg
theorem xN:Rec prog 42 1:=⟨⟨by kernel_rfl,by kernel_rfl⟩,by kernel_rfl,by kernel_rfl⟩
theorem lG:kj prog 42 1:=xN.agg
theorem UX:Rec prog 158 2:=⟨⟨by kernel_rfl,by kernel_rfl⟩,by kernel_rfl,by kernel_rfl⟩
theorem Ta:kj prog 158 2:=UX.agg
theorem NB:gQ prog 42 [.slice none 0 0]:=by unfold gQ;kernel_rfl
theorem vq:gQ prog 44 [.slice none 0 0,.int .i64 0,.int .i64 0,.slice none 0 0,.slice none 0 0,.slice none 0 0,.slice none 0 0]:=by unfold gQ;kernel_rfl
theorem fG:gQ prog 31 [.int .i64 0,.slice none 0 0,.slice none 0 0,.slice none 0 0,.slice none 0 0,.slice none 0 0,.slice none 0 0]:=by unfold gQ;kernel_rfl
def du (e:aB):Int:=match e.aD.getLast? with|none=>0|some v=>v.id
theorem qE (C:List Value) (e:aB) (w:World) (h:dn 0 w C e):
  Calls prog 74 #[.agg C.toArray] w fun r w'=>r=.returned (.int .i64 (du e))∧Below w.heap.size w w':=by
 obtain⟨vv,va,vf,vl,vm,rfl,hv,_⟩:=h
 by_cases h0:e.aD.length=0
 ·obtain⟨A,c,rfl,h1,h2⟩:=hv.slice
  have HE:Hid (du e=0):=by unfold Hid du;rw[List.length_eq_zero_iff.1 h0];rfl
  rw[h0];unfold ig;have BB:=ai w (.cells #[.slice A 0 c,.int .i64 e.state,.int .i64 e.bF,va,vf,vl,vm] 44)
  go_enter func74,ntmps74
  go_wp2_with fail
  go_ret
  exact⟨by rw[HE.out];rfl,BB⟩
 ·obtain⟨n,hn⟩:∃n,e.aD.length=n+1:=⟨e.aD.length - 1,by omega⟩;have hx:e.aD[n]? =some (e.aD[n]'(by omega)):=List.getElem?_eq_getElem _
  have HE:Hid (du e=(e.aD[n]'(by omega)).id):=by
   unfold Hid du;rw[List.getLast?_eq_getElem?,show e.aD.length - 1=n by omega,hx]
  obtain⟨g,cap,C,rfl,h1,h2,_,dW,hC,aO,hR⟩:=hv.get hx;obtain⟨vo,vc,vt,va',rfl,_⟩:=hR;have hc:=aO 0 _ rfl;have BB:=ai w (.cells #[.slice (some ⟨g,0,none⟩) e.aD.length cap,.int .i64 e.state,.int .i64 e.bF,va,vf,vl,vm] 44);have jc:=(BB.cell (p:=⟨g,n*17,none⟩) dW.lt).trans hc
  have hb:n+1≤9223372036854775807:=by simp only[maxLen] at h2;omega
  clear hc aO dW;generalize e.aD[n]=x at HE jc;rw[hn] at h1 BB jc ⊢;unfold ig
  go_enter func74,ntmps74
  go_wp2_with fail
  go_ret
  exact⟨by rw[HE.out];rfl,BB⟩
def my (id:Int) (e:aB):Bool:=decide (0<e.aD.length)&&decide (du e=id)
def fR (es:List aB) (id:Int):Int:=match es.findIdx? (my id) with|some i=>i|none=> -1
theorem DL {es:List aB} {id:Int} {k:Nat} (hk:k<es.length) (h:my id es[k]=true) (hn:∀(j:Nat) (hj:j<k),my id (es[j]'(by omega))=false):fR es id=k:=by
 unfold fR;rw[List.findIdx?_eq_some_iff_getElem.2 ⟨hk,h,fun j hj=>by rw[hn j hj];decide⟩]
theorem Lk {es:List aB} {id:Int} (hn:∀(j:Nat) (hj:j<es.length),my id es[j]=false):fR es id= -1:=by
 unfold fR;rw[List.findIdx?_eq_none_iff.2 (fun x hx=>by obtain⟨i,hi,rfl⟩:=List.mem_iff_getElem.1 hx;exact hn i hi)]
theorem Tx {es:List aB} {q:Int} {k:Nat} {e:aB} (hx:es[k]? =some e) (h1:0<e.aD.length) (h2:du e=q) (hn:∀(j:Nat) (hj:j<k) (oJ:j<es.length),my q es[j]=false):fR es q=k:=by
 have hk:k<es.length:=by
  rcases Nat.lt_or_ge k es.length with h|h
  ·exact h
  ·rw[List.getElem?_eq_none h] at hx;cases hx
 rw[List.getElem?_eq_getElem hk] at hx
 injection hx with hx
 exact DL hk (by rw[hx];unfold my;simp[h1,h2]) (fun j hj=>hn j hj (by omega))
theorem Be {es:List aB} {q:Int} {k:Nat} {e:aB} (hx:es[k]? =some e) (h:my q e=false) (hn:∀(j:Nat) (hj:j<k) (oJ:j<es.length),my q es[j]=false):∀(j:Nat) (hj:j<k+1) (oJ:j<es.length),my q es[j]=false:=by
 intro j hj oJ
 rcases Nat.lt_or_ge j k with h1|h1
 ·exact hn j h1 oJ
 ·obtain rfl:j=k:=by omega
  rw[List.getElem?_eq_getElem oJ] at hx
  injection hx with hx
  rw[hx];exact h
theorem m_ (C:List Value) (b:cK) (q:Int) (w:World) (h:cZ 0 w C b):
  Calls prog 32 #[.agg C.toArray,.int .i64 q] w fun r w'=>r=.returned (.int .i64 (fR b.entries q))∧Below w.heap.size w w':=by
 have hO:=h;obtain⟨vp,vr,vo,va,ve,vn,rfl,_,_,_,_,hE,_⟩:=h;obtain⟨A,c,rfl,h1,h2⟩:=hE.BJ.slice
 have Xv:b.entries.length≤9223372036854775807:=by simp only[maxLen] at h2;omega
 unfold zY;have BB:=ai w (.cells #[.int .i64 b.now,vp,vr,vo,va,.slice A b.entries.length c,vn] 31);have DQ:=hE.aa (t:=31) (ah.ab BB);obtain⟨n,hn⟩:∃n,n=b.entries.length:=⟨_,rfl⟩;have HN:=Lib.hid hn;rw[←hn] at Xv BB DQ ⊢;clear hO hE h1 h2 hn
 go_enter func32,ntmps32
 go_wp2_with fail
 generalize w.alloc (.cells #[.int .i64 b.now,vp,vr,vo,va,.slice A n c,vn] 31)=w1 at*
 go_loopw [10] (fun i wr=>∃k:Nat,k≤n∧i=.int .i64 k∧Below w1.heap.size w1 wr∧Hid (∀(j:Nat) (hj:j<k) (oJ:j<b.entries.length),my q b.entries[j]=false)) (fun i _=>n - (intOf i).toNat)
 case atStart=>exact⟨0,Nat.zero_le _,rfl,Below.refl _ _,fun j hj=>absurd hj (Nat.not_lt_zero _)⟩
 case round=>
  obtain⟨k,hk,rfl,fw,HM⟩:=hrel
  by_cases aS:k<n
  ·have hx:b.entries[k]? =some (b.entries[k]'(by rw[←HN.out];exact aS)):=List.getElem?_eq_getElem _;obtain⟨g,cap,C,hs,a1,a2,_,dW,hC,aO,hR⟩:=DQ.BJ.get hx;have hO:=hR.aa (t:=31) (ah.ab fw);obtain⟨A1,c1,A2,c2,A3,c3,A4,c4,A5,c5,rfl,hm,_⟩:=hR.out
   injection hs with Em uF wh
   subst Em wh;clear uF;have fy:=aO.below fw dW.lt;have HX:=Lib.hid hx;clear hx;generalize b.entries[k]=e at*;have d0:wr.cell? ⟨g,k*7,none⟩=some (.slice A1 e.aD.length c1):=fy 0 _ rfl;have d1:wr.cell? ⟨g,k*7+1,none⟩=some (.int .i64 e.state):=fy 1 _ rfl;have d2:wr.cell? ⟨g,k*7+2,none⟩=some (.int .i64 e.bF):=fy 2 _ rfl;have d3:wr.cell? ⟨g,k*7+3,none⟩=some (.slice A2 e.b_.length c2):=fy 3 _ rfl;have d4:wr.cell? ⟨g,k*7+4,none⟩=some (.slice A3 e.fair.length c3):=fy 4 _ rfl;have d5:wr.cell? ⟨g,k*7+5,none⟩=some (.slice A4 e.log.length c4):=fy 5 _ rfl;have d6:wr.cell? ⟨g,k*7+6,none⟩=some (.slice A5 e.rows.length c5):=fy 6 _ rfl;have hO2:=hO.aa (t:=31) (ah.ab (ai wr (.cells #[.slice A1 e.aD.length c1,.int .i64 e.state,.int .i64 e.bF,.slice A2 e.b_.length c2,.slice A3 e.fair.length c3,.slice A4 e.log.length c4,.slice A5 e.rows.length c5] 44)));unfold ig at hO2;have ax:=fw.trans ((ai wr (.cells #[.slice A1 e.aD.length c1,.int .i64 e.state,.int .i64 e.bF,.slice A2 e.b_.length c2,.slice A3 e.fair.length c3,.slice A4 e.log.length c4,.slice A5 e.rows.length c5] 44)).mono fw.size)
   go_wp2_with fail
   case roundEnd=>
    rename_i hc
    refine⟨⟨k+1,by omega,rfl,ax,Be HX.out (by unfold my;rw[show decide (0<e.aD.length)=false by(have:=hc;simp at this ⊢;omega)];rfl) HM.out⟩,by simp[intOf];omega⟩
   refine(qE [.slice A1 e.aD.length c1,.int .i64 e.state,.int .i64 e.bF,.slice A2 e.b_.length c2,.slice A3 e.fair.length c3,.slice A4 e.log.length c4,.slice A5 e.rows.length c5] e _ hO2).mono ?_;rintro r w2 ⟨rfl,eE⟩;replace ax:=az ax eE;clear eE
   by_cases hid:du e=q
   ·have adi:(du e==q)=true:=by rw[beq_iff_eq];exact hid
    have HD:=Lib.hid hid;clear hid;have HE:Hid (fR b.entries q=k):=Tx HX.out (by omega) HD.out HM.out
    go_wp2_with fail
    go_ret
    exact⟨by rw[HE.out];rfl,az BB ax⟩
   ·have adi:(du e==q)=false:=by rw[beq_eq_false_iff_ne];exact hid
    have HD:=Lib.hid hid;clear hid
    go_wp2_with fail
    exact⟨⟨k+1,by omega,rfl,ax,Be HX.out (by unfold my;rw[decide_eq_false HD.out,Bool.and_false]) HM.out⟩,by simp[intOf];omega⟩
  ·have wG:¬((k:Int)<(n:Int)):=by omega
   have HE:Hid (fR b.entries q= -1):=by
    unfold Hid;exact Lk (fun j hj=>HM.out j (by have:=HN.out;omega) hj)
   go_wp2_with fail
   go_ret
   exact⟨by rw[HE.out];rfl,az BB fw⟩
theorem qC:(prog.info? 3).map (fun i=>(i.zero,i.size,i.bytes))=some (some (.int .i64 0),1,8):=by kernel_rfl
theorem Dc:(prog.info? 9).map (fun i=>(i.zero,i.size,i.bytes))=some (some (.string ByteArray.empty),1,16):=by kernel_rfl
theorem Jn:(prog.info? 152).map (fun i=>(i.zero,i.size,i.bytes))=some (some (.agg #[.int .i64 0,.int .i64 0,.int .i64 0,.int .i64 0]),4,32):=by kernel_rfl
theorem Jp:(prog.info? 68).map (fun i=>(i.zero,i.size,i.bytes))=some (some (.agg #[.string ByteArray.empty,.string ByteArray.empty]),2,32):=by kernel_rfl
theorem Jo:(prog.info? 70).map (fun i=>(i.zero,i.size,i.bytes))=some (some (.agg #[.int .i64 0,.int .i64 0,.string ByteArray.empty,.int .i64 0,.int .i64 0]),5,48):=by kernel_rfl
theorem aad:(prog.info? 158).map (fun i=>(i.zero,i.size,i.bytes))=some (some (.agg #[.int .i64 0,.int .i64 0]),2,16):=by kernel_rfl
theorem vx {P:Prop} (h:P:=by
 intro j u hu
 have h0:0<n:=by
  rcases Nat.eq_zero_or_pos n with h0|h0
  ·subst h0;have hx:xs=[]:=List.length_eq_zero_iff.1 (by simpa using h.1);subst hx
   cases hu
  ·exact h0
 obtain⟨b,o,e,hc⟩:=h'.2 h0
 injection e with e
 subst e;rw[Addr.add_lit]
 exact hc j u hu):P:=h
theorem vy {P:Prop} (h:P:=by
 go_ret
 refine⟨_,rfl,by simpa using ho,?_⟩
 exact HC.out.2.2.1.grown hg HC.out.2.2.1.size (fun k hk=>by simp[Value.ownBlock] at hk;omega)):P:=h
theorem i_ (A:Option Addr) (n c:Nat) (xs:List Value) (w:World) (h:dF w A n 1 xs) (h1:∀u∈xs,u.oneCell'=true) (hn:n≤1100000):
  Calls prog 73 #[.slice A n c] w fun r w'=>∃v,r=.returned v∧w'.ownsRow w.heap.size 3 1 v n xs∧Below w.heap.size w w':=by
 obtain⟨i,hi,cD,iG,iM⟩:=info_parts qC;have HI:=Lib.hid (And.intro hi (And.intro cD (And.intro iG iM)));clear hi cD iG iM
 cases A with
 |none=>
  have rH:n=0:=by
   rcases Nat.eq_zero_or_pos n with h0|h0
   ·exact h0
   ·obtain⟨b,o,e,_⟩:=h.2 h0;cases e
  subst rH;have hx:xs=[]:=List.length_eq_zero_iff.1 (by simpa using h.1);subst hx;clear h
  have q:=fun(w:World) (a:Option Addr) (n c n' c':Nat)=>Lib.run_eql_slice_nil (P:=prog) w _ _ a n c n' c' underlying22
  go_enter func73,ntmps73
  go_wp2_with fail
  go_ret
  exact⟨_,rfl,World.ownsRow_nil _ _ _ _,Below.refl _ _⟩
 |some ad=>
  have a_:(w.alloc (.cells #[] 3)).ownsRow w.heap.size 3 1 (.slice (some ⟨w.heap.size,0,none⟩) 0 0) 0 []:=World.ownsRow_made w #[] 0 (Nat.le_refl _) (by simp[maxLen]) (by simp);have B1:=ai w (.cells #[] 3);have h':=h.below (by omega) B1
  have aO:∀j u,xs[j]? =some u→(w.alloc (.cells #[] 3)).cell? (ad.add j)=some u:=by
   exact vx
  have hlen:=h.1;have HC:=Lib.hid (And.intro a_ (And.intro aO (And.intro B1 hlen)));clear a_ aO B1 h' h hlen;have HH:=Lib.hid h1;clear h1
  have q:=fun(w:World) (a:Option Addr) (n c n' c':Nat)=>Lib.run_eql_slice_nil (P:=prog) w _ _ a n c n' c' underlying22
  go_enter func73,ntmps73
  go_wp2_with (at_builtin;refine wpList_append_own _ rfl (.tmp 5) (.tmp 6) 22 rfl w.heap.size 3 i (.int .i64 0) 1 8 underlying22 HI.out.1 HI.out.2.1 HI.out.2.2.1 HI.out.2.2.2 rfl (by omega) (.slice (some ⟨w.heap.size,0,none⟩) 0 0) 0 [] rfl HC.out.1 ad n c xs rfl HC.out.2.2.2 HC.out.2.1 HH.out (by unfold maxLen;omega) (by omega) HC.out.2.2.1.size ?_;intro v' w' ho hg hv)
  exact vy
theorem wv (A:Option Addr) (n c:Nat) (xs:List Value) (w:World) (h:dF w A n 1 xs) (h1:∀u∈xs,u.oneCell'=true) (hn:n≤1100000):
  Calls prog 131 #[.slice A n c] w fun r w'=>∃v,r=.returned v∧w'.ownsRow w.heap.size 9 1 v n xs∧Below w.heap.size w w':=by
 obtain⟨i,hi,cD,iG,iM⟩:=info_parts Dc;have HI:=Lib.hid (And.intro hi (And.intro cD (And.intro iG iM)));clear hi cD iG iM
 cases A with
 |none=>
  have rH:n=0:=by
   rcases Nat.eq_zero_or_pos n with h0|h0
   ·exact h0
   ·obtain⟨b,o,e,_⟩:=h.2 h0;cases e
  subst rH;have hx:xs=[]:=List.length_eq_zero_iff.1 (by simpa using h.1);subst hx;clear h
  have q:=fun(w:World) (a:Option Addr) (n c n' c':Nat)=>Lib.run_eql_slice_nil (P:=prog) w _ _ a n c n' c' underlying45
  go_enter func131,ntmps131
  go_wp2_with fail
  go_ret
  exact⟨_,rfl,World.ownsRow_nil _ _ _ _,Below.refl _ _⟩
 |some ad=>
  have a_:(w.alloc (.cells #[] 9)).ownsRow w.heap.size 9 1 (.slice (some ⟨w.heap.size,0,none⟩) 0 0) 0 []:=World.ownsRow_made w #[] 0 (Nat.le_refl _) (by simp[maxLen]) (by simp);have B1:=ai w (.cells #[] 9);have h':=h.below (by omega) B1
  have aO:∀j u,xs[j]? =some u→(w.alloc (.cells #[] 9)).cell? (ad.add j)=some u:=by
   exact vx
  have hlen:=h.1;have HC:=Lib.hid (And.intro a_ (And.intro aO (And.intro B1 hlen)));clear a_ aO B1 h' h hlen;have HH:=Lib.hid h1;clear h1
  have q:=fun(w:World) (a:Option Addr) (n c n' c':Nat)=>Lib.run_eql_slice_nil (P:=prog) w _ _ a n c n' c' underlying45
  go_enter func131,ntmps131
  go_wp2_with (at_builtin;refine wpList_append_own _ rfl (.tmp 5) (.tmp 6) 45 rfl w.heap.size 9 i (.string ByteArray.empty) 1 16 underlying45 HI.out.1 HI.out.2.1 HI.out.2.2.1 HI.out.2.2.2 rfl (by omega) (.slice (some ⟨w.heap.size,0,none⟩) 0 0) 0 [] rfl HC.out.1 ad n c xs rfl HC.out.2.2.2 HC.out.2.1 HH.out (by unfold maxLen;omega) (by omega) HC.out.2.2.1.size ?_;intro v' w' ho hg hv)
  exact vy
theorem FA (A:Option Addr) (n c:Nat) (xs:List Value) (w:World) (h:dF w A n 4 xs) (h1:∀u∈xs,u.oneCell'=true) (hn:n≤1100000):
  Calls prog 75 #[.slice A n c] w fun r w'=>∃v,r=.returned v∧w'.ownsRow w.heap.size 152 4 v n xs∧Below w.heap.size w w':=by
 obtain⟨i,hi,cD,iG,iM⟩:=info_parts Jn;have HI:=Lib.hid (And.intro hi (And.intro cD (And.intro iG iM)));clear hi cD iG iM
 cases A with
 |none=>
  have rH:n=0:=by
   rcases Nat.eq_zero_or_pos n with h0|h0
   ·exact h0
   ·obtain⟨b,o,e,_⟩:=h.2 h0;cases e
  subst rH;have hx:xs=[]:=List.length_eq_zero_iff.1 (by simpa using h.1);subst hx;clear h
  have q:=fun(w:World) (a:Option Addr) (n c n' c':Nat)=>Lib.run_eql_slice_nil (P:=prog) w _ _ a n c n' c' underlying37
  go_enter func75,ntmps75
  go_wp2_with fail
  go_ret
  exact⟨_,rfl,World.ownsRow_nil _ _ _ _,Below.refl _ _⟩
 |some ad=>
  have a_:(w.alloc (.cells #[] 152)).ownsRow w.heap.size 152 4 (.slice (some ⟨w.heap.size,0,none⟩) 0 0) 0 []:=World.ownsRow_made w #[] 0 (Nat.le_refl _) (by simp[maxLen]) (by simp);have B1:=ai w (.cells #[] 152);have h':=h.below (by omega) B1
  have aO:∀j u,xs[j]? =some u→(w.alloc (.cells #[] 152)).cell? (ad.add j)=some u:=by
   exact vx
  have hlen:=h.1;have HC:=Lib.hid (And.intro a_ (And.intro aO (And.intro B1 hlen)));clear a_ aO B1 h' h hlen;have HH:=Lib.hid h1;clear h1
  have q:=fun(w:World) (a:Option Addr) (n c n' c':Nat)=>Lib.run_eql_slice_nil (P:=prog) w _ _ a n c n' c' underlying37
  go_enter func75,ntmps75
  go_wp2_with (at_builtin;refine wpList_append_own _ rfl (.tmp 5) (.tmp 6) 37 rfl w.heap.size 152 i (.agg #[.int .i64 0,.int .i64 0,.int .i64 0,.int .i64 0]) 4 32 underlying37 HI.out.1 HI.out.2.1 HI.out.2.2.1 HI.out.2.2.2 rfl (by omega) (.slice (some ⟨w.heap.size,0,none⟩) 0 0) 0 [] rfl HC.out.1 ad n c xs rfl HC.out.2.2.2 HC.out.2.1 HH.out (by unfold maxLen;omega) (by omega) HC.out.2.2.1.size ?_;intro v' w' ho hg hv)
  exact vy
theorem FD (A:Option Addr) (n c:Nat) (xs:List Value) (w:World) (h:dF w A n 2 xs) (h1:∀u∈xs,u.oneCell'=true) (hn:n≤1100000):
  Calls prog 77 #[.slice A n c] w fun r w'=>∃v,r=.returned v∧w'.ownsRow w.heap.size 68 2 v n xs∧Below w.heap.size w w':=by
 obtain⟨i,hi,cD,iG,iM⟩:=info_parts Jp;have HI:=Lib.hid (And.intro hi (And.intro cD (And.intro iG iM)));clear hi cD iG iM
 cases A with
 |none=>
  have rH:n=0:=by
   rcases Nat.eq_zero_or_pos n with h0|h0
   ·exact h0
   ·obtain⟨b,o,e,_⟩:=h.2 h0;cases e
  subst rH;have hx:xs=[]:=List.length_eq_zero_iff.1 (by simpa using h.1);subst hx;clear h
  have q:=fun(w:World) (a:Option Addr) (n c n' c':Nat)=>Lib.run_eql_slice_nil (P:=prog) w _ _ a n c n' c' underlying26
  go_enter func77,ntmps77
  go_wp2_with fail
  go_ret
  exact⟨_,rfl,World.ownsRow_nil _ _ _ _,Below.refl _ _⟩
 |some ad=>
  have a_:(w.alloc (.cells #[] 68)).ownsRow w.heap.size 68 2 (.slice (some ⟨w.heap.size,0,none⟩) 0 0) 0 []:=World.ownsRow_made w #[] 0 (Nat.le_refl _) (by simp[maxLen]) (by simp);have B1:=ai w (.cells #[] 68);have h':=h.below (by omega) B1
  have aO:∀j u,xs[j]? =some u→(w.alloc (.cells #[] 68)).cell? (ad.add j)=some u:=by
   exact vx
  have hlen:=h.1;have HC:=Lib.hid (And.intro a_ (And.intro aO (And.intro B1 hlen)));clear a_ aO B1 h' h hlen;have HH:=Lib.hid h1;clear h1
  have q:=fun(w:World) (a:Option Addr) (n c n' c':Nat)=>Lib.run_eql_slice_nil (P:=prog) w _ _ a n c n' c' underlying26
  go_enter func77,ntmps77
  go_wp2_with (at_builtin;refine wpList_append_own _ rfl (.tmp 5) (.tmp 6) 26 rfl w.heap.size 68 i (.agg #[.string ByteArray.empty,.string ByteArray.empty]) 2 32 underlying26 HI.out.1 HI.out.2.1 HI.out.2.2.1 HI.out.2.2.2 rfl (by omega) (.slice (some ⟨w.heap.size,0,none⟩) 0 0) 0 [] rfl HC.out.1 ad n c xs rfl HC.out.2.2.2 HC.out.2.1 HH.out (by unfold maxLen;omega) (by omega) HC.out.2.2.1.size ?_;intro v' w' ho hg hv)
  exact vy
theorem FB (A:Option Addr) (n c:Nat) (xs:List Value) (w:World) (h:dF w A n 5 xs) (h1:∀u∈xs,u.oneCell'=true) (hn:n≤1100000):
  Calls prog 78 #[.slice A n c] w fun r w'=>∃v,r=.returned v∧w'.ownsRow w.heap.size 70 5 v n xs∧Below w.heap.size w w':=by
 obtain⟨i,hi,cD,iG,iM⟩:=info_parts Jo;have HI:=Lib.hid (And.intro hi (And.intro cD (And.intro iG iM)));clear hi cD iG iM
 cases A with
 |none=>
  have rH:n=0:=by
   rcases Nat.eq_zero_or_pos n with h0|h0
   ·exact h0
   ·obtain⟨b,o,e,_⟩:=h.2 h0;cases e
  subst rH;have hx:xs=[]:=List.length_eq_zero_iff.1 (by simpa using h.1);subst hx;clear h
  have q:=fun(w:World) (a:Option Addr) (n c n' c':Nat)=>Lib.run_eql_slice_nil (P:=prog) w _ _ a n c n' c' underlying27
  go_enter func78,ntmps78
  go_wp2_with fail
  go_ret
  exact⟨_,rfl,World.ownsRow_nil _ _ _ _,Below.refl _ _⟩
 |some ad=>
  have a_:(w.alloc (.cells #[] 70)).ownsRow w.heap.size 70 5 (.slice (some ⟨w.heap.size,0,none⟩) 0 0) 0 []:=World.ownsRow_made w #[] 0 (Nat.le_refl _) (by simp[maxLen]) (by simp);have B1:=ai w (.cells #[] 70);have h':=h.below (by omega) B1
  have aO:∀j u,xs[j]? =some u→(w.alloc (.cells #[] 70)).cell? (ad.add j)=some u:=by
   exact vx
  have hlen:=h.1;have HC:=Lib.hid (And.intro a_ (And.intro aO (And.intro B1 hlen)));clear a_ aO B1 h' h hlen;have HH:=Lib.hid h1;clear h1
  have q:=fun(w:World) (a:Option Addr) (n c n' c':Nat)=>Lib.run_eql_slice_nil (P:=prog) w _ _ a n c n' c' underlying27
  go_enter func78,ntmps78
  go_wp2_with (at_builtin;refine wpList_append_own _ rfl (.tmp 5) (.tmp 6) 27 rfl w.heap.size 70 i (.agg #[.int .i64 0,.int .i64 0,.string ByteArray.empty,.int .i64 0,.int .i64 0]) 5 48 underlying27 HI.out.1 HI.out.2.1 HI.out.2.2.1 HI.out.2.2.2 rfl (by omega) (.slice (some ⟨w.heap.size,0,none⟩) 0 0) 0 [] rfl HC.out.1 ad n c xs rfl HC.out.2.2.2 HC.out.2.1 HH.out (by unfold maxLen;omega) (by omega) HC.out.2.2.1.size ?_;intro v' w' ho hg hv)
  exact vy
theorem FC (A:Option Addr) (n c:Nat) (xs:List Value) (w:World) (h:dF w A n 2 xs) (h1:∀u∈xs,u.oneCell'=true) (hn:n≤1100000):
  Calls prog 79 #[.slice A n c] w fun r w'=>∃v,r=.returned v∧w'.ownsRow w.heap.size 158 2 v n xs∧Below w.heap.size w w':=by
 obtain⟨i,hi,cD,iG,iM⟩:=info_parts aad;have HI:=Lib.hid (And.intro hi (And.intro cD (And.intro iG iM)));clear hi cD iG iM
 cases A with
 |none=>
  have rH:n=0:=by
   rcases Nat.eq_zero_or_pos n with h0|h0
   ·exact h0
   ·obtain⟨b,o,e,_⟩:=h.2 h0;cases e
  subst rH;have hx:xs=[]:=List.length_eq_zero_iff.1 (by simpa using h.1);subst hx;clear h
  have q:=fun(w:World) (a:Option Addr) (n c n' c':Nat)=>Lib.run_eql_slice_nil (P:=prog) w _ _ a n c n' c' underlying29
  go_enter func79,ntmps79
  go_wp2_with fail
  go_ret
  exact⟨_,rfl,World.ownsRow_nil _ _ _ _,Below.refl _ _⟩
 |some ad=>
  have a_:(w.alloc (.cells #[] 158)).ownsRow w.heap.size 158 2 (.slice (some ⟨w.heap.size,0,none⟩) 0 0) 0 []:=World.ownsRow_made w #[] 0 (Nat.le_refl _) (by simp[maxLen]) (by simp);have B1:=ai w (.cells #[] 158);have h':=h.below (by omega) B1
  have aO:∀j u,xs[j]? =some u→(w.alloc (.cells #[] 158)).cell? (ad.add j)=some u:=by
   exact vx
  have hlen:=h.1;have HC:=Lib.hid (And.intro a_ (And.intro aO (And.intro B1 hlen)));clear a_ aO B1 h' h hlen;have HH:=Lib.hid h1;clear h1
  have q:=fun(w:World) (a:Option Addr) (n c n' c':Nat)=>Lib.run_eql_slice_nil (P:=prog) w _ _ a n c n' c' underlying29
  go_enter func79,ntmps79
  go_wp2_with (at_builtin;refine wpList_append_own _ rfl (.tmp 5) (.tmp 6) 29 rfl w.heap.size 158 i (.agg #[.int .i64 0,.int .i64 0]) 2 16 underlying29 HI.out.1 HI.out.2.1 HI.out.2.2.1 HI.out.2.2.2 rfl (by omega) (.slice (some ⟨w.heap.size,0,none⟩) 0 0) 0 [] rfl HC.out.1 ad n c xs rfl HC.out.2.2.2 HC.out.2.1 HH.out (by unfold maxLen;omega) (by omega) HC.out.2.2.1.size ?_;intro v' w' ho hg hv)
  exact vy
def jS (it:aA):Prop:=it.opts.length≤1100000∧it.cA.length≤1100000∧it.texts.length≤1100000∧it.af.length≤1100000
theorem Hn (xs:List ByteArray):∀u∈xs.map Value.string,u.oneCell'=true:=by
 intro u hu;rw[List.mem_map] at hu;obtain⟨x,_,rfl⟩:=hu;rfl
theorem kQ (xs:List Int):∀u∈xs.map (Value.int .i64),u.oneCell'=true:=by
 intro u hu;rw[List.mem_map] at hu;obtain⟨x,_,rfl⟩:=hu;rfl
theorem one_set {C:List Value} {u:Value} (h:∀x∈C,x.oneCell'=true) (i:Nat) (hu:u.oneCell'=true):∀x∈C.set i u,x.oneCell'=true:=by
 intro x hx
 rcases List.mem_or_eq_of_mem_set hx with h1|h1
 ·exact h x h1
 ·rw[h1];exact hu
theorem gI (C:List Value) (it:aA) (w:World) (h:dO w C it) (hs:jS it):
  Calls prog 76 #[.agg C.toArray] w fun r w'=>∃C',r=.returned (.agg C'.toArray)∧cy w.heap.size w' C' it∧Below w.heap.size w w':=by
 obtain⟨s1,s2,s3,s4⟩:=hs;have hlen:=h.len;have oB:=h.one;obtain⟨vo,vc,vt,va,hC,ho,hc,ht,ha⟩:=h;obtain⟨A1,c1,rfl,_,_,o3⟩:=ho;obtain⟨A2,c2,rfl,_,_,p3⟩:=hc;obtain⟨A3,c3,rfl,_,_,q3⟩:=ht;obtain⟨A4,c4,rfl,_,_,r3⟩:=ha;have HC:=Lib.hid hC
 have C4:C[4]? =some (.slice A1 it.opts.length c1):=by rw[hC];rfl
 have C5:C[5]? =some (.slice A2 it.cA.length c2):=by rw[hC];rfl
 have C8:C[8]? =some (.slice A3 it.texts.length c3):=by rw[hC];rfl
 have jt:C[15]? =some (.slice A4 it.af.length c4):=by rw[hC];rfl
 clear hC;replace o3:=o3.jZ;replace p3:=p3.jZ;replace q3:=q3.jZ;replace r3:=r3.jZ
 go_enter func76,ntmps76
 have aL:=trivial
 go_wp2_with (first
  |(clear cY;(with_reducible refine av (C:=C) ?_ ?_ aU R3 hlen adR oB ?_);rfl;rfl;have bg:=R3.ty;clear R3;intro x4 R3 jm;have kt:=jm.aa bg;replace R1:=jm.row R1;replace R2:=jm.row R2;replace BB:=BB.trans (jm.below jJ);clear aK bP bK bO;have aK:=ae R1 C4;have bP:=ae R1 C5;have bK:=ae R1 C8;have bO:=ae R1 jt;clear jm kt bg;have dX:=trivial)
  |(clear cz;(with_reducible refine cR fY ?_);intro x3 g3 Z3 ew adR R3 bh;have Sn:g1≠g3:=(by have:=R1.lt;omega);have mC:g2≠g3:=(by have:=R2.lt;omega);have jJ:w.heap.size≤g3:=(by have:=BB.size;omega);replace R1:=R1.keep bh;replace R2:=R2.keep bh;replace BB:=az BB bh;clear aK bP bK bO;have aK:=ae R1 C4;have bP:=ae R1 C5;have bK:=ae R1 C8;have bO:=ae R1 jt;clear bh ew;have cY:=trivial)
  |(clear bC;(with_reducible refine ak ?_ aU R1 hlen ?_);rfl;have cz:=trivial)
  |(clear aJ;(with_reducible refine cR fY ?_);intro x2 g2 Z2 cW uK R2 aF;have jz:g1≠g2:=(by have:=R1.lt;omega);have fP:w.heap.size≤g2:=(by have:=BB.size;omega);replace R1:=R1.keep aF;replace BB:=az BB aF;clear aK bP bK bO;have aK:=ae R1 C4;have bP:=ae R1 C5;have bK:=ae R1 C8;have bO:=ae R1 jt;clear aF cW;have bC:=trivial)
  |(clear aL;(with_reducible refine ao (C:=C) ?_ ?_);rfl;intro x1 g1 aR R1 aw;have eV:=Nat.le_of_eq aR;have BB:=aw;have aK:=ae R1 C4;have bP:=ae R1 C5;have bK:=ae R1 C8;have bO:=ae R1 jt;clear aw aR;have aJ:=trivial))
 try clear dX
 refine(wv A1 it.opts.length c1 _ _ (o3.below (by decide) BB) (Hn _) s1).mono ?_;rintro r x5 ⟨v1,rfl,O1,cp⟩;replace O1:=aX O1 BB.size;replace R1:=R1.keep cp;replace R2:=R2.keep cp;replace R3:=R3.keep cp;replace BB:=az BB cp;clear aK bP bK bO;have aK:=ae R1 C4;have bP:=ae R1 C5;have bK:=ae R1 C8;have bO:=ae R1 jt;clear cp;have abN:=dv O1;have dX:=trivial
 go_wp2_with (first
  |(clear dX;(with_reducible refine cQ (u:=v1) ?_ ?_ isAgg45 sizeOf45 R3 (i:=4) (by(rw[hlen];decide)) abN ?_);rfl;rfl;have bg:=R3.ty;clear R3;intro x6 R3 dY;have Yi:(C.set 4 (v1)).length=_:=(List.length_set ..).trans hlen;have kt:=dY.aa bg;replace R1:=dY.row R1;replace R2:=dY.row R2;replace O1:=kt.own O1;replace BB:=BB.trans (dY.below jJ);clear aK bP bK bO;have aK:=ae R1 C4;have bP:=ae R1 C5;have bK:=ae R1 C8;have bO:=ae R1 jt;clear dY kt bg;have fu:=trivial))
 try clear fu
 refine(i_ A2 it.cA.length c2 _ _ (p3.below (by decide) BB) (kQ _) s2).mono ?_;rintro r x7 ⟨v2,rfl,O2,mP⟩;replace O2:=aX O2 BB.size;replace R1:=R1.keep mP;replace R2:=R2.keep mP;replace R3:=R3.keep mP;replace O1:=I O1 mP;replace BB:=az BB mP;clear aK bP bK bO;have aK:=ae R1 C4;have bP:=ae R1 C5;have bK:=ae R1 C8;have bO:=ae R1 jt;clear mP;have Ss:=dv O2;have fu:=trivial
 go_wp2_with (first
  |(clear fu;(with_reducible refine cQ (u:=v2) ?_ ?_ isAgg22 sizeOf22 R3 (i:=5) (by(rw[Yi];decide)) Ss ?_);rfl;rfl;have bg:=R3.ty;clear R3;intro x8 R3 VD;have Yj:((C.set 4 (v1)).set 5 (v2)).length=_:=(List.length_set ..).trans Yi;have kt:=VD.aa bg;replace R1:=VD.row R1;replace R2:=VD.row R2;replace O1:=kt.own O1;replace O2:=kt.own O2;replace BB:=BB.trans (VD.below jJ);clear aK bP bK bO;have aK:=ae R1 C4;have bP:=ae R1 C5;have bK:=ae R1 C8;have bO:=ae R1 jt;clear VD kt bg;have gK:=trivial))
 try clear gK
 refine(wv A3 it.texts.length c3 _ _ (q3.below (by decide) BB) (Hn _) s3).mono ?_;rintro r x9 ⟨v3,rfl,O3,yW⟩;replace O3:=aX O3 BB.size;replace R1:=R1.keep yW;replace R2:=R2.keep yW;replace R3:=R3.keep yW;replace O1:=I O1 yW;replace O2:=I O2 yW;replace BB:=az BB yW;clear aK bP bK bO;have aK:=ae R1 C4;have bP:=ae R1 C5;have bK:=ae R1 C8;have bO:=ae R1 jt;clear yW;have St:=dv O3;have gK:=trivial
 go_wp2_with (first
  |(clear gK;(with_reducible refine cQ (u:=v3) ?_ ?_ isAgg45 sizeOf45 R3 (i:=8) (by(rw[Yj];decide)) St ?_);rfl;rfl;have bg:=R3.ty;clear R3;intro NA R3 Ko;have Sh:(((C.set 4 (v1)).set 5 (v2)).set 8 (v3)).length=_:=(List.length_set ..).trans Yj;have kt:=Ko.aa bg;replace R1:=Ko.row R1;replace R2:=Ko.row R2;replace O1:=kt.own O1;replace O2:=kt.own O2;replace O3:=kt.own O3;replace BB:=BB.trans (Ko.below jJ);clear aK bP bK bO;have aK:=ae R1 C4;have bP:=ae R1 C5;have bK:=ae R1 C8;have bO:=ae R1 jt;clear Ko kt bg;have nY:=trivial))
 try clear nY
 refine(i_ A4 it.af.length c4 _ _ (r3.below (by decide) BB) (kQ _) s4).mono ?_;rintro r AW ⟨v4,rfl,O4,kW⟩;replace O4:=aX O4 BB.size;replace R1:=R1.keep kW;replace R2:=R2.keep kW;replace R3:=R3.keep kW;replace O1:=I O1 kW;replace O2:=I O2 kW;replace O3:=I O3 kW;replace BB:=az BB kW;clear aK bP bK bO;have aK:=ae R1 C4;have bP:=ae R1 C5;have bK:=ae R1 C8;have bO:=ae R1 jt;clear kW;have Su:=dv O4;have hq:=one_set (one_set (one_set (one_set oB 4 abN) 5 Ss) 8 St) 15 Su;have nY:=trivial
 go_wp2_with (first
  |(clear mU;(with_reducible refine av (C:=((((C.set 4 (v1)).set 5 (v2)).set 8 (v3)).set 15 (v4))) ?_ ?_ aU R2 Jr uK hq ?_);rfl;rfl;have bg:=R2.ty;clear R2;intro AY R2 Kq;have kt:=Kq.aa bg;replace R1:=Kq.row R1;replace R3:=Kq.row R3;replace O1:=kt.own O1;replace O2:=kt.own O2;replace O3:=kt.own O3;replace O4:=kt.own O4;replace BB:=BB.trans (Kq.below fP);clear aK bP bK bO;have aK:=ae R1 C4;have bP:=ae R1 C5;have bK:=ae R1 C8;have bO:=ae R1 jt;clear Kq kt bg;have Mx:=trivial)
  |(clear pS;(with_reducible refine ak ?_ aU R3 Jr ?_);rfl;have mU:=trivial)
  |(clear nY;(with_reducible refine cQ (u:=v4) ?_ ?_ isAgg22 sizeOf22 R3 (i:=15) (by(rw[Sh];decide)) Su ?_);rfl;rfl;have bg:=R3.ty;clear R3;intro AX R3 tG;have Jr:((((C.set 4 (v1)).set 5 (v2)).set 8 (v3)).set 15 (v4)).length=_:=(List.length_set ..).trans Sh;have kt:=tG.aa bg;replace R1:=tG.row R1;replace R2:=tG.row R2;replace O1:=kt.own O1;replace O2:=kt.own O2;replace O3:=kt.own O3;replace O4:=kt.own O4;replace BB:=BB.trans (tG.below jJ);clear aK bP bK bO;have aK:=ae R1 C4;have bP:=ae R1 C5;have bK:=ae R1 C8;have bO:=ae R1 jt;clear tG kt bg;have pS:=trivial))
 try clear Mx
 refine bodyPost_ret (js rfl _ rfl aU R2 Jr) rfl ?_;refine⟨_,rfl,⟨v1,v2,v3,v4,by rw[HC.out];rfl,O1,O2,O3,O4⟩,BB⟩
theorem ar {a W w1:World} (h:Below W.heap.size W w1) (h0:Below a.heap.size a W):Below a.heap.size a w1:=az h0 h
theorem bL {a w:World} (h:Below a.heap.size a w):Below a.heap.size a w.drew:=h.drew
theorem al {a w:World} (h:Below a.heap.size a w) (o:Obj):Below a.heap.size a (w.alloc o):=h.alloc h.size _
theorem jv {a w:World} {p:Addr} (h:Below a.heap.size a w) (hp:a.heap.size≤p.block) (u:Value):Below a.heap.size a (w.setCell p u):=h.setCell hp u
theorem aT {W w':World} {p:Addr} {x:Value} (l:p.block<W.heap.size) (h:W.cell? p=some x) (hb:Below W.heap.size W w'):w'.cell? p=some x:=(hb.cell l).trans h
theorem Si {W:World} {g i h j:Nat} {x u:Value} (cu:g≠h) (hc:W.cell? ⟨g,i,none⟩=some x):(W.setCell ⟨h,j,none⟩ u).cell? ⟨g,i,none⟩=some x:=by
 rw[World.cell?_setCell_other W ⟨h,j,none⟩ _ u (fun e=>cu (by injection e with e1 e2 e3;exact e1.symm))];exact hc
theorem aap {W w':World} {p q:Addr} {x y:Value} (l:p.block<W.heap.size) (m:q.block<W.heap.size) (h:W.cell? p=some x) (k:W.cell? q=some y) (hb:Below W.heap.size W w'):w'.cell? p=some x∧w'.cell? q=some y:=
 ⟨(hb.cell l).trans h,(hb.cell m).trans k⟩
theorem wA (A1 A2:Option Addr) (n1 n2 c1 c2:Nat) (xs ys:List Int) (w:World) (hx:dF w A1 n1 1 (xs.map (Value.int .i64))) (hy:dF w A2 n2 1 (ys.map (Value.int .i64))) (h1:n1≤1100000) (h2:n2≤1100000):
  Calls prog 35 #[.agg #[.slice A1 n1 c1,.slice A2 n2 c2]] w fun r w'=>∃v u,r=.returned (.agg #[v,u])∧w'.ownsRow w.heap.size 3 1 v n1 (xs.map (Value.int .i64))∧w'.ownsRow w.heap.size 3 1 u n2 (ys.map (Value.int .i64))∧Below w.heap.size w w':=by
 go_enter func35,ntmps35
 have aL:=trivial
 go_wp2_with (first
  |(clear aJ;(with_reducible refine cR AL ?_);intro x2 g2 Z2 cW uK R2 aF;have jz:g1≠g2:=(by have:=R1.lt;omega);have fP:w.heap.size≤g2:=(by have:=BB.size;omega);replace R1:=R1.keep aF;replace BB:=az BB aF;clear cV bJ;have cV:=U (R1.cell 0);have bJ:=U (R1.cell 1);clear aF cW;have bC:=trivial)
  |(clear aL;(with_reducible refine ao (C:=[.slice A1 n1 c1,.slice A2 n2 c2]) ?_ ?_);rfl;intro x1 g1 aR R1 aw;have eV:=Nat.le_of_eq aR;have BB:=aw;have cV:=U (R1.cell 0);have bJ:=U (R1.cell 1);clear aw aR;have aJ:=trivial))
 try clear bC
 obtain⟨z0,z1,rfl⟩:∃z0 z1,Z2=[z0,z1]:=by
  match Z2,uK with
  |[a,b],_=>exact⟨a,b,rfl⟩
 have xw:=hx.below (by decide) BB;have FY:=hy.below (by decide) BB;have Ve:=R1.lt;simp only[Act.put,List.setIfInBounds_toArray,List.set_cons_zero,List.set_cons_succ]
 go_region_held3 (fun w'=>w'.cell? ⟨g1,0,none⟩=some (.slice A1 n1 c1)∧w'.cell? ⟨g1,1,none⟩=some (.slice A2 n2 c2))
  ((first|(refine aap Ve Ve cV bJ ?_;(repeat(first|with_reducible exact Below.refl _ _|with_reducible refine ar ax ?_|with_reducible refine ar aC ?_|with_reducible refine al ?_ _|with_reducible refine bL ?_));done)|(refine⟨Si jz (Si jz (aT Ve cV ?_)),Si jz (Si jz (aT Ve bJ ?_))⟩;(repeat(first|with_reducible exact Below.refl _ _|with_reducible refine ar ax ?_|with_reducible refine ar aC ?_|with_reducible refine al ?_ _|with_reducible refine bL ?_));(repeat(first|with_reducible exact Below.refl _ _|with_reducible refine ar ax ?_|with_reducible refine ar aC ?_|with_reducible refine al ?_ _|with_reducible refine bL ?_));done)))
  (first
   |(go_at_call 73;((with_reducible refine(i_ A1 n1 c1 _ _ (xw.below (by decide) ?_) (kQ _) h1).mono ?_);(repeat(first|with_reducible exact Below.refl _ _|with_reducible refine ar ax ?_|with_reducible refine ar aC ?_|with_reducible refine al ?_ _|with_reducible refine bL ?_));rintro e wa ⟨v1,rfl,O1,aC⟩;obtain⟨X1,y1,rfl,_,_⟩:=aj O1;have R2a:=(Row.drew R2).keep aC))
   |(go_at_call 73;((with_reducible refine(i_ A2 n2 c2 _ _ (FY.below (by decide) ?_) (kQ _) h2).mono ?_);(repeat(first|with_reducible exact Below.refl _ _|with_reducible refine ar ax ?_|with_reducible refine ar aC ?_|with_reducible refine al ?_ _|with_reducible refine bL ?_));rintro e wb ⟨v2,rfl,O2,ax⟩;obtain⟨X2,y2,rfl,_,_⟩:=aj O2;have S7:=R2a.keep ax;have e0:=S7.cell 0;have e1:=S7.cell 1;have f0:=S7.frozen 0;have f1:=S7.frozen 1;simp only[List.getElem?_cons_zero,List.getElem?_cons_succ] at e0 e1)))
 have R3:=(S7.cE 0 (.slice X1 n1 y1)).cE 1 (.slice X2 n2 y2);have P3:=(cH.set wb g2 0 (.slice X1 n1 y1)).trans (cH.set _ g2 1 (.slice X2 n2 y2));have k3:=P3.aa S7.ty;replace aC:=fU aC;have BA:=az BB aC;replace O1:=k3.own (I (aX O1 BB.size) ax);replace O2:=k3.own (aX O2 BA.size);replace BB:=(az BA ax).trans (P3.below fP);clear e0 e1 f0 f1;generalize (wb.setCell ⟨g2,0,none⟩ (.slice X1 n1 y1)).setCell ⟨g2,1,none⟩ (.slice X2 n2 y2)=x3 at*
 go_wp2_with fail
 refine bodyPost_ret (js (C:=[.slice X1 n1 y1,.slice X2 n2 y2]) rfl _ rfl lT R3 rfl) rfl ?_;exact⟨_,_,rfl,O1,O2,BB⟩
def oY (w:World) (A:Option Addr) (n:Nat) (rows:List (List Int)):Prop:=rows.length=n∧∃us,Sl w A n us∧∀(i:Nat) (u:Value) (r:List Int),us[i]? =some u→rows[i]? =some r→eI .i64 w u r∧r.length≤1100000
theorem oY.below {w w':World} {A:Option Addr} {n:Nat} {rows:List (List Int)} (h:oY w A n rows) (hb:Below w.heap.size w w'):oY w' A n rows:=by
 obtain⟨h0,us,h1,h2⟩:=h;exact⟨h0,us,h1.below hb,fun i u r a b=>⟨(h2 i u r a b).1.below hb,(h2 i u r a b).2⟩⟩
theorem aaf:(prog.info? 22).map (fun i=>(i.zero,i.size,i.bytes))=some (some (.slice none 0 0),1,24):=by kernel_rfl
theorem kr (A:Option Addr) (n c:Nat) (rows:List (List Int)) (w:World) (hr:oY w A n rows) (hn:n≤1100000):
  Calls prog 31 #[.agg #[.slice A n c]] w fun r w'=>∃v,r=.returned (.agg #[v])∧i' w.heap.size w' v rows∧Below w.heap.size w w':=by
 go_enter func31,ntmps31
 have aL:=trivial
 go_wp2_with (first
  |(clear bC;(with_reducible refine bu (Z:=[.slice none 0 0]) xN NB ?_);intro x3 g3 ew R3 bh;have Sn:=h_ R1 ew;have mC:=h_ R2 ew;have jJ:=jq BB ew;replace R1:=R1.keep bh;replace R2:=R2.keep bh;replace BB:=az BB bh;clear cV;have cV:=U (R1.cell 0);clear bh ew;have cz:=trivial)
  |(clear aJ;(with_reducible refine cR xN ?_);intro x2 g2 Z2 cW uK R2 aF;have jz:g1≠g2:=(by have:=R1.lt;omega);have fP:w.heap.size≤g2:=(by have:=BB.size;omega);replace R1:=R1.keep aF;replace BB:=az BB aF;clear cV;have cV:=U (R1.cell 0);clear aF cW;have bC:=trivial)
  |(clear aL;(with_reducible refine ao (C:=[.slice A n c]) ?_ ?_);rfl;intro x1 g1 aR R1 aw;have eV:=Nat.le_of_eq aR;have BB:=aw;have cV:=U (R1.cell 0);clear aw aR;have aJ:=trivial))
 try clear cz
 obtain⟨hlen,us0,hs,hu⟩:=hr;have HN:=Lib.hid hlen;clear hlen
 go_loopw [9] (fun i wr=>∃(k:Nat) (v:Value) (us:List Value),k≤n∧i=.int .i64 k∧Row wr g3 42 [v]∧Row wr g2 42 Z2∧wr.ownsRow w.heap.size 22 1 v k us∧us.length=k∧(∀(j:Nat) (u:Value) (r:List Int),us[j]? =some u→rows[j]? =some r→db w.heap.size wr u r)∧Below w.heap.size w wr) (fun i _=>n - (intOf i).toNat)
 case atStart=>exact⟨0,_,[],Nat.zero_le _,rfl,R3,R2,World.ownsRow_nil _ _ _ _,rfl,fun j u r h=>by simp at h,BB⟩
 case round=>
  obtain⟨k,v,us,hk,rfl,R3,R2,a_,hul,dZ,BB⟩:=hrel
  by_cases aS:k<n
  ·obtain⟨b,o,u,rfl,iw,hcu,⟨A1,c1,rfl,_,_,qV⟩,yR⟩:∃b o u,A=some ⟨b,o,none⟩∧b<w.heap.size∧w.cell? ⟨b,o+k,none⟩=some u∧eI .i64 w u (rows.getD k [])∧(rows.getD k []).length≤1100000:=by
    obtain⟨b,o,e,hc⟩:=hs.2 (by omega);have hx:us0[k]? =some (us0[k]'(by rw[hs.1];exact aS)):=List.getElem?_eq_getElem _
    have hy:rows[k]? =some (rows.getD k []):=by have:=HN.out;rw[List.getD,List.getElem?_eq_getElem (by omega)];rfl
    exact⟨b,o,_,e,hs.lt (by omega) e,hc k _ hx,(hu k _ _ hx hy).1,(hu k _ _ hx hy).2⟩
   have hy:rows[k]? =some (rows.getD k []):=by have:=HN.out;rw[List.getD,List.getElem?_eq_getElem (by omega)];rfl
   have HY:=Lib.hid hy;clear hy;generalize rows.getD k []=row at*;have c0:=(BB.cell (p:=⟨b,o+k,none⟩) iw).trans hcu;have d0:=U (R3.cell 0);have adH:=(qV.jZ.below (by decide) BB);have zz:=BB.size
   go_wp2_with fail
   go_region_law (first
    |(go_simp;go_at_call 73;((with_reducible refine(i_ A1 row.length c1 _ _ (adH.below (by decide) ?_) (kQ _) yR).mono ?_);(repeat(first|with_reducible exact Below.refl _ _|with_reducible refine ar ax ?_|with_reducible refine ar aC ?_|with_reducible refine al ?_ _|with_reducible refine bL ?_));rintro e wa ⟨v1,rfl,O1,aC⟩;obtain⟨X1,y1,rfl,_,_⟩:=aj O1;replace aC:=fU aC;have d1:wa.cell? ⟨g3,0,none⟩=some v:=(R3.keep aC).cell 0;have d2:(wa.alloc (.cells #[.slice X1 row.length y1] 22)).cell? ⟨g3,0,none⟩=some v:=((R3.keep aC).alloc _).cell 0;have BA:=az BB aC;have d_:=(I a_ aC).alloc (.cells #[.slice X1 row.length y1] 22);have uH:dF (wa.alloc (.cells #[.slice X1 row.length y1] 22)) (some ⟨wa.heap.size,0,none⟩) 1 1 [.slice X1 row.length y1]:=(Row.new wa 22 [.slice X1 row.length y1]).sl.jZ;have on1:=dv O1;have DU:=(BA.alloc BA.size (.cells #[.slice X1 row.length y1] 22)).size))
    |(refine lF (by rfl) (.tmp 14) (.tmp 17) 40 (by rfl) w.heap.size 22 (.slice none 0 0) 1 24 underlying40 aaf rfl (by decide) v k us (some ⟨wa.heap.size,0,none⟩) 1 1 [.slice X1 row.length y1] (by rfl) (by rfl) d_ uH (by decide) (by simpa using on1) (by unfold maxLen;omega) (by omega) DU ?_;intro v2 w2 gM gy;obtain⟨X2,y2,rfl,_,_⟩:=aj gM;have kt:=dN d_ gy;have tk:=(((R3.keep aC).alloc _).aa kt (by decide));have q0:=tk.cell 0;have q1:=tk.frozen 0;simp only[List.getElem?_cons_zero] at q0))
   all_goals
    have P3:=cH.set w2 g3 0 (.slice X2 (k+1) y2);have VI:Row (w2.setCell ⟨g3,0,none⟩ (.slice X2 (k+1) y2)) g3 42 [.slice X2 (k+1) y2]:=tk.cE 0 _;have iT:=P3.aa tk.ty;have VG:=P3.row ((((R2.keep aC).alloc _).aa kt (by decide))) mC;have xo:=iT.own gM;have ka:=ah.ab (t:=22) (ai wa (.cells #[.slice X1 row.length y1] 22))
    have LP:∀(j:Nat) (u:Value) (r:List Int),(us++ [.slice X1 row.length y1])[j]? =some u→rows[j]? =some r→db w.heap.size (w2.setCell ⟨g3,0,none⟩ (.slice X2 (k+1) y2)) u r:=by
     intro j u r I_ Xk;refine iT.own (kt.own (ka.own ?_))
     rcases Nat.lt_or_ge j k with hj|hj
     ·rw[List.getElem?_append_left (by omega)] at I_;exact I (dZ j u r I_ Xk) aC
     ·rw[List.getElem?_append_right (by omega)] at I_
      obtain rfl:j=k:=by
       rcases Nat.eq_or_lt_of_le hj with h|h
       ·exact h.symm
       ·rw[List.getElem?_eq_none (by simp;omega)] at I_;cases I_
      rw[HY.out] at Xk
      injection Xk with Xk
      subst Xk;rw[hul,Nat.sub_self,List.getElem?_cons_zero] at I_
      injection I_ with I_
      subst I_;exact aX O1 zz
    have B3:=((BA.alloc BA.size (.cells #[.slice X1 row.length y1] 22)).trans (bG d_ gy (Nat.le_refl _) DU)).trans (P3.below jJ)
    have adO:(us++ [Value.slice X1 row.length y1]).length=k+1:=by simp[hul]
    clear d0 d1 d2 q0 q1 c0 dZ a_ d_ uH;generalize w2.setCell ⟨g3,0,none⟩ (.slice X2 (k+1) y2)=w3 at*
    go_wp2_with fail
    exact⟨⟨k+1,_,_,by omega,rfl,VI,VG,xo,adO,LP,B3⟩,by simp[intOf];omega⟩
  ·obtain rfl:k=n:=by omega
   obtain⟨z,rfl⟩:∃z,Z2=[z]:=by
    match Z2,uK with
    |[a],_=>exact⟨a,rfl⟩
   obtain⟨X,y,rfl,_,_⟩:=aj a_;have d0:=U (R3.cell 0);have d1:=U (R2.cell 0);have d2:=R2.frozen 0;have P3:=cH.set wr g2 0 (.slice X k y);have R4:=R2.cE 0 (.slice X k y);have kt:=P3.aa R2.ty
   have O4:i' w.heap.size (wr.setCell ⟨g2,0,none⟩ (.slice X k y)) (.slice X k y) rows:=by
    have nV:=HN.out;refine⟨us,by omega,?_,fun j u r a b=>kt.own (dZ j u r a b)⟩;rw[nV];exact kt.own a_
   replace BB:=BB.trans (P3.below fP);clear dZ a_
   go_wp2_with fail
   refine bodyPost_ret (js (C:=[.slice X k y]) rfl _ rfl lG R4 rfl) rfl ?_;exact⟨_,rfl,O4,BB⟩
end
section
def fa (c:UInt8):List UInt8:=if c=34∨c=92 then [92,c] else if c=10 then [92,110] else [c]
def ev (l:List UInt8):List UInt8:=l.flatMap fa
theorem BL (a b:List UInt8):ev (a++b)=ev a++ev b:=by unfold ev;simp
theorem MZ (c:UInt8):(fa c).length=if c=34∨c=92∨c=10 then 2 else 1:=by
 unfold fa
 by_cases h1:c=34∨c=92
 ·rw[if_pos h1,if_pos (by rcases h1 with h|h<;>simp[h])];rfl
 ·by_cases h2:c=10
  ·rw[if_neg h1,if_pos h2,if_pos (by simp[h2])];rfl
  ·rw[if_neg h1,if_neg h2,if_neg (fun h=>h.elim (fun h=>h1 (Or.inl h)) fun h=>h.elim (fun h=>h1 (Or.inr h)) h2)];rfl
theorem JZ (c:UInt8):1≤(fa c).length∧(fa c).length≤2:=by
 rw[MZ];split<;>omega
theorem qF:∀l:List UInt8,l.length≤(ev l).length∧(ev l).length≤2*l.length
 |[]=>by simp[ev]
 |c::t=>by
  have h1:=qF t;have h2:=JZ c
  have e:ev (c::t)=fa c++ev t:=by unfold ev;simp
  rw[e,List.length_append,List.length_cons];omega
theorem sG (l:List UInt8) (k:Nat) (h:k<l.length):ev (l.take (k+1))=ev (l.take k)++fa l[k]:=by
 rw[List.take_succ_eq_append_getElem h,BL]
 congr 1
 unfold ev;simp
theorem Gd (l:List UInt8) (k:Nat) (h:k<l.length):ev l=ev (l.take k)++(fa l[k]++ev (l.drop (k+1))):=by
 rw[←List.append_assoc,←sG l k h,←BL,List.take_append_drop]
def CQ (c:UInt8):Bool:=decide (c=10)||(decide (32≤c)&&decide (c≤126))
theorem J0 (c:UInt8):10∉fa c:=by
 unfold fa
 split
 ·rename_i h
  rcases h with h|h<;>subst h<;>decide
 ·split
  ·decide
  ·rename_i h
   intro hm;simp only[List.mem_singleton] at hm;exact h hm.symm
theorem J1 (l:List UInt8):10∉ev l:=by
 unfold ev;intro h;rw[List.mem_flatMap] at h;obtain⟨c,_,h⟩:=h;exact J0 c h
def bf (ls:List (List UInt8)):List UInt8:=ls.flatMap (· ++ [10])
theorem eL (a b:List (List UInt8)):bf (a++b)=bf a++bf b:=by unfold bf;simp
theorem ir (l:List UInt8) (t:List (List UInt8)):bf (l::t)=l++(10::bf t):=by unfold bf;simp
theorem im (l:List UInt8):bf [l]=l++ [10]:=by unfold bf;simp
end
section
open Go.RowKit
def oV {α:Type} (R:World→Value→α→Prop) (d:α) (w:World) (v:Value) (xs:List α):Prop:=
 ∃A c us,v=.slice A xs.length c∧xs.length≤c∧xs.length≤maxLen∧Sl w A xs.length us∧∀i u,us[i]? =some u→R w u (xs.getD i d)
section
variable {α:Type} {R:World→Value→α→Prop} {d:α} {w w':World} {v:Value} {xs:List α}
theorem oV.below (hR:∀u x,R w u x→R w' u x) (h:oV R d w v xs) (hb:Below w.heap.size w w'):oV R d w' v xs:=by
 obtain⟨A,c,us,hv,h1,h2,hs,hu⟩:=h;exact⟨A,c,us,hv,h1,h2,hs.below hb,fun i u hi=>hR u _ (hu i u hi)⟩
theorem oV.nil:oV R d w (.slice none 0 0) []:=⟨none,0,[],rfl,by simp,by simp,Sl.nil,fun i u h=>by simp at h⟩
theorem JL {A:Option Addr} {n:Nat} {us:List Value} (hs:Sl w A n us) (hu:∀i u,us[i]? =some u→R w u (xs.getD i d)) {k:Nat} (hk:k<n):
  ∃b o u,A=some ⟨b,o,none⟩∧b<w.heap.size∧w.cell? ⟨b,o+k,none⟩=some u∧R w u (xs.getD k d):=by
 obtain⟨b,o,e,hc⟩:=hs.2 (by omega);have hx:us[k]? =some (us[k]'(by rw[hs.1];exact hk)):=List.getElem?_eq_getElem _;exact⟨b,o,_,e,hs.lt (by omega) e,hc k _ hx,hu k _ hx⟩
end
def wT:World→Value→List (List Int)→Prop:=oV (eI .i64) []
theorem wT.below {w w':World} {v:Value} {xs:List (List Int)} (h:wT w v xs) (hb:Below w.heap.size w w'):wT w' v xs:=oV.below (fun u x hx=>hx.below hb) h hb
def QH:World→Value→List (List (List Int))→Prop:=oV wT []
theorem QH.below {w w':World} {v:Value} {xs:List (List (List Int))} (h:QH w v xs) (hb:Below w.heap.size w w'):QH w' v xs:=oV.below (fun u x hx=>hx.below hb) h hb
def Vi:World→Value→List (List (List (List Int)))→Prop:=oV QH []
theorem Vi.below {w w':World} {v:Value} {xs:List (List (List (List Int)))} (h:Vi w v xs) (hb:Below w.heap.size w w'):Vi w' v xs:=oV.below (fun u x hx=>hx.below hb) h hb
end
end Go.Proofs.YtdnpopjabpklnaaGreatDoor
