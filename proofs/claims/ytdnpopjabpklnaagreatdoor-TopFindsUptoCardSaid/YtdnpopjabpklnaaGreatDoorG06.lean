/- Contracts and plain laws that the proof of the top laws uses (G06). No condition beyond those stated. -/
import Derived.Test.YtdnpopjabpklnaaGreatDoorTqG
import Derived.Test.YtdnpopjabpklnaaGreatDoorG03
import Derived.Test.YtdnpopjabpklnaaGreatDoorShelf
set_option maxRecDepth 100000
set_option maxHeartbeats 64000000
set_option linter.all false
namespace Go.Proofs.YtdnpopjabpklnaaGreatDoor
section
open Go.RowKit
open Tryz
structure eH where
 kind:Int
 user:Int
 il:Int
 time:Int
 id:Int
 other:Int
 act:Int
 item:aA
 bX:gH
 aZ:j0
 rows:List (List Int)
def yg (c:eH) (vo vc vt va vm:Value):List Value:=
 [.int .i64 c.kind,.int .i64 c.user,.int .i64 c.il,.int .i64 c.time,.int .i64 c.id,.int .i64 c.other,.int .i64 c.act]++(fS c.item vo vc vt va++(fL c.bX++(fJ c.aZ++ [vm])))
def je (w:World) (C:List Value) (c:eH):Prop:=
 ∃vo vc vt va A n k,C=yg c vo vc vt va (.slice A n k)∧Strs w vo c.item.opts∧eI .i64 w vc c.item.cA∧Strs w vt c.item.texts∧eI .i64 w va c.item.af∧oY w A n c.rows∧n≤k
structure aen (c:eH):Prop where
 item:jS c.item
 aW:c.item.aW.size≤100000000
 code:c.item.code.size≤100000000
 strs:∀s∈c.item.opts++c.item.texts,s.size≤100000000
 aeO:c.bX.code.size≤100000000
 title:c.bX.title.size≤100000000
 alt:c.aZ.alt.size≤100000000
 rows:c.rows.length≤1100000
 row:∀r∈c.rows,r.length≤1100000
section
variable {w w':World} {C:List Value} {c:eH}
theorem je.below (h:je w C c) (hb:Below w.heap.size w w'):je w' C c:=by
 obtain⟨vo,vc,vt,va,A,n,k,e,h1,h2,h3,h4,h5,h6⟩:=h;exact⟨vo,vc,vt,va,A,n,k,e,h1.below hb,h2.below hb,h3.below hb,h4.below hb,h5.below hb,h6⟩
theorem je.len (h:je w C c):C.length=32:=by
 obtain⟨vo,vc,vt,va,A,n,k,rfl,_⟩:=h;rfl
theorem je.one (h:je w C c):∀u∈C,u.oneCell'=true:=by
 obtain⟨vo,vc,vt,va,A,n,k,rfl,h1,h2,h3,h4,_⟩:=h;intro u hu;unfold yg at hu;rw[List.mem_append,List.mem_append] at hu
 rcases hu with hu|hu|hu
 ·simp only[List.mem_cons,List.not_mem_nil,or_false] at hu
  rcases hu with rfl|rfl|rfl|rfl|rfl|rfl|rfl<;>rfl
 ·exact dO.one ⟨_,_,_,_,rfl,h1,h2,h3,h4⟩ u hu
 ·simp only[fL,fJ,List.mem_append,List.mem_cons,List.not_mem_nil,or_false] at hu
  rcases hu with (rfl|rfl)|(rfl|rfl|rfl|rfl|rfl)|rfl<;>rfl
end
theorem wK {P:Program} (w:World) (base:Nat) (t ty e:TypeId) (z:Value) (size bytes:Nat) (ht:P.underlying t=some (.slice e)) (jh:(P.info? e).map (fun i=>(i.zero,i.size,i.bytes))=some (some z,size,bytes)) (lJ:z.cells.size=size) (cM:0<size)
  (v:Value) (n:Nat) (xs:List Value) (a_:w.ownsRow base e size v n xs) (A:Option Addr) (m c:Nat) (ys:List Value) (hr:dF w A m size ys) (h1:∀u∈ys,u.oneCell'=true)
  (qT:n+m≤maxLen) (gR:(n+m)*bytes≤140737488355328) (fD:base≤w.heap.size):
  ∃v' w',(Builtin.append_ #[t,t] ty #[v,.slice A m c]).run P w=.ok v' w'∧w'.ownsRow base e size v' (n+m) (xs++ys)∧w.grownBy w' v.ownBlock:=by
 obtain⟨i,hi,cD,iG,iM⟩:=info_parts jh
 rcases A with _|ad
 ·have hm:m=0:=by
   rcases Nat.eq_zero_or_pos m with h0|h0
   ·exact h0
   ·obtain⟨b,o,h,_⟩:=hr.2 h0
    cases h
  subst hm;have hn:ys=[]:=List.eq_nil_of_length_eq_zero (by rw[hr.1];simp);subst hn;exact⟨v,w,pF w base t ty e i size ht hi _ n xs a_ c,by simpa using a_,⟨rfl,rfl,rfl,Nat.le_refl _,fun _ _ _=>rfl⟩⟩
 ·have qy:∀j u,ys[j]? =some u→w.cell? (ad.add j)=some u:=by
   intro j u hu
   rcases Nat.eq_zero_or_pos m with h0|h0
   ·subst h0;have hn:ys=[]:=List.eq_nil_of_length_eq_zero (by rw[hr.1];simp);subst hn
    simp at hu
   ·obtain⟨b,o,h,hc⟩:=hr.2 h0
    injection h with h
    subst h;rw[Addr.add_lit];exact hc j u hu
  obtain⟨v',w',iI,h2,h3,_⟩:=run_append_own (P:=P) w base t ty e i z size bytes ht hi cD iG iM lJ cM v n xs a_ ad m c ys hr.1 qy h1 qT gR fD;exact⟨v',w',iI,h2,h3⟩
theorem cv {P:Program} {ops:Array Oper} {rest:List Oper} {o:Oper} {a:Act} {w:World} {Q:Exit→Act→World→Prop} (OY:o.guard=none) (s x:Operand) (t:TypeId)
  (ho:o.op=.call {callee:=.builtin .append,args:=#[s,x],argTypes:=#[t,t]})
  (base:Nat) (e:TypeId) (z:Value) (size bytes:Nat) (ht:P.underlying t=some (.slice e)) (jh:(P.info? e).map (fun i=>(i.zero,i.size,i.bytes))=some (some z,size,bytes)) (lJ:z.cells.size=size) (cM:0<size)
  (v:Value) (n:Nat) (xs:List Value) (A:Option Addr) (m c:Nat) (ys:List Value) (hs:a.eval s=v) (hx:a.eval x=.slice A m c) (a_:w.ownsRow base e size v n xs) (hr:dF w A m size ys) (h1:∀u∈ys,u.oneCell'=true)
  (qT:n+m≤maxLen) (gR:(n+m)*bytes≤140737488355328) (fD:base≤w.heap.size)
  (h:∀v' w',w'.ownsRow base e size v' (n+m) (xs++ys)→w.grownBy w' v.ownBlock→wpList P ops Q rest (a.put o.dst v') w'):wpList P ops Q (o::rest) a w:=by
 obtain⟨v',w',iI,h2,h3⟩:=wK (P:=P) w base t o.type e z size bytes ht jh lJ cM v n xs a_ A m c ys hr h1 qT gR fD
 refine wpList_plain OY fun K hK=>?_
 unfold Oper.wp execOp;simp only[ho,resolve,invoke,builtin,Sem.run_bind,Sem.run_pure,Result.andThen_ok,List.map_toArray,List.map_cons,List.map_nil,hs,hx,iI];exact hK _ _ (h v' w' h2 h3)
def acw (e:Ending):Prop:=∃(n:Int) (v:Bool),e=.returned (.tuple #[.int .i64 n,.bool v])
def Kl (e:Ending):Prop:=∃v:Bool,e=.returned (.bool v)
def IsE (e:Ending):Prop:=∃n:Int,e=.returned (.int .i64 n)
theorem FI (A:Option Addr) (n c:Nat) (zs:List Int) (x:Int) (w:World) (h:dF w A n 1 (zs.map (Value.int .i64))) (hn:n≤1100000):
  Calls prog 243 #[.slice A n c,.int .i64 x] w fun e w'=>Kl e∧w'=w:=by
 rcases Nat.eq_zero_or_pos n with h0|h0
 ·subst h0;exact(slices_Contains_int_empty A c x w).mono fun e w' ⟨a,b⟩=>⟨⟨_,a⟩,b⟩
 ·obtain⟨b,o,rfl,hc⟩:=h.2 h0
  have hl:zs.length=n:=by have:=h.1;simpa using this
  refine(slices_Contains_int b o n c zs x w (by omega) (by omega) (fun j hj=>?_)).mono fun e w' ⟨a,b⟩=>⟨⟨_,a⟩,b⟩
  refine hc j _ ?_;rw[List.getElem?_map,List.getElem?_eq_getElem hj]
  simp[List.getD,List.getElem?_eq_getElem hj]
def sJ (r k:Int):Bool:=bits BinOp.and IntKind.i64 r k !=0
theorem rD (C:List Value) (r k:Int) (w:World) (hr:C[2]? =some (.int .i64 r)):
  Calls prog 80 #[.agg C.toArray,.int .i64 k] w fun e w'=>e=.returned (.bool (sJ r k))∧Below w.heap.size w w':=by
 go_enter func80,ntmps80
 have aL:=trivial
 go_wp2_with (first
  |(clear aL;(with_reducible refine ao (C:=C) ?_ ?_);rfl;intro x1 g1 aR R1 aw;have eV:=Nat.le_of_eq aR;have BB:=aw;have aI:=ae R1 hr;clear aw aR;have aJ:=trivial))
 try clear aJ
 go_ret
 exact⟨rfl,BB⟩
theorem A8 (C:List Value) (u r t k:Int) (w:World) (hu:C[1]? =some (.int .i64 u)) (hr:C[2]? =some (.int .i64 r)) (ht:C[3]? =some (.int .i64 t)):
  Calls prog 93 #[.agg C.toArray,.int .i64 k] w fun e w'=>e=.returned (.agg (mi ⟨k,u,r,t⟩).toArray)∧Below w.heap.size w w':=by
 go_enter func93,ntmps93
 have aL:=trivial
 go_wp2_with (first
  |(clear bC;(with_reducible refine av (C:=[.int .i64 k,.int .i64 u,.int .i64 r,.int .i64 t]) ?_ ?_ pU R2 rfl uK (by simp[Value.oneCell']) ?_);rfl;rfl;have bg:=R2.ty;clear R2;intro x3 R2 H0;have kt:=H0.aa bg;replace R1:=H0.row R1;replace BB:=BB.trans (H0.below fP);clear bJ aI eo;have bJ:=ae R1 hu;have aI:=ae R1 hr;have eo:=ae R1 ht;clear H0 kt bg;have cz:=trivial)
  |(clear aJ;(with_reducible refine cR BP ?_);intro x2 g2 Z2 cW uK R2 aF;have jz:g1≠g2:=(by have:=R1.lt;omega);have fP:w.heap.size≤g2:=(by have:=BB.size;omega);replace R1:=R1.keep aF;replace BB:=az BB aF;clear bJ aI eo;have bJ:=ae R1 hu;have aI:=ae R1 hr;have eo:=ae R1 ht;clear aF cW;have bC:=trivial)
  |(clear aL;(with_reducible refine ao (C:=C) ?_ ?_);rfl;intro x1 g1 aR R1 aw;have eV:=Nat.le_of_eq aR;have BB:=aw;have bJ:=ae R1 hu;have aI:=ae R1 hr;have eo:=ae R1 ht;clear aw aR;have aJ:=trivial))
 try clear cz
 refine bodyPost_ret (js rfl _ rfl pU R2 rfl) rfl ?_;exact⟨rfl,BB⟩
theorem sQ:gQ prog 39 [.int .i64 0,.int .i64 0,.slice none 0 0,.slice none 0 0,.slice none 0 0]:=by unfold gQ;kernel_rfl
theorem U1 (u:Int) (w:World) (h1:1≤u) (h2:u≤9999999):
  Calls prog 88 #[.int .i64 u] w fun e w'=>e=.returned (.tuple #[.agg #[.int .i64 1,.int .i64 u,.slice none 0 0,.slice none 0 0,.slice none 0 0],.int .i64 0])∧Below w.heap.size w w':=by
 go_enter func88,ntmps88
 go_wp2_with fail
 refine bodyPost_ret (bH (C:=[.int .i64 1,.int .i64 u,.slice none 0 0,.slice none 0 0,.slice none 0 0]) rfl _ rfl bd (Row.new w _ _) rfl) rfl ?_;exact⟨rfl,ai _ _⟩
theorem wJ (k st:Int) (w:World):
  Calls prog 198 #[.int .i64 k,.int .i64 st] w fun e w'=>acw e∧w=w':=by
 go_enter func198,ntmps198
 go_wp2_with fail
 all_goals (go_ret2;exact⟨⟨_,_,rfl⟩,rfl⟩)
theorem wC (A1 A2 A3:Option Addr) (st au k u:Int) (n1 n2 n3 c1 c2 c3:Nat) (zs:List Int) (w:World) (h1:dF w A1 n1 1 (zs.map (Value.int .i64))) (hn:n1≤1100000):
  Calls prog 199 #[.agg #[.int .i64 st,.int .i64 au,.slice A1 n1 c1,.slice A2 n2 c2,.slice A3 n3 c3],.int .i64 k,.int .i64 u] w fun e w'=>Kl e∧Below w.heap.size w w':=by
 have BB:=ai w (.cells #[.int .i64 st,.int .i64 au,.slice A1 n1 c1,.slice A2 n2 c2,.slice A3 n3 c3] 39);have hc:=FI A1 n1 c1 zs u _ (h1.below (by decide) BB) hn
 go_enter func199,ntmps199
 go_wp2_with (go_at_call 243;refine hc.mono ?_;rintro e w' ⟨⟨v,rfl⟩,rfl⟩)
 all_goals (go_ret;exact⟨⟨_,rfl⟩,BB⟩)
end
section
open Go.RowKit
open Tryz
theorem ml (p:UInt8→Bool) (s:ByteArray) (k:Nat) (h:k<s.size):(s.data.toList.take (k+1)).all p=((s.data.toList.take k).all p&&p s[k]):=by
 rw[List.take_succ_eq_append_getElem (by simpa using h),List.all_append]
 simp
 rfl
theorem nr (p:UInt8→Bool) (s:ByteArray) (k:Nat) (h:k<s.size) (hp:p s[k]=false):s.data.toList.all p=false:=by
 rw[List.all_eq_false];refine⟨s[k],?_,by rw[hp];decide⟩;have:s[k]=s.data.toList[k]'(by simpa using h):=rfl;rw[this];exact List.getElem_mem _
theorem nu (p:UInt8→Bool) (s:ByteArray) (k:Nat) (h:s.size≤k) (hp:(s.data.toList.take k).all p=true):s.data.toList.all p=true:=by
 rwa [List.take_of_length_le (by simpa using h)] at hp
theorem bS (s:ByteArray):s.data.toList.length=s.size:=by simp
theorem xY {P:Prop} (h:P:=by
 all_goals
  go_round
  case rel=>exact⟨k+1,by omega,by go_num,by unfold Hid;rw[HA.out,dq.out,HP.out];rfl⟩
  case measure=>simp[intOf];omega):P:=h
theorem Re {P:Prop} (h:P:=by
 unfold okB at hp
 by_cases g1:(s[k].toNat:Int)<32
 ·clear hp
  go_wp2
  all_goals (go_ret;exact⟨by rw[HE.out];rfl,rfl⟩)
 ·have g2:126<(s[k].toNat:Int):=by
   simp at hp;omega
  clear hp
  go_wp2
  all_goals (go_ret;exact⟨by rw[HE.out];rfl,rfl⟩)):P:=h
theorem pD (s:ByteArray) (m:Nat) (w:World) (hs:s.size≤1000000000000) (hm:m≤1100000):
  Calls prog 111 #[.string s,.int .i64 (m:Int)] w fun e w'=>e=.returned (.bool (cP s.data.toList m))∧w=w':=by
 go_enter func111,ntmps111
 go_wp2
 go_loop [5] (fun i=>∃k:Nat,k≤s.size∧i=.int .i64 k∧Hid ((s.data.toList.take k).all okB=true)) (fun i=>s.size - (intOf i).toNat)
 case atStart=>exact⟨0,Nat.zero_le _,rfl,by simp[Hid]⟩
 case round=>
  obtain⟨k,hk,rfl,dq⟩:=hrel
  by_cases aS:k<s.size
  ·have HA:=Lib.hid (ml okB s k aS)
   by_cases hp:okB s[k]=true
   ·have HP:=Lib.hid hp;unfold okB at hp;rw[Bool.and_eq_true,decide_eq_true_eq,decide_eq_true_eq] at hp;obtain⟨g1,g2⟩:=hp
    go_wp2
    all_goals exact xY
   ·have HE:Hid (cP s.data.toList m=false):=by
     unfold Hid;have:=nr okB s k aS (by simpa using hp);unfold cP;rw[this];rfl
    exact Re
  ·have HF:=Lib.hid (nu okB s k (by omega) dq.out);have HL:=Lib.hid (bS s)
   by_cases h1:1≤s.size
   ·by_cases h2:s.size≤m
    ·have HE:Hid (cP s.data.toList m=true):=by unfold Hid cP;rw[HF.out,HL.out];simp;omega
     have yC:(s.size:Int)≤m:=by omega
     go_wp2
     go_ret
     exact⟨by rw[HE.out];rfl,rfl⟩
    ·have HE:Hid (cP s.data.toList m=false):=by unfold Hid cP;rw[HF.out,HL.out];simp;omega
     have yC:¬((s.size:Int)≤m):=by omega
     go_wp2
     go_ret
     exact⟨by rw[HE.out];rfl,rfl⟩
   ·have HE:Hid (cP s.data.toList m=false):=by unfold Hid cP;rw[HF.out,HL.out];simp;omega
    go_wp2
    go_ret
    exact⟨by rw[HE.out];rfl,rfl⟩
theorem Qs (s:ByteArray) (w:World) (hs:s.size≤1000000000000):
  Calls prog 136 #[.string s] w fun e w'=>e=.returned (.bool (cP s.data.toList 60))∧w=w':=by
 go_enter func136,ntmps136
 go_wp2
 go_loop [3] (fun i=>∃k:Nat,k≤s.size∧i=.int .i64 k∧Hid ((s.data.toList.take k).all okB=true)) (fun i=>s.size - (intOf i).toNat)
 case atStart=>exact⟨0,Nat.zero_le _,rfl,by simp[Hid]⟩
 case round=>
  obtain⟨k,hk,rfl,dq⟩:=hrel
  by_cases aS:k<s.size
  ·have HA:=Lib.hid (ml okB s k aS)
   by_cases hp:okB s[k]=true
   ·have HP:=Lib.hid hp;unfold okB at hp;rw[Bool.and_eq_true,decide_eq_true_eq,decide_eq_true_eq] at hp;obtain⟨g1,g2⟩:=hp
    go_wp2
    all_goals exact xY
   ·have HE:Hid (cP s.data.toList 60=false):=by
     unfold Hid;have:=nr okB s k aS (by simpa using hp);unfold cP;rw[this];rfl
    exact Re
  ·have HF:=Lib.hid (nu okB s k (by omega) dq.out);have HL:=Lib.hid (bS s)
   by_cases h1:1≤s.size
   ·by_cases h2:s.size≤60
    ·have HE:Hid (cP s.data.toList 60=true):=by unfold Hid cP;rw[HF.out,HL.out];simp;omega
     have yC:(s.size:Int)≤60:=by omega
     go_wp2
     go_ret
     exact⟨by rw[HE.out];rfl,rfl⟩
    ·have HE:Hid (cP s.data.toList 60=false):=by unfold Hid cP;rw[HF.out,HL.out];simp;omega
     have yC:¬((s.size:Int)≤60):=by omega
     go_wp2
     go_ret
     exact⟨by rw[HE.out];rfl,rfl⟩
   ·have HE:Hid (cP s.data.toList 60=false):=by unfold Hid cP;rw[HF.out,HL.out];simp;omega
    go_wp2
    go_ret
    exact⟨by rw[HE.out];rfl,rfl⟩
theorem J3 (s:ByteArray) (w:World) (hs:s.size≤1000000000000):
  Calls prog 170 #[.string s] w fun e w'=>e=.returned (.bool (n_ s.data.toList))∧w=w':=by
 go_enter func170,ntmps170
 go_wp2
 go_loop [3] (fun i=>∃k:Nat,k≤s.size∧i=.int .i64 k∧Hid ((s.data.toList.take k).all wo=true)) (fun i=>s.size - (intOf i).toNat)
 case atStart=>exact⟨0,Nat.zero_le _,rfl,by simp[Hid]⟩
 case round=>
  obtain⟨k,hk,rfl,dq⟩:=hrel
  by_cases aS:k<s.size
  ·have HA:=Lib.hid (ml wo s k aS)
   by_cases hp:wo s[k]=true
   ·have HP:=Lib.hid hp;unfold wo at hp;rw[Bool.or_eq_true,Bool.and_eq_true,Bool.and_eq_true,decide_eq_true_eq,decide_eq_true_eq,decide_eq_true_eq,decide_eq_true_eq] at hp
    by_cases g0:(65:Int)≤s[k].toNat∧(s[k].toNat:Int)≤90
    ·obtain⟨g1,g2⟩:=g0;clear hp
     go_wp2
     all_goals exact xY
    ·have g1:(48:Int)≤s[k].toNat:=by omega
     have g2:(s[k].toNat:Int)≤57:=by omega
     clear hp g0
     go_wp2
     all_goals exact xY
    all_goals exact xY
   ·have HE:Hid (n_ s.data.toList=false):=by
     unfold Hid;have:=nr wo s k aS (by simpa using hp);unfold n_;rw[this];rfl
    unfold wo at hp
    have g0:¬((65:Int)≤s[k].toNat∧(s[k].toNat:Int)≤90)∧¬((48:Int)≤s[k].toNat∧(s[k].toNat:Int)≤57):=by
     simp at hp;omega
    clear hp
    by_cases g1:(s[k].toNat:Int)<48
    ·clear g0
     go_wp2
     all_goals (go_ret;exact⟨by rw[HE.out];rfl,rfl⟩)
    ·by_cases g2:(s[k].toNat:Int)<65
     ·have g3:57<(s[k].toNat:Int):=by omega
      clear g0
      go_wp2
      all_goals (go_ret;exact⟨by rw[HE.out];rfl,rfl⟩)
     ·have g3:90<(s[k].toNat:Int):=by omega
      clear g0
      go_wp2
      all_goals (go_ret;exact⟨by rw[HE.out];rfl,rfl⟩)
  ·have HF:=Lib.hid (nu wo s k (by omega) dq.out);have HL:=Lib.hid (bS s)
   by_cases h1:1≤s.size
   ·by_cases h2:s.size≤8
    ·have HE:Hid (n_ s.data.toList=true):=by unfold Hid n_;rw[HF.out,HL.out];simp;omega
     have yC:(s.size:Int)≤8:=by omega
     go_wp2
     go_ret
     exact⟨by rw[HE.out];rfl,rfl⟩
    ·have HE:Hid (n_ s.data.toList=false):=by unfold Hid n_;rw[HF.out,HL.out];simp;omega
     have yC:¬((s.size:Int)≤8):=by omega
     go_wp2
     go_ret
     exact⟨by rw[HE.out];rfl,rfl⟩
   ·have HE:Hid (n_ s.data.toList=false):=by unfold Hid n_;rw[HF.out,HL.out];simp;omega
    go_wp2
    go_ret
    exact⟨by rw[HE.out];rfl,rfl⟩
theorem bx (n lo hi:Int) (w:World):Calls prog 53 #[.int .i64 n,.int .i64 lo,.int .i64 hi] w fun e w'=>e=.returned (.bool (iH n lo hi))∧w=w':=by
 unfold iH
 by_cases h1:lo≤n<;>by_cases h2:n≤hi
 all_goals
  have H:Hid ((decide (lo≤n)&&decide (n≤hi))=(decide (lo≤n)&&decide (n≤hi))):=rfl;simp only[h1,h2,decide_true,decide_false] at H
  go_enter func53,ntmps53
  go_wp2_with fail
  go_ret
  exact⟨by simp[h1,h2],rfl⟩
def jl (w:World):Prop:=∃m:Int,w.cell? ⟨2,0,none⟩=some (.int .i64 m)
theorem jl.below {w w':World} (h:jl w) (hb:Below w.heap.size w w'):jl w':=by
 obtain⟨m,h⟩:=h;exact⟨m,(hb.cell (block_lt_of_cell h)).trans h⟩
theorem Wg (s sep:ByteArray) (w:World) (hs:s.size<4294967281) (hm:jl w):
  Calls prog 218 #[.string s,.string sep] w fun e w'=>e=.returned (.tuple #[.string ⟨(Lib.cut s.data.toList sep.data.toList).1.toArray⟩,.string ⟨(Lib.cut s.data.toList sep.data.toList).2.1.toArray⟩,.bool (Lib.cut s.data.toList sep.data.toList).2.2])∧Below w.heap.size w w':=by
 obtain⟨m,hm⟩:=hm;refine(strings_Cut s sep m w hs hm).mono ?_;rintro e w' ⟨a,n,rfl⟩;exact⟨a,cr (Below.refl _ _) n⟩
theorem GF:kj prog 241 5:=⟨by kernel_rfl,by kernel_rfl⟩
theorem sH {P:Program} {ty k:Nat} {w:World} {fn:Func} {p u v:Tmp} {g t:Nat} {C:List Value} (h:fn.results=#[.cell p ty,.tmp u,.tmp v]) (tmps:Array Value) (hp:tmps.getD p undef=.pointer (some ⟨g,0,none⟩)) (hA:kj P ty k) (hr:Row w g t C) (hk:C.length=k):
  (results fn tmps).run P w=.ok (.tuple #[.agg C.toArray,tmps.getD u undef,tmps.getD v undef]) w:=by
 have CG:tmps[p]?.getD undef=.pointer (some ⟨g,0,none⟩):=by simpa using hp
 simp[results,h,CG,asAddr,gZ hA hr.cl hk,Result.andThen]
def GC (l:List UInt8) (D:List ByteArray) (n:Nat) (ok:Bool):Prop:=
 D.length=5∧match mV 5 l with
 |none=>ok=false
 |some ps=>ok=true∧n=ps.length∧n≤5∧(D.map (·.data.toList)).take n=ps
theorem Lc (l:List UInt8):(Lib.cut l [46]).1.length≤l.length∧(Lib.cut l [46]).2.1.length≤l.length:=by
 unfold Lib.cut
 split<;>simp<;>omega
theorem Gf (s:ByteArray) (w:World) (hs:s.size≤24) (hm:jl w):
  Calls prog 169 #[.string s] w fun e w'=>∃D n ok,e=.returned (.tuple #[.agg (D.map Value.string).toArray,.int .i64 (n:Nat),.bool ok])∧GC s.data.toList D n ok∧Below w.heap.size w w':=by
 have HS:=Lib.hid (show s.data.toList.length≤24 by simpa using hs);generalize hl:s.data.toList=l0 at HS ⊢;have HL:=Lib.hid hl;clear hl hs;have BB:=al (ai w (.cells #[.string ⟨#[]⟩,.string ⟨#[]⟩,.string ⟨#[]⟩,.string ⟨#[]⟩,.string ⟨#[]⟩] 241)) (.cells #[.string ⟨#[]⟩,.string ⟨#[]⟩,.string ⟨#[]⟩,.string ⟨#[]⟩,.string ⟨#[]⟩] 241);have R2:=Row.alloc (Row.new w 241 [.string ⟨#[]⟩,.string ⟨#[]⟩,.string ⟨#[]⟩,.string ⟨#[]⟩,.string ⟨#[]⟩]) (.cells #[.string ⟨#[]⟩,.string ⟨#[]⟩,.string ⟨#[]⟩,.string ⟨#[]⟩,.string ⟨#[]⟩] 241)
 have R5:Row ((w.alloc (.cells #[.string ⟨#[]⟩,.string ⟨#[]⟩,.string ⟨#[]⟩,.string ⟨#[]⟩,.string ⟨#[]⟩] 241)).alloc (.cells #[.string ⟨#[]⟩,.string ⟨#[]⟩,.string ⟨#[]⟩,.string ⟨#[]⟩,.string ⟨#[]⟩] 241)) (w.heap.size+1) 241 (([⟨#[]⟩,⟨#[]⟩,⟨#[]⟩,⟨#[]⟩,⟨#[]⟩]:List ByteArray).map Value.string):=
  aaJ (g:=w.heap.size+1) (xs:=[.string ⟨#[]⟩,.string ⟨#[]⟩,.string ⟨#[]⟩,.string ⟨#[]⟩,.string ⟨#[]⟩]) (by simp)
 go_enter func169,ntmps169
 go_wp2_with fail
 have zz:w.heap.size<w.heap.size+1:=Nat.lt_succ_self _;generalize (w.alloc (.cells #[.string ⟨#[]⟩,.string ⟨#[]⟩,.string ⟨#[]⟩,.string ⟨#[]⟩,.string ⟨#[]⟩] 241)).alloc (.cells #[.string ⟨#[]⟩,.string ⟨#[]⟩,.string ⟨#[]⟩,.string ⟨#[]⟩,.string ⟨#[]⟩] 241)=w1 at*
 go_loopw [0,10] (fun c i wr=>∃(k:Nat) (D:List ByteArray) (r:ByteArray),k≤5∧c=.string r∧i=.int .i64 k∧Row wr (w.heap.size+1) 241 (D.map Value.string)∧Row wr w.heap.size 241 [.string ⟨#[]⟩,.string ⟨#[]⟩,.string ⟨#[]⟩,.string ⟨#[]⟩,.string ⟨#[]⟩]∧D.length=5∧Below w.heap.size w wr∧r.data.toList.length≤24∧
  Hid (mV 5 l0=(mV (5 - k) r.data.toList).map (fun ps=>(D.map (·.data.toList)).take k++ps))) (fun _ i _=>5 - (intOf i).toNat)
 case atStart=>exact⟨0,_,s,by omega,rfl,rfl,R5,R2,rfl,BB,by rw[HL.out];exact HS.out,by unfold Hid;rw[HL.out];simp⟩
 case round=>
  clear R2 R5 BB;obtain⟨k,D,r,hk,rfl,rfl,R5,R2,hD,BB,hr,HI⟩:=hrel
  by_cases aS:k<5
  ·have HC:=Lib.hid (Wg r ⟨#[46]⟩ wr (by have:=bS r;omega) (hm.below BB));have hp:=DF r.data.toList;have aO:=Lc r.data.toList
   have GX:mV (5 - k) r.data.toList=if (Lib.cut r.data.toList [46]).2.2 then (mV (5 - (k+1)) (Lib.cut r.data.toList [46]).2.1).map ((Lib.cut r.data.toList [46]).1:: ·) else some [(Lib.cut r.data.toList [46]).1]:=by
    rw[show 5 - k=(5 - (k+1))+1 by omega];rfl
   have Kj:=Lib.hid (And.intro GX (And.intro aO hr));clear GX aO hr hp;have e46:(⟨#[46]⟩:ByteArray).data.toList=[46]:=rfl;rw[e46] at HC;clear e46
   cases Xy:(Lib.cut r.data.toList [46]).2.2 with
   |true=>
    rw[Xy] at HC Kj
    have c1:wr.cell? ⟨w.heap.size+1,k,none⟩=some (.string (D.getD k ByteArray.empty)):=by
     rw[R5.cell,List.getElem?_map,List.getElem?_eq_getElem (by omega)]
     simp[List.getD,List.getElem?_eq_getElem (show k<D.length by omega)]
    have f1:=R5.frozen k
    go_wp2_with fail
    with_reducible refine HC.out.mono ?_
    rintro e w2 ⟨rfl,hb⟩;have Fv:=az BB hb;have ZG:=R2.keep hb;have Kv:=R5.keep hb;have N3:=(Kv.cell k);rw[List.getElem?_map,List.getElem?_eq_getElem (show k<D.length by omega)] at N3;have c2:w2.cell? ⟨w.heap.size+1,k,none⟩=some (.string D[k]):=N3;have f2:=Kv.frozen k;clear c1 N3 f1
    go_wp2_with fail
    obtain⟨GX,aO,hr⟩:=Kj.out
    have zW:Row (w2.setCell ⟨w.heap.size+1,k,none⟩ (.string ⟨(Lib.cut r.data.toList [46]).1.toArray⟩)) (w.heap.size+1) 241 ((D.set k ⟨(Lib.cut r.data.toList [46]).1.toArray⟩).map Value.string):=by
     rw[List.map_set];exact Kv.cE k _
    refine⟨⟨k+1,D.set k ⟨(Lib.cut r.data.toList [46]).1.toArray⟩,_,by omega,rfl,rfl,zW,ZG.far (by show w.heap.size≠w.heap.size+1;omega) _,by simp[hD],Fv.setCell (by show w.heap.size≤w.heap.size+1;omega) _,by simp;omega,?_⟩,by simp[intOf];omega⟩;unfold Hid;rw[HI.out,GX,if_pos trivial,Option.map_map]
    congr 1
    funext ps
    simp only[Function.comp];rw[List.map_set,List.take_succ_eq_append_getElem (by simp;omega),List.take_set_of_le (Nat.le_refl k),List.getElem_set_self]
    simp
   |false=>
    rw[Xy] at HC Kj
    go_wp2_with fail
    with_reducible refine HC.out.mono ?_
    rintro e w2 ⟨rfl,hb⟩;have Fv:=az BB hb;have ZG:=R2.keep hb;have Kv:=R5.keep hb;have N3:=(Kv.cell k);rw[List.getElem?_map,List.getElem?_eq_getElem (show k<D.length by omega)] at N3;have c2:w2.cell? ⟨w.heap.size+1,k,none⟩=some (.string D[k]):=N3;have f2:=Kv.frozen k;clear N3
    go_upto_region 8 with fail
    have zW:Row (w2.setCell ⟨w.heap.size+1,k,none⟩ (.string ⟨(Lib.cut r.data.toList [46]).1.toArray⟩)) (w.heap.size+1) 241 ((D.set k ⟨(Lib.cut r.data.toList [46]).1.toArray⟩).map Value.string):=by
     rw[List.map_set];exact Kv.cE k _
    have oX:=ZG.far (p:=⟨w.heap.size+1,k,none⟩) (by show w.heap.size≠w.heap.size+1;omega) (.string ⟨(Lib.cut r.data.toList [46]).1.toArray⟩);have BBn:=Fv.setCell (p:=⟨w.heap.size+1,k,none⟩) (by show w.heap.size≤w.heap.size+1;omega) (.string ⟨(Lib.cut r.data.toList [46]).1.toArray⟩)
    have HR:Hid (GC l0 (D.set k ⟨(Lib.cut r.data.toList [46]).1.toArray⟩) (k+1) true):=by
     obtain⟨GX,aO,hr⟩:=Kj.out;refine⟨by simp[hD],?_⟩;rw[HI.out,GX,if_neg (by simp)];refine⟨rfl,?_,by omega,?_⟩
     ·simp[hD];omega
     ·rw[List.map_set,List.take_succ_eq_append_getElem (by simp;omega),List.take_set_of_le (Nat.le_refl k),List.getElem_set_self]
    have Jb:(D.set k ⟨(Lib.cut r.data.toList [46]).1.toArray⟩).length=5:=by simp[hD]
    clear c2 f2 Kv ZG Fv R5 R2 BB;generalize D.set k ⟨(Lib.cut r.data.toList [46]).1.toArray⟩=E at*;generalize w2.setCell ⟨w.heap.size+1,k,none⟩ (.string ⟨(Lib.cut r.data.toList [46]).1.toArray⟩)=w3 at*
    obtain⟨d0,d1,d2,d3,d4,rfl⟩:∃d0 d1 d2 d3 d4,E=[d0,d1,d2,d3,d4]:=by
     match E,Jb with
     |[a,b,c,d,e],_=>exact⟨a,b,c,d,e,rfl⟩
    have a0:=U (zW.cell 0);have b0:=U (oX.cell 0);have g0:=oX.frozen 0;have a1:=U (zW.cell 1);have b1:=U (oX.cell 1);have g1:=oX.frozen 1;have a2:=U (zW.cell 2);have b2:=U (oX.cell 2);have g2:=oX.frozen 2;have a3:=U (zW.cell 3);have b3:=U (oX.cell 3);have g3:=oX.frozen 3;have a4:=U (zW.cell 4);have b4:=U (oX.cell 4);have g4:=oX.frozen 4
    go_wp2_with fail
    refine bodyPost_ret (sH (C:=[.string d0,.string d1,.string d2,.string d3,.string d4]) rfl _ rfl GF (((((oX.cE 0 (.string d0)).cE 1 (.string d1)).cE 2 (.string d2)).cE 3 (.string d3)).cE 4 (.string d4)) rfl) rfl ?_;exact⟨[d0,d1,d2,d3,d4],(k+1),true,rfl,HR.out,(((((BBn.setCell (p:=⟨w.heap.size,0,none⟩) (Nat.le_refl _) (.string d0)).setCell (p:=⟨w.heap.size,1,none⟩) (Nat.le_refl _) (.string d1)).setCell (p:=⟨w.heap.size,2,none⟩) (Nat.le_refl _) (.string d2)).setCell (p:=⟨w.heap.size,3,none⟩) (Nat.le_refl _) (.string d3)).setCell (p:=⟨w.heap.size,4,none⟩) (Nat.le_refl _) (.string d4))⟩
  ·obtain rfl:k=5:=by omega
   have HR:Hid (GC l0 D 0 false):=by
    refine⟨hD,?_⟩;rw[HI.out];rfl
   go_upto_region 11 with fail
   have zW:=R5;have oX:=R2;have BBn:=BB
   obtain⟨d0,d1,d2,d3,d4,rfl⟩:∃d0 d1 d2 d3 d4,D=[d0,d1,d2,d3,d4]:=by
    match D,hD with
    |[a,b,c,d,e],_=>exact⟨a,b,c,d,e,rfl⟩
   have a0:=U (zW.cell 0);have b0:=U (oX.cell 0);have g0:=oX.frozen 0;have a1:=U (zW.cell 1);have b1:=U (oX.cell 1);have g1:=oX.frozen 1;have a2:=U (zW.cell 2);have b2:=U (oX.cell 2);have g2:=oX.frozen 2;have a3:=U (zW.cell 3);have b3:=U (oX.cell 3);have g3:=oX.frozen 3;have a4:=U (zW.cell 4);have b4:=U (oX.cell 4);have g4:=oX.frozen 4
   go_wp2_with fail
   refine bodyPost_ret (sH (C:=[.string d0,.string d1,.string d2,.string d3,.string d4]) rfl _ rfl GF (((((oX.cE 0 (.string d0)).cE 1 (.string d1)).cE 2 (.string d2)).cE 3 (.string d3)).cE 4 (.string d4)) rfl) rfl ?_;exact⟨[d0,d1,d2,d3,d4],0,false,rfl,HR.out,(((((BBn.setCell (p:=⟨w.heap.size,0,none⟩) (Nat.le_refl _) (.string d0)).setCell (p:=⟨w.heap.size,1,none⟩) (Nat.le_refl _) (.string d1)).setCell (p:=⟨w.heap.size,2,none⟩) (Nat.le_refl _) (.string d2)).setCell (p:=⟨w.heap.size,3,none⟩) (Nat.le_refl _) (.string d3)).setCell (p:=⟨w.heap.size,4,none⟩) (Nat.le_refl _) (.string d4))⟩
theorem Wf {l:List UInt8} {D:List ByteArray} {n:Nat} (h:GC l D n true) (hl:l.length≤24):n≤5∧jw l=((D.map (·.data.toList)).take n).all n_:=by
 obtain⟨_,h⟩:=h;unfold jw
 cases hs:mV 5 l with
 |none=>rw[hs] at h;cases h
 |some ps=>
  rw[hs] at h;obtain⟨_,_,h5,h6⟩:=h;refine⟨h5,?_⟩;rw[h6,decide_eq_true hl];rfl
theorem Hj:∀(n:Nat) (l:List UInt8) {ps:List (List UInt8)},mV n l=some ps→∀p∈ps,p.length≤l.length
 |0,l,ps,h,p,hp=>by cases h
 |n+1,l,ps,h,p,hp=>by
  have aO:=Lc l;unfold mV at h
  split at h
  ·cases hs:mV n (Lib.cut l [46]).2.1 with
   |none=>rw[hs] at h;cases h
   |some qs=>
    rw[hs] at h;simp only[Option.map_some,Option.some.injEq] at h;subst h
    rcases List.mem_cons.1 hp with h1|h1
    ·rw[h1];exact aO.1
    ·exact Nat.le_trans (Hj n _ hs p h1) aO.2
  ·simp only[Option.some.injEq] at h;subst h;rw[List.mem_singleton.1 hp];exact aO.1
theorem PX {l:List UInt8} {D:List ByteArray} {n k:Nat} (h:GC l D n true) (hk:k<n):(D.getD k ⟨#[]⟩).size≤l.length:=by
 obtain⟨hd,h⟩:=h
 cases hs:mV 5 l with
 |none=>rw[hs] at h;cases h
 |some ps=>
  rw[hs] at h;obtain⟨_,hn,h5,h6⟩:=h
  have FV:k<D.length:=by omega
  have:=Hj 5 l hs (D.getD k ⟨#[]⟩).data.toList (by
   rw[←h6,List.mem_iff_getElem?];refine⟨k,?_⟩;rw[List.getElem?_take_of_lt hk,List.getElem?_map,List.getElem?_eq_getElem FV]
   simp[List.getD,List.getElem?_eq_getElem FV])
  rwa [bS] at this
theorem We {l:List UInt8} {D:List ByteArray} {n:Nat} (h:GC l D n false):jw l=false:=by
 obtain⟨_,h⟩:=h;unfold jw
 cases hs:mV 5 l with
 |none=>simp
 |some ps=>rw[hs] at h;exact absurd h.1 (by decide)
theorem GP (s:ByteArray) (w:World) (hs:s.size≤1000000000000) (hm:jl w):
  Calls prog 113 #[.string s] w fun e w'=>e=.returned (.bool (jw s.data.toList))∧Below w.heap.size w w':=by
 by_cases h24:24<s.size
 ·have HE:Hid (jw s.data.toList=false):=by
   unfold Hid jw;rw[decide_eq_false (by rw[bS];omega)];rfl
  have ac3:24<(s.size:Int):=by omega
  go_enter func113,ntmps113
  go_wp2_with fail
  go_ret
  exact⟨by rw[HE.out];rfl,Below.refl _ _⟩
 ·have HS:=Lib.hid (Gf s w (by omega) hm)
  have hl:s.data.toList.length≤24:=by rw[bS];omega
  have ac3:¬(24<(s.size:Int)):=by omega
  generalize s.data.toList=l at*
  go_enter func113,ntmps113
  go_wp2_with fail
  with_reducible refine HS.out.mono ?_
  rintro e w1 ⟨D,n,ok,rfl,hD,hb⟩;have TO:=hD.1
  cases ok with
  |false=>
   have HE:=Lib.hid (We hD)
   obtain⟨d0,d1,d2,d3,d4,rfl⟩:∃d0 d1 d2 d3 d4,D=[d0,d1,d2,d3,d4]:=by
    match D,TO with
    |[a,b,c,d,e],_=>exact⟨a,b,c,d,e,rfl⟩
   simp only[List.map_cons,List.map_nil]
   go_wp2_with fail
   go_ret
   exact⟨by rw[HE.out];rfl,al hb _⟩
  |true=>
   obtain⟨h5,hc⟩:=Wf hD hl
   have yQ:∀k,k<n→(D.getD k ⟨#[]⟩).size≤24:=fun k hk=>Nat.le_trans (PX hD hk) hl
   have HE:=Lib.hid hc;clear hc hD
   obtain⟨d0,d1,d2,d3,d4,Z'⟩:∃d0 d1 d2 d3 d4,D=[d0,d1,d2,d3,d4]:=by
    match D,TO with
    |[a,b,c,d,e],_=>exact⟨a,b,c,d,e,rfl⟩
   rw[show(D.map Value.string).toArray=#[.string d0,.string d1,.string d2,.string d3,.string d4] by rw[Z'];rfl];have BB:=al hb (.cells #[.string d0,.string d1,.string d2,.string d3,.string d4] 241)
   have R5:Row (w1.alloc (.cells #[.string d0,.string d1,.string d2,.string d3,.string d4] 241)) w1.heap.size 241 (D.map Value.string):=by rw[Z'];exact Row.new w1 _ _
   have HDE:=Lib.hid Z';clear Z';have TO:=Lib.hid TO
   have yN:(n:Int)≤((prog.arrayLen 241:Nat):Int):=by
    rw[show prog.arrayLen 241=5 by rfl];omega
   have rH:(0:Int)≤(n:Int):=by omega
   have adt:(n:Int)≤5:=by omega
   go_wp2_with fail
   generalize w1.alloc (.cells #[.string d0,.string d1,.string d2,.string d3,.string d4] 241)=w2 at*;clear yN rH adt HS;have HQ:=Lib.hid yQ;clear yQ
   go_loop [22] (fun i=>∃k:Nat,k≤n∧i=.int .i64 k∧Hid (∀j,j<k→n_ (D.getD j ⟨#[]⟩).data.toList=true)) (fun i=>n - (intOf i).toNat)
   case atStart=>exact⟨0,Nat.zero_le _,rfl,fun j hj=>absurd hj (Nat.not_lt_zero _)⟩
   case round=>
    obtain⟨k,hk,rfl,dq⟩:=hrel
    by_cases aS:k<n
    ·have FV:k<D.length:=by have:=TO.out;omega
     have c0:w2.cell? ⟨w1.heap.size,k,none⟩=some (.string (D.getD k ⟨#[]⟩)):=by
      refine(R5.cell k).trans ?_;rw[List.getElem?_map,List.getElem?_eq_getElem FV]
      simp[List.getD,List.getElem?_eq_getElem FV]
     have hw:=fun W=>J3 (D.getD k ⟨#[]⟩) W (Nat.le_trans (HQ.out k aS) (by decide))
     have HDk:Hid (D.getD k ⟨#[]⟩=D.getD k ⟨#[]⟩):=rfl
     cases dZ:n_ (D.getD k ⟨#[]⟩).data.toList with
     |false=>
      have HF:Hid (jw l=false):=by
       show jw l=false
       rw[HE.out,List.all_eq_false];refine⟨(D.getD k ⟨#[]⟩).data.toList,?_,by rw[dZ];decide⟩;rw[List.mem_iff_getElem?];refine⟨k,?_⟩;rw[List.getElem?_take_of_lt aS,List.getElem?_map,List.getElem?_eq_getElem FV]
       simp[List.getD,List.getElem?_eq_getElem FV]
      rw[dZ] at hw
      have mN:(k:Int)<(n:Int):=by omega
      clear dZ R5 HDk HDE;generalize D.getD k ⟨#[]⟩=x at*
      go_wp2_with (go_at_call 170;with_reducible refine(hw _).mono ?_;rintro e w' ⟨rfl,rfl⟩)
      go_ret
      exact⟨by rw[HF.out];rfl,BB⟩
     |true=>
      have HS:Hid (∀j,j<k+1→n_ (D.getD j ⟨#[]⟩).data.toList=true):=by
       intro j hj
       rcases Nat.lt_or_ge j k with oJ|oJ
       ·exact dq.out j oJ
       ·obtain rfl:j=k:=by omega
        exact dZ
      rw[dZ] at hw
      have mN:(k:Int)<(n:Int):=by omega
      clear dZ R5 HDk HDE;generalize D.getD k ⟨#[]⟩=x at c0 hw
      go_wp2_with (go_at_call 170;with_reducible refine(hw _).mono ?_;rintro e w' ⟨rfl,rfl⟩)
      go_round
      case rel=>exact⟨k+1,by omega,by go_num,HS⟩
      case measure=>simp[intOf];omega
    ·have HF:Hid (jw l=true):=by
      show jw l=true
      rw[HE.out,List.all_eq_true];intro x hx;obtain⟨j,hj⟩:=List.mem_iff_getElem?.1 hx
      rcases Nat.lt_or_ge j n with TU|TU
      ·rw[List.getElem?_take_of_lt TU,List.getElem?_map] at hj;have:=dq.out j (by omega)
       have FV:j<D.length:=by have:=TO.out;omega
       rw[List.getElem?_eq_getElem FV] at hj
       simp[List.getD,List.getElem?_eq_getElem FV] at this hj
       rw[←hj];exact this
      ·rw[List.getElem?_eq_none (by simp;omega)] at hj;cases hj
     go_wp2
     go_ret
     exact⟨by rw[HF.out];rfl,BB⟩
theorem aas {w:World} {b o:Nat} {log:List wk} (h:Cl w b o (log.map mi).flatten) {k:Nat} (hk:k<log.length):w.cell? ⟨b,o+k*4+3,none⟩=some (.int .i64 (log[k]).time):=by
 have h1:=h.part (k*4) 4
 have mN:k<(log.map mi).length:=by simpa using hk
 rw[mr (log.map mi) k (fun C hC=>by rw[List.mem_map] at hC;obtain⟨x,_,rfl⟩:=hC;rfl) mN] at h1;have h2:=h1 3 (.int .i64 (log[k]).time) (by simp[mi]);exact h2
theorem Ir (A1 A2 A3:Option Addr) (st au k u r t:Int) (n1 n2 c1 c2 c3:Nat) (zs:List Int) (log:List wk) (w:World) (h1:dF w A1 n1 1 (zs.map (Value.int .i64))) (hn:n1≤1100000) (h3:dF w A3 log.length 4 (log.map mi).flatten) (pj:log.length≤1100000):
  Calls prog 143 #[.agg #[.int .i64 st,.int .i64 au,.slice A1 n1 c1,.slice A2 n2 c2,.slice A3 log.length c3],.agg #[.int .i64 k,.int .i64 u,.int .i64 r,.int .i64 t]] w fun e w'=>IsE e∧Below w.heap.size w w':=by
 have BB:=al (ai w (.cells #[.int .i64 st,.int .i64 au,.slice A1 n1 c1,.slice A2 n2 c2,.slice A3 log.length c3] 39)) (.cells #[.int .i64 k,.int .i64 u,.int .i64 r,.int .i64 t] 152);have yz:=h1.below (by decide) BB;have TG:=h3.below (by decide) BB
 rcases Nat.eq_zero_or_pos log.length with h0|h0
 ·clear TG h3;rw[h0] at BB yz ⊢;clear h0 pj
  go_enter func143,ntmps143
  go_wp2_with fail
  all_goals first|(go_ret;exact⟨⟨_,rfl⟩,BB⟩)|skip
  go_quiet (fail)
  have NF:=cr BB nq;have hS:=yz.below (by decide) (cr (Below.refl _ _) nq)
  go_wp2_with fail
  with_reducible refine(wJ _ _ _).mono ?_
  rintro e w' ⟨⟨n,v,rfl⟩,rfl⟩
  cases v with
  |false=>
   go_wp2_with fail
   go_ret
   exact⟨⟨_,rfl⟩,NF⟩
  |true=>
   go_wp2_with fail
   all_goals first|(go_ret;exact⟨⟨_,rfl⟩,NF⟩)|skip
   with_reducible refine(wC A1 A2 _ st au k u n1 n2 _ c1 c2 c3 zs _ hS hn).mono ?_
   rintro e w' ⟨⟨v,rfl⟩,hb⟩;have BE:=az NF hb
   cases v with
   |false=>
    go_wp2_with fail
    go_ret
    exact⟨⟨_,rfl⟩,BE⟩
   |true=>
    go_wp2_with fail
    go_ret
    exact⟨⟨_,rfl⟩,BE⟩
 ·obtain⟨m,hm⟩:∃m,log.length=m+1:=⟨log.length - 1,by omega⟩;obtain⟨b,o,rfl,aO⟩:=TG.2 h0;have aS:=aas aO (k:=m) (by omega);generalize (log[m]'(by omega)).time=tl at aS;clear TG h3 aO;rw[hm] at BB yz pj aS ⊢;clear h0 hm
  go_enter func143,ntmps143
  go_wp2_with fail
  all_goals first|(go_ret;exact⟨⟨_,rfl⟩,BB⟩)|skip
  go_quiet (fail)
  go_wp2_with fail
  all_goals first|(go_ret;exact⟨⟨_,rfl⟩,cr BB nq⟩)|skip
  have NF:=cr BB nq;have hS:=yz.below (by decide) (cr (Below.refl _ _) nq)
  with_reducible refine(wJ _ _ _).mono ?_
  rintro e w' ⟨⟨n,v,rfl⟩,rfl⟩
  cases v with
  |false=>
   go_wp2_with fail
   go_ret
   exact⟨⟨_,rfl⟩,NF⟩
  |true=>
   go_wp2_with fail
   all_goals first|(go_ret;exact⟨⟨_,rfl⟩,NF⟩)|skip
   with_reducible refine(wC A1 A2 _ st au k u n1 n2 _ c1 c2 c3 zs _ hS hn).mono ?_
   rintro e w' ⟨⟨v,rfl⟩,hb⟩;have BE:=az NF hb
   cases v with
   |false=>
    go_wp2_with fail
    go_ret
    exact⟨⟨_,rfl⟩,BE⟩
   |true=>
    go_wp2_with fail
    go_ret
    exact⟨⟨_,rfl⟩,BE⟩
end
end Go.Proofs.YtdnpopjabpklnaaGreatDoor
