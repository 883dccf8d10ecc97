/- Contracts and plain laws that the proof of the top laws uses (G11). No condition beyond those stated. -/
import Derived.Test.YtdnpopjabpklnaaGreatDoorTqP
import Derived.Maps.OwnSet
import Derived.Deep.LoopGhost
import Derived.Lib.RowBridge
set_option maxRecDepth 100000
set_option maxHeartbeats 64000000
set_option linter.all false
namespace Go.Proofs.YtdnpopjabpklnaaGreatDoor
section
open Go.RowKit
open Tryz
def Vz (id:Int) (e:Ending):Prop:=∃z:Int,e=.returned (.int .i64 z)∧(z=0→1≤id∧id≤9999999)
theorem Rj {P:Prop} (h:P:=by
 have HI:Hid (Vz id (.returned (.int .i64 3))):=⟨3,rfl,fun h=>absurd h (by decide)⟩
 go_enter func84,ntmps84
 go_wp2_with fail
 go_ret
 exact⟨HI.out,BB⟩):P:=h
theorem A_ (a:j0) (w:World) (ha:a.alt.size≤4000000):
  Calls prog 84 #[.agg (fJ a).toArray] w fun e w'=>Vz a.id e∧Below w.heap.size w w':=by
 obtain⟨id,pM,alt,fr,un⟩:=a;simp only[fJ] at*;have BB:=al (Below.refl w.heap.size w) (.cells #[.int .i64 id,.int .i64 pM,.string alt,.int .i64 fr,.int .i64 un] 70);have R1:=Row.new w 70 [.int .i64 id,.int .i64 pM,.string alt,.int .i64 fr,.int .i64 un];have cs:(w.alloc (.cells #[.int .i64 id,.int .i64 pM,.string alt,.int .i64 fr,.int .i64 un] 70)).cell? ⟨w.heap.size,0,none⟩=some (.int .i64 id)∧(w.alloc (.cells #[.int .i64 id,.int .i64 pM,.string alt,.int .i64 fr,.int .i64 un] 70)).cell? ⟨w.heap.size,1,none⟩=some (.int .i64 pM)∧(w.alloc (.cells #[.int .i64 id,.int .i64 pM,.string alt,.int .i64 fr,.int .i64 un] 70)).cell? ⟨w.heap.size,2,none⟩=some (.string alt)∧(w.alloc (.cells #[.int .i64 id,.int .i64 pM,.string alt,.int .i64 fr,.int .i64 un] 70)).cell? ⟨w.heap.size,3,none⟩=some (.int .i64 fr)∧(w.alloc (.cells #[.int .i64 id,.int .i64 pM,.string alt,.int .i64 fr,.int .i64 un] 70)).cell? ⟨w.heap.size,4,none⟩=some (.int .i64 un):=⟨R1.cell 0,R1.cell 1,R1.cell 2,R1.cell 3,R1.cell 4⟩;obtain⟨c0,c1,c2,c3,c4⟩:=cs;clear R1
 by_cases h1:id<1
 ·exact Rj
 by_cases h2:9999999<id
 ·exact Rj
 have HI:Hid (∀z:Int,Vz id (.returned (.int .i64 z))):=fun z=>⟨z,rfl,fun _=>by omega⟩
 go_enter func84,ntmps84
 go_wp2_with fail
 all_goals first
  |(go_ret;exact⟨HI.out _,BB⟩)
  |skip
 generalize (w.alloc (.cells #[.int .i64 id,.int .i64 pM,.string alt,.int .i64 fr,.int .i64 un] 70))=w1 at*
 go_loop [3] (fun i=>∃k:Nat,k≤alt.size∧i=.int .i64 k) (fun i=>alt.size - (intOf i).toNat)
 case atStart=>exact⟨0,Nat.zero_le _,rfl⟩
 case round=>
  obtain⟨k,hk,rfl⟩:=hrel;clear c0 c1
  by_cases aS:k<alt.size
  ·have mN:(k:Int)<(alt.size:Int):=by omega
   go_wp2_with fail
   all_goals first
    |(go_ret;exact⟨HI.out _,BB⟩)
    |(
     go_round
     case rel=>exact⟨k+1,by omega,by go_num⟩
     case measure=>simp[intOf];omega)
    |(refine⟨⟨k+1,by omega,by go_num⟩,?_⟩;simp[intOf];omega)
  ·have mN:¬((k:Int)<(alt.size:Int)):=by omega
   go_wp2_with fail
   all_goals (go_ret;exact⟨HI.out _,BB⟩)
theorem lE {α:Type} {f:α→List Value} {k:Nat} {w:World} {A:Option Addr} {n:Nat} {xs:List α} (h:dF w A n k (xs.map f).flatten) (hn:n=xs.length) (hf:∀x,(f x).length=k) (i:Nat) (hi:i<xs.length):
  ∃b o,A=some ⟨b,o,none⟩∧Cl w b (o+i*k) (f xs[i]):=by
 obtain⟨b,o,e,hc⟩:=h.2 (by omega);refine⟨b,o,e,fun j v hj=>?_⟩
 have Xj:j<k:=by have:=(List.getElem?_eq_some_iff.1 hj).1;rw[hf] at this;exact this
 have h1:=mr (k:=k) (xs.map f) i (fun C hC=>by rw[List.mem_map] at hC;obtain⟨x,_,rfl⟩:=hC;exact hf x) (by simpa using hi)
 have h2:(xs.map f).flatten[i*k+j]? =some v:=by
  rw[List.getElem_map] at h1;rw[←h1,List.getElem?_take_of_lt Xj,List.getElem?_drop] at hj;exact hj
 have:=hc _ _ h2
 rwa [←Nat.add_assoc] at this
theorem Nw (a:j0) (day:Int) (w:World) (ha:a.alt.size≤4000000):
  Calls prog 72 #[.agg (fJ a).toArray,.int .i64 day] w fun e w'=>IsE e∧Below w.heap.size w w':=by
 have hv:=fun W=>A_ a W ha
 obtain⟨id,pM,alt,fr,un⟩:=a;simp only[fJ] at*;have BB:=al (Below.refl w.heap.size w) (.cells #[.int .i64 id,.int .i64 pM,.string alt,.int .i64 fr,.int .i64 un] 70);have R1:=Row.new w 70 [.int .i64 id,.int .i64 pM,.string alt,.int .i64 fr,.int .i64 un]
 go_enter func72,ntmps72
 go_wp2_with fail
 generalize (w.alloc (.cells #[.int .i64 id,.int .i64 pM,.string alt,.int .i64 fr,.int .i64 un] 70))=w1 at*;generalize w.heap.size=g at R1 ⊢;refine(hv _).mono ?_;rintro e w2 ⟨⟨z,rfl,_⟩,hb⟩;have R2:=R1.keep hb;have c3:=U (R2.cell 3);have c4:=U (R2.cell 4);replace BB:=az BB hb;clear hb R1 R2 hv
 go_wp2_with fail
 all_goals (go_ret;exact⟨⟨_,rfl⟩,BB⟩)
def acv (e:Ending):Prop:=∃(i b f u:Int) (s:ByteArray) (v:Bool),e=.returned (.tuple #[.agg #[.int .i64 i,.int .i64 b,.string s,.int .i64 f,.int .i64 u],.bool v])
theorem tJ (a:j0):∀u∈fJ a,u.oneCell'=true:=by
 intro u hu;simp only[fJ,List.mem_cons,List.not_mem_nil,or_false] at hu;rcases hu with rfl|rfl|rfl|rfl|rfl<;>rfl
theorem Nt (a:gH):∀u∈fL a,u.oneCell'=true:=by
 intro u hu;simp only[fL,List.mem_cons,List.not_mem_nil,or_false] at hu;rcases hu with rfl|rfl<;>rfl
theorem lU (x:j0):(fJ x).length=5:=rfl
theorem gh (x:gH):(fL x).length=2:=rfl
theorem NX (A:Option Addr) (n c:Nat) (l:List j0) (q:Int) (w:World) (h:dF w A n 5 (l.map fJ).flatten) (hn:n=l.length) (hs:n≤1100000):
  Calls prog 85 #[.slice A n c,.int .i64 q] w fun e w'=>acv e∧Below w.heap.size w w':=by
 have BB:=al (Below.refl w.heap.size w) (.cells #[.int .i64 0,.int .i64 0,.string ⟨#[]⟩,.int .i64 0,.int .i64 0] 70);have R1:=Row.new w 70 [.int .i64 0,.int .i64 0,.string ⟨#[]⟩,.int .i64 0,.int .i64 0];have HN:=Lib.hid hn;clear hn
 go_enter func85,ntmps85
 go_wp2_with fail
 generalize w.alloc (.cells #[.int .i64 0,.int .i64 0,.string ⟨#[]⟩,.int .i64 0,.int .i64 0] 70)=w1 at*;have hg:w.heap.size<w1.heap.size:=R1.lt
 go_loopw [10] (fun i wr=>∃k:Nat,k≤n∧i=.int .i64 k∧Below w1.heap.size w1 wr) (fun i _=>n - (intOf i).toNat)
 case atStart=>exact⟨0,Nat.zero_le _,rfl,Below.refl _ _⟩
 case round=>
  obtain⟨k,hk,rfl,fw⟩:=hrel;have R2:=R1.keep fw;have BC:=az BB fw
  have kx:(k:Int)<(n:Int)∨¬((k:Int)<(n:Int)):=by omega
  rcases kx with aS|aS
  ·obtain⟨b,o,rfl,hc⟩:=lE h HN.out lU k (by have:=HN.out;omega);have aO:=hc.below BC (hc.lt (by rw[lU];decide));clear hc h;generalize l[k]'(by have:=HN.out;omega)=x at aO;obtain⟨id,pM,alt,fr,un⟩:=x;have d0:wr.cell? ⟨b,o+k*5,none⟩=some (.int .i64 id):=aO 0 _ rfl;have d1:wr.cell? ⟨b,o+k*5+1,none⟩=some (.int .i64 pM):=aO 1 _ rfl;have d2:wr.cell? ⟨b,o+k*5+2,none⟩=some (.string alt):=aO 2 _ rfl;have d3:wr.cell? ⟨b,o+k*5+3,none⟩=some (.int .i64 fr):=aO 3 _ rfl;have d4:wr.cell? ⟨b,o+k*5+4,none⟩=some (.int .i64 un):=aO 4 _ rfl;have ax:=al fw (.cells #[.int .i64 id,.int .i64 pM,.string alt,.int .i64 fr,.int .i64 un] 70);have BD:=al BC (.cells #[.int .i64 id,.int .i64 pM,.string alt,.int .i64 fr,.int .i64 un] 70);have R3:=R2.alloc (.cells #[.int .i64 id,.int .i64 pM,.string alt,.int .i64 fr,.int .i64 un] 70)
   by_cases hid:id=q
   ·subst hid;have o1:∀u∈([.int .i64 id,.int .i64 pM,.string alt,.int .i64 fr,.int .i64 un]:List Value),u.oneCell'=true:=tJ ⟨id,pM,alt,fr,un⟩
    go_wp2_with (first|((with_reducible refine av (C:=[.int .i64 id,.int .i64 pM,.string alt,.int .i64 fr,.int .i64 un]) (Z:=[.int .i64 0,.int .i64 0,.string ⟨#[]⟩,.int .i64 0,.int .i64 0]) ?_ ?_ o0 R3 rfl rfl o1 ?_);rfl;rfl;intro w5 R5 P5)|fail)
    refine bodyPost_ret (bH (C:=[.int .i64 id,.int .i64 pM,.string alt,.int .i64 fr,.int .i64 un]) rfl _ rfl o0 R5 rfl) rfl ?_;exact⟨⟨_,_,_,_,_,_,rfl⟩,BD.trans (P5.below (Nat.le_refl _))⟩
   ·go_wp2_with fail
    go_roundw
    case rel=>exact⟨k+1,by omega,by go_num,ax⟩
    case measure=>simp[intOf];omega
  ·have o1:∀u∈([.int .i64 0,.int .i64 0,.string ⟨#[]⟩,.int .i64 0,.int .i64 0]:List Value),u.oneCell'=true:=tJ ⟨0,0,⟨#[]⟩,0,0⟩
   go_wp2_with (first|((with_reducible refine av (C:=[.int .i64 0,.int .i64 0,.string ⟨#[]⟩,.int .i64 0,.int .i64 0]) (Z:=[.int .i64 0,.int .i64 0,.string ⟨#[]⟩,.int .i64 0,.int .i64 0]) ?_ ?_ o0 R2 rfl rfl o1 ?_);rfl;rfl;intro w5 R5 P5)|fail)
   refine bodyPost_ret (bH (C:=[.int .i64 0,.int .i64 0,.string ⟨#[]⟩,.int .i64 0,.int .i64 0]) rfl _ rfl o0 R5 rfl) rfl ?_;exact⟨⟨_,_,_,_,_,_,rfl⟩,BC.trans (P5.below (Nat.le_refl _))⟩
def NS (s:List UInt8) (e:Ending):Prop:=∃(x:ByteArray) (b:Bool),e=.returned (.tuple #[.string x,.bool b])∧((46:UInt8)∉s→b=false)
theorem MT (s:ByteArray) (w:World) (hs:s.size≤4000000):
  Calls prog 137 #[.string s] w fun e w'=>NS s.data.toList e∧w=w':=by
 have hl:=strings_LastIndexByte s 46 (by omega) w
 have hr:Lib.lastIndexByte s 46= -1∨((46:UInt8)∈s.data.toList∧∃n:Nat,Lib.lastIndexByte s 46=n∧n<s.size):=by
  rcases Lib.lastIndexByte_spec s 46 with ⟨h,_⟩|⟨i,hi,h,hc,_⟩
  ·exact Or.inl h
  ·refine Or.inr ⟨?_,i,h,hi⟩
   have h2:s.data[i]! =46:=by
    apply UInt8.toNat_inj.1
    have:(s.data[i]!).toNat=46:=by omega
    rw[this];rfl
   have v8:i<s.data.size:=hi;rw[←h2,getElem!_pos s.data i v8];exact Array.mem_toList_iff.2 (Array.getElem_mem v8)
 generalize Lib.lastIndexByte s 46=r at*
 rcases hr with rfl|⟨hm,n,rfl,hn⟩
 ·have HI:Hid (NS s.data.toList (.returned (.tuple #[.string ⟨#[]⟩,.bool false]))):=⟨_,_,rfl,fun _=>rfl⟩
  go_enter func137,ntmps137
  go_wp2_with (first|((with_reducible refine hl.mono ?_);rintro e w' ⟨rfl,rfl⟩)|fail)
  go_ret2
  exact⟨HI.out,rfl⟩
 ·have HI:Hid (∀x,NS s.data.toList (.returned (.tuple #[.string x,.bool true]))):=fun x=>⟨_,_,rfl,fun h=>absurd hm h⟩
  clear hm
  have TZ:(n:Int)≤(s.size:Int):=by omega
  have rH:(0:Int)≤(n:Int):=by omega
  have ix:¬((n:Int)<0):=by omega
  go_enter func137,ntmps137
  go_wp2_with (first|((with_reducible refine hl.mono ?_);rintro e w' ⟨rfl,rfl⟩)|fail)
  refine bodyPost_ret (v:=.tuple #[.string (s.extract 0 n),.bool true]) ?_ ?_ ?_
  ·exact results_tmp2 (fn:=f137) (t:=2) (u:=3) rfl _ _ _
  ·rfl
  ·exact⟨HI.out _,rfl⟩
def A0 (o:List gH) (e:Ending):Prop:=∃z i:Int,e=.returned (.tuple #[.int .i64 z,.int .i64 i])∧(∀t,o=[t]→jw t.code.data.toList=true→cP t.title.data.toList 60=true→(46:UInt8)∉t.code.data.toList→z=0)
theorem N' (A:Option Addr) (n c:Nat) (l:List gH) (w:World) (h:dF w A n 2 (l.map fL).flatten) (hn:n=l.length) (ix:n≤1100000) (su:n≤c) (hl:∀t∈l,t.code.size≤4000000∧t.title.size≤4000000) (hm:jl w):
  Calls prog 83 #[.slice A n c] w fun e w'=>A0 l e∧Below w.heap.size w w':=by
 have HN:=Lib.hid hn;have HL:=Lib.hid hl;clear hl
 by_cases Wx:200<n
 ·have HI:Hid (A0 l (.returned (.tuple #[.int .i64 5,.int .i64 200]))):=⟨_,_,rfl,fun t ht=>by rw[ht] at hn;simp at hn;omega⟩
  have yC:(200:Int)<(n:Int):=by omega
  go_enter func83,ntmps83
  go_wp2
  go_step3
  go_wp2
  try rw[Exit.noGoto_ret]
  go_ret2
  exact⟨HI.out,Below.refl _ _⟩
 have yC:¬((200:Int)<(n:Int)):=by omega
 clear hn
 go_enter func83,ntmps83
 go_wp2
 go_step3
 go_wp2
 go_step3
 go_wp2
 go_loopg [15] n (fun g i wr=>∃k:Nat,k+g=n∧i=.int .i64 k∧Below w.heap.size w wr)
 case atStart=>exact⟨0,by omega,rfl,Below.refl _ _⟩
 case round=>
  obtain⟨k,hkg,rfl,BC⟩:=hrel
  cases gk with
  |zero=>
   have aS:¬((k:Int)<(n:Int)):=by omega
   have HI:Hid (A0 l (.returned (.tuple #[.int .i64 0,.int .i64 0]))):=⟨_,_,rfl,fun _ _ _ _ _=>rfl⟩
   go_wp2_with fail
   try rw[Exit.noGoto_ret]
   go_ret2
   exact⟨HI.out,BC⟩
  |succ g=>
   have aS:(k:Int)<(n:Int):=by omega
   obtain⟨b,o,rfl,hc⟩:=lE h HN.out gh k (by have:=HN.out;omega);have aO:=hc.below BC (hc.lt (by rw[gh];decide));have kP:=HL.out (l[k]'(by have:=HN.out;omega)) (List.getElem_mem _)
   have HX:Hid (∀t,l=[t]→l[k]'(by have:=HN.out;omega)=t∧k=0):=fun t ht=>by
    have hk0:k=0:=by have:=HN.out;rw[ht] at this;simp at this;omega
    subst hk0;subst ht;exact⟨rfl,rfl⟩
   generalize l[k]'(by have:=HN.out;omega)=x at aO kP HX;have d0:wr.cell? ⟨b,o+k*2,none⟩=some (.string x.code):=aO 0 _ rfl;have d1:wr.cell? ⟨b,o+k*2+1,none⟩=some (.string x.title):=aO 1 _ rfl;have BD:=al BC (.cells #[.string x.code,.string x.title] 68);have yM:=hm.below BD;have R5:Row (wr.alloc (.cells #[.string x.code,.string x.title] 68)) wr.heap.size 68 (fL x):=Row.new wr 68 (fL x);have hv:=GP x.code (wr.alloc (.cells #[.string x.code,.string x.title] 68)) (by omega) yM;have e50:(wr.alloc (.cells #[.string x.code,.string x.title] 68)).cell? ⟨wr.heap.size,0,none⟩=some (.string x.code):=R5.cell 0
   cases I1:jw x.code.data.toList with
   |false=>
    have HI:Hid (∀i:Int,A0 l (.returned (.tuple #[.int .i64 2,.int .i64 i]))):=fun i=>⟨_,_,rfl,fun t ht h1=>by rw[(HX.out t ht).1] at I1;rw[I1] at h1;cases h1⟩
    rw[I1] at hv
    go_wp2_with (first|(go_at_call 113;(with_reducible refine hv.mono ?_);rintro e w2 ⟨rfl,ax⟩)|fail)
    try rw[Exit.noGoto_ret]
    go_ret2
    exact⟨HI.out _,az BD ax⟩
   |true=>
   rw[I1] at hv
   have tz:=fun W=>Qs x.title W (by omega)
   cases mO:cP x.title.data.toList 60 with
   |false=>
    have HI:Hid (∀i:Int,A0 l (.returned (.tuple #[.int .i64 1,.int .i64 i]))):=fun i=>⟨_,_,rfl,fun t ht _ h1=>by rw[(HX.out t ht).1] at mO;rw[mO] at h1;cases h1⟩
    rw[mO] at tz
    go_wp2_with (first|(go_at_call 113;(with_reducible refine hv.mono ?_);rintro e w2 ⟨rfl,ax⟩;have R6:=R5.keep ax;have BE:=az BD ax;have e61:=U (R6.cell 1))|(go_at_call 136;(with_reducible refine(tz _).mono ?_);rintro e w3 ⟨rfl,rfl⟩)|fail)
    try rw[Exit.noGoto_ret]
    go_ret2
    exact⟨HI.out _,BE⟩
   |true=>
   rw[mO] at tz
   have hpa:=fun W=>MT x.code W (by omega)
   go_wp2_with (first|(go_at_call 113;(with_reducible refine hv.mono ?_);rintro e w2 ⟨rfl,ax⟩;have R6:=R5.keep ax;have BE:=az BD ax;have ZX:=U (R6.cell 0);have e61:=U (R6.cell 1))|(go_at_call 136;(with_reducible refine(tz _).mono ?_);rintro e w3 ⟨rfl,rfl⟩)|fail)
   have hp:∃(W:World) (bq:Bool),True:=⟨w,true,trivial⟩;clear hp hv tz e50 d0 d1 yM aO hc
   rcases Nat.eq_zero_or_pos k with rfl|h0
   ·go_quiet (fail)
    have BF:=cr BE nq;have g60:(w2.drewN nq).cell? ⟨wr.heap.size,0,none⟩=some (.string x.code):=ZX;clear ZX e61 R5 R6 BE BD ax;generalize w2.drewN nq=w3 at*
    go_wp2_with fail
    with_reducible refine(hpa _).mono ?_
    rintro e w4 ⟨⟨px,pb,rfl,XF⟩,rfl⟩
    cases pb with
    |false=>
     go_wp2_with fail
     go_roundg g
     case measure=>omega
     case rel=>exact⟨0+1,by omega,by go_num,BF⟩
    |true=>
    have HI:Hid (∀i:Int,A0 l (.returned (.tuple #[.int .i64 6,.int .i64 i]))):=fun i=>⟨_,_,rfl,fun t ht _ _ h3=>by
     rw[←(HX.out t ht).1] at h3
     exact absurd (XF h3) (by decide)⟩
    have nW:((0:Nat):Int)≤(n:Int):=by omega
    clear XF g60 hpa HX kP
    go_wp2_with fail
    go_loopg [56] (0) (fun g2 i2 wy=>∃j:Nat,j+g2=0∧i2=.int .i64 j∧Below w.heap.size w wy)
    case atStart=>exact⟨0,by omega,rfl,BF⟩
    case round=>
     clear BF;obtain⟨j,hjg,rfl,BG⟩:=hrel
     cases gk with
     |zero=>
      have qA:¬((j:Int)<((0:Nat):Int)):=by omega
      go_wp2_with fail
      try rw[Exit.noGoto_ret]
      go_ret2
      exact⟨HI.out _,BG⟩
     |succ g2=>
      have qA:(j:Int)<((0:Nat):Int):=by omega
      obtain⟨b',o',sn,jc⟩:=lE h HN.out gh j (by have:=HN.out;omega)
      cases sn
      have fy:=jc.below BG (jc.lt (by rw[gh];decide));generalize l[j]'(by have:=HN.out;omega)=z at fy;have f0:wr.cell? ⟨b,o+j*2,none⟩=some (.string z.code):=fy 0 _ rfl;have f1:wr.cell? ⟨b,o+j*2+1,none⟩=some (.string z.title):=fy 1 _ rfl;have BH:=al BG (.cells #[.string z.code,.string z.title] 68);clear fy jc
      go_wp2_with fail
      all_goals first
       |(
        go_roundg g2
        case measure=>omega
        case rel=>exact⟨j+1,by omega,by go_num,BH⟩)
       |(
        go_roundg g
        case measure=>omega
        case rel=>exact⟨0+1,by omega,by go_num,BH⟩)
   ·obtain⟨m,rfl⟩:∃m,k=m+1:=⟨k - 1,by omega⟩;obtain⟨b',o',sn,jc⟩:=lE h HN.out gh m (by have:=HN.out;omega)
    cases sn
    have fy:=jc.below BE (jc.lt (by rw[gh];decide));generalize l[m]'(by have:=HN.out;omega)=y at fy;have f0:w2.cell? ⟨b,o+m*2,none⟩=some (.string y.code):=fy 0 _ rfl;clear fy jc
    have Ax:IntKind.i64.wrap (m:Int)=(m:Int):=by rw[IntKind.wrap_i64];omega
    have hmn:(m:Int)<(n:Int):=by omega
    have ads:(0:Int)≤(m:Int):=by omega
    obtain⟨lq,hle⟩:∃lq:Bool,∀W,(binOp .leq 9 (.string x.code) (.string y.code)).run prog W=.ok (.bool lq) W:=⟨_,fun W=>sK _ _ _ W⟩
    cases lq with
    |true=>
     have HI:Hid (∀i:Int,A0 l (.returned (.tuple #[.int .i64 23,.int .i64 i]))):=fun i=>⟨_,_,rfl,fun t ht=>absurd (HX.out t ht).2 (by omega)⟩
     go_quiet (fail)
     have BF:=cr BE nq
     go_wp2_with fail
     try rw[Exit.noGoto_ret]
     go_ret2
     exact⟨HI.out _,BF⟩
    |false=>
    go_quiet (fail)
    have BF:=cr BE nq;have g60:(w2.drewN nq).cell? ⟨wr.heap.size,0,none⟩=some (.string x.code):=ZX;clear ZX e61 R5 R6 BE BD ax;generalize w2.drewN nq=w3 at*
    go_wp2_with fail
    with_reducible refine(hpa _).mono ?_
    rintro e w4 ⟨⟨px,pb,rfl,XF⟩,rfl⟩
    cases pb with
    |false=>
     go_wp2_with fail
     go_roundg g
     case measure=>omega
     case rel=>exact⟨(m+1)+1,by omega,by go_num,BF⟩
    |true=>
    have HI:Hid (∀i:Int,A0 l (.returned (.tuple #[.int .i64 6,.int .i64 i]))):=fun i=>⟨_,_,rfl,fun t ht _ _ h3=>by
     rw[←(HX.out t ht).1] at h3
     exact absurd (XF h3) (by decide)⟩
    have nW:(((m+1):Nat):Int)≤(n:Int):=by omega
    clear XF g60 hpa HX kP
    go_wp2_with fail
    go_loopg [56] ((m+1)) (fun g2 i2 wy=>∃j:Nat,j+g2=(m+1)∧i2=.int .i64 j∧Below w.heap.size w wy)
    case atStart=>exact⟨0,by omega,rfl,BF⟩
    case round=>
     clear BF;obtain⟨j,hjg,rfl,BG⟩:=hrel
     cases gk with
     |zero=>
      have qA:¬((j:Int)<(((m+1):Nat):Int)):=by omega
      go_wp2_with fail
      try rw[Exit.noGoto_ret]
      go_ret2
      exact⟨HI.out _,BG⟩
     |succ g2=>
      have qA:(j:Int)<(((m+1):Nat):Int):=by omega
      obtain⟨b',o',sn,jc⟩:=lE h HN.out gh j (by have:=HN.out;omega)
      cases sn
      have fy:=jc.below BG (jc.lt (by rw[gh];decide));generalize l[j]'(by have:=HN.out;omega)=z at fy;have f0:wr.cell? ⟨b,o+j*2,none⟩=some (.string z.code):=fy 0 _ rfl;have f1:wr.cell? ⟨b,o+j*2+1,none⟩=some (.string z.title):=fy 1 _ rfl;have BH:=al BG (.cells #[.string z.code,.string z.title] 68);clear fy jc
      go_wp2_with fail
      all_goals first
       |(
        go_roundg g2
        case measure=>omega
        case rel=>exact⟨j+1,by omega,by go_num,BH⟩)
       |(
        go_roundg g
        case measure=>omega
        case rel=>exact⟨(m+1)+1,by omega,by go_num,BH⟩)
def DA:Value→Option (DataW Unit × List MemPlace)
 |.bool b=>some (.lit (.bool b),[])
 |_=>none
theorem wZ {v:Value} {x:DataW Unit × List MemPlace} (h:DA v=some x):∃b,v=.bool b:=by
 unfold DA at h
 split at h
 ·exact⟨_,rfl⟩
 ·cases h
def iY (w:World) (g n:Nat):Prop:=∃D:DataW Unit,w.ownsMap prog 3 DA g n D
theorem zc:Go.Maps.Keyed prog 3:=Go.Maps.int_keyed underlying3
theorem Mn {z:Int} (h:1≤z∧z≤9999999):keyOf prog 3 (.int .i64 z)=some (.int .i64 z):=
 Go.Maps.keyOf_int_mk underlying3 (WalkArith.wf_i64 (by omega))
theorem ace {w:World} {g n:Nat} {z:Int} (h:iY w g n) (hz:1≤z∧z≤9999999):
  ∃a b:Bool,(Instr.lookup 81 (.map (some g)) (.int .i64 z) true).run prog w=.ok (.tuple #[.bool a,.bool b]) w:=by
 obtain⟨D,h⟩:=h;obtain⟨v,ps,hr,hv⟩:=h.look_ok zc underlying81 (z:=.bool false) (by kernel_rfl) (zd:=.lit (.bool false)) (zp:=[]) rfl (Mn hz);obtain⟨b,rfl⟩:=wZ hv;exact⟨_,_,hr⟩
theorem aat {w:World} {g n:Nat} {z:Int} (h:iY w g n) (hz:1≤z∧z≤9999999):
  ∃a:Bool,(Instr.lookup 81 (.map (some g)) (.int .i64 z) false).run prog w=.ok (.bool a) w:=by
 obtain⟨D,h⟩:=h;obtain⟨v,ps,hr,hv⟩:=h.lookup zc underlying81 (z:=.bool false) (by kernel_rfl) (zd:=.lit (.bool false)) (zp:=[]) rfl (Mn hz);obtain⟨b,rfl⟩:=wZ hv;exact⟨_,hr⟩
theorem aau {w:World} {g n:Nat} {z:Int} {b:Bool} (h:iY w g n) (hn:n<maxLen) (hz:1≤z∧z≤9999999):
  ∃w',(Instr.mapUpdate 81 (.map (some g)) (.int .i64 z) (.bool b)).run prog w=.ok () w'∧iY w' g (n+1)∧w.grownBy w' (some g):=by
 obtain⟨D,h⟩:=h;obtain⟨w',hr,h2,h3⟩:=h.update zc underlying81 hn (Mn hz) (val:=.bool b) (d:=.lit (.bool b)) (ps:=[]) rfl;exact⟨w',hr,⟨_,h2⟩,h3⟩
theorem iY.kept {w w':World} {g n:Nat} {row:Option Nat} (h:iY w g n) (hg:w.grownBy w' row) (cu:some g≠row):iY w' g n:=by
 obtain⟨D,h⟩:=h;exact⟨D,h.kept hg cu⟩
theorem iY.mono {w:World} {g n:Nat} (h:iY w g n):iY w g (n+1):=by
 obtain⟨D,h⟩:=h;exact⟨D,h.mono (Nat.le_succ _)⟩
theorem iY.lt {w:World} {g n:Nat} (h:iY w g n):g<w.heap.size:=by
 obtain⟨D,h⟩:=h;exact h.lt
theorem iY.below {w w':World} {g n:Nat} (h:iY w g n) (hb:Below w.heap.size w w'):iY w' g n:=
 h.kept (row:=none) ⟨hb.os,hb.tape,hb.output,hb.size,fun k hk _=>hb.block k hk⟩ (by simp)
theorem iY.ne {w:World} {g n base e k m:Nat} {v:Value} {xs:List Value} (h:iY w g n) (hr:w.ownsRow base e k v m xs):some g≠v.ownBlock:=by
 obtain⟨D,es,clock,hb,_⟩:=h;intro hq;obtain⟨cs,fr,hc⟩:=Sv hr g hq.symm;rw[hb] at hc
 cases hc
theorem FN {w w':World} (hb:Below w.heap.size w w'):w.grownBy w' none:=⟨hb.os,hb.tape,hb.output,hb.size,fun k hk _=>hb.block k hk⟩
theorem Fh (base:Nat) (v:Value) (n:Nat) (zs:List Int) (w:World) (h:w.ownsRow base 3 1 v n (zs.map (Value.int .i64))) (hn:n≤1100000):
  Calls prog 50 #[v] w fun e w'=>e=.returned (.tuple #[])∧w'.ownsRow base 3 1 v n ((kJ zs).map (Value.int .i64))∧w.grownBy w' v.ownBlock:=by
 have hl:zs.length=n:=by have:=h.1;simp at this;omega
 rcases h.2 with ⟨rfl,rfl⟩|⟨g,cap,cur,rfl,hb,jx,r1,r2,r3,r4⟩
 ·refine(slices_Sort_int_none none 0 w).mono ?_;rintro e w' ⟨rfl,rfl⟩;have hz:zs=[]:=List.eq_nil_of_length_eq_zero hl;subst hz;exact⟨rfl,by simpa[kJ] using h,World.grownBy.refl _ _⟩
 ·subst hl;have hH:Go.Sort.Holds encZ w g 0 zs.toArray:=holds_of_block_i jx (by simpa using r4);refine(slices_Sort_int g 0 cap zs w hH (Array.getElem?_eq_some_iff.1 jx).1 (by omega)).mono ?_;rintro e w' ⟨rfl,nn,os,rfl⟩;exact⟨rfl,ownsRow_sorted_i (by simp) hb jx r1 r2 r3,grownBy_sorted_i _⟩
theorem FE (base:Nat) (v:Value) (n:Nat) (zs:List Int) (w:World) (h:w.ownsRow base 3 1 v n (zs.map (Value.int .i64))) (hn:n≤1100000):
  Calls prog 51 #[v] w fun e w'=>∃A m c,e=.returned (.slice A m c)∧m≤n∧Below base w w':=by
 have hl:zs.length=n:=by have:=h.1;simp at this;omega
 rcases Nat.eq_zero_or_pos n with rfl|h0
 ·obtain⟨A,c,rfl,_,_⟩:=aj h;refine(slices_Compact_int_empty A c w).mono ?_;rintro e w' ⟨rfl,rfl⟩;exact⟨A,0,c,rfl,Nat.le_refl _,Below.refl _ _⟩
 ·obtain⟨g,cap,rfl,h1,h2,hb,dW,aO,_,_,kv⟩:=cj h h0;subst hl
  refine(slices_Compact_int_cells g 0 zs.length cap zs w (Nat.le_refl _) (by omega) h1 (fun j hj=>by
   have:=aO j (.int .i64 (zs.getD j 0)) (by rw[List.getElem?_map,List.getElem?_eq_getElem hj];simp[List.getD,List.getElem?_eq_getElem hj])
   simpa using this) (fun j hj=>by simpa using kv j)).mono ?_
  rintro e w' ⟨rfl,q,rfl⟩;refine⟨_,_,_,rfl,?_,?_⟩
  ·have:=Lib.compact_length_le (zs.take zs.length)
   simpa using this
  ·exact(cr (Below.refl base w) q).trans ((cH.iX _ 0 (w.drewN q)).below hb)
theorem zk (A B:Option Addr) (n c m d:Nat) (refs:List Int) (l:List j0) (day:Int) (w:World) (h1:dF w A n 1 (refs.map (Value.int .i64))) (h2:dF w B m 5 (l.map fJ).flatten) (hn:n=refs.length) (hm:m=l.length) (ix:n≤1100000) (yM:m≤1100000)
  (hr:∀z∈refs,1≤z∧z≤9999999) (hl:∀a∈l,(1≤a.id∧a.id≤9999999)∧a.alt.size≤4000000):
  Calls prog 30 #[.slice A n c,.slice B m d,.int .i64 day] w fun e w'=>∃A' n' c',e=.returned (.slice A' n' c')∧n'≤n∧Below w.heap.size w w':=by
 have HN:=Lib.hid hn;have HM:=Lib.hid hm;have HR:=Lib.hid hr;have HL:=Lib.hid hl;clear hn hm hr hl;have v_:=@run_makeMap prog;have M1:iY (w.alloc (.map #[] 0)) w.heap.size 0:=⟨_,World.ownsMap_made w _ _ _⟩;have B1:=al (Below.refl w.heap.size w) (.map #[] 0)
 go_enter func30,ntmps30
 go_wp2_with fail
 generalize w.alloc (.map #[] 0)=w1 at*;obtain⟨gm,TS⟩:∃gm,gm=w.heap.size:=⟨_,rfl⟩;rw[←TS] at M1 ⊢;have HG:=Lib.hid TS;clear TS v_
 go_loopw [18] (fun i wr=>∃k:Nat,k≤m∧i=.int .i64 k∧iY wr gm k∧Below w.heap.size w wr) (fun i _=>m - (intOf i).toNat)
 case atStart=>exact⟨0,Nat.zero_le _,rfl,M1,B1⟩
 case round=>
  obtain⟨k,hk,rfl,MB,BC⟩:=hrel
  have kx:(k:Int)<(m:Int)∨¬((k:Int)<(m:Int)):=by omega
  rcases kx with aS|aS
  ·obtain⟨b,o,rfl,hc⟩:=lE h2 HM.out lU k (by have:=HM.out;omega);have aO:=hc.below BC (hc.lt (by rw[lU];decide));have kP:=HL.out (l[k]'(by have:=HM.out;omega)) (List.getElem_mem _);generalize l[k]'(by have:=HM.out;omega)=x at aO kP;have d0:wr.cell? ⟨b,o+k*5,none⟩=some (.int .i64 x.id):=aO 0 _ rfl;have d1:wr.cell? ⟨b,o+k*5+1,none⟩=some (.int .i64 x.bytes):=aO 1 _ rfl;have d2:wr.cell? ⟨b,o+k*5+2,none⟩=some (.string x.alt):=aO 2 _ rfl;have d3:wr.cell? ⟨b,o+k*5+3,none⟩=some (.int .i64 x.from_):=aO 3 _ rfl;have d4:wr.cell? ⟨b,o+k*5+4,none⟩=some (.int .i64 x.gT):=aO 4 _ rfl;have BD:=al BC (.cells #[.int .i64 x.id,.int .i64 x.bytes,.string x.alt,.int .i64 x.from_,.int .i64 x.gT] 70);have M2:=MB.below (ai wr (.cells #[.int .i64 x.id,.int .i64 x.bytes,.string x.alt,.int .i64 x.from_,.int .i64 x.gT] 70));have R9:Row (wr.alloc (.cells #[.int .i64 x.id,.int .i64 x.bytes,.string x.alt,.int .i64 x.from_,.int .i64 x.gT] 70)) wr.heap.size 70 (fJ x):=Row.new wr 70 (fJ x);obtain⟨p,q,hlk⟩:=ace M2 kP.1;have pS:=trivial
   cases q with
   |true=>
    go_wp2_with fail
    go_roundw
    case rel=>exact⟨k+1,by omega,by go_num,M2.mono,BD⟩
    case measure=>simp[intOf];omega
   |false=>
    go_wp2_with fail
    have bQ:∀p∈([
      (fun v _=>v=.map (some gm)),
      (fun v _=>v=.pointer (some ⟨wr.heap.size,0,none⟩)),
      (fun v _=>v=.int .i64 x.id),
      (fun v _=>v=.agg (fJ x).toArray),
      (fun v _=>v=.int .i64 day),
      (fun v _=>∃z:Int,v=.int .i64 z),
      (fun v _=>∃b:Bool,v=.bool b)]:List (Value→World→Prop)),∀v w w',p v w→Below w.heap.size w w'→p v w':=by
     refine List.forall_mem_cons.2 ⟨fun _ _ _ h _=>h,List.forall_mem_cons.2 ⟨fun _ _ _ h _=>h,List.forall_mem_cons.2 ⟨fun _ _ _ h _=>h,List.forall_mem_cons.2 ⟨fun _ _ _ h _=>h,List.forall_mem_cons.2 ⟨fun _ _ _ h _=>h,List.forall_mem_cons.2 ⟨fun _ _ _ h _=>h,List.forall_mem_cons.2 ⟨fun _ _ _ h _=>h,(fun _ h=>by cases h)⟩⟩⟩⟩⟩⟩⟩
    refine cT (by kernel_rfl) 7 (fun _=>none) (fun wx=>iY wx gm k∧Row wx wr.heap.size 70 (fJ x)∧Below w.heap.size w wx) (fun _ w w'=>Below w.heap.size w w') _ (fun j v w w' i _ h hR=>fC bQ (fun _ _ _ _ _=>trivial) i v w w' h hR) (by kernel_rfl) (by kernel_rfl) (fun _ _ h=>by cases h) ⟨M2.below (Below.refl _ _).drew,R9.drew,BD.drew⟩ ?_ ?_
    ·clear bQ;refine⟨fun _ a wx hG hr hb K hK=>?_,?_⟩
     ·have e:=aq (hb 7);rw[if_pos (by rfl)];unfold Oper.wp execOp
      go_simp
      exact hK _ _ rfl hG (Below.refl _ _)
     refine⟨fun _ a wx hG hr hb K hK=>?_,?_⟩
     ·have e:=aq (hb 9);rw[if_pos (by rfl)];unfold Oper.wp execOp
      go_simp
      exact hK _ _ rfl hG (Below.refl _ _)
     refine⟨fun _ a wx hG hr hb K hK=>?_,?_⟩
     ·have e:=aq (hr 1 32);have c0:wx.cell? ⟨wr.heap.size,0,none⟩=some (.int .i64 x.id):=hG.2.1.cell 0;rw[if_pos (by rfl)];unfold Oper.wp execOp
      go_simp
      exact hK _ _ rfl hG (Below.refl _ _)
     refine⟨fun _ a wx hG hr hb K hK=>?_,?_⟩
     ·have e:=aM (hb 9);rw[if_pos (by rfl)];unfold Oper.wp execOp;exact kh e o0 hG.2.1 rfl (hK _ _ rfl hG (Below.refl _ _))
     refine⟨fun _ a wx hG hr hb K hK=>?_,?_⟩
     ·have e:=aq (hb 2);rw[if_pos (by rfl)];unfold Oper.wp execOp
      go_simp
      exact hK _ _ rfl hG (Below.refl _ _)
     refine⟨fun _ a wx hG hr hb K hK=>?_,?_⟩
     ·have e1:=aq (hr 3 34);have e2:=aq (hr 4 35);rw[if_pos (by rfl)];unfold Oper.wp execOp
      go_simp
      refine(Nw x day wx kP.2).mono ?_;rintro e w' ⟨⟨z,rfl⟩,aY⟩;exact hK _ _ ⟨z,rfl⟩ ⟨hG.1.below aY,hG.2.1.keep aY,hG.2.2.trans (aY.mono hG.2.2.size)⟩ aY
     refine⟨fun _ a wx hG hr hb K hK=>?_,?_⟩
     ·rw[if_pos (by rfl)];unfold Oper.wp execOp;obtain⟨z,e⟩:=hr 5 36;rw[bR] at e
      go_simp
      exact hK _ _ ⟨_,rfl⟩ hG (Below.refl _ _)
     exact⟨fun h=>absurd h (by decide),trivial⟩
    ·intro v wx oo AA hA ho hG hV K hK
     simp[dh,bD,List.range,List.range.loop,Act.put] at hA
     have e0:=aM (hV 0 (by decide) rfl);have e2:=aM (hV 2 (by decide) rfl);obtain⟨bb,e6⟩:∃b:Bool,v 6=.bool b:=hV 6 (by decide) rfl;rw[e0,e2,e6] at hA;subst hA;clear hV e0 e2 e6 bQ;have bU:some _=some oo:=ho
     injection bU with bU
     subst bU;clear ho;rw[if_pos (by rfl)];obtain⟨M7,_,B7⟩:=hG;obtain⟨w7,iI,M8,hg7⟩:=aau (b:=bb) M7 (by unfold maxLen;omega) kP.1;have B8:=B7.grown hg7 B7.size (fun q hq=>by cases hq;exact Nat.le_of_eq HG.out.symm);clear MB BC BD M2 R9 M7 B7 d0 d1 d2 d3 d4 aO hc hlk hg7;unfold Oper.wp execOp
     go_simp
     refine hK _ _ ?_
     try rw[vL]
     go_wp2_with fail
     go_roundw
     case rel=>exact⟨k+1,by omega,by go_num,M8,B8⟩
     case measure=>simp[intOf];omega
  ·go_wp2_with fail
   clear M1 B1 aS
   go_loopw [12,41] (fun sv i wr=>∃(q:Nat) (v:Value) (zs:List Int),q≤n∧sv=v∧i=.int .i64 q∧zs.length≤q∧wr.ownsRow w.heap.size 3 1 v zs.length (zs.map (Value.int .i64))∧iY wr gm k∧Below w.heap.size w wr) (fun _ i _=>n - (intOf i).toNat)
   case atStart=>exact⟨0,_,[],Nat.zero_le _,rfl,rfl,Nat.le_refl _,World.ownsRow_nil _ _ _ _,MB,BC⟩
   case round=>
    clear MB BC;obtain⟨q,v,zs,hq,rfl,rfl,lJ,a_,MB,BC⟩:=hrel;obtain⟨X,y,rfl,_,_⟩:=aj a_
    have kx:(q:Int)<(n:Int)∨¬((q:Int)<(n:Int)):=by omega
    rcases kx with aS|aS
    ·obtain⟨b,o,rfl,hc⟩:=h1.2 (by omega)
     have hz:=HR.out (refs.getD q 0) (by
      have:=HN.out
      rw[List.getD,List.getElem?_eq_getElem (by omega)];exact List.getElem_mem _)
     have c0:wr.cell? ⟨b,o+q,none⟩=some (.int .i64 (refs.getD q 0)):=by
      have:=HN.out;refine(hc.below BC (hc.lt (by simp;omega))) q _ ?_;rw[List.getElem?_map,List.getD,List.getElem?_eq_getElem (by omega)];rfl
     generalize refs.getD q 0=z at c0 hz;obtain⟨t,hlk⟩:=aat MB hz;clear hc h1 h2 hz
     cases t with
     |true=>
      go_wp2_with fail
      go_roundw
      case rel=>exact⟨q+1,_,zs,by omega,rfl,by go_num,by omega,a_,MB,BC⟩
      case measure=>simp[intOf];omega
     |false=>
      have e1:dF (wr.alloc (.cells #[.int .i64 z] 3)) (some ⟨wr.heap.size,0,none⟩) 1 1 [.int .i64 z]:=(Row.new wr 3 [.int .i64 z]).sl.jZ;have d_:=bN a_ (.cells #[.int .i64 z] 3);have MA:=MB.below (ai wr (.cells #[.int .i64 z] 3));have BA:=al BC (.cells #[.int .i64 z] 3)
      go_wp2_with (first|(refine cv (by rfl) (.tmp 49) (.tmp 51) 22 (by rfl) w.heap.size 3 _ 1 8 underlying22 qC rfl (by decide) (.slice X zs.length y) zs.length (zs.map (Value.int .i64)) (some ⟨wr.heap.size,0,none⟩) 1 1 [.int .i64 z] (by rfl) (by rfl) d_ e1 (by intro u hu;rw[List.mem_singleton.1 hu];rfl) (by unfold maxLen;omega) (by omega) BA.size ?_;intro v2 w2 gM gy;have M2:=MA.kept gy (MA.ne d_);have B2:=BA.trans (bG d_ gy (Nat.le_refl _) BA.size)))
      go_roundw
      case rel=>exact⟨q+1,_,zs++ [z],by omega,rfl,by go_num,by simp;omega,by simpa using gM,M2,B2⟩
      case measure=>simp[intOf];omega
    ·go_wp2_with fail
     refine(Fh w.heap.size _ _ zs _ a_ (by omega)).mono ?_;rintro e w5 ⟨rfl,ho5,Xe⟩;have B5:=BC.trans (bG a_ Xe (Nat.le_refl _) BC.size);clear BC MB a_ Xe
     go_wp2_with fail
     refine(FE w.heap.size _ _ _ _ ho5 (by omega)).mono ?_;rintro e w6 ⟨A',m',c',rfl,O7,b6⟩;have B6:=B5.trans b6
     go_wp2_with fail
     go_ret
     exact⟨_,_,_,rfl,by omega,B6⟩
def pJ (l:List gH) (q:ByteArray):Bool:=l.any fun t=>decide (t.code=q)
theorem Rx {a b:ByteArray} (h:a.toList=b.toList):a=b:=by
 rw[Lib.toList_data,Lib.toList_data] at h
 cases a;cases b
 exact congrArg ByteArray.mk (Array.toList_inj.1 h)
theorem Zk {l:List gH} {q:ByteArray} (h:∀j (hj:j<l.length),(l[j]).code≠q):pJ l q=false:=by
 unfold pJ;rw[List.any_eq_false];intro t ht;obtain⟨j,hj,rfl⟩:=List.mem_iff_getElem.1 ht
 simpa using h j hj
theorem Vc {l:List gH} {q:ByteArray} {k:Nat} (hk:k<l.length) (h:(l[k]).code=q):pJ l q=true:=by
 unfold pJ;rw[List.any_eq_true];exact⟨l[k],List.getElem_mem hk,by simpa using h⟩
theorem IZ (x:gH) (g:Nat) (q:ByteArray) (w:World) (hc:w.cell? ⟨g,0,none⟩=some (.string q)):
  Calls prog 133 #[.agg (fL x).toArray,.pointer (some ⟨g,0,none⟩)] w fun e w'=>e=.returned (.bool (decide (x.code=q)))∧Below w.heap.size w w':=by
 obtain⟨a,t⟩:=x;have BB:=al (Below.refl w.heap.size w) (.cells #[.string a,.string t] 68);have hg:=block_lt_of_cell hc;have R1:Row (w.alloc (.cells #[.string a,.string t] 68)) w.heap.size 68 [.string a,.string t]:=Row.new w 68 [.string a,.string t];have c0:(w.alloc (.cells #[.string a,.string t] 68)).cell? ⟨w.heap.size,0,none⟩=some (.string a):=R1.cell 0;have c1:(w.alloc (.cells #[.string a,.string t] 68)).cell? ⟨g,0,none⟩=some (.string q):=((ai w (.cells #[.string a,.string t] 68)).cell (p:=⟨g,0,none⟩) hg).trans hc;simp only[fL];clear hc R1
 by_cases hq:a=q
 ·rw[decide_eq_true hq];subst hq
  go_enter func133,ntmps133
  go_wp2_with fail
  go_ret
  exact⟨rfl,BB⟩
 ·rw[decide_eq_false hq]
  go_enter func133,ntmps133
  go_wp2_with fail
  go_ret
  have pR:¬a.toList=q.toList:=fun h=>hq (Rx h)
  exact⟨by simp[pR],BB⟩
theorem FZ (A:Option Addr) (n c:Nat) (l:List gH) (g:Nat) (q:ByteArray) (w:World) (h:dF w A n 2 (l.map fL).flatten) (hn:n=l.length) (ix:n≤1100000) (hc:w.cell? ⟨g,0,none⟩=some (.string q)):
  Calls prog 191 #[.slice A n c,.func (.func 133) #[] #[.pointer (some ⟨g,0,none⟩)]] w fun e w'=>∃r:Int,e=.returned (.int .i64 r)∧decide (0≤r)=pJ l q∧Below w.heap.size w w':=by
 have HN:=Lib.hid hn;have hg:=block_lt_of_cell hc;clear hn
 go_enter func191,ntmps191
 go_wp2_with fail
 go_loopw [8] (fun i wr=>∃k:Nat,k≤n∧i=.int .i64 k∧Below w.heap.size w wr∧Hid (∀j (hj:j<l.length),j<k→(l[j]).code≠q)) (fun i _=>n - (intOf i).toNat)
 case atStart=>exact⟨0,Nat.zero_le _,rfl,Below.refl _ _,fun j _ hj=>absurd hj (Nat.not_lt_zero _)⟩
 case round=>
  obtain⟨k,hk,rfl,BC,HJ⟩:=hrel
  have kx:(k:Int)<(n:Int)∨¬((k:Int)<(n:Int)):=by omega
  rcases kx with aS|aS
  ·have gA:k<l.length:=by have:=HN.out;omega
   obtain⟨b,o,rfl,aO⟩:=lE h HN.out gh k gA;have aO:=aO.below BC (aO.lt (by rw[gh];decide));obtain⟨x,hx⟩:∃x,x=l[k]:=⟨_,rfl⟩;rw[←hx] at aO;have HX:=Lib.hid hx;clear hx;have d0:wr.cell? ⟨b,o+k*2,none⟩=some (.string x.code):=aO 0 _ rfl;have d1:wr.cell? ⟨b,o+k*2+1,none⟩=some (.string x.title):=aO 1 _ rfl;have WW:=(BC.cell (p:=⟨g,0,none⟩) hg).trans hc;have hf:=IZ x g q wr WW;unfold fL at hf;obtain⟨bq,hbq⟩:∃bq,bq=decide (x.code=q):=⟨_,rfl⟩;rw[←hbq] at hf;have HB:=Lib.hid hbq;clear hbq aO WW
   cases bq with
   |true=>
    have HE:Hid (pJ l q=true):=Vc gA (by rw[←HX.out];exact of_decide_eq_true HB.out.symm)
    go_wp2_with (first|(go_at_call 133;(with_reducible refine hf.mono ?_);rintro e w2 ⟨rfl,ax⟩;have BD:=az BC ax)|fail)
    go_ret
    exact⟨_,rfl,by rw[HE.out];exact decide_eq_true (by omega),BD⟩
   |false=>
    have HJ2:Hid (∀j (hj:j<l.length),j<k+1→(l[j]).code≠q):=by
     intro j hj Xj
     rcases Nat.lt_or_ge j k with h1|h1
     ·exact HJ.out j hj h1
     ·obtain rfl:j=k:=by omega
      rw[←HX.out];exact of_decide_eq_false HB.out.symm
    go_wp2_with (first|(go_at_call 133;(with_reducible refine hf.mono ?_);rintro e w2 ⟨rfl,ax⟩;have BD:=az BC ax)|fail)
    go_roundw
    case rel=>exact⟨k+1,by omega,by go_num,BD,HJ2⟩
    case measure=>simp[intOf];omega
  ·have HE:Hid (pJ l q=false):=Zk (fun j hj=>HJ.out j hj (by have:=HN.out;omega))
   go_wp2_with fail
   go_ret
   exact⟨_,rfl,by rw[HE.out];rfl,BC⟩
theorem Af (A:Option Addr) (n c:Nat) (l:List gH) (g:Nat) (q:ByteArray) (w:World) (h:dF w A n 2 (l.map fL).flatten) (hn:n=l.length) (ix:n≤1100000) (hc:w.cell? ⟨g,0,none⟩=some (.string q)):
  Calls prog 132 #[.slice A n c,.func (.func 133) #[] #[.pointer (some ⟨g,0,none⟩)]] w fun e w'=>e=.returned (.bool (pJ l q))∧Below w.heap.size w w':=by
 have hi:=FZ A n c l g q w h hn ix hc;clear h hn
 go_enter func132,ntmps132
 go_wp2_with fail
 refine hi.mono ?_;rintro e w' ⟨r,rfl,hr,hb⟩;have HR:=Lib.hid hr;clear hr
 by_cases h0:0≤r
 ·go_wp2_with fail
  go_ret
  exact⟨by rw[←HR.out];simp[h0],hb⟩
 ·go_wp2_with fail
  go_ret
  exact⟨by rw[←HR.out];simp[h0],hb⟩
theorem wD (C:List Value) (A:Option Addr) (n c:Nat) (l:List gH) (q:ByteArray) (w:World) (hC:C.length=7) (h3:C[3]? =some (.slice A n c)) (h:dF w A n 2 (l.map fL).flatten) (hn:n=l.length) (ix:n≤1100000):
  Calls prog 81 #[.agg C.toArray,.string q] w fun e w'=>e=.returned (.bool (pJ l q))∧Below w.heap.size w w':=by
 have HQ:=fun g W (hb:Below w.heap.size w W) (hc:W.cell? ⟨g,0,none⟩=some (.string q))=>Af A n c l g q W (h.below (by decide) hb) hn ix hc
 clear hn h
 go_enter func81,ntmps81
 have aL:=trivial
 go_wp2_with (first
  |(clear aL;(with_reducible refine ao (C:=C) ?_ ?_);rfl;intro x1 g1 aR R1 aw;have eV:=Nat.le_of_eq aR;have BB:=aw;have eo:=ae R1 h3;clear aw aR;have aJ:=trivial;have B2:=al BB (.cells #[.string q] 9);have pR:(x1.alloc (.cells #[.string q] 9)).cell? ⟨x1.heap.size,0,none⟩=some (.string q):=(Row.new x1 9 [.string q]).cell 0;have c13:(x1.alloc (.cells #[.string q] 9)).cell? ⟨g1,3,none⟩=some (.slice A n c):=(Row.alloc R1 (.cells #[.string q] 9)).cell 3|>.trans h3))
 try clear aJ
 with_reducible refine(HQ _ _ B2 pR).mono ?_
 rintro e w' ⟨rfl,hb⟩
 go_wp2_with fail
 go_ret
 exact⟨rfl,az B2 hb⟩
def VA (l:List gH) (q:ByteArray) (refs:List Int) (e:Ending):Prop:=∃z:Int,e=.returned (.int .i64 z)∧(pJ l q=true→refs=[]→z=0)
theorem ZU {w:World} {D:List Value} {c:eH} (h:je w D c):D.length=32∧∃A2 c2,D[3]? =some (.int .i64 c.time)∧D[17]? =some (.string c.item.code)∧D[22]? =some (.slice A2 c.item.af.length c2)∧dF w A2 c.item.af.length 1 (c.item.af.map (Value.int .i64)):=by
 obtain⟨vo,vc,vt,va,A,n,k,rfl,_,_,_,⟨A2,c2,rfl,_,_,S2⟩,_⟩:=h;exact⟨rfl,A2,c2,rfl,rfl,rfl,S2.jZ⟩
theorem sZ (C D:List Value) (A1 A2:Option Addr) (n1 c1 n2 c2:Nat) (l:List gH) (la:List j0) (c:eH) (w:World) (hC:C.length=7) (h3:C[3]? =some (.slice A1 n1 c1)) (h4:C[4]? =some (.slice A2 n2 c2))
  (s1:dF w A1 n1 2 (l.map fL).flatten) (s2:dF w A2 n2 5 (la.map fJ).flatten) (e1:n1=l.length) (e2:n2=la.length) (b1:n1≤1100000) (b2:n2≤1100000) (hD:je w D c) (hs:jS c.item) (ht:0≤c.time)
  (hr:∀z∈c.item.af,1≤z∧z≤9999999) (hl:∀a∈la,(1≤a.id∧a.id≤9999999)∧a.alt.size≤4000000):
  Calls prog 87 #[.agg C.toArray,.agg D.toArray] w fun e w'=>VA l c.item.code c.item.af e∧Below w.heap.size w w':=by
 obtain⟨nO,A5,c5,d3,d17,d22,s5⟩:=ZU hD;have iB:=hs.2.2.2
 have HT:=fun W (hb:Below w.heap.size w W)=>wD C A1 n1 c1 l c.item.code W hC h3 (s1.below (by decide) hb) e1 b1
 have HM:=fun day W (hb:Below w.heap.size w W)=>zk A5 A2 c.item.af.length c5 n2 c2 c.item.af la day W (s5.below (by decide) hb) (s2.below (by decide) hb) rfl e2 iB b2 hr hl
 clear hD hs hr hl s1 s2 s5 e1 e2 iB;obtain⟨tb,mO⟩:∃tb,tb=pJ l c.item.code:=⟨_,rfl⟩;rw[←mO] at HT;obtain⟨m,hm⟩:∃m,m=c.item.af.length:=⟨_,rfl⟩;rw[←hm] at HM d22
 have HI:Hid (∀z:Int,(tb=true→m=0→z=0)→VA l c.item.code c.item.af (.returned (.int .i64 z))):=fun z hz=>⟨z,rfl,fun h1 h2=>hz (by rw[mO];exact h1) (by rw[hm,h2];rfl)⟩
 clear mO hm;generalize c.item.code=q at*;generalize c.time=ti at*
 go_enter func87,ntmps87
 have aL:=trivial
 go_wp2_with (first
  |(clear bC;(with_reducible refine ak ?_ aN R1 hC ?_);rfl;have cz:=trivial)
  |(clear aJ;(with_reducible refine ao (C:=D) ?_ ?_);rfl;intro x2 g2 cW R2 aF;have jz:=h_ R1 cW;have fP:=jq BB cW;replace R1:=R1.keep aF;replace BB:=az BB aF;clear aK;have aK:=ae R1 h4;have mY:=ae R2 d3;have RD:=ae R2 d17;have RE:=ae R2 d22;clear aF cW;have bC:=trivial)
  |(clear aL;(with_reducible refine ao (C:=C) ?_ ?_);rfl;intro x1 g1 aR R1 aw;have eV:=Nat.le_of_eq aR;have BB:=aw;have aK:=ae R1 h4;clear aw aR;have aJ:=trivial))
 try clear cz
 refine(HT _ BB).mono ?_;rintro r x3 ⟨rfl,bh⟩;replace R1:=R1.keep bh;replace R2:=R2.keep bh;replace BB:=az BB bh;clear aK mY RD RE;have aK:=ae R1 h4;have mY:=ae R2 d3;have RD:=ae R2 d17;have RE:=ae R2 d22;clear bh
 cases tb with
 |false=>
  go_wp2_with fail
  go_ret
  exact⟨HI.out 6 (fun h=>absurd h (by decide)),BB⟩
 |true=>
 go_wp2_with fail
 with_reducible refine(HM _ _ BB).mono ?_
 rintro e w5 ⟨A',n',c',rfl,TZ,iB⟩;have B5:=az BB iB;clear BB iB HM HT
 by_cases h0:0<n'
 ·have Ww:(0:Int)<(n':Int):=by omega
  go_wp2_with fail
  go_ret
  exact⟨HI.out 17 (fun _ h=>by omega),B5⟩
 ·have Ww:¬((0:Int)<(n':Int)):=by omega
  go_wp2_with fail
  go_ret
  exact⟨HI.out 0 (fun _ _=>rfl),B5⟩
end
end Go.Proofs.YtdnpopjabpklnaaGreatDoor
