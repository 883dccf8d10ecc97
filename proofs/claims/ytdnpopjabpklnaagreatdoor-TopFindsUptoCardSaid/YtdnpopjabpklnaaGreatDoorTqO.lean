/- Contracts and plain laws that the proof of the top laws uses (TqO). No condition beyond those stated. -/
import Derived.Test.YtdnpopjabpklnaaGreatDoorTqN
set_option maxRecDepth 100000
set_option maxHeartbeats 64000000
set_option linter.all false
namespace Go.Proofs.YtdnpopjabpklnaaGreatDoor
section
open Go.RowKit
open Tryz
theorem od {P:Program} {ops:Array Oper} {rest:List Oper} {a:Act} {w:World} {Q:Exit→Act→World→Prop} {dst:Option Tmp} {x:Operand} {ty t' k:Nat} {pos:String} {after:Array Edge} {gd:Nat × Bool}
  {g t:Nat} {C:List Value} (hw:Region.wanted {dst:=dst,op:=.load ty x,type:=t',pos:=pos,after:=after,guard:=some gd} (yielded ops a.tmps)=true) (hx:a.eval x=.pointer (some ⟨g,0,none⟩)) (hA:kj P ty k) (hr:Row w g t C) (hk:C.length=k)
  (h:wpList P ops Q rest (a.put dst (.agg C.toArray)) w):wpList P ops Q ({dst:=dst,op:=.load ty x,type:=t',pos:=pos,after:=after,guard:=some gd}::rest) a w:=
 wpList_step fun K hK=>by
  rw[if_pos hw];unfold Oper.wp execOp;simp only[hx,Instr.loadAt,Instr.sureAddr,Sem.run_bind,Sem.run_pure,Result.andThen_ok,gZ hA hr.cl hk];exact hK _ _ h
theorem C_ {P:Prop} (h:P:=by
 go_enter func20,ntmps20
 have aL:=trivial
 go_wp2_with (first
  |(clear aJ;(with_reducible refine ak ?_ aU R1 hlen ?_);rfl;have bC:=trivial)
  |(clear aL;(with_reducible refine ao (C:=C) ?_ ?_);rfl;intro x1 g1 aR R1 aw;have eV:=Nat.le_of_eq aR;have BB:=aw;have aI:=ae R1 C2;have aK:=ae R1 C4;have bK:=ae R1 C8;have bO:=ae R1 jt;clear aw aR;have aJ:=trivial))
 try clear bC
 refine(a1 _ BB).mono ?_;rintro r x2 ⟨rfl,aF⟩;replace R1:=R1.keep aF;replace BB:=az BB aF;clear aI aK bK bO;have aI:=ae R1 C2;have aK:=ae R1 C4;have bK:=ae R1 C8;have bO:=ae R1 jt;clear aF
 go_wp2_with fail
 go_at_call 53;with_reducible refine(a2 _).mono ?_;rintro e w' ⟨rfl,rfl⟩
 have bC:=trivial
 go_wp2_with (first
  |(clear bC;(with_reducible refine ak ?_ aU R1 hlen ?_);rfl;have cz:=trivial))
 try clear cz
 refine(a3 _ BB).mono ?_;rintro r x3 ⟨rfl,bh⟩;replace R1:=R1.keep bh;replace BB:=az BB bh;clear aI aK bK bO;have aI:=ae R1 C2;have aK:=ae R1 C4;have bK:=ae R1 C8;have bO:=ae R1 jt;clear bh
 go_wp2_with fail
 go_ret
 exact⟨rfl,BB⟩):P:=h
theorem Ri {P:Prop} (h:P:=by
 go_enter func20,ntmps20
 have aL:=trivial
 go_wp2_with (first
  |(clear aJ;(with_reducible refine ak ?_ aU R1 hlen ?_);rfl;have bC:=trivial)
  |(clear aL;(with_reducible refine ao (C:=C) ?_ ?_);rfl;intro x1 g1 aR R1 aw;have eV:=Nat.le_of_eq aR;have BB:=aw;have aI:=ae R1 C2;have aK:=ae R1 C4;have bK:=ae R1 C8;have bO:=ae R1 jt;clear aw aR;have aJ:=trivial))
 try clear bC
 refine(a1 _ BB).mono ?_;rintro r x2 ⟨rfl,aF⟩;replace R1:=R1.keep aF;replace BB:=az BB aF;clear aI aK bK bO;have aI:=ae R1 C2;have aK:=ae R1 C4;have bK:=ae R1 C8;have bO:=ae R1 jt;clear aF
 go_wp2_with fail
 go_at_call 53;with_reducible refine(a2 _).mono ?_;rintro e w' ⟨rfl,rfl⟩
 have bC:=trivial
 go_wp2_with (first
  |(clear bC;(with_reducible refine ak ?_ aU R1 hlen ?_);rfl;have cz:=trivial))
 try clear cz
 refine(a3 _ BB).mono ?_;rintro r x3 ⟨rfl,bh⟩;replace R1:=R1.keep bh;replace BB:=az BB bh;clear aI aK bK bO;have aI:=ae R1 C2;have aK:=ae R1 C4;have bK:=ae R1 C8;have bO:=ae R1 jt;clear bh;have cz:=trivial
 go_wp2_with (first
  |(clear cz;(with_reducible refine ak ?_ aU R1 hlen ?_);rfl;have cY:=trivial))
 try clear cY
 refine(a4 _ BB).mono ?_;rintro r x4 ⟨rfl,ek⟩;replace R1:=R1.keep ek;replace BB:=az BB ek;clear aI aK bK bO;have aI:=ae R1 C2;have aK:=ae R1 C4;have bK:=ae R1 C8;have bO:=ae R1 jt;clear ek;have cY:=trivial
 go_wp2_with (first
  |(clear cY;(with_reducible refine od ?_ ?_ aU R1 hlen ?_);rfl;rfl;have dX:=trivial))
 try clear dX
 refine(a5 _ BB).mono ?_;rintro r x5 ⟨rfl,cp⟩;replace R1:=R1.keep cp;replace BB:=az BB cp;clear aI aK bK bO;have aI:=ae R1 C2;have aK:=ae R1 C4;have bK:=ae R1 C8;have bO:=ae R1 jt;clear cp
 go_wp2_with fail
 refine(a6 _ BB).mono ?_;rintro e w' ⟨rfl,rfl⟩
 go_wp2_with fail
 go_ret
 exact⟨rfl,BB⟩):P:=h
theorem sP (C:List Value) (it:aA) (w:World) (h:dO w C it) (hs:jS it) (hz:A7 it) (hm:jl w):
  Calls prog 20 #[.agg C.toArray] w fun e w'=>e=.returned (.int .i64 (fb it))∧Below w.heap.size w w':=by
 have hlen:=h.len;obtain⟨C0,C1,C2,C6,C7,C9,s',tc,td,te,rX⟩:=lL h
 have a1:=fun W (hb:Below w.heap.size w W)=>JP C it W (h.below hb)
 have a2:=fun W=>bx it.kind 1 6 W
 have a3:=fun W (hb:Below w.heap.size w W)=>J5 C it W (h.below hb) hs hz (hm.below hb)
 have a4:=fun W (hb:Below w.heap.size w W)=>JS C it W (h.below hb) hs
 have a5:=fun W (hb:Below w.heap.size w W)=>Yr C it W (h.below hb) hs hz (hm.below hb)
 obtain⟨vo,vc,vt,va,hC,⟨A1,c1,rfl,_,_,_⟩,_,⟨A3,c3,rfl,_,_,_⟩,⟨A4,c4,rfl,_,_,S4⟩⟩:=h
 have C4:C[4]? =some (.slice A1 it.opts.length c1):=by rw[hC];rfl
 have C8:C[8]? =some (.slice A3 it.texts.length c3):=by rw[hC];rfl
 have jt:C[15]? =some (.slice A4 it.af.length c4):=by rw[hC];rfl
 clear hC C0 C1 C6 C7 C9 s' tc td te rX;obtain⟨s1,s2,s3,s4⟩:=hs;clear hz hm s2
 have a6:=fun W (hb:Below w.heap.size w W)=>uR A4 it.af.length c4 it.af 1 9999999 W (Sl.jZ (S4.below hb)) s4
 clear S4;unfold fb;generalize it.opts.length=n1 at*;generalize it.texts.length=n3 at*;generalize it.af.length=n4 at*;generalize iE it.af 1 9999999=b6 at*;generalize it.kind=k at*;generalize xL it=b1 at*;generalize iH k 1 6=b2 at*;generalize AS it=b3 at*;generalize sD it=b4 at*;generalize Bu it=b5 at*
 cases b1 with
 |false=>
  go_enter func20,ntmps20
  have aL:=trivial
  go_wp2_with (first
   |(clear aJ;(with_reducible refine ak ?_ aU R1 hlen ?_);rfl;have bC:=trivial)
   |(clear aL;(with_reducible refine ao (C:=C) ?_ ?_);rfl;intro x1 g1 aR R1 aw;have eV:=Nat.le_of_eq aR;have BB:=aw;have aI:=ae R1 C2;have aK:=ae R1 C4;have bK:=ae R1 C8;have bO:=ae R1 jt;clear aw aR;have aJ:=trivial))
  try clear bC
  refine(a1 _ BB).mono ?_;rintro r x2 ⟨rfl,aF⟩;replace R1:=R1.keep aF;replace BB:=az BB aF;clear aI aK bK bO;have aI:=ae R1 C2;have aK:=ae R1 C4;have bK:=ae R1 C8;have bO:=ae R1 jt;clear aF
  go_wp2_with fail
  go_ret
  exact⟨rfl,BB⟩
 |true=>
 cases b2 with
 |false=>
  go_enter func20,ntmps20
  have aL:=trivial
  go_wp2_with (first
   |(clear aJ;(with_reducible refine ak ?_ aU R1 hlen ?_);rfl;have bC:=trivial)
   |(clear aL;(with_reducible refine ao (C:=C) ?_ ?_);rfl;intro x1 g1 aR R1 aw;have eV:=Nat.le_of_eq aR;have BB:=aw;have aI:=ae R1 C2;have aK:=ae R1 C4;have bK:=ae R1 C8;have bO:=ae R1 jt;clear aw aR;have aJ:=trivial))
  try clear bC
  refine(a1 _ BB).mono ?_;rintro r x2 ⟨rfl,aF⟩;replace R1:=R1.keep aF;replace BB:=az BB aF;clear aI aK bK bO;have aI:=ae R1 C2;have aK:=ae R1 C4;have bK:=ae R1 C8;have bO:=ae R1 jt;clear aF
  go_wp2_with fail
  go_at_call 53;with_reducible refine(a2 _).mono ?_;rintro e w' ⟨rfl,rfl⟩
  go_wp2_with fail
  go_ret
  exact⟨rfl,BB⟩
 |true=>
 cases b3 with
 |false=>
  exact C_
 |true=>
 have e3:¬((true:Bool)=false):=by decide
 by_cases q1:10<n1
 ·rw[if_neg e3,if_neg e3,if_neg e3,if_pos (Or.inl q1)]
  have q1':(10:Int)<(n1:Int):=by omega
  exact C_
 have q1':¬((10:Int)<(n1:Int)):=by omega
 by_cases q2:10<n3
 ·rw[if_neg e3,if_neg e3,if_neg e3,if_pos (Or.inr (Or.inl q2))]
  have Y7:(10:Int)<(n3:Int):=by omega
  exact C_
 have Y7:¬((10:Int)<(n3:Int)):=by omega
 by_cases q3:8<n4
 ·rw[if_neg e3,if_neg e3,if_neg e3,if_pos (Or.inr (Or.inr q3))]
  have q3':(8:Int)<(n4:Int):=by omega
  exact C_
 have q3':¬((8:Int)<(n4:Int)):=by omega
 rw[if_neg e3,if_neg e3,if_neg e3,if_neg (fun q=>q.elim q1 (fun q=>q.elim q2 q3))];clear q1 q2 q3
 cases b4 with
 |false=>
  rw[if_pos (Or.inl rfl)]
  go_enter func20,ntmps20
  have aL:=trivial
  go_wp2_with (first
   |(clear aJ;(with_reducible refine ak ?_ aU R1 hlen ?_);rfl;have bC:=trivial)
   |(clear aL;(with_reducible refine ao (C:=C) ?_ ?_);rfl;intro x1 g1 aR R1 aw;have eV:=Nat.le_of_eq aR;have BB:=aw;have aI:=ae R1 C2;have aK:=ae R1 C4;have bK:=ae R1 C8;have bO:=ae R1 jt;clear aw aR;have aJ:=trivial))
  try clear bC
  refine(a1 _ BB).mono ?_;rintro r x2 ⟨rfl,aF⟩;replace R1:=R1.keep aF;replace BB:=az BB aF;clear aI aK bK bO;have aI:=ae R1 C2;have aK:=ae R1 C4;have bK:=ae R1 C8;have bO:=ae R1 jt;clear aF
  go_wp2_with fail
  go_at_call 53;with_reducible refine(a2 _).mono ?_;rintro e w' ⟨rfl,rfl⟩
  have bC:=trivial
  go_wp2_with (first
   |(clear bC;(with_reducible refine ak ?_ aU R1 hlen ?_);rfl;have cz:=trivial))
  try clear cz
  refine(a3 _ BB).mono ?_;rintro r x3 ⟨rfl,bh⟩;replace R1:=R1.keep bh;replace BB:=az BB bh;clear aI aK bK bO;have aI:=ae R1 C2;have aK:=ae R1 C4;have bK:=ae R1 C8;have bO:=ae R1 jt;clear bh;have cz:=trivial
  go_wp2_with (first
   |(clear cz;(with_reducible refine ak ?_ aU R1 hlen ?_);rfl;have cY:=trivial))
  try clear cY
  refine(a4 _ BB).mono ?_;rintro r x4 ⟨rfl,ek⟩;replace R1:=R1.keep ek;replace BB:=az BB ek;clear aI aK bK bO;have aI:=ae R1 C2;have aK:=ae R1 C4;have bK:=ae R1 C8;have bO:=ae R1 jt;clear ek
  go_wp2_with fail
  go_ret
  exact⟨rfl,BB⟩
 |true=>
 cases b5 with
 |false=>
  rw[if_pos (Or.inr rfl)]
  go_enter func20,ntmps20
  have aL:=trivial
  go_wp2_with (first
   |(clear aJ;(with_reducible refine ak ?_ aU R1 hlen ?_);rfl;have bC:=trivial)
   |(clear aL;(with_reducible refine ao (C:=C) ?_ ?_);rfl;intro x1 g1 aR R1 aw;have eV:=Nat.le_of_eq aR;have BB:=aw;have aI:=ae R1 C2;have aK:=ae R1 C4;have bK:=ae R1 C8;have bO:=ae R1 jt;clear aw aR;have aJ:=trivial))
  try clear bC
  refine(a1 _ BB).mono ?_;rintro r x2 ⟨rfl,aF⟩;replace R1:=R1.keep aF;replace BB:=az BB aF;clear aI aK bK bO;have aI:=ae R1 C2;have aK:=ae R1 C4;have bK:=ae R1 C8;have bO:=ae R1 jt;clear aF
  go_wp2_with fail
  go_at_call 53;with_reducible refine(a2 _).mono ?_;rintro e w' ⟨rfl,rfl⟩
  have bC:=trivial
  go_wp2_with (first
   |(clear bC;(with_reducible refine ak ?_ aU R1 hlen ?_);rfl;have cz:=trivial))
  try clear cz
  refine(a3 _ BB).mono ?_;rintro r x3 ⟨rfl,bh⟩;replace R1:=R1.keep bh;replace BB:=az BB bh;clear aI aK bK bO;have aI:=ae R1 C2;have aK:=ae R1 C4;have bK:=ae R1 C8;have bO:=ae R1 jt;clear bh;have cz:=trivial
  go_wp2_with (first
   |(clear cz;(with_reducible refine ak ?_ aU R1 hlen ?_);rfl;have cY:=trivial))
  try clear cY
  refine(a4 _ BB).mono ?_;rintro r x4 ⟨rfl,ek⟩;replace R1:=R1.keep ek;replace BB:=az BB ek;clear aI aK bK bO;have aI:=ae R1 C2;have aK:=ae R1 C4;have bK:=ae R1 C8;have bO:=ae R1 jt;clear ek;have cY:=trivial
  go_wp2_with (first
   |(clear cY;(with_reducible refine od ?_ ?_ aU R1 hlen ?_);rfl;rfl;have dX:=trivial))
  try clear dX
  refine(a5 _ BB).mono ?_;rintro r x5 ⟨rfl,cp⟩;replace R1:=R1.keep cp;replace BB:=az BB cp;clear aI aK bK bO;have aI:=ae R1 C2;have aK:=ae R1 C4;have bK:=ae R1 C8;have bO:=ae R1 jt;clear cp
  go_wp2_with fail
  go_ret
  exact⟨rfl,BB⟩
 |true=>
 rw[if_neg (by simp)]
 cases b6 with
 |false=>
  rw[if_pos rfl];exact Ri
 |true=>
  rw[if_neg (by decide)];exact Ri
end
end Go.Proofs.YtdnpopjabpklnaaGreatDoor
