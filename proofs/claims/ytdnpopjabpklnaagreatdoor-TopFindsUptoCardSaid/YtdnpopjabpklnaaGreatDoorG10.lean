/- Contracts and plain laws that the proof of the top laws uses (G10). No condition beyond those stated. -/
import Derived.Test.YtdnpopjabpklnaaGreatDoorTqO
import Derived.Test.YtdnpopjabpklnaaGreatDoorG07
set_option maxRecDepth 100000
set_option maxHeartbeats 64000000
set_option linter.all false
namespace Go.Proofs.YtdnpopjabpklnaaGreatDoor
section
open Go.RowKit
structure Kp (L:List Nat) (w w':World):Prop where
 os:w'.os=w.os
 tape:w'.tape=w.tape
 output:w'.output=w.output
 size:w.heap.size≤w'.heap.size
 block:∀k,k<w.heap.size→k∉L→w'.heap[k]? =w.heap[k]?
section
variable {L M:List Nat} {w w' w2:World} {g t B b o:Nat} {xs cs:List Value}
theorem Kp.refl (L:List Nat) (w:World):Kp L w w:=⟨rfl,rfl,rfl,Nat.le_refl _,fun _ _ _=>rfl⟩
theorem Kp.trans (h:Kp L w w') (h':Kp L w' w2):Kp L w w2:=
 ⟨h'.os.trans h.os,h'.tape.trans h.tape,h'.output.trans h.output,Nat.le_trans h.size h'.size,fun k hk hl=>(h'.block k (Nat.lt_of_lt_of_le hk h.size) hl).trans (h.block k hk hl)⟩
theorem Kp.ab (hb:Below w.heap.size w w'):Kp L w w':=⟨hb.os,hb.tape,hb.output,hb.size,fun k hk _=>hb.block k hk⟩
theorem Kp.dr (h:cH g w w') (hg:g∈L):Kp L w w':=⟨h.os,h.tape,h.output,Nat.le_of_eq h.size.symm,fun k _ hl=>h.block k (fun e=>hl (by rw[e];exact hg))⟩
theorem Kp.Hb (h:w.grownBy w' (some g)) (hg:g∈L):Kp L w w':=⟨h.os,h.tape,h.output,h.size,fun k hk hl=>h.block k hk (fun e=>hl (by rw[Option.some.inj e];exact hg))⟩
theorem Kp.mono (h:Kp L w w') (hL:∀k∈L,k∈M):Kp M w w':=⟨h.os,h.tape,h.output,h.size,fun k hk hm=>h.block k hk (fun e=>hm (hL k e))⟩
theorem Kp.drew (h:Kp L w w'):Kp L w w'.drew:=⟨h.os,h.tape,h.output,h.size,h.block⟩
theorem Kp.below (h:Kp L w w') (hB:B≤w.heap.size) (hL:∀k∈L,B≤k):Below B w w':=
 ⟨h.os,h.tape,h.output,h.size,fun k hk=>h.block k (by omega) (fun e=>by have:=hL k e;omega)⟩
theorem Kp.less (h:Kp L w w') (hL:∀k∈L,k∈M∨w.heap.size≤k):Kp M w w':=⟨h.os,h.tape,h.output,h.size,fun k hk hm=>h.block k hk (fun e=>by rcases hL k e with h1|h1;exact hm h1;omega)⟩
theorem Row.kp (hr:Row w g t xs) (h:Kp L w w') (hg:g∉L):Row w' g t xs:=(h.block g hr.lt hg).trans hr
theorem V7 {p:Addr} {u:Value} (hc:w.cell? p=some u) (h:Kp L w w') (hg:p.block∉L):w'.cell? p=some u:=by
 have hl:=block_lt_of_cell hc;unfold World.cell? at hc ⊢;rw[h.block _ hl hg];exact hc
theorem Cl.kp (hc:Cl w b o cs) (h:Kp L w w') (hg:b∉L):Cl w' b o cs:=fun j u hu=>V7 (hc j u hu) h hg
end
def Y9 (T:ByteArray) (st nx:Nat) (ln:ByteArray) (num:Int):List Value:=[.string T,.int .i64 st,.int .i64 nx,.string ln,.int .i64 num]
def ag (l:List UInt8):ByteArray:=⟨l.toArray⟩
theorem bM (l:List UInt8):(ag l).data.toList=l:=by simp[ag]
theorem eD (l:List UInt8):(ag l).size=l.length:=by simp[ag,ByteArray.size]
theorem oQ {b:ByteArray} {l:List UInt8} (h:b.data.toList=l):b=ag l:=VX h
structure r6 (T:ByteArray) (done rem:List (List UInt8)):Prop where
 text:T.data.toList=bf (done++rem)
 abL:∀l∈done++rem,(10:UInt8)∉l
 size:T.size≤1048576
def sB (done rem:List (List UInt8)):Nat:=(bf done).length+(match rem with|[]=>0|l::_=>l.length+1)
def Dr (w:World) (g:Nat) (T:ByteArray) (done rem:List (List UInt8)):Prop:=
 ∃num:Int,0≤num∧num≤(done.length:Int)+1∧r6 T done rem∧Row w g 95 (Y9 T (bf done).length (sB done rem) (ag (rem.headD [])) num)
theorem Dr.keep {w w':World} {g:Nat} {T:ByteArray} {done rem:List (List UInt8)} (h:Dr w g T done rem) (hb:Below w.heap.size w w'):Dr w' g T done rem:=by
 obtain⟨num,h0,h1,h2,h3⟩:=h;exact⟨num,h0,h1,h2,h3.keep hb⟩
theorem Dr.kp {L:List Nat} {w w':World} {g:Nat} {T:ByteArray} {done rem:List (List UInt8)} (h:Dr w g T done rem) (hb:Kp L w w') (hg:g∉L):Dr w' g T done rem:=by
 obtain⟨num,h0,h1,h2,h3⟩:=h;exact⟨num,h0,h1,h2,h3.kp hb hg⟩
theorem r6.step {T:ByteArray} {done rem:List (List UInt8)} {l:List UInt8} (h:r6 T done (l::rem)):r6 T (done++ [l]) rem:=
 ⟨by rw[h.text];simp,by have:=h.abL;intro x hx;exact this x (by simpa using hx),h.size⟩
theorem Gk (done:List (List UInt8)) (l:List UInt8):(bf (done++ [l])).length=(bf done).length+(l.length+1):=by
 rw[eL,im];simp
theorem MG (done rem:List (List UInt8)) (l:List UInt8):sB done (l::rem)=(bf (done++ [l])).length:=by
 unfold sB;rw[Gk]
theorem r6.len {T:ByteArray} {done rem:List (List UInt8)} (h:r6 T done rem):T.size=(bf done).length+(bf rem).length:=by
 have:=congrArg List.length h.text;rw[eL,List.length_append] at this;rw[←this];simp
theorem qK:∀ls:List (List UInt8),ls.length≤(bf ls).length
 |[]=>by simp
 |l::t=>by have:=qK t;rw[ir];simp;omega
theorem r6.rest {T:ByteArray} {done rem:List (List UInt8)} (h:r6 T done rem):(T.extract (bf done).length T.size).data.toList=bf rem:=by
 have h1:(T.extract (bf done).length T.size).data.toList=(T.data.toList.take T.size).drop (bf done).length:=by
  rw[ByteArray.data_extract,Array.toList_extract,List.extract_eq_drop_take']
 rw[h1,List.take_of_length_le (by simp),h.text,eL,List.drop_left]
theorem r6.line {T:ByteArray} {done rem:List (List UInt8)} {l:List UInt8} (h:r6 T done (l::rem)):T.extract (bf done).length ((bf done).length+l.length)=ag l:=by
 apply oQ
 rw[ByteArray.data_extract,Array.toList_extract,List.extract_eq_drop_take',h.text,eL,ir,List.take_append,List.take_of_length_le (by omega),List.drop_left]
 simp
theorem Ye:∀(l t:List UInt8),(10:UInt8)∉l→Lib.indexByte (l++10::t) 10=(l.length:Int)
 |[],t,_=>by simp[Lib.indexByte]
 |b::l,t,h=>by
  have hb:b≠10:=by rintro rfl;exact h (by simp)
  have ih:=Ye l t (fun hh=>h (by simp[hh]))
  simp[Lib.indexByte,hb,ih] at*
theorem r6.idx {T:ByteArray} {done rem:List (List UInt8)} {l:List UInt8} (h:r6 T done (l::rem)):Lib.indexByte (T.extract (bf done).length T.size).data.toList 10=(l.length:Int):=by
 rw[h.rest,ir];exact Ye l _ (h.abL l (by simp))
theorem r6.adT {T:ByteArray} {done:List (List UInt8)} (h:r6 T done []):Lib.indexByte (T.extract (bf done).length T.size).data.toList 10= -1:=by
 rw[h.rest];rfl
end
section
open Go.RowKit
open Tryz
theorem sa {m:Nat} (h:1000≤m):Lib.decDigits m=Lib.decDigits (m / 1000)++pN (m % 1000):=by
 have e:∀k:Nat,10≤k→Lib.decDigits k=Lib.decDigits (k / 10)++ [UInt8.ofNat (48+k % 10)]:=fun k hk=>by
  rw[Lib.decDigits];rw[dif_neg (by omega)]
 rw[e m (by omega),e (m / 10) (by omega),e (m / 10 / 10) (by omega)];unfold pN;rw[show m / 10 / 10 / 10=m / 1000 by omega,show m % 1000 / 100 % 10=m / 10 / 10 % 10 by omega,show m % 1000 / 10 % 10=m / 10 % 10 by omega,show m % 1000 % 10=m % 10 by omega]
 simp
theorem Wi {m:Nat} (h:m<1000):List.replicate (4 - (Lib.decDigits m).length) 48++Lib.decDigits m=Lib.decDigits (m / 1000)++pN (m % 1000):=by
 have h1:=(Id.DH 3 m (by omega)).1;rw[h1,show m / 1000=0 by omega,show m % 1000=m by omega,Ah];unfold pN;simp only[Id.kN,List.nil_append,List.cons_append,List.append_assoc];rw[show m / 10 / 10 / 10=0 by omega,show m / 100 % 10=m / 10 / 10 % 10 by omega];rfl
def B_ (m:Nat):List UInt8:=Lib.decDigits (m / 1000)++pN (m % 1000)
theorem ZV {m:Nat} (h:1000≤m):4≤(Lib.decDigits m).length:=by
 rw[sa h,List.length_append]
 have:(Lib.decDigits (m / 1000)).length≠0:=fun e=>ru _ (List.length_eq_zero_iff.1 e)
 have h3:(pN (m % 1000)).length=3:=rfl;omega
theorem Zg (m:Nat):(if (Lib.decDigits m).length≤3 then List.replicate (4 - (Lib.decDigits m).length) 48++Lib.decDigits m else Lib.decDigits m)=B_ m:=by
 unfold B_
 by_cases h:m<1000
 ·have hl:=(Id.DH 2 m h).2;rw[if_pos hl];exact Wi h
 ·have:=ZV (m:=m) (by omega);rw[if_neg (by omega)];exact sa (by omega)
theorem vQ (m:Nat):(B_ m).length=(Lib.decDigits (m / 1000)).length+3:=by
 unfold B_;rw[List.length_append];rfl
theorem Vd (w:World):Calls prog 227 #[.int .i64 3] w fun e w'=>e=.returned (.bool true)∧w'=w:=by
 go_enter func227,ntmps227
 go_wp2_with fail
 go_ret
 exact⟨rfl,rfl⟩
theorem VQ:kj prog 254 2:=by
 have h:Rec prog 254 2:=⟨⟨by kernel_rfl,by kernel_rfl⟩,by kernel_rfl,by kernel_rfl⟩;exact h.agg
theorem Tl {tx:ByteArray} {m:Nat} (h:tx.data.toList=B_ m):(tx.extract 0 (tx.size - 3)++(⟨#[46]⟩:ByteArray)++tx.extract (tx.size - 3) tx.size).data.toList=Lib.decDigits (m / 1000)++46::pN (m % 1000):=by
 have hs:tx.size=(Lib.decDigits (m / 1000)).length+3:=by rw[←vQ,←h];exact Id.pG tx
 rw[ByteArray.data_append,ByteArray.data_append,Array.toList_append,Array.toList_append,ByteArray.data_extract,ByteArray.data_extract,Array.toList_extract,Array.toList_extract,List.extract_eq_drop_take',List.extract_eq_drop_take',h]
 have h1:tx.size - 3=(Lib.decDigits (m / 1000)).length:=by omega
 rw[h1,List.take_of_length_le (i:=tx.size) (by rw[vQ];omega)];unfold B_;rw[List.take_left,List.drop_left]
 simp
theorem QK {P:Prop} (h:P:=by
 go_wp2_with (first|((with_reducible refine cJ ?_ VQ aO rfl ?_);rfl))
 with_reducible refine(Kj _ (cr B1 _)).mono ?_
 rintro e w4 ⟨rfl,gn⟩;replace B1:=(cr B1 _).trans (gn.mono (Nat.le_of_lt R1.lt));have gG:(tx.extract 0 (tx.size - 3)++(⟨#[46]⟩:ByteArray)++tx.extract (tx.size - 3) tx.size).data.toList=Lib.decDigits (m / 1000)++46::pN (m % 1000):=Tl O_.out;clear O_ HSZ;generalize tx.extract 0 (tx.size - 3)++(⟨#[46]⟩:ByteArray)++tx.extract (tx.size - 3) tx.size=ty at*
 have hys:¬9223372036854775807<1+ty.size:=by
  have h4:ty.size=ty.data.toList.length:=Id.pG ty;rw[gG,List.length_append] at h4;have:=mZ 6 (m / 1000) (by omega);have h5:((46:UInt8)::pN (m % 1000)).length=4:=rfl;omega
 have HF:=Lib.hid gG;clear gG
 by_cases hn:n<0
 ·have hs:BV n<0:=by unfold BV;rw[if_pos hn];decide
  go_wp2_with fail
  go_ret2
  refine⟨Id.J8 ?_,by rw[HG.out];exact B1⟩;rw[ByteArray.data_append,Array.toList_append,HF.out,bM];unfold dd;rw[if_pos hn,HM.out]
 ·have hs:¬BV n<0:=by unfold BV;rw[if_neg hn];split<;>decide
  go_wp2_with fail
  go_ret2
  refine⟨Id.J8 ?_,by rw[HG.out];exact B1⟩;rw[HF.out,bM];unfold dd;rw[if_neg (Int.not_lt.2 (by omega)),HM.out]
  rfl):P:=h
theorem Lj (n:Int) (mv:Value) (L:Nat) (w:World) (h1: -9999999≤n) (h2:n≤9999999) (hI:xV w (.agg #[.bool (decide (n<0)),mv]) n L) (hL:L≤100) (ht:Id.lk w):
  Calls prog 179 #[.agg #[.bool (decide (n<0)),mv,.int .i64 3]] w fun e w'=>e=.returned (.tuple #[.string (ag (dd n)),.int .i64 0])∧Below w.heap.size w w':=by
 have Lv:=hI;obtain⟨neg,mv',ls,he,Xu,hk,hp⟩:=hI
 obtain⟨ady,rfl⟩:decide (n<0)=neg∧mv=mv':=by injection he with he;injection he with he;injection he with a b;injection a with a;injection b with b c;exact⟨a,b⟩
 clear he;obtain⟨m,hm⟩:∃m,m=n.natAbs:=⟨_,rfl⟩
 have hv:val ls=m:=by rw[hm,hp,SE]
 have hmb:m≤9999999:=by omega
 obtain⟨⟨A,c,rfl,ix,CB,pj⟩,dq⟩:=id Xu
 have Vr:∀W,Below w.heap.size w W→Calls prog 228 #[.slice A ls.length c] W fun e w'=>e=.returned (.string (ag (Lib.decDigits m)))∧Below W.heap.size W w':=by
  intro W hb
  by_cases h0:m=0
  ·refine(JO _ ls W (Xu.below hb) (by rw[hv];exact h0)).mono ?_;rintro e w' ⟨rfl,rfl⟩;rw[h0,Ah];exact⟨rfl,Below.refl _ _⟩
  ·exact MJ _ ls m W (Xu.below hb) (by omega) hv (by omega) (by omega) (Id.lk.below ht hb)
 have Kj:∀W,Below w.heap.size w W→Calls prog 229 #[.agg #[.bool (decide (n<0)),.slice A ls.length c]] W fun e w'=>e=.returned (.int .i64 (BV n))∧Below W.heap.size W w':=fun W hb=>Pk _ n L W (Lv.below hb)
 have HM:=Lib.hid hm;obtain⟨bn,xg⟩:∃bn,bn=decide (n<0):=⟨_,rfl⟩;rw[←xg] at Kj ⊢;have HBN:=Lib.hid xg;clear Lv ady Xu hk hp hv ix CB pj dq hm ht xg
 go_enter func179,ntmps179
 go_wp2_with fail
 obtain⟨w1,nX⟩:∃w1,w1=w.alloc (.cells #[.bool bn,.slice A ls.length c,.int .i64 3] 257):=⟨_,rfl⟩
 have R1:Row w1 w.heap.size 257 [.bool bn,.slice A ls.length c,.int .i64 3]:=by rw[nX];exact Row.new w _ _
 have B1:Below w.heap.size w w1:=by rw[nX];exact ai w _
 rw[←nX];obtain⟨g,hg⟩:∃g,w.heap.size=g:=⟨_,rfl⟩;rw[hg] at R1 B1 Kj Vr ⊢;have HG:=Lib.hid hg;clear nX hg
 with_reducible refine(Vd _).mono ?_
 rintro e w' ⟨rfl,rfl⟩;have c0:=U (R1.cell 0);have c1:=U (R1.cell 1);have c2:=U (R1.cell 2)
 go_wp2_with fail
 with_reducible refine(Vr _ B1).mono ?_
 rintro e w2 ⟨rfl,ax⟩;replace B1:=B1.trans (ax.mono (Nat.le_of_lt R1.lt));replace R1:=R1.keep ax;replace c0:w2.cell? ⟨g,0,none⟩=some (.bool bn):=R1.cell 0;replace c1:w2.cell? ⟨g,1,none⟩=some (.slice A ls.length c):=R1.cell 1;replace c2:w2.cell? ⟨g,2,none⟩=some (.int .i64 3):=R1.cell 2;clear Vr ax;have cD:(ag (Lib.decDigits m)).size=(Lib.decDigits m).length:=eD _;have T9:=Zg m;obtain⟨d0,W5⟩:∃d0,d0=ag (Lib.decDigits m):=⟨_,rfl⟩;rw[←W5] at cD ⊢;have SM:=Lib.hid W5;clear W5
 by_cases h3:d0.size≤3
 ·rw[if_pos (by omega)] at T9;have SY:=Lib.hid T9
  have h3i:(d0.size:Int)≤3:=by omega
  clear T9 cD;have hr:=strings_Repeat ⟨#[48]⟩ (4 - d0.size) w2 (by omega) (by show 1*_≤_;omega);rw[show((4 - d0.size:Nat):Int)=4 - (d0.size:Int) by omega] at hr
  go_wp2_with fail
  refine hr.mono ?_;rintro e wb ⟨rfl,eE⟩;replace B1:=B1.trans (eE.mono (Nat.le_of_lt R1.lt));replace R1:=R1.keep eE;replace c0:wb.cell? ⟨g,0,none⟩=some (.bool bn):=R1.cell 0;replace c1:wb.cell? ⟨g,1,none⟩=some (.slice A ls.length c):=R1.cell 1;replace c2:wb.cell? ⟨g,2,none⟩=some (.int .i64 3):=R1.cell 2;clear hr eE
  have yR:¬9223372036854775807<(Lib.repeatL [48] (4 - d0.size)).length+d0.size:=by rw[Id.qH,List.length_replicate];omega
  go_wp2_with fail
  obtain⟨tx,Pb⟩:∃tx:ByteArray,tx=(⟨(Lib.repeatL (⟨#[48]⟩:ByteArray).data.toList (4 - d0.size)).toArray⟩:ByteArray)++d0:=⟨_,rfl⟩
  have O_:Hid (tx.data.toList=B_ m):=by
   unfold Hid;rw[Pb,←SY.out,ByteArray.data_append,Array.toList_append,SM.out,bM,eD];exact congrArg (· ++_) (Id.qH 48 _)
  rw[←Pb];clear Pb
  have cM:tx.size=(Lib.decDigits (m / 1000)).length+3:=by rw[←vQ,←O_.out];exact Id.pG tx
  have XR:3≤tx.size:=by omega
  have adM:tx.size≤1000000:=by have:=mZ 6 (m / 1000) (by omega);omega
  have HSZ:=Lib.hid cM;clear cM h3i h3
  go_wp2_with fail
  go_quiet (fail)
  have aO:Cl wb g 0 [.bool bn,.slice A ls.length c]:=fun j u hu=>(by match j,hu with|0,hu=>rw[Nat.add_zero,c0];exact hu|1,hu=>exact c1.trans hu)
  exact QK
 ·rw[if_neg (by omega)] at T9;have SY:=Lib.hid T9
  have h3i:¬(d0.size:Int)≤3:=by omega
  clear T9 cD
  have O_:Hid (d0.data.toList=B_ m):=by
   unfold Hid;rw[SM.out,bM];exact SY.out
  generalize d0=tx at*
  rename_i w2
  have cM:tx.size=(Lib.decDigits (m / 1000)).length+3:=by rw[←vQ,←O_.out];exact Id.pG tx
  have XR:3≤tx.size:=by omega
  have adM:tx.size≤1000000:=by have:=mZ 6 (m / 1000) (by omega);omega
  have HSZ:=Lib.hid cM;clear cM
  go_wp2_with fail
  go_quiet (fail)
  have aO:Cl w2 g 0 [.bool bn,.slice A ls.length c]:=fun j u hu=>(by match j,hu with|0,hu=>rw[Nat.add_zero,c0];exact hu|1,hu=>exact c1.trans hu)
  exact QK
theorem Hp (n:Int) (w:World) (h1: -9999999≤n) (h2:n≤9999999) (ht:Id.lk w):
  Calls prog 122 #[.int .i64 n] w fun e w'=>e=.returned (.tuple #[.string (ag (dd n)),.int .i64 0])∧Below w.heap.size w w':=by
 go_enter func122,ntmps122
 go_wp2_with fail
 with_reducible refine(Yh n _ (by omega) (by omega)).mono ?_
 rintro e w1 ⟨x,rfl,hF,hb⟩;have hA:=hF.adU;obtain⟨mv,rfl,hN,kv⟩:=hF
 go_wp2_with fail
 with_reducible refine(Lj n mv 2 _ h1 h2 hA (by omega) (ht.below hb)).mono ?_
 rintro e w2 ⟨rfl,ax⟩
 go_wp2_with fail
 go_ret2
 exact⟨rfl,az hb ax⟩
end
section
open Go.RowKit
theorem Le {k n:Nat} {c:UInt8} (h:c∈Id.kN n k):48≤c.toNat∧c.toNat≤57:=by
 have:=Id.yv k n;unfold Id.fx at this;rw[List.all_eq_true] at this;have:=(Id.oP c).1 (this c h);omega
def ik (n:Int):List UInt8:=Id.Yc 1 n.toNat
theorem Jj (n:Int):ik n=[73,84,77,45]++(Id.kN n.toNat 7++(45::Id.kN (Id.Ab 1 n.toNat) 2)):=by
 unfold ik Id.Yc;have:(Id.preB 1).data.toList=[73,84,77]:=rfl;rw[this];simp
theorem Mc (n:Int):(ik n).length=14:=by
 rw[Jj];simp[Id.mo]
theorem Sf {n:Int} {c:UInt8} (hc:c=10∨c=32):c∉ik n:=by
 rw[Jj];simp only[List.mem_append,List.mem_cons,List.not_mem_nil,or_false];rintro((h|h|h|h)|h|h|h)
 ·rcases hc with rfl|rfl<;>exact absurd h (by decide)
 ·rcases hc with rfl|rfl<;>exact absurd h (by decide)
 ·rcases hc with rfl|rfl<;>exact absurd h (by decide)
 ·rcases hc with rfl|rfl<;>exact absurd h (by decide)
 ·have:=Le h;rcases hc with rfl|rfl<;>simp at this
 ·rcases hc with rfl|rfl<;>exact absurd h (by decide)
 ·have:=Le h;rcases hc with rfl|rfl<;>simp at this
def eu (it:aA):List (List UInt8):=lK (ik it.id) it
def fT (bY:List aA):List (List UInt8):=vS::bY.flatMap eu
def hU (bY:List aA):List UInt8:=aV [og,jg (ll kK (bf (fT bY)))]
def gD (bY:List aA):List (List UInt8):=fT bY++ [hU bY]
theorem W8:∀d:Fin 16,nS d.val≠10∧nS d.val≠32:=by decide
theorem W9 {h:Nat} {c:UInt8} (hc:c=10∨c=32):c∉jg h:=by
 unfold jg;rw[List.mem_map];rintro⟨i,hi,e⟩;have h1:=W8 ⟨h / 2 ^ (60 - 4*i) % 16,Nat.mod_lt _ (by omega)⟩
 rcases hc with rfl|rfl
 ·exact h1.1 e
 ·exact h1.2 e
theorem FK (bY:List aA):(10:UInt8)∉hU bY:=by
 unfold hU
 refine sM 10 (by decide) _ fun w hw=>?_
 simp only[List.mem_cons,List.not_mem_nil,or_false] at hw
 rcases hw with rfl|rfl
 ·decide
 ·exact W9 (Or.inl rfl)
theorem IL (bY:List aA):(hU bY).length=23:=by
 unfold hU;rw[kU,iF,List.length_append,List.length_cons,nc];rfl
theorem UQ {bY:List aA} (h:∀it∈bY,Good it):∀l∈gD bY,(10:UInt8)∉l:=by
 intro l hl;unfold gD fT at hl;rw[List.mem_append,List.mem_cons,List.mem_singleton,List.mem_flatMap] at hl
 rcases hl with (rfl|⟨it,hi,hl⟩)|rfl
 ·decide
 ·exact Mw (h it hi) (Sf (Or.inl rfl)) l hl
 ·exact FK bY
theorem Wt {bY:List aA} (h:∀it∈bY,Good it):(bf (bY.flatMap eu)).length≤bY.length*20000:=by
 induction bY with
 |nil=>simp[bf]
 |cons it t ih=>
  have h1:=ih fun x hx=>h x (by simp[hx])
  have h2:=Pw (h it (by simp)) (Mc it.id);rw[List.flatMap_cons,eL,List.length_append,List.length_cons,Nat.add_mul];unfold eu at h1 ⊢;omega
theorem KU {bY:List aA} (h:∀it∈bY,Good it):(bf (fT bY)).length≤bY.length*20000+12:=by
 unfold fT;rw[ir];have:=Wt h;have e:vS.length=11:=rfl;simp only[List.length_append,List.length_cons];omega
theorem Sy {bY:List aA} (h:∀it∈bY,Good it) (hn:bY.length≤50):(bf (gD bY)).length≤1000100:=by
 unfold gD;rw[eL,im,List.length_append,List.length_append,IL];have:=KU h;simp only[List.length_cons,List.length_nil];omega
theorem YY {bY:List aA} (h:∀it∈bY,Good it) (hn:bY.length≤50) {T:ByteArray} (hT:T.data.toList=bf (gD bY)):r6 T [] (gD bY):=by
 refine⟨by simpa using hT,by simpa using UQ h,?_⟩;have h1:=Sy h hn;rw[←hT] at h1
 simp at h1
 omega
end
end Go.Proofs.YtdnpopjabpklnaaGreatDoor
