/- Contracts and plain laws that the proof of the top laws uses (TqN). No condition beyond those stated. -/
import Derived.Test.YtdnpopjabpklnaaGreatDoorG08
import Derived.Test.YtdnpopjabpklnaaGreatDoorG09
set_option maxRecDepth 100000
set_option maxHeartbeats 64000000
set_option linter.all false
namespace Go.Proofs.YtdnpopjabpklnaaGreatDoor
section
open Go.RowKit
open Tryz
theorem Ho {L:List ByteArray} {k:Nat} (hk:k<L.length) (h:(mE (L.getD k ByteArray.empty).data.toList&& !(decide (0<k)&&zj (L.getD k ByteArray.empty) (L.getD (k - 1) ByteArray.empty)))=false):qJ L=false:=by
 unfold qJ;rw[List.all_eq_false];exact⟨k,List.mem_range.2 hk,by rw[h];decide⟩
theorem Qp {L:List ByteArray} (h:∀k,k<L.length→(mE (L.getD k ByteArray.empty).data.toList&& !(decide (0<k)&&zj (L.getD k ByteArray.empty) (L.getD (k - 1) ByteArray.empty)))=true):qJ L=true:=by
 unfold qJ;rw[List.all_eq_true];exact fun k hk=>h k (List.mem_range.1 hk)
theorem sK (x y:ByteArray) (t:TypeId) (w:World):(binOp .leq t (.string x) (.string y)).run prog w=.ok (.bool (Op.bytesLess x.toList y.toList||x.toList==y.toList)) w:=by
 rfl
theorem Ie {P:Prop} (h:P:=by
 go_enter func56,ntmps56
 have aL:=trivial
 go_wp2_with (first
  |(clear aL;(with_reducible refine ao (C:=C) ?_ ?_);rfl;intro x1 g1 aR R1 aw;have eV:=Nat.le_of_eq aR;have BB:=aw;have aI:=ae R1 C2;have aK:=ae R1 C4;have bP:=ae R1 C5;clear aw aR;have aJ:=trivial)
  |fail)
 go_ret
 exact⟨by(first|rfl|(rw[HE.out];rfl)),BB⟩):P:=h
theorem Ig {P:Prop} (h:P:=by
 rw[decide_eq_false q1]
 go_enter func56,ntmps56
 have aL:=trivial
 go_wp2_with (first
  |(clear aL;(with_reducible refine ao (C:=C) ?_ ?_);rfl;intro x1 g1 aR R1 aw;have eV:=Nat.le_of_eq aR;have BB:=aw;have aI:=ae R1 C2;have aK:=ae R1 C4;have bP:=ae R1 C5;clear aw aR;have aJ:=trivial)
  |fail)
 go_ret
 exact⟨by rfl,BB⟩):P:=h
theorem Yr (C:List Value) (it:aA) (w:World) (h:dO w C it) (hs:jS it) (hz:A7 it) (hm:jl w):
  Calls prog 56 #[.agg C.toArray] w fun e w'=>e=.returned (.bool (Bu it))∧Below w.heap.size w w':=by
 have hlen:=h.len;obtain⟨C0,C1,C2,C6,C7,C9,s',tc,td,te,rX⟩:=lL h;obtain⟨vo,vc,vt,va,hC,⟨A1,c1,rfl,_,_,_⟩,⟨A2,c2,rfl,vZ,ae3,S2⟩,⟨A3,c3,rfl,_,_,S3⟩,_⟩:=h
 have C4:C[4]? =some (.slice A1 it.opts.length c1):=by rw[hC];rfl
 have C5:C[5]? =some (.slice A2 it.cA.length c2):=by rw[hC];rfl
 have C8:C[8]? =some (.slice A3 it.texts.length c3):=by rw[hC];rfl
 clear hC C0 C1 C9 s' tc td te;obtain⟨s1,s2,s3,_⟩:=hs;obtain⟨_,_,_,z4⟩:=hz;unfold Bu;generalize it.kind=k at*;generalize it.opts=L1 at*;generalize it.cA=L2 at*;generalize it.texts=L3 at*;generalize it.value=v at*;generalize it.de=t at*;generalize it.aH=r at*;have z3:=Lib.hid z4;clear z4;obtain⟨n1,ix⟩:∃n,n=L1.length:=⟨_,rfl⟩;obtain⟨n2,CB⟩:∃n,n=L2.length:=⟨_,rfl⟩;obtain⟨n3,pj⟩:∃n,n=L3.length:=⟨_,rfl⟩;rw[←ix] at C4 s1;rw[←CB] at C5 S2 s2 vZ;rw[←pj] at C8 S3 s3;rw[←ix,←CB];have n2e:=Lib.hid CB;have CN:=Lib.hid pj;clear ix CB pj
 by_cases k1:k=1
 ·subst k1;rw[if_pos rfl]
  by_cases q1:(1:Int)≤(n1:Int) - 1
  ·rw[decide_eq_true q1]
   by_cases q2:n2=1
   ·subst q2
    have hw:=fun W=>bx (L2.getD 0 0) 0 ((n1:Int) - 1) W
    rw[decide_eq_true rfl]
    have HE:Hid ((true&& (true&&iH (L2.getD 0 0) 0 ((n1:Int) - 1)))=iH (L2.getD 0 0) 0 ((n1:Int) - 1)):=by unfold Hid;simp
    rw[HE.out];obtain⟨_,dQ⟩:=S2;obtain⟨b,o,rfl,hc⟩:=dQ (by omega)
    have c0:w.cell? ⟨b,o,none⟩=some (.int .i64 (L2.getD 0 0)):=by
     have:=hc 0 (.int .i64 (L2.getD 0 0)) (by
      have:=n2e.out;rw[List.getElem?_map,List.getElem?_eq_getElem (by omega)]
      simp[List.getD,List.getElem?_eq_getElem (show 0<L2.length by omega)])
     exact this
    have iw:b<w.heap.size:=block_lt_of_cell c0;clear hc dQ HE;generalize L2.getD 0 0=x at*
    go_enter func56,ntmps56
    have aL:=trivial
    go_wp2_with (first
     |(clear aL;(with_reducible refine ao (C:=C) ?_ ?_);rfl;intro x1 g1 aR R1 aw;have eV:=Nat.le_of_eq aR;have BB:=aw;have aI:=ae R1 C2;have aK:=ae R1 C4;have bP:=ae R1 C5;replace c0:=(aw.cell (p:=⟨b,o,none⟩) iw).trans c0;clear aw aR;have aJ:=trivial)
     |(go_at_call 53;with_reducible refine(hw _).mono ?_;rintro e w' ⟨rfl,rfl⟩)
     |fail)
    go_ret
    exact⟨by rfl,BB⟩
   ·have HE:Hid ((true&& (decide (n2=1)&&iH (L2.getD 0 0) 0 ((n1:Int) - 1)))=false):=by unfold Hid;rw[decide_eq_false q2];rfl
    have Y7:¬((n2:Int)=1):=by omega
    exact Ie
  ·exact Ig
 ·rw[if_neg k1]
  by_cases k2:k=2
  ·subst k2;rw[if_pos rfl]
   by_cases q1:(1:Int)≤(n1:Int) - 1
   ·rw[decide_eq_true q1]
    by_cases q2:1≤n2
    ·have Y7:(1:Int)≤(n2:Int):=by omega
     rw[decide_eq_true q2]
     have hr:=fun W (hb:Below w.heap.size w W)=>uR A2 n2 c2 L2 0 ((n1:Int) - 1) W (Sl.jZ (S2.below hb)) s2
     generalize iE L2 0 ((n1:Int) - 1)=x at*
     go_enter func56,ntmps56
     have aL:=trivial
     go_wp2_with (first
      |(clear aL;(with_reducible refine ao (C:=C) ?_ ?_);rfl;intro x1 g1 aR R1 aw;have eV:=Nat.le_of_eq aR;have BB:=aw;have aI:=ae R1 C2;have aK:=ae R1 C4;have bP:=ae R1 C5;clear aw aR;have aJ:=trivial)
      |(go_at_call 57;with_reducible refine(hr _ BB).mono ?_;rintro e w' ⟨rfl,rfl⟩)
      |fail)
     go_ret
     exact⟨by cases x<;>rfl,BB⟩
    ·have HE:Hid ((true&& (decide (1≤n2)&&iE L2 0 ((n1:Int) - 1)))=false):=by unfold Hid;rw[decide_eq_false q2];rfl
     have Y7:¬((1:Int)≤(n2:Int)):=by omega
     exact Ie
   ·exact Ig
  ·rw[if_neg k2]
   by_cases k3:k=3
   ·subst k3;rw[if_pos rfl]
    by_cases q1:(1:Int)≤(n1:Int) - 1
    ·rw[decide_eq_true q1]
     by_cases q2:n2=n1
     ·rw[decide_eq_true q2];subst q2
      have hv:=fun W=>Ny A2 n2 c2 W
      have hsv:=fun B W (hb:Below w.heap.size w W) (hB:W.cell? ⟨B,0,none⟩=some (.slice A2 n2 c2))=>Nq B A2 n2 c2 L2 W (S2.below hb) hB s2
      have hr:=fun A n c zs W h hn=>uR A n c zs 0 ((n2:Int) - 1) W h hn
      obtain⟨rr,hrr⟩:∃rr,rr=iE (kJ L2) 0 ((n2:Int) - 1):=⟨_,rfl⟩;rw[←hrr];have SX:=Lib.hid hrr;clear hrr;have s2':=s2
      go_enter func56,ntmps56
      have aL:=trivial
      go_wp2_with (first
       |(clear aL;(with_reducible refine ao (C:=C) ?_ ?_);rfl;intro x1 g1 aR R1 aw;have eV:=Nat.le_of_eq aR;have BB:=aw;have aI:=ae R1 C2;have aK:=ae R1 C4;have bP:=ae R1 C5;clear aw aR;have aJ:=trivial)
       |(go_at_call 115;go_loud (with_reducible refine(hv _).mono ?_;rintro e W2 ⟨rfl,rfl⟩;have hbv:=ai x1 (.cells #[.slice A2 n2 c2] 22);have R2:=Row.new x1 22 [.slice A2 n2 c2];have hB0:=R2.cell 0;clear R2;have Fv:=az BB hbv;generalize x1.alloc (.cells #[.slice A2 n2 c2] 22)=x2 at*;generalize x1.heap.size=gb at hB0 ⊢))
       |(go_at_call 114;with_reducible refine(hsv _ _ Fv hB0).mono ?_;rintro e x3 ⟨A,c,rfl,qV,eE⟩;have Vh:=az Fv eE;clear eE)
       |(go_at_call 57;with_reducible refine(hr _ _ _ (kJ L2) _ qV s2').mono ?_;rintro e w' ⟨rfl,rfl⟩;rw[←SX.out])
       |fail)
      go_ret
      exact⟨by cases rr<;>rfl,Vh⟩
     ·have HE:Hid ((true&& (decide (n2=n1)&&iE (kJ L2) 0 ((n1:Int) - 1)))=false):=by unfold Hid;rw[decide_eq_false q2];rfl
      have Y7:¬((n2:Int)=(n1:Int)):=by omega
      exact Ie
    ·exact Ig
   ·rw[if_neg k3]
    by_cases k4:k=4
    ·subst k4;rw[if_pos rfl]
     have nX:=fun W=>bx v (-9999999) 9999999 W
     have qY:=fun W=>bx t 0 9999999 W
     generalize iH v (-9999999) 9999999=b1 at*;generalize iH t 0 9999999=b2 at*
     cases b1
     ·
      go_enter func56,ntmps56
      have aL:=trivial
      go_wp2_with (first
       |(clear aL;(with_reducible refine ao (C:=C) ?_ ?_);rfl;intro x1 g1 aR R1 aw;have eV:=Nat.le_of_eq aR;have BB:=aw;have aI:=ae R1 C2;have aK:=ae R1 C4;have eQ:=ae R1 C6;have fO:=ae R1 C7;clear aw aR;have aJ:=trivial)
       |(go_at_call 53;(first|(with_reducible refine(nX _).mono ?_;rintro e w' ⟨rfl,rfl⟩)|(with_reducible refine(qY _).mono ?_;rintro e w' ⟨rfl,rfl⟩)))
       |fail)
      go_ret
      exact⟨by rfl,BB⟩
     ·
      go_enter func56,ntmps56
      have aL:=trivial
      go_wp2_with (first
       |(clear aL;(with_reducible refine ao (C:=C) ?_ ?_);rfl;intro x1 g1 aR R1 aw;have eV:=Nat.le_of_eq aR;have BB:=aw;have aI:=ae R1 C2;have aK:=ae R1 C4;have eQ:=ae R1 C6;have fO:=ae R1 C7;clear aw aR;have aJ:=trivial)
       |(go_at_call 53;(first|(with_reducible refine(nX _).mono ?_;rintro e w' ⟨rfl,rfl⟩)|(with_reducible refine(qY _).mono ?_;rintro e w' ⟨rfl,rfl⟩)))
       |fail)
      go_ret
      exact⟨by cases b2<;>rfl,BB⟩
    ·rw[if_neg k4]
     by_cases k5:k=5
     ·subst k5;rw[if_pos rfl]
      go_enter func56,ntmps56
      have aL:=trivial
      go_wp2_with (first
       |(clear aL;(with_reducible refine ao (C:=C) ?_ ?_);rfl;intro x1 g1 aR R1 aw;have eV:=Nat.le_of_eq aR;have BB:=aw;have aI:=ae R1 C2;have aK:=ae R1 C4;have bK:=ae R1 C8;clear aw aR;have aJ:=trivial)
       |fail)
      replace S3:=S3.below BB;replace hm:=hm.below BB;clear S2;obtain⟨_,dQ⟩:=S3
      go_loop [81] (fun i=>∃k:Nat,k≤n3∧i=.int .i64 k∧Hid (∀j,j<k→(mE (L3.getD j ByteArray.empty).data.toList&& !(decide (0<j)&&zj (L3.getD j ByteArray.empty) (L3.getD (j - 1) ByteArray.empty)))=true)) (fun i=>n3 - (intOf i).toNat)
      case atStart=>exact⟨0,Nat.zero_le _,rfl,fun j hj=>absurd hj (Nat.not_lt_zero _)⟩
      case round=>
       obtain⟨k,hk,rfl,dq⟩:=hrel
       by_cases aS:k<n3
       ·obtain⟨b,o,rfl,hc⟩:=dQ (by omega)
        have cell:∀j,j<n3→x1.cell? ⟨b,o+j,none⟩=some (.string (L3.getD j ByteArray.empty)):=fun j hj=>by
         refine hc j _ ?_;have:=CN.out;rw[List.getElem?_map,List.getElem?_eq_getElem (by omega)]
         simp[List.getD,List.getElem?_eq_getElem (show j<L3.length by omega)]
        have c0:=cell k aS
        have cM:(L3.getD k ByteArray.empty).size≤4000000:=z3.out _ (by
         have:=CN.out
         simp[List.getD,List.getElem?_eq_getElem (show k<L3.length by omega)])
        have mN:(k:Int)<(n3:Int):=by omega
        have hw:=fun W (hb:jl W)=>CO (L3.getD k ByteArray.empty) W (by omega) hb
        have HN:Hid (∀b,mE (L3.getD k ByteArray.empty).data.toList=b→b=mE (L3.getD k ByteArray.empty).data.toList):=fun b h=>h.symm
        cases dZ:mE (L3.getD k ByteArray.empty).data.toList with
        |false=>
         have HE:Hid (qJ L3=false):=Ho (k:=k) (by have:=CN.out;omega) (by rw[dZ];rfl);rw[dZ] at hw;clear dZ hc dQ cell HN;generalize L3.getD k ByteArray.empty=x at*
         go_wp2_with (go_at_call 116;with_reducible refine(hw _ hm).mono ?_;rintro e w' ⟨rfl,rfl⟩)
         go_ret
         exact⟨by rw[HE.out];rfl,BB⟩
        |true=>
         rw[dZ] at hw;have HI:=Lib.hid dZ;clear dZ HN
         rcases Nat.eq_zero_or_pos k with h0|h0
         ·subst h0
          have HS:Hid (∀j,j<0+1→(mE (L3.getD j ByteArray.empty).data.toList&& !(decide (0<j)&&zj (L3.getD j ByteArray.empty) (L3.getD (j - 1) ByteArray.empty)))=true):=by
           intro j hj
           obtain rfl:j=0:=by omega
           rw[HI.out];rfl
          clear hc dQ cell HI;generalize L3.getD 0 ByteArray.empty=x at c0 hw;rw[Nat.add_zero] at c0
          go_wp2_with (go_at_call 116;with_reducible refine(hw _ hm).mono ?_;rintro e w' ⟨rfl,rfl⟩)
          go_round
          case rel=>exact⟨0+1,by omega,by go_num,HS⟩
          case measure=>simp[intOf];omega
         ·have c1:=cell (k - 1) (by omega);obtain⟨m,rfl⟩:∃m,k=m+1:=⟨k - 1,by omega⟩;rw[Nat.add_sub_cancel] at c1;obtain⟨lq,uB⟩:∃q,zj (L3.getD (m+1) ByteArray.empty) (L3.getD m ByteArray.empty)=q:=⟨_,rfl⟩
          cases lq with
          |true=>
           have HE:Hid (qJ L3=false):=Ho (k:=m+1) (by have:=CN.out;omega) (by rw[HI.out,Nat.add_sub_cancel,uB];simp);clear hc dQ cell HI dq;unfold zj at uB;generalize L3.getD (m+1) ByteArray.empty=x at*;generalize L3.getD m ByteArray.empty=y at*
           go_wp2_with (go_at_call 116;with_reducible refine(hw _ hm).mono ?_;rintro e w' ⟨rfl,rfl⟩)
           rw[sK,uB]
           go_wp2_with fail
           all_goals (go_ret;exact⟨by rw[HE.out];rfl,BB⟩)
          |false=>
           have HS:Hid (∀j,j<m+1+1→(mE (L3.getD j ByteArray.empty).data.toList&& !(decide (0<j)&&zj (L3.getD j ByteArray.empty) (L3.getD (j - 1) ByteArray.empty)))=true):=by
            intro j hj
            rcases Nat.lt_or_ge j (m+1) with oJ|oJ
            ·exact dq.out j oJ
            ·obtain rfl:j=m+1:=by omega
             rw[HI.out,Nat.add_sub_cancel,uB];simp
           clear hc dQ cell HI dq;unfold zj at uB;generalize L3.getD (m+1) ByteArray.empty=x at c0 hw uB;generalize L3.getD m ByteArray.empty=y at c1 uB
           go_wp2_with (go_at_call 116;with_reducible refine(hw _ hm).mono ?_;rintro e w' ⟨rfl,rfl⟩)
           rw[sK,uB]
           go_wp2_with fail
           go_round
           case rel=>exact⟨m+1+1,by omega,by go_num,HS⟩
           case measure=>simp[intOf];omega
       ·have HE:Hid (qJ L3=true):=Qp (fun j hj=>dq.out j (by have:=CN.out;omega))
        have mN:¬((k:Int)<(n3:Int)):=by omega
        by_cases q1:1≤n3
        ·have HF:Hid (decide (1≤L3.length)=true):=decide_eq_true (by have:=CN.out;omega)
         have q1':(1:Int)≤(n3:Int):=by omega
         go_wp2
         go_ret
         exact⟨by rw[HE.out,HF.out];rfl,BB⟩
        ·have HF:Hid (decide (1≤L3.length)=false):=decide_eq_false (by have:=CN.out;omega)
         have q1':¬((1:Int)≤(n3:Int)):=by omega
         go_wp2
         go_ret
         exact⟨by rw[HE.out,HF.out];rfl,BB⟩
     ·rw[if_neg k5]
      go_enter func56,ntmps56
      have aL:=trivial
      go_wp2_with (first
       |(clear aL;(with_reducible refine ao (C:=C) ?_ ?_);rfl;intro x1 g1 aR R1 aw;have eV:=Nat.le_of_eq aR;have BB:=aw;have aI:=ae R1 C2;have aK:=ae R1 C4;have kL:=ae R1 rX;clear aw aR;have aJ:=trivial)
       |fail)
      go_ret
      exact⟨by rfl,BB⟩
end
end Go.Proofs.YtdnpopjabpklnaaGreatDoor
