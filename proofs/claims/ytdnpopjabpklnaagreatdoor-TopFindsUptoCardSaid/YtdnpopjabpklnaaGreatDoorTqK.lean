/- Contracts and plain laws that the proof of the top laws uses (TqK). No condition beyond those stated. -/
import Derived.Test.YtdnpopjabpklnaaGreatDoorG06
set_option maxRecDepth 100000
set_option maxHeartbeats 64000000
set_option linter.all false
namespace Go.Proofs.YtdnpopjabpklnaaGreatDoor
section
open Go.RowKit
open Tryz
theorem Nf {zs:List Int} {lo hi:Int} {k:Nat} (hk:k<zs.length) (h:(iH (zs.getD k 0) lo hi&& !(decide (0<k)&&decide (zs.getD k 0≤zs.getD (k - 1) 0)))=false):iE zs lo hi=false:=by
 unfold iE;rw[List.all_eq_false];exact⟨k,List.mem_range.2 hk,by rw[h];decide⟩
theorem U0 {zs:List Int} {lo hi:Int} (h:∀k,k<zs.length→(iH (zs.getD k 0) lo hi&& !(decide (0<k)&&decide (zs.getD k 0≤zs.getD (k - 1) 0)))=true):iE zs lo hi=true:=by
 unfold iE;rw[List.all_eq_true];exact fun k hk=>h k (List.mem_range.1 hk)
theorem uR (A:Option Addr) (n c:Nat) (zs:List Int) (lo hi:Int) (w:World) (h:dF w A n 1 (zs.map (Value.int .i64))) (hn:n≤1100000):
  Calls prog 57 #[.slice A n c,.int .i64 lo,.int .i64 hi] w fun e w'=>e=.returned (.bool (iE zs lo hi))∧w=w':=by
 have hl:zs.length=n:=by have:=h.1;simpa using this
 have HL:=Lib.hid hl;clear hl;obtain⟨_,dQ⟩:=h
 go_enter func57,ntmps57
 go_wp2
 go_loop [11] (fun i=>∃k:Nat,k≤n∧i=.int .i64 k∧Hid (∀j,j<k→(iH (zs.getD j 0) lo hi&& !(decide (0<j)&&decide (zs.getD j 0≤zs.getD (j - 1) 0)))=true)) (fun i=>n - (intOf i).toNat)
 case atStart=>exact⟨0,Nat.zero_le _,rfl,fun j hj=>absurd hj (Nat.not_lt_zero _)⟩
 case round=>
  obtain⟨k,hk,rfl,dq⟩:=hrel
  by_cases aS:k<n
  ·obtain⟨b,o,rfl,hc⟩:=dQ (by omega)
   have cell:∀j,j<n→w.cell? ⟨b,o+j,none⟩=some (.int .i64 (zs.getD j 0)):=fun j hj=>by
    refine hc j _ ?_;have:=HL.out;rw[List.getElem?_map,List.getElem?_eq_getElem (by omega)]
    simp[List.getD,List.getElem?_eq_getElem (show j<zs.length by omega)]
   have c0:=cell k aS
   have hw:=fun W=>bx (zs.getD k 0) lo hi W
   cases dZ:iH (zs.getD k 0) lo hi with
   |false=>
    have HE:Hid (iE zs lo hi=false):=Nf (k:=k) (by have:=HL.out;omega) (by rw[dZ];rfl);rw[dZ] at hw;clear dZ hc dQ cell;generalize zs.getD k 0=x at*
    go_wp2_with (go_at_call 53;with_reducible refine(hw _).mono ?_;rintro e w' ⟨rfl,rfl⟩)
    go_ret
    exact⟨by rw[HE.out];rfl,rfl⟩
   |true=>
    rw[dZ] at hw;have HI:=Lib.hid dZ;clear dZ
    rcases Nat.eq_zero_or_pos k with h0|h0
    ·subst h0
     have HS:Hid (∀j,j<0+1→(iH (zs.getD j 0) lo hi&& !(decide (0<j)&&decide (zs.getD j 0≤zs.getD (j - 1) 0)))=true):=by
      intro j hj
      obtain rfl:j=0:=by omega
      rw[HI.out];rfl
     clear hc dQ cell;generalize zs.getD 0 0=x at c0 hw;rw[Nat.add_zero] at c0
     go_wp2_with (go_at_call 53;with_reducible refine(hw _).mono ?_;rintro e w' ⟨rfl,rfl⟩)
     go_round
     case rel=>exact⟨0+1,by omega,by go_num,HS⟩
     case measure=>simp[intOf];omega
    ·have c1:=cell (k - 1) (by omega);obtain⟨m,rfl⟩:∃m,k=m+1:=⟨k - 1,by omega⟩;rw[Nat.add_sub_cancel] at c1
     by_cases hle:zs.getD (m+1) 0≤zs.getD m 0
     ·have HE:Hid (iE zs lo hi=false):=Nf (k:=m+1) (by have:=HL.out;omega) (by rw[HI.out,Nat.add_sub_cancel,decide_eq_true hle];simp);clear hc dQ cell HI dq;generalize zs.getD (m+1) 0=x at*;generalize zs.getD m 0=y at*
      go_wp2_with (go_at_call 53;with_reducible refine(hw _).mono ?_;rintro e w' ⟨rfl,rfl⟩)
      all_goals (go_ret;exact⟨by rw[HE.out];rfl,rfl⟩)
     ·have HS:Hid (∀j,j<m+1+1→(iH (zs.getD j 0) lo hi&& !(decide (0<j)&&decide (zs.getD j 0≤zs.getD (j - 1) 0)))=true):=by
       intro j hj
       rcases Nat.lt_or_ge j (m+1) with oJ|oJ
       ·exact dq.out j oJ
       ·obtain rfl:j=m+1:=by omega
        rw[HI.out,Nat.add_sub_cancel,decide_eq_false hle];simp
      clear hc dQ cell HI dq;generalize zs.getD (m+1) 0=x at c0 hw hle;generalize zs.getD m 0=y at c1 hle
      go_wp2_with (go_at_call 53;with_reducible refine(hw _).mono ?_;rintro e w' ⟨rfl,rfl⟩)
      go_round
      case rel=>exact⟨m+1+1,by omega,by go_num,HS⟩
      case measure=>simp[intOf];omega
  ·have HE:Hid (iE zs lo hi=true):=U0 (fun j hj=>dq.out j (by have:=HL.out;omega))
   go_wp2
   go_ret
   exact⟨by rw[HE.out];rfl,rfl⟩
theorem lL {w:World} {C:List Value} {it:aA} (h:dO w C it):C[0]? =some (.int .i64 it.id)∧C[1]? =some (.int .i64 it.bj)∧C[2]? =some (.int .i64 it.kind)∧C[6]? =some (.int .i64 it.value)∧C[7]? =some (.int .i64 it.de)∧C[9]? =some (.int .i64 it.aP)∧C[11]? =some (.int .i64 it.bz)∧C[12]? =some (.int .i64 it.bB)∧C[13]? =some (.int .i64 it.words)∧C[14]? =some (.int .i64 it.ay)∧C[16]? =some (.int .i64 it.aH):=by
 obtain⟨vo,vc,vt,va,rfl,_⟩:=h;exact⟨rfl,rfl,rfl,rfl,rfl,rfl,rfl,rfl,rfl,rfl,rfl⟩
theorem Rf {P:Prop} (h:P:=by
 have w0:=fun W=>bx it.id 1 9999999 W
 rw[h0] at w0
 have w1:=fun W=>bx it.bj 1 50 W
 rw[h1] at w1
 have w2:=fun W=>bx it.aP 1 5 W
 rw[h2] at w2
 have w3:=fun W=>bx it.words 0 2000 W
 rw[h3] at w3
 have w4:=fun W=>bx it.ay 1 2000 W
 rw[h4] at w4
 have w5:=fun W=>bx it.bz 0 9999999 W
 rw[h5] at w5
 have w6:=fun W=>bx it.bB 0 9999999 W
 rw[h6] at w6
 have w7:=fun W=>bx it.aH 0 9999999 W
 rw[h7] at w7;clear h0 h1 h2 h3 h4 h5 h6 h7
 go_enter func52,ntmps52
 have aL:=trivial
 go_wp2_with (first
  |(clear aL;(with_reducible refine ao (C:=C) ?_ ?_);rfl;intro x1 g1 aR R1 aw;have eV:=Nat.le_of_eq aR;have BB:=aw;have cV:=ae R1 C0;have bJ:=ae R1 C1;have qR:=ae R1 C9;have nz:=ae R1 td;have nB:=ae R1 te;have nv:=ae R1 s';have ny:=ae R1 tc;have kL:=ae R1 rX;clear aw aR;have aJ:=trivial)
  |(go_at_call 53;with_reducible refine(w0 _).mono ?_;rintro e w' ⟨rfl,rfl⟩)
  |(go_at_call 53;with_reducible refine(w1 _).mono ?_;rintro e w' ⟨rfl,rfl⟩)
  |(go_at_call 53;with_reducible refine(w2 _).mono ?_;rintro e w' ⟨rfl,rfl⟩)
  |(go_at_call 53;with_reducible refine(w3 _).mono ?_;rintro e w' ⟨rfl,rfl⟩)
  |(go_at_call 53;with_reducible refine(w4 _).mono ?_;rintro e w' ⟨rfl,rfl⟩)
  |(go_at_call 53;with_reducible refine(w5 _).mono ?_;rintro e w' ⟨rfl,rfl⟩)
  |(go_at_call 53;with_reducible refine(w6 _).mono ?_;rintro e w' ⟨rfl,rfl⟩)
  |(go_at_call 53;with_reducible refine(w7 _).mono ?_;rintro e w' ⟨rfl,rfl⟩)
  |fail)
 go_ret
 exact⟨rfl,BB⟩):P:=h
theorem JP (C:List Value) (it:aA) (w:World) (h:dO w C it):
  Calls prog 52 #[.agg C.toArray] w fun e w'=>e=.returned (.bool (xL it))∧Below w.heap.size w w':=by
 have hlen:=h.len;obtain⟨C0,C1,C2,C6,C7,C9,s',tc,td,te,rX⟩:=lL h;clear h;unfold xL
 cases h0:iH it.id 1 9999999 with
 |false=>
  have w0:=fun W=>bx it.id 1 9999999 W
  rw[h0] at w0;clear h0
  go_enter func52,ntmps52
  have aL:=trivial
  go_wp2_with (first
   |(clear aL;(with_reducible refine ao (C:=C) ?_ ?_);rfl;intro x1 g1 aR R1 aw;have eV:=Nat.le_of_eq aR;have BB:=aw;have cV:=ae R1 C0;have bJ:=ae R1 C1;have qR:=ae R1 C9;have nz:=ae R1 td;have nB:=ae R1 te;have nv:=ae R1 s';have ny:=ae R1 tc;have kL:=ae R1 rX;clear aw aR;have aJ:=trivial)
   |(go_at_call 53;with_reducible refine(w0 _).mono ?_;rintro e w' ⟨rfl,rfl⟩)
   |fail)
  go_ret
  exact⟨rfl,BB⟩
 |true=>
  cases h1:iH it.bj 1 50 with
  |false=>
   have w0:=fun W=>bx it.id 1 9999999 W
   rw[h0] at w0
   have w1:=fun W=>bx it.bj 1 50 W
   rw[h1] at w1;clear h0 h1
   go_enter func52,ntmps52
   have aL:=trivial
   go_wp2_with (first
    |(clear aL;(with_reducible refine ao (C:=C) ?_ ?_);rfl;intro x1 g1 aR R1 aw;have eV:=Nat.le_of_eq aR;have BB:=aw;have cV:=ae R1 C0;have bJ:=ae R1 C1;have qR:=ae R1 C9;have nz:=ae R1 td;have nB:=ae R1 te;have nv:=ae R1 s';have ny:=ae R1 tc;have kL:=ae R1 rX;clear aw aR;have aJ:=trivial)
    |(go_at_call 53;with_reducible refine(w0 _).mono ?_;rintro e w' ⟨rfl,rfl⟩)
    |(go_at_call 53;with_reducible refine(w1 _).mono ?_;rintro e w' ⟨rfl,rfl⟩)
    |fail)
   go_ret
   exact⟨rfl,BB⟩
  |true=>
   cases h2:iH it.aP 1 5 with
   |false=>
    have w0:=fun W=>bx it.id 1 9999999 W
    rw[h0] at w0
    have w1:=fun W=>bx it.bj 1 50 W
    rw[h1] at w1
    have w2:=fun W=>bx it.aP 1 5 W
    rw[h2] at w2;clear h0 h1 h2
    go_enter func52,ntmps52
    have aL:=trivial
    go_wp2_with (first
     |(clear aL;(with_reducible refine ao (C:=C) ?_ ?_);rfl;intro x1 g1 aR R1 aw;have eV:=Nat.le_of_eq aR;have BB:=aw;have cV:=ae R1 C0;have bJ:=ae R1 C1;have qR:=ae R1 C9;have nz:=ae R1 td;have nB:=ae R1 te;have nv:=ae R1 s';have ny:=ae R1 tc;have kL:=ae R1 rX;clear aw aR;have aJ:=trivial)
     |(go_at_call 53;with_reducible refine(w0 _).mono ?_;rintro e w' ⟨rfl,rfl⟩)
     |(go_at_call 53;with_reducible refine(w1 _).mono ?_;rintro e w' ⟨rfl,rfl⟩)
     |(go_at_call 53;with_reducible refine(w2 _).mono ?_;rintro e w' ⟨rfl,rfl⟩)
     |fail)
    go_ret
    exact⟨rfl,BB⟩
   |true=>
    cases h3:iH it.words 0 2000 with
    |false=>
     have w0:=fun W=>bx it.id 1 9999999 W
     rw[h0] at w0
     have w1:=fun W=>bx it.bj 1 50 W
     rw[h1] at w1
     have w2:=fun W=>bx it.aP 1 5 W
     rw[h2] at w2
     have w3:=fun W=>bx it.words 0 2000 W
     rw[h3] at w3;clear h0 h1 h2 h3
     go_enter func52,ntmps52
     have aL:=trivial
     go_wp2_with (first
      |(clear aL;(with_reducible refine ao (C:=C) ?_ ?_);rfl;intro x1 g1 aR R1 aw;have eV:=Nat.le_of_eq aR;have BB:=aw;have cV:=ae R1 C0;have bJ:=ae R1 C1;have qR:=ae R1 C9;have nz:=ae R1 td;have nB:=ae R1 te;have nv:=ae R1 s';have ny:=ae R1 tc;have kL:=ae R1 rX;clear aw aR;have aJ:=trivial)
      |(go_at_call 53;with_reducible refine(w0 _).mono ?_;rintro e w' ⟨rfl,rfl⟩)
      |(go_at_call 53;with_reducible refine(w1 _).mono ?_;rintro e w' ⟨rfl,rfl⟩)
      |(go_at_call 53;with_reducible refine(w2 _).mono ?_;rintro e w' ⟨rfl,rfl⟩)
      |(go_at_call 53;with_reducible refine(w3 _).mono ?_;rintro e w' ⟨rfl,rfl⟩)
      |fail)
     go_ret
     exact⟨rfl,BB⟩
    |true=>
     cases h4:iH it.ay 1 2000 with
     |false=>
      have w0:=fun W=>bx it.id 1 9999999 W
      rw[h0] at w0
      have w1:=fun W=>bx it.bj 1 50 W
      rw[h1] at w1
      have w2:=fun W=>bx it.aP 1 5 W
      rw[h2] at w2
      have w3:=fun W=>bx it.words 0 2000 W
      rw[h3] at w3
      have w4:=fun W=>bx it.ay 1 2000 W
      rw[h4] at w4;clear h0 h1 h2 h3 h4
      go_enter func52,ntmps52
      have aL:=trivial
      go_wp2_with (first
       |(clear aL;(with_reducible refine ao (C:=C) ?_ ?_);rfl;intro x1 g1 aR R1 aw;have eV:=Nat.le_of_eq aR;have BB:=aw;have cV:=ae R1 C0;have bJ:=ae R1 C1;have qR:=ae R1 C9;have nz:=ae R1 td;have nB:=ae R1 te;have nv:=ae R1 s';have ny:=ae R1 tc;have kL:=ae R1 rX;clear aw aR;have aJ:=trivial)
       |(go_at_call 53;with_reducible refine(w0 _).mono ?_;rintro e w' ⟨rfl,rfl⟩)
       |(go_at_call 53;with_reducible refine(w1 _).mono ?_;rintro e w' ⟨rfl,rfl⟩)
       |(go_at_call 53;with_reducible refine(w2 _).mono ?_;rintro e w' ⟨rfl,rfl⟩)
       |(go_at_call 53;with_reducible refine(w3 _).mono ?_;rintro e w' ⟨rfl,rfl⟩)
       |(go_at_call 53;with_reducible refine(w4 _).mono ?_;rintro e w' ⟨rfl,rfl⟩)
       |fail)
      go_ret
      exact⟨rfl,BB⟩
     |true=>
      cases h5:iH it.bz 0 9999999 with
      |false=>
       have w0:=fun W=>bx it.id 1 9999999 W
       rw[h0] at w0
       have w1:=fun W=>bx it.bj 1 50 W
       rw[h1] at w1
       have w2:=fun W=>bx it.aP 1 5 W
       rw[h2] at w2
       have w3:=fun W=>bx it.words 0 2000 W
       rw[h3] at w3
       have w4:=fun W=>bx it.ay 1 2000 W
       rw[h4] at w4
       have w5:=fun W=>bx it.bz 0 9999999 W
       rw[h5] at w5;clear h0 h1 h2 h3 h4 h5
       go_enter func52,ntmps52
       have aL:=trivial
       go_wp2_with (first
        |(clear aL;(with_reducible refine ao (C:=C) ?_ ?_);rfl;intro x1 g1 aR R1 aw;have eV:=Nat.le_of_eq aR;have BB:=aw;have cV:=ae R1 C0;have bJ:=ae R1 C1;have qR:=ae R1 C9;have nz:=ae R1 td;have nB:=ae R1 te;have nv:=ae R1 s';have ny:=ae R1 tc;have kL:=ae R1 rX;clear aw aR;have aJ:=trivial)
        |(go_at_call 53;with_reducible refine(w0 _).mono ?_;rintro e w' ⟨rfl,rfl⟩)
        |(go_at_call 53;with_reducible refine(w1 _).mono ?_;rintro e w' ⟨rfl,rfl⟩)
        |(go_at_call 53;with_reducible refine(w2 _).mono ?_;rintro e w' ⟨rfl,rfl⟩)
        |(go_at_call 53;with_reducible refine(w3 _).mono ?_;rintro e w' ⟨rfl,rfl⟩)
        |(go_at_call 53;with_reducible refine(w4 _).mono ?_;rintro e w' ⟨rfl,rfl⟩)
        |(go_at_call 53;with_reducible refine(w5 _).mono ?_;rintro e w' ⟨rfl,rfl⟩)
        |fail)
       go_ret
       exact⟨rfl,BB⟩
      |true=>
       cases h6:iH it.bB 0 9999999 with
       |false=>
        have w0:=fun W=>bx it.id 1 9999999 W
        rw[h0] at w0
        have w1:=fun W=>bx it.bj 1 50 W
        rw[h1] at w1
        have w2:=fun W=>bx it.aP 1 5 W
        rw[h2] at w2
        have w3:=fun W=>bx it.words 0 2000 W
        rw[h3] at w3
        have w4:=fun W=>bx it.ay 1 2000 W
        rw[h4] at w4
        have w5:=fun W=>bx it.bz 0 9999999 W
        rw[h5] at w5
        have w6:=fun W=>bx it.bB 0 9999999 W
        rw[h6] at w6;clear h0 h1 h2 h3 h4 h5 h6
        go_enter func52,ntmps52
        have aL:=trivial
        go_wp2_with (first
         |(clear aL;(with_reducible refine ao (C:=C) ?_ ?_);rfl;intro x1 g1 aR R1 aw;have eV:=Nat.le_of_eq aR;have BB:=aw;have cV:=ae R1 C0;have bJ:=ae R1 C1;have qR:=ae R1 C9;have nz:=ae R1 td;have nB:=ae R1 te;have nv:=ae R1 s';have ny:=ae R1 tc;have kL:=ae R1 rX;clear aw aR;have aJ:=trivial)
         |(go_at_call 53;with_reducible refine(w0 _).mono ?_;rintro e w' ⟨rfl,rfl⟩)
         |(go_at_call 53;with_reducible refine(w1 _).mono ?_;rintro e w' ⟨rfl,rfl⟩)
         |(go_at_call 53;with_reducible refine(w2 _).mono ?_;rintro e w' ⟨rfl,rfl⟩)
         |(go_at_call 53;with_reducible refine(w3 _).mono ?_;rintro e w' ⟨rfl,rfl⟩)
         |(go_at_call 53;with_reducible refine(w4 _).mono ?_;rintro e w' ⟨rfl,rfl⟩)
         |(go_at_call 53;with_reducible refine(w5 _).mono ?_;rintro e w' ⟨rfl,rfl⟩)
         |(go_at_call 53;with_reducible refine(w6 _).mono ?_;rintro e w' ⟨rfl,rfl⟩)
         |fail)
        go_ret
        exact⟨rfl,BB⟩
       |true=>
        cases h7:iH it.aH 0 9999999 with
        |false=>
         exact Rf
        |true=>
         exact Rf
theorem JS (C:List Value) (it:aA) (w:World) (h:dO w C it) (hs:jS it):
  Calls prog 55 #[.agg C.toArray] w fun e w'=>e=.returned (.bool (sD it))∧Below w.heap.size w w':=by
 have hlen:=h.len;obtain⟨C0,C1,C2,C6,C7,C9,s',tc,td,te,rX⟩:=lL h;obtain⟨vo,vc,vt,va,hC,⟨A1,c1,rfl,_,_,_⟩,⟨A2,c2,rfl,_,_,_⟩,⟨A3,c3,rfl,_,_,_⟩,_⟩:=h
 have C4:C[4]? =some (.slice A1 it.opts.length c1):=by rw[hC];rfl
 have C5:C[5]? =some (.slice A2 it.cA.length c2):=by rw[hC];rfl
 have C8:C[8]? =some (.slice A3 it.texts.length c3):=by rw[hC];rfl
 clear hC;obtain⟨s1,s2,s3,_⟩:=hs;unfold sD;generalize it.opts.length=n1 at*;generalize it.cA.length=n2 at*;generalize it.texts.length=n3 at*;generalize it.kind=k at*;generalize it.value=v at*;generalize it.de=t at*;generalize it.aH=r at*
 have aco:
  True:=trivial
 go_enter func55,ntmps55
 have aL:=trivial
 go_wp2_with (first
  |(clear aL;(with_reducible refine ao (C:=C) ?_ ?_);rfl;intro x1 g1 aR R1 aw;have eV:=Nat.le_of_eq aR;have BB:=aw;have aI:=ae R1 C2;have aK:=ae R1 C4;have bP:=ae R1 C5;have eQ:=ae R1 C6;have fO:=ae R1 C7;have bK:=ae R1 C8;have kL:=ae R1 rX;clear aw aR;have aJ:=trivial))
 try clear aJ
 all_goals clear C0 C1 C2 C6 C7 C9 s' tc td te rX C4 C5 C8 aI aK bP eQ fO bK kL aco
 all_goals go_ret
 all_goals refine⟨?_,BB⟩
 all_goals refine congrArg (fun b=>Ending.returned (Value.bool b)) (?_:(_:Bool)=_)
 all_goals first|rfl|(rename_i q1 q2 q3 q4 q5 q6 q7;(try simp only[Bool.and_eq_true,Bool.or_eq_true,Bool.not_eq_true',Bool.and_eq_false_iff,Bool.or_eq_false_iff,decide_eq_true_eq,decide_eq_false_iff_not,bne_iff_ne,bne_eq_false_iff_eq,beq_iff_eq,ne_eq,Bool.false_eq_true,false_iff,iff_true,true_iff] at q3);(try simp only[Bool.and_eq_true,Bool.or_eq_true,Bool.not_eq_true',Bool.and_eq_false_iff,Bool.or_eq_false_iff,decide_eq_true_eq,decide_eq_false_iff_not,bne_iff_ne,bne_eq_false_iff_eq,beq_iff_eq,ne_eq,Bool.false_eq_true,false_iff,iff_true,true_iff] at q4);(try simp only[Bool.and_eq_true,Bool.or_eq_true,Bool.not_eq_true',Bool.and_eq_false_iff,Bool.or_eq_false_iff,decide_eq_true_eq,decide_eq_false_iff_not,bne_iff_ne,bne_eq_false_iff_eq,beq_iff_eq,ne_eq,Bool.false_eq_true,false_iff,iff_true,true_iff] at q5);(try simp only[Bool.and_eq_true,Bool.or_eq_true,Bool.not_eq_true',Bool.and_eq_false_iff,Bool.or_eq_false_iff,decide_eq_true_eq,decide_eq_false_iff_not,bne_iff_ne,bne_eq_false_iff_eq,beq_iff_eq,ne_eq,Bool.false_eq_true,false_iff,iff_true,true_iff] at q6);(try simp only[Bool.and_eq_true,Bool.or_eq_true,Bool.not_eq_true',Bool.and_eq_false_iff,Bool.or_eq_false_iff,decide_eq_true_eq,decide_eq_false_iff_not,bne_iff_ne,bne_eq_false_iff_eq,beq_iff_eq,ne_eq,Bool.false_eq_true,false_iff,iff_true,true_iff] at q7);rw[Bool.eq_iff_iff];simp only[Bool.and_eq_true,Bool.or_eq_true,Bool.not_eq_true',Bool.and_eq_false_iff,Bool.or_eq_false_iff,decide_eq_true_eq,decide_eq_false_iff_not,bne_iff_ne,bne_eq_false_iff_eq,beq_iff_eq,ne_eq,Bool.false_eq_true,false_iff,iff_true,true_iff];omega)
end
end Go.Proofs.YtdnpopjabpklnaaGreatDoor
