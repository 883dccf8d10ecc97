/- Contracts and plain laws that the proof of the top laws uses (G05). No condition beyond those stated. -/
import Derived.Test.YtdnpopjabpklnaaGreatDoorG03
import Derived.Laws.Bits64
import Derived.Lib.UnsafeStr
import Derived.Laws.Bits64b
import Derived.Deep.Slices
import Derived.Lib.SmallJoins
set_option maxRecDepth 100000
set_option maxHeartbeats 64000000
set_option linter.all false
namespace Go.Proofs.YtdnpopjabpklnaaGreatDoor
section
open Go.RowKit
open Tryz
theorem Eu:(prog.info? 238).map (fun i=>(i.zero,i.size,i.bytes))=some (some (.int .u32 0),1,4):=by kernel_rfl
def iJ (ls:List Nat):List Value:=ls.map fun x:Nat=>Value.int .u32 (x:Int)
def lenOf:Value→Nat|.slice _ k _=>k|_=>0
def jR (w:World) (v:Value) (ls:List Nat):Prop:=(∃A c,v=.slice A ls.length c∧ls.length≤c∧c≤maxLen∧Sl w A ls.length (iJ ls))∧dj ls
theorem jR.below {w w':World} {v:Value} {ls:List Nat} (h:jR w v ls) (hb:Below w.heap.size w w'):jR w' v ls:=by
 obtain⟨⟨A,c,hv,h1,h2,hs⟩,h3⟩:=h;exact⟨⟨A,c,hv,h1,h2,hs.below hb⟩,h3⟩
theorem jR.drewN {w:World} {v:Value} {ls:List Nat} (h:jR w v ls) (d:Nat):jR (w.drewN d) v ls:=h
theorem jR.all {w:World} {v:Value} {ls:List Nat} (h:jR w v ls):dj ls:=h.2
theorem jR.nil (w:World):jR w (.slice none 0 0) []:=⟨⟨none,0,rfl,by simp,by simp,Sl.nil⟩,dj.nil⟩
theorem Sl.lim {w:World} {A:Option Addr} {n:Nat} {ls:List Nat} (h:Sl w A n (iJ ls)) {i:Nat} (hi:i<n):
  ∃b o,A=some ⟨b,o,none⟩∧b<w.heap.size∧∀j,j<n→w.cell? ⟨b,o+j,none⟩=some (.int .u32 ((ls.getD j 0:Nat):Int)):=by
 obtain⟨b,o,e,hc⟩:=h.2 (by omega);refine⟨b,o,e,h.lt (by omega) e,fun j hj=>hc j _ ?_⟩
 have hl:ls.length=n:=by simpa[iJ] using h.1
 unfold iJ;rw[List.getElem?_map,List.getElem?_eq_getElem (by omega)]
 simp[List.getD,List.getElem?_eq_getElem (show j<ls.length by omega)]
theorem ng (ls:List Nat):(iJ ls).length=ls.length:=by simp[iJ]
theorem Pv (ls:List Nat) (k:Nat):(iJ ls).take k=iJ (ls.take k):=by simp[iJ,List.map_take]
theorem Uw (l:List Nat) (k x:Nat):(iJ l).set k (.int .u32 (x:Int))=iJ (l.set k x):=by simp[iJ,List.map_set]
theorem Mv (n:Nat):iJ (List.replicate n 0)=List.replicate n (.int .u32 0):=by simp[iJ]
theorem Uu (ls:List Nat) {k:Nat} (h:k<ls.length):(iJ ls)[k]? =some (.int .u32 ((ls.getD k 0:Nat):Int)):=by
 unfold iJ;rw[List.getElem?_map,List.getElem?_eq_getElem h]
 simp[List.getD,List.getElem?_eq_getElem h]
theorem nk (A:Option Addr) (n c:Nat) (ls:List Nat) (w:World) (hs:Sl w A n (iJ ls)) (hn:n≤c) (hc:c≤maxLen):
  Calls prog 261 #[.slice A n c] w fun e w'=>e=.returned (.slice A (strip ls).length c)∧w=w':=by
 unfold maxLen at hc;have HL:=Lib.hid (show ls.length=n by have:=hs.1;rwa [ng] at this)
 go_enter func261,ntmps261
 go_wp2
 go_loop [0] (fun v=>∃k:Nat,k≤n∧v=.slice A k c∧Hid (strip ls=strip (ls.take k))) (fun v=>lenOf v)
 case atStart=>exact⟨n,Nat.le_refl _,rfl,by unfold Hid;rw[List.take_of_length_le (by rw[HL.out];omega)]⟩
 case round=>
  obtain⟨k,hk,rfl,bQ⟩:=hrel
  rcases Nat.eq_zero_or_pos k with h0|hp
  ·subst h0;have HE:=Lib.hid (s8 bQ.out (by omega) (.inl rfl))
   go_wp2
   go_ret
   exact⟨by rw[HE.out];rfl,rfl⟩
  ·obtain⟨j,rfl⟩:∃j,k=j+1:=⟨k - 1,by omega⟩;obtain⟨b,o,rfl,hb,dQ⟩:=hs.lim (show j<n by omega);have g1:=dQ j (by omega);clear dQ
   by_cases hz:ls.getD j 0=0
   ·have HS:=Lib.hid (AR (l:=ls) (k:=j) (by rw[HL.out];omega) hz);rw[hz] at g1;clear hz
    go_wp2
    go_round
    case rel=>exact⟨j,by omega,rfl,by unfold Hid;rw[bQ.out,HS.out]⟩
    case measure=>simp[lenOf]
   ·have HE:=Lib.hid (s8 bQ.out (by rw[HL.out];omega) (.inr (by simp only[Nat.add_sub_cancel];omega)))
    have CK:(((ls.getD j 0:Nat):Int)==0)=false:=by rw[beq_eq_false_iff_ne];omega
    clear hz;generalize ls.getD j 0=z at*
    go_wp2
    go_ret
    exact⟨by rw[HE.out];rfl,rfl⟩
theorem Sl.strip {w:World} {A:Option Addr} {n:Nat} {ls:List Nat} (h:Sl w A n (iJ ls)):Sl w A (strip ls).length (iJ (strip ls)):=by
 have hl:ls.length=n:=by have:=h.1;rwa [ng] at this
 have:=h.head (m:=(Go.Proofs.YtdnpopjabpklnaaGreatDoor.strip ls).length) (by have:=lO ls;omega)
 rwa [Pv,B9] at this
theorem jR.strip {w:World} {A:Option Addr} {n c:Nat} {ls:List Nat} (h:Sl w A n (iJ ls)) (hn:n≤c) (hc:c≤maxLen) (ha:dj ls):jR w (.slice A (strip ls).length c) (strip ls):=by
 have hl:ls.length=n:=by have:=h.1;rwa [ng] at this
 have:=lO ls;exact⟨⟨A,c,rfl,by omega,hc,h.strip⟩,pH ha⟩
def xX (w w':World) (v:Value) (n L:Nat):Prop:=∃ls,jR w' v ls∧kZ ls∧val ls=n∧ls.length≤L∧kY w.heap.size v∧Below w.heap.size w w'
theorem Sq (n:Nat) (w:World) (hn:n<18446744073709551616):
  Calls prog 231 #[.int .u64 (n:Int)] w fun e w'=>∃v,e=.returned v∧xX w w' v n 2:=by
 have hr:Row (w.alloc (.cells #[.int .u32 ((n:Int) % 4294967296),.int .u32 ((n:Int) / 4294967296)] 238)) w.heap.size 238 (iJ [n % 4294967296,n / 4294967296]):=Row.new w 238 [.int .u32 ((n:Int) % 4294967296),.int .u32 ((n:Int) / 4294967296)];have HV:=Lib.hid (show val [n % 4294967296,n / 4294967296]=n by simp[val];omega);have dq:dj [n % 4294967296,n / 4294967296]:=dj.cons (by omega) (dj.cons (by omega) dj.nil);have hs:=hr.sl;rw[ng] at hs
 go_enter func231,ntmps231
 go_wp2_with fail
 refine(nk _ 2 2 [n % 4294967296,n / 4294967296] _ hs (by omega) (by simp[maxLen])).mono ?_;rintro e w' ⟨rfl,rfl⟩
 go_wp2_with fail
 go_ret
 exact⟨_,rfl,_,jR.strip hs (by simp) (by simp[maxLen]) dq,jD _,by rw[lP,HV.out],lO _,Nat.le_refl _,(Below.refl _ _).alloc (Nat.le_refl _) _⟩
theorem Uv (ls:List Nat):∀u∈iJ ls,u.oneCell'=true:=by
 intro u hu;unfold iJ at hu;obtain⟨x,_,rfl⟩:=List.mem_map.1 hu;rfl
theorem jR.fK {w:World} {base e n:Nat} {v:Value} {ls:List Nat} (h:w.ownsRow base e 1 v n (iJ ls)) (ha:dj ls):jR w v ls:=by
 have hl:n=ls.length:=by have:=h.1;rw[ng] at this;omega
 subst hl;obtain⟨A,c,hv,h1,h2,hs⟩:=Sl.fK h;exact⟨⟨A,c,hv,h1,h2,hs⟩,ha⟩
theorem UC (v:Value) (ls:List Nat) (w:World) (h:jR w v ls) (hl:ls.length≤70368744177664):
  Calls prog 266 #[v] w fun e w'=>∃v,e=.returned v∧xX w w' v (val ls) ls.length:=by
 obtain⟨⟨A,c,rfl,hn,hc,hs⟩,dq⟩:=h;have hlen:=lO ls
 go_enter func266,ntmps266
 go_wp2_with fail
 refine(nk A _ c ls _ hs hn hc).mono ?_;rintro e w' ⟨rfl,rfl⟩
 go_wp2_with (at_builtin;refine vk w rfl (.const (.slice none 0 0)) (.tmp 4) 252 rfl 238 (.int .u32 0) 4 underlying252 Eu rfl A (strip ls).length c (iJ (strip ls)) rfl rfl hs.strip (Uv _) (by unfold maxLen;omega) (by omega) ?_;intro A' c' w1 a_ hb)
 go_ret
 exact⟨.slice A' (strip ls).length c',rfl,strip ls,jR.fK a_ (pH dq),jD _,lP _,hlen,Ow a_,hb⟩
def p_ (a b:Nat):Int:=if a<b then -1 else if b<a then 1 else 0
theorem La {a b:Nat} (h:a<b):p_ a b= -1:=if_pos h
theorem K' {a b:Nat} (h:b<a):p_ a b=1:=by unfold p_;rw[if_neg (by omega),if_pos h]
theorem Wc {a b:Nat} (h:a=b):p_ a b=0:=by unfold p_;rw[if_neg (by omega),if_neg (by omega)]
theorem vh {l m:List Nat} (hl:dj l) (hm:kZ m) (h:l.length<m.length):val l<val m:=by
 have a:=Di hl;have b:=hm.ge (by omega);have:=yd (show l.length≤m.length - 1 by omega);omega
theorem s9 {l m:List Nat} {k:Nat} (hl:dj l) (_hm:dj m) (hk:k<l.length) (he:l.length=m.length) (hd:l.drop (k+1)=m.drop (k+1)) (hx:l.getD k 0<m.getD k 0):val l<val m:=by
 rw[vg l (k+1) (by omega),vg m (k+1) (by omega),hd,vi,vi];have h1:=Di (hl.take k);rw[List.length_take,Nat.min_eq_left (by omega)] at h1;have h2:bp k* (l.getD k 0+1)≤bp k*m.getD k 0:=Nat.mul_le_mul_left _ hx;rw[Nat.mul_add] at h2;omega
theorem Oi {l m:List Nat} {k:Nat} (hk:k<l.length) (he:l.length=m.length) (hd:l.drop (k+1)=m.drop (k+1)) (hx:l.getD k 0=m.getD k 0):l.drop k=m.drop k:=by
 rw[List.drop_eq_getElem_cons hk,List.drop_eq_getElem_cons (show k<m.length by omega),hd];rw[List.getD_eq_getElem?_getD,List.getD_eq_getElem?_getD,List.getElem?_eq_getElem hk,List.getElem?_eq_getElem (show k<m.length by omega)] at hx
 simp at hx
 rw[hx]
theorem Ky {P:Prop} (h:P:=by
 go_wp2
 go_quiet (fail)
 go_wp2
 go_ret
 exact⟨by rw[HR.out];rfl,by simp only[World.drewN_drewN];exact⟨_,rfl⟩⟩):P:=h
theorem Tj (A B:Option Addr) (n c m c':Nat) (a b:List Nat) (w:World) (L5:Sl w A a.length (iJ a)) (Jh:Sl w B b.length (iJ b)) (VS:dj a) (VT:dj b) (nt1:kZ a) (nt2:kZ b)
  (DW:a.length≤c) (WV:b.length≤c') (hc:c≤9223372036854775807) (jc:c'≤9223372036854775807)
  (T1:Hid (∀w',w=w'→Calls prog 261 #[.slice A n c] w' fun e w''=>e=.returned (.slice A a.length c)∧w'=w''))
  (T2:Hid (∀w',w=w'→Calls prog 261 #[.slice B m c'] w' fun e w''=>e=.returned (.slice B b.length c')∧w'=w'')):
  Calls prog 265 #[.slice A n c,.slice B m c'] w fun e w'=>e=.returned (.int .i64 (p_ (val a) (val b)))∧∃d,w'=w.drewN d:=by
 go_enter func265,ntmps265
 go_wp2_with fail
 refine(T1.out _ rfl).mono ?_;rintro e w' ⟨rfl,rfl⟩
 go_wp2_with fail
 refine(T2.out _ rfl).mono ?_;rintro e w' ⟨rfl,rfl⟩;clear T1 T2
 rcases Nat.lt_trichotomy a.length b.length with h|h|h
 ·have HR:=Lib.hid (La (vh VS nt2 h))
  go_wp2_with fail
  go_ret
  exact⟨by rw[HR.out];rfl,0,rfl⟩
 ·obtain⟨n,hn⟩:∃n,a.length=n:=⟨_,rfl⟩;rw[←h] at Jh WV;rw[hn] at L5 Jh DW WV;have H1:=Lib.hid h;have H2:=Lib.hid hn;rw[←h,hn];clear h hn
  go_wp2_with fail
  go_loopw [5] (fun i wr=>∃k:Nat,k≤n∧i=.int .i64 ((k:Int) - 1)∧Hid (a.drop k=b.drop k)∧∃d,wr=w.drewN d) (fun i _=>(intOf i+1).toNat)
  case atStart=>exact⟨n,by omega,rfl,by unfold Hid;rw[List.drop_of_length_le (by rw[H2.out];omega),List.drop_of_length_le (by rw[←H1.out,H2.out];omega)],0,rfl⟩
  case round=>
   obtain⟨k,hk,rfl,hd,d,rfl⟩:=hrel
   rcases Nat.eq_zero_or_pos k with h0|hp
   ·subst h0;have HE:=Lib.hid (Wc (show val a=val b by rw[show a=b by simpa using hd.out]))
    go_wp2
    go_ret
    exact⟨by rw[HE.out];rfl,_,rfl⟩
   ·obtain⟨j,rfl⟩:∃j,k=j+1:=⟨k - 1,by omega⟩;obtain⟨b1,o1,rfl,aC,dQ⟩:=L5.lim (show j<n by omega);obtain⟨b2,o2,rfl,ax,RX⟩:=Jh.lim (show j<n by omega);have g1:=dQ j (by omega);have g2:=RX j (by omega);clear dQ RX;rw[show(((j+1:Nat):Int) - 1)=(j:Int) by omega]
    rcases Nat.lt_trichotomy (a.getD j 0) (b.getD j 0) with hx|hx|hx
    ·have HR:=Lib.hid (La (s9 VS VT (by rw[H2.out];omega) H1.out hd.out hx));generalize a.getD j 0=x at*;generalize b.getD j 0=y at*;exact Ky
    ·have HR:=Lib.hid (Oi (by rw[H2.out];omega) H1.out hd.out hx);rw[←hx] at g2;clear hx;generalize a.getD j 0=x at*
     go_wp2
     go_quiet (fail)
     go_wp2
     go_quiet (fail)
     go_wp2
     go_roundw
     case rel=>exact⟨j,by omega,rfl,HR.out,_,rfl⟩
     case measure=>simp[intOf]
    ·have HR:=Lib.hid (K' (s9 VT VS (by rw[←H1.out,H2.out];omega) H1.out.symm hd.out.symm hx));generalize a.getD j 0=x at*;generalize b.getD j 0=y at*
     go_wp2
     go_quiet (fail)
     exact Ky
 ·have HR:=Lib.hid (K' (vh VT nt1 h))
  go_wp2_with fail
  go_ret
  exact⟨by rw[HR.out];rfl,0,rfl⟩
theorem Wd (v u:Value) (la lb:List Nat) (w:World) (ha:jR w v la) (hb:jR w u lb):
  Calls prog 265 #[v,u] w fun e w'=>e=.returned (.int .i64 (p_ (val la) (val lb)))∧∃d,w'=w.drewN d:=by
 obtain⟨⟨A,c,rfl,hn,hc,hs⟩,dq⟩:=ha;obtain⟨⟨B,c',rfl,TZ,jc,jX⟩,ab6⟩:=hb;rw[←lP la,←lP lb]
 exact Tj A B _ c _ c' _ _ w hs.strip jX.strip (pH dq) (pH ab6) (jD la) (jD lb) (Nat.le_trans (lO la) hn) (Nat.le_trans (lO lb) TZ) hc jc
  (fun w' hw=>by subst hw;exact nk A _ c la w hs hn hc) (fun w' hw=>by subst hw;exact nk B _ c' lb w jX TZ jc)
end
section
open Go.RowKit
def fN (w:World) (u:Value) (n L:Nat):Prop:=∃ls,jR w u ls∧kZ ls∧val ls=n∧ls.length≤L
theorem fN.below {w w':World} {u:Value} {n L:Nat} (h:fN w u n L) (hb:Below w.heap.size w w'):fN w' u n L:=by
 obtain⟨ls,h1,h2,h3,h4⟩:=h;exact⟨ls,h1.below hb,h2,h3,h4⟩
theorem jR.cE {w:World} {v:Value} {ls:List Nat} (h:jR w v ls) {base:Nat} (hf:kY base v) {p:Addr} (hp:p.block<base) (u:Value):jR (w.setCell p u) v ls:=by
 obtain⟨⟨A,c,rfl,h1,h2,hs⟩,ha⟩:=h;exact⟨⟨A,c,rfl,h1,h2,hs.cE hf hp u⟩,ha⟩
theorem jR.grown {w w':World} {v:Value} {ls:List Nat} {row:Option Nat} (h:jR w v ls) (hg:w.grownBy w' row) (ho:Kn row v):jR w' v ls:=by
 obtain⟨⟨A,c,rfl,h1,h2,hs⟩,ha⟩:=h;exact⟨⟨A,c,rfl,h1,h2,hs.grown hg ho⟩,ha⟩
theorem fN.cE {w:World} {v:Value} {n L:Nat} (h:fN w v n L) {base:Nat} (hf:kY base v) {p:Addr} (hp:p.block<base) (u:Value):fN (w.setCell p u) v n L:=by
 obtain⟨ls,h1,h2,h3,h4⟩:=h;exact⟨ls,h1.cE hf hp u,h2,h3,h4⟩
theorem fN.grown {w w':World} {v:Value} {n L:Nat} {row:Option Nat} (h:fN w v n L) (hg:w.grownBy w' row) (ho:Kn row v):fN w' v n L:=by
 obtain⟨ls,h1,h2,h3,h4⟩:=h;exact⟨ls,h1.grown hg ho,h2,h3,h4⟩
theorem fN.mono {w:World} {v:Value} {n L L':Nat} (h:fN w v n L) (hl:L≤L'):fN w v n L':=by
 obtain⟨ls,h1,h2,h3,h4⟩:=h;exact⟨ls,h1,h2,h3,by omega⟩
theorem xX.nat {w w':World} {v:Value} {n L:Nat} (h:xX w w' v n L):fN w' v n L:=by
 obtain⟨ls,h1,h2,h3,h4,_,_⟩:=h;exact⟨ls,h1,h2,h3,h4⟩
theorem xX.fresh {w w':World} {v:Value} {n L:Nat} (h:xX w w' v n L):kY w.heap.size v:=by
 obtain⟨ls,_,_,_,_,h5,_⟩:=h;exact h5
theorem xX.e_ {w w':World} {v:Value} {n L:Nat} (h:xX w w' v n L):Below w.heap.size w w':=by
 obtain⟨ls,_,_,_,_,_,h6⟩:=h;exact h6
theorem fN.short {w:World} {v:Value} {n L k:Nat} (h:fN w v n L) (hn:n<bp k):fN w v n k:=by
 obtain⟨ls,h1,h2,h3,h4⟩:=h;refine⟨ls,h1,h2,h3,?_⟩
 rcases Nat.lt_or_ge k ls.length with hl|hl
 ·have:=h2.ge (by omega);have:=yd (show k≤ls.length - 1 by omega);omega
 ·exact hl
theorem fN.same {w:World} {v u:Value} {n L L':Nat} (h:fN w v n L) (h':fN w u n L'):∃ls,jR w v ls∧jR w u ls∧ls.length≤L:=by
 obtain⟨ls,h1,h2,h3,h4⟩:=h;obtain⟨ms,g1,g2,g3,g4⟩:=h';have:=G_ h1.all g1.all h2 g2 (by rw[h3,g3]);subst this;exact⟨ls,h1,g1,h4⟩
def xT (w:World) (v:Value) (ns:List Nat) (L:Nat):Prop:=
 ∃A c us,v=.slice A ns.length c∧ns.length≤c∧c≤maxLen∧Sl w A ns.length us∧∀i u,us[i]? =some u→fN w u (ns.getD i 0) L
theorem KA {P:Prop} (h:P:=by
 obtain⟨A,c,us,hv,h1,h2,hs,hu⟩:=h
 exact⟨A,c,us,hv,h1,h2,hs.below hb,fun i u hi=>(hu i u hi).below hb⟩):P:=h
theorem xT.below {w w':World} {v:Value} {ns:List Nat} {L:Nat} (h:xT w v ns L) (hb:Below w.heap.size w w'):xT w' v ns L:=by
 exact KA
theorem xT.drewN {w:World} {v:Value} {ns:List Nat} {L:Nat} (h:xT w v ns L) (d:Nat):xT (w.drewN d) v ns L:=h
theorem xT.nil (w:World) (L:Nat):xT w (.slice none 0 0) [] L:=⟨none,0,[],rfl,by simp,by simp,Sl.nil,fun i u h=>by simp at h⟩
def Gm (w:World) (v:Value) (lss:List (List Nat)):Prop:=
 ∃A c us,v=.slice A lss.length c∧lss.length≤c∧c≤maxLen∧Sl w A lss.length us∧∀i u,us[i]? =some u→jR w u (lss.getD i [])
theorem Gm.below {w w':World} {v:Value} {lss:List (List Nat)} (h:Gm w v lss) (hb:Below w.heap.size w w'):Gm w' v lss:=by
 exact KA
theorem Gm.drewN {w:World} {v:Value} {lss:List (List Nat)} (h:Gm w v lss) (d:Nat):Gm (w.drewN d) v lss:=h
theorem UJ (l:List Value) (z:Value) (n k:Nat) (x:Value) (hl:l.length=k) (hk:k<n):(l++List.replicate (n - k) z).set k x=(l++ [x])++List.replicate (n - (k+1)) z:=by
 subst hl;rw[List.set_append_right _ _ (by omega),Nat.sub_self];obtain⟨m,hm⟩:∃m,n - l.length=m+1:=⟨n - l.length - 1,by omega⟩;rw[hm,List.replicate_succ,List.set_cons_zero,show n - (l.length+1)=m by omega]
 simp
theorem UI (l:List Value) (z:Value) (n k:Nat) (hl:l.length=k) (hk:k<n):(l++List.replicate (n - k) z)[k]? =some z:=by
 subst hl;rw[List.getElem?_append_right (by omega),Nat.sub_self,List.getElem?_replicate,if_pos (by omega)]
def tD (w:World) (us:List Value) (ns:List Nat) (k L base:Nat):Prop:=us.length=k∧∀i u,us[i]? =some u→fN w u (ns.getD i 0) L∧kY base u
theorem tD.zero (w:World) (ns:List Nat) (L base:Nat):tD w [] ns 0 L base:=⟨rfl,fun i u h=>by simp at h⟩
theorem tD.below {w w':World} {us:List Value} {ns:List Nat} {k L base:Nat} (h:tD w us ns k L base) (hb:Below w.heap.size w w'):tD w' us ns k L base:=
 ⟨h.1,fun i u hi=>⟨(h.2 i u hi).1.below hb,(h.2 i u hi).2⟩⟩
theorem tD.cE {w:World} {us:List Value} {ns:List Nat} {k L base:Nat} (h:tD w us ns k L base) {p:Addr} (hp:p.block<base) (x:Value):tD (w.setCell p x) us ns k L base:=
 ⟨h.1,fun i u hi=>⟨(h.2 i u hi).1.cE (h.2 i u hi).2 hp x,(h.2 i u hi).2⟩⟩
theorem Kz {P:Prop} (h:P:=by
 refine⟨by rw[List.length_append,h.1];rfl,fun i u hi=>?_⟩
 rcases Nat.lt_or_ge i us.length with hl|hl
 ·rw[List.getElem?_append_left hl] at hi;exact h.2 i u hi
 ·rw[List.getElem?_append_right hl] at hi
  have:i - us.length=0:=by
   rcases Nat.eq_zero_or_pos (i - us.length) with h0|h0
   ·exact h0
   ·rw[List.getElem?_eq_none (by simp;omega)] at hi;cases hi
  rw[this] at hi
  simp at hi
  subst hi
  have:i=k:=by have:=h.1;omega
  subst this
  exact⟨hx,hf⟩):P:=h
theorem tD.snoc {w:World} {us:List Value} {ns:List Nat} {k L base:Nat} {x:Value} (h:tD w us ns k L base) (hx:fN w x (ns.getD k 0) L) (hf:kY base x):tD w (us++ [x]) ns (k+1) L base:=by
 exact Kz
theorem fN.off {w:World} {v:Value} {n L:Nat} (h:fN w v n L) {k:Nat} (hk:w.heap.size≤k):Kn (some k) v:=by
 obtain⟨ls,⟨⟨A,c,rfl,_,_,hs⟩,_⟩,_⟩:=h;exact hs.off hk
def mW (w:World) (us:List Value) (ns:List Nat) (k L:Nat) (row:Option Nat):Prop:=us.length=k∧∀i u,us[i]? =some u→fN w u (ns.getD i 0) L∧Kn row u
theorem mW.zero (w:World) (ns:List Nat) (L:Nat) (row:Option Nat):mW w [] ns 0 L row:=⟨rfl,fun i u h=>by simp at h⟩
theorem mW.below {w w':World} {us:List Value} {ns:List Nat} {k L:Nat} {row:Option Nat} (h:mW w us ns k L row) (hb:Below w.heap.size w w'):mW w' us ns k L row:=
 ⟨h.1,fun i u hi=>⟨(h.2 i u hi).1.below hb,(h.2 i u hi).2⟩⟩
theorem mW.snoc {w:World} {us:List Value} {ns:List Nat} {k L:Nat} {row:Option Nat} {x:Value} (h:mW w us ns k L row) (hx:fN w x (ns.getD k 0) L) (hf:Kn row x):mW w (us++ [x]) ns (k+1) L row:=by
 exact Kz
theorem mW.grown {w w':World} {us:List Value} {ns:List Nat} {k L:Nat} {row Za:Option Nat} (h:mW w us ns k L row) (hg:w.grownBy w' row) (hr:Za=row∨∃j,Za=some j∧w.heap.size≤j):mW w' us ns k L Za:=by
 refine⟨h.1,fun i u hi=>?_⟩;obtain⟨h1,h2⟩:=h.2 i u hi;refine⟨h1.grown hg h2,?_⟩
 rcases hr with rfl|⟨j,rfl,hj⟩
 ·exact h2
 ·exact h1.off hj
theorem mW.can {w:World} {us:List Value} {ns:List Nat} {L base e:Nat} {v:Value} {row:Option Nat} (h:mW w us ns ns.length L row) (ho:w.ownsRow base e 1 v ns.length us):xT w v ns L:=by
 obtain⟨A,c,hv,h1,h2,hs⟩:=Sl.fK ho;exact⟨A,c,us,hv,h1,h2,hs,fun i u hi=>(h.2 i u hi).1⟩
end
section
open Go.RowKit
open Tryz
theorem Og (h:Nat) (l:List UInt8) (k:Nat) (hk:k<l.length):ll h (l.take (k+1))=(ll h (l.take k) ^^^ (l[k]).toNat)*E0 % 18446744073709551616:=by
 rw[List.take_succ_eq_append_getElem hk,Oe]
theorem Tm (A:Option Addr) (n c h:Nat) (l:List UInt8) (w:World) (hs:dF w A n 1 (Lib.byteCells l)) (hn:n=l.length) (hh:h<18446744073709551616) (hl:n≤1000000000):
  Calls prog 66 #[.int .u64 (h:Int),.slice A n c] w fun e w'=>e=.returned (.int .u64 (ll h l:Nat))∧w'=w:=by
 have HN:=Lib.hid hn;clear hn
 go_enter func66,ntmps66
 go_wp2_with fail
 go_loopw [0,9] (fun s0 i wr=>∃k H:Nat,k≤n∧s0=.int .u64 (H:Int)∧i=.int .i64 k∧Hid (H=ll h (l.take k))∧H<18446744073709551616∧wr=w) (fun _ i _=>n - (intOf i).toNat)
 case atStart=>exact⟨0,h,Nat.zero_le _,rfl,rfl,rfl,hh,rfl⟩
 case round=>
  obtain⟨k,H,hk,rfl,rfl,HH,hH,rfl⟩:=hrel
  by_cases aS:k<n
  ·obtain⟨b,o,rfl,hc⟩:=hs.2 (by omega)
   have gA:k<l.length:=by rw[←HN.out];exact aS
   have c0:wr.cell? ⟨b,o+k,none⟩=some (.int .u8 ((l[k]).toNat:Int)):=hc k _ (by unfold Lib.byteCells;rw[List.getElem?_map,List.getElem?_eq_getElem gA];rfl);have HS:=Lib.hid (Og h l k gA);have hx:(l[k]).toNat<256:=UInt8.toNat_lt _;generalize (l[k]).toNat=x at*;have e1:=bits_xor_u64_nat H x hH (by omega);have hX:H ^^^ x<18446744073709551616:=Nat.xor_lt_two_pow (n:=64) (by omega) (by omega);obtain⟨X,hXe⟩:∃X,X=H ^^^ x:=⟨_,rfl⟩;rw[←hXe] at e1 hX;have HX:=Lib.hid hXe;clear hXe hc hs
   have e2:IntKind.u64.wrap ((X:Int)*1099511628211)=((X*1099511628211 % 18446744073709551616:Nat):Int):=by rw[IntKind.wrap_u64];omega
   have hM:X*1099511628211 % 18446744073709551616<18446744073709551616:=Nat.mod_lt _ (by omega)
   have HM:Hid (X*1099511628211 % 18446744073709551616=ll h (l.take (k+1))):=by unfold Hid;rw[HS.out,←HH.out,←HX.out];rfl
   generalize X*1099511628211 % 18446744073709551616=M at*
   go_wp2_with fail
   go_roundw
   case rel=>exact⟨k+1,M,by omega,by first|rfl|rw[e1,e2]|(simp[e1,e2]),by go_num,HM,hM,trivial⟩
   case measure=>simp[intOf];omega
  ·have hE:Hid (H=ll h l):=by
    have:=HH.out;unfold Hid
    rwa [List.take_of_length_le (by have:=HN.out;omega)] at this
   go_wp2_with fail
   go_ret
   exact⟨by rw[←hE.out];rfl,rfl⟩
theorem Lh (A:Option Addr) (n c:Nat) (l:List UInt8) (s0:Nat) (h0:s0=kK) (w:World) (hs:dF w A n 1 (Lib.byteCells l)) (hn:n=l.length) (hl:n≤1000000000):
  Calls prog 24 #[.slice A n c] w fun e w'=>e=.returned (.int .u64 ((ll s0 l:Nat):Int))∧w'=w:=by
 have Jd:s0<18446744073709551616:=by rw[h0];unfold kK;omega
 have HC:=Tm A n c s0 l w hs hn Jd hl
 have e0:((s0:Nat):Int)=14695981039346656037:=by rw[h0];unfold kK;omega
 rw[e0] at HC;clear e0 h0 Jd hn hs;generalize ll s0 l=D at*
 go_enter func24,ntmps24
 go_wp2_with fail
 with_reducible refine HC.mono ?_
 rintro e w' ⟨rfl,rfl⟩
 go_wp2_with fail
 go_ret
 exact⟨rfl,rfl⟩
theorem aab:∀d:Fin 16,((#[48,49,50,51,52,53,54,55,56,57,97,98,99,100,101,102]:Array UInt8)[d.val]?.getD 0).toNat=(nS d.val).toNat:=by decide
theorem ade (d:Nat) (hd:d<16) (h0:d<(ByteArray.mk #[48,49,50,51,52,53,54,55,56,57,97,98,99,100,101,102]).size):((ByteArray.mk #[48,49,50,51,52,53,54,55,56,57,97,98,99,100,101,102])[d]'h0).toNat=(nS d).toNat:=by
 have h:=aab ⟨d,hd⟩;simp only at h;rw[Array.getElem?_eq_getElem (by simpa using hd)] at h;exact h
def mw (h k:Nat):List Value:=((jg h).take k).map (fun c:UInt8=>Value.int .u8 (c.toNat:Int))++List.replicate (16 - k) (.int .u8 0)
theorem LJ (h k:Nat) (hk:k≤16):(mw h k).length=16:=by
 have:=nc h;unfold mw
 simp
 omega
theorem I4 (h k:Nat) (hk:k<16):(mw h k).set k (.int .u8 ((nS (h / 2 ^ (60 - 4*k) % 16)).toNat:Int))=mw h (k+1):=by
 have hl:=nc h
 have mN:k<(jg h).length:=by omega
 unfold mw
 have e1:(((jg h).take k).map (fun c:UInt8=>Value.int .u8 (c.toNat:Int))).length=k:=by simp;omega
 have hv:(jg h)[k]=nS (h / 2 ^ (60 - 4*k) % 16):=by
  have:=LI h k hk;rw[List.getElem?_eq_getElem mN] at this;injection this
 rw[List.set_append_right _ _ (by omega),e1,Nat.sub_self,show 16 - k=(16 - (k+1))+1 by omega,List.replicate_succ,List.set_cons_zero,List.take_succ_eq_append_getElem mN,List.map_append,hv]
 simp
theorem W_ (h:Nat) (w:World) (hh:h<18446744073709551616):
  Calls prog 23 #[.int .u64 (h:Int)] w fun e w'=>e=.returned (.string ⟨(jg h).toArray⟩)∧Below w.heap.size w w':=by
 go_enter func23,ntmps23
 go_wp2_with fail
 have R0:Row _ w.heap.size 137 (mw h 0):=Row.new w 137 (List.replicate 16 (.int .u8 0))
 go_loopw [5] (fun i wr=>∃k:Nat,k≤16∧i=.int .i64 k∧Row wr w.heap.size 137 (mw h k)∧Below w.heap.size w wr) (fun i _=>16 - (intOf i).toNat)
 case atStart=>exact⟨0,by omega,rfl,R0,ai w _⟩
 case round=>
  obtain⟨k,hk,rfl,R,BB⟩:=hrel
  by_cases aS:k<16
  ·have wG:(k:Int)<16:=by omega
   have HS:=I4 h k aS
   have e1:bits .and .u64 ((h:Int) / 2 ^ (60 - 4*k)) 15=((h / 2 ^ (60 - 4*k) % 16:Nat):Int):=by
    have e0:((h:Int) / 2 ^ (60 - 4*k))=((h / 2 ^ (60 - 4*k):Nat):Int):=by push_cast;rfl
    rw[e0,show(15:Int)=((15:Nat):Int) from rfl,bits_and_u64_nat _ _ (Nat.lt_of_le_of_lt (Nat.div_le_self _ _) hh) (by omega)];exact congrArg _ (Nat.and_two_pow_sub_one_eq_mod _ 4)
   have hd:h / 2 ^ (60 - 4*k) % 16<16:=Nat.mod_lt _ (by omega);have hlen:=LJ h k hk;have c0:wr.cell? ⟨w.heap.size,k,none⟩=some ((mw h k)[k]'(by omega)):=(R.cell k).trans (List.getElem?_eq_getElem _);generalize (mw h k)[k]'(by omega)=rP at c0;have f0:wr.frozen? ⟨w.heap.size,k,none⟩=false:=R.frozen k;obtain⟨d,hde⟩:∃d,d=h / 2 ^ (60 - 4*k) % 16:=⟨_,rfl⟩;rw[←hde] at e1 hd;rw[←hde] at HS;have HDE:=Lib.hid hde
   have R2:=fun u=>R.cE k u
   obtain⟨T,hT⟩:∃T:List Value,T=(mw h k):=⟨_,rfl⟩;rw[←hT] at R2 HS;have HS:=Lib.hid HS;clear hde R hlen hT
   have hx:(d:Int)<16:=by omega
   go_wp2_with fail
   go_roundw
   case rel=>
    refine⟨k+1,by omega,by go_num,?_,BB.trans ((cH.set wr w.heap.size k _).below (Nat.le_refl _))⟩;have h9:=R2 (.int .u8 ((nS d).toNat:Int));rw[HS.out] at h9;rw[ade d hd];exact h9
   case measure=>simp[intOf];omega
  ·have Xl:k=16:=by omega
   subst Xl
   have RR:Row wr w.heap.size 137 (Lib.byteCells (jg h)):=by
    have:=R;unfold mw at this;rw[List.take_of_length_le (by rw[nc];omega)] at this
    simpa[Lib.byteCells] using this
   have hl:=nc h
   have TM:∀cap,(convert 83 9 (.slice (some ⟨w.heap.size,0,none⟩) 16 cap)).run prog wr=.ok (.string ⟨(jg h).toArray⟩) wr:=fun cap=>by
    have:=run_convert_bytes_back (P:=prog) wr 83 9 5 ⟨w.heap.size,0,none⟩ cap (jg h) underlying83 underlying5 underlying9 (fun j hj=>by
     rw[Addr.add_lit,Nat.zero_add,RR.cell,Lib.byteCells,List.getElem?_map,List.getElem?_eq_getElem hj];rfl)
    rwa [hl] at this
   clear R RR hl
   go_wp2_with fail
   go_ret
   exact⟨rfl,BB⟩
theorem Li (s:ByteArray) (h:Nat) (w:World) (hh:h<18446744073709551616) (hs:s.data.toList=jg h):
  Calls prog 71 #[.string s] w fun e w'=>e=.returned (.tuple #[.int .u64 (h:Int),.int .i64 0])∧w'=w:=by
 have cM:s.size=16:=by have:=congrArg List.length hs;rw[nc] at this;simpa using this
 have HH:=Lib.hid hh;have HS:=Lib.hid hs
 have Z4:(s.size:Int)=16:=by omega
 have aeY:((s.size:Int) !=16)=false:=by rw[Z4];rfl
 have HZ:=Lib.hid cM;clear hs cM Z4
 go_enter func71,ntmps71
 go_wp2_with fail
 go_loopw [4,5] (fun v i wr=>∃k H:Nat,k≤16∧v=.int .u64 (H:Int)∧i=.int .i64 k∧Hid (H=h / 2 ^ (64 - 4*k))∧wr=w) (fun _ i _=>16 - (intOf i).toNat)
 case atStart=>exact⟨0,0,by omega,rfl,rfl,by unfold Hid;have:=HH.out;simp;omega,rfl⟩
 case round=>
  obtain⟨k,H,hk,rfl,rfl,HE,rfl⟩:=hrel
  by_cases aS:k<16
  ·have xj:k<s.size:=by rw[HZ.out];exact aS
   have wG:(k:Int)<(s.size:Int):=by omega
   have hb:s[k]=nS (h / 2 ^ (60 - 4*k) % 16):=by
    have h1:=LI h k aS;rw[←HS.out] at h1
    have h2:s.data.toList[k]? =some s[k]:=by rw[List.getElem?_eq_getElem (by simpa using xj)];rfl
    rw[h2] at h1;injection h1
   have bQ:=TR h k aS;have hd:h / 2 ^ (60 - 4*k) % 16<16:=Nat.mod_lt _ (by omega);have hq:h / 2 ^ (60 - 4*k)<18446744073709551616:=Nat.lt_of_le_of_lt (Nat.div_le_self _ _) HH.out
   have hn:H*16+h / 2 ^ (60 - 4*k) % 16=h / 2 ^ (64 - 4* (k+1)):=by rw[HE.out,show 64 - 4* (k+1)=60 - 4*k by omega];exact bQ
   rw[←HE.out] at bQ;have hC:=LH ⟨h / 2 ^ (60 - 4*k) % 16,hd⟩;simp only at hC;rw[←hb] at hC;generalize h / 2 ^ (60 - 4*k) % 16=d at*;have HN:=Lib.hid hn
   have hor:(H*16)|||d=H*16+d:=by
    have:=Nat.two_pow_add_eq_or_of_lt (i:=4) (b:=d) (by omega) H;rw[show 2 ^ 4*H=H*16 by omega] at this;exact this.symm
   have hw:IntKind.u64.wrap ((H:Int)*16)=((H*16:Nat):Int):=by rw[IntKind.wrap_u64];omega
   have sn:=bits_or_u64_nat (H*16) d (by omega) (by omega);rw[hor] at sn;have HX:=Lib.hid (And.intro hw sn);clear hb bQ hn hw sn hor
   rcases hC with ⟨a1,a2,a3⟩|⟨a1,a2,a3,a4⟩
   ·have b1:(48:Int)≤(s[k].toNat:Int):=by omega
    have b2:(s[k].toNat:Int)≤57:=by omega
    go_wp2_with fail
    go_roundw
    case rel=>exact⟨k+1,_,by omega,by rw[HX.out.1,show((s[k].toNat:Int) - 48)=(d:Int) by omega,HX.out.2],by go_num,HN,trivial⟩
    case measure=>simp[intOf];omega
   ·have b1:(48:Int)≤(s[k].toNat:Int):=by omega
    have b2:¬(s[k].toNat:Int)≤57:=by omega
    have b3:(97:Int)≤(s[k].toNat:Int):=by omega
    have b4:(s[k].toNat:Int)≤102:=by omega
    go_wp2_with fail
    go_roundw
    case rel=>exact⟨k+1,_,by omega,by rw[HX.out.1,show((s[k].toNat:Int) - 97+10)=(d:Int) by omega,HX.out.2],by go_num,HN,trivial⟩
    case measure=>simp[intOf];omega
  ·have Xl:k=16:=by omega
   subst Xl
   have hE:Hid (H=h):=by have:=HE.out;simp at this;exact this
   have T5:¬((16:Int)<(s.size:Int)):=by have:=HZ.out;omega
   go_wp2_with fail
   go_ret2
   exact⟨by rw[←hE.out];rfl,rfl⟩
end
section
open Go.RowKit Go.ChangeShapes Go.WideShapes Go.Deep
section
variable {H:Type} {enc:TypeId × Value→H} {P:Program} {w:World} {base:Nat} {spare:Nat→Bool} {held:Bool}
theorem Fk {a:Addr} {v:Value} (h:w.cell? a=some v):a.spot=none:=by
 unfold World.cell? at h
 split at h
 ·split at h
  ·cases h
  ·rename_i hs
   cases qW:a.spot with
   |none=>rfl
   |some x=>rw[qW] at hs;simp at hs
 ·cases h
theorem sL {a:Addr} {n:Nat} {xs:List Value} (hl:xs.length=n) (hc:∀i u,xs[i]? =some u→w.cell? (a.add i)=some u):Sl w (some a) n xs:=by
 refine⟨hl,fun hn=>?_⟩;have h0:xs[0]? =some (xs[0]'(by omega)):=List.getElem?_eq_getElem _;have h1:=hc 0 _ h0;have qW:a.spot=none:=Fk h1;obtain⟨b,o,sp⟩:=a;simp only at qW;subst qW;refine⟨b,o,rfl,fun j u hu=>?_⟩;have:=hc j u hu;unfold Addr.add at this
 split at this
 ·rename_i h;subst h;exact this
 ·exact this
theorem PM {t e:TypeId} {k:IntKind} {fuel:Nat} {v:Value} {x:DataW H × List MemPlace} (ht:P.underlying t=some (.slice e)) (he:P.underlying e=some (.int k)) (LC:P.cellsOf e=1)
  (h:DataW.trod enc P w base spare held fuel t [v]=some x):∃zs,eI k w v zs∧∀z∈zs,(Lit.int k z).wf=true:=by
 rcases open_ints ht he LC h with ⟨gu,_⟩|⟨a,len,cap,zs,gu,_,hl,hm,hz,_,dQ,hwf⟩
 ·simp only[List.cons.injEq,and_true] at gu;subst gu;exact⟨[],eI.nil _ _,fun z hz=>by simp at hz⟩
 ·simp only[List.cons.injEq,and_true] at gu;subst gu
  have TX:len≤zs.length:=by rw[hz];split<;>omega
  refine⟨zs.take len,⟨some a,cap,?_,?_,hm,?_⟩,fun z hz=>hwf z (List.mem_of_mem_take hz)⟩
  ·rw[List.length_take,Nat.min_eq_left TX]
  ·rw[List.length_take,Nat.min_eq_left TX];exact hl
  ·refine sL (by simp) (fun i u hu=>?_);rw[List.getElem?_map,List.getElem?_take] at hu
   split at hu
   ·rename_i hi
    rw[List.getElem?_eq_getElem (by omega)] at hu;simp only[Option.map_some,Option.some.injEq] at hu;subst hu;rw[dQ i (by omega)]
    simp[List.getD,List.getElem?_eq_getElem (show i<zs.length by omega)]
   ·simp at hu
end
end
end Go.Proofs.YtdnpopjabpklnaaGreatDoor
