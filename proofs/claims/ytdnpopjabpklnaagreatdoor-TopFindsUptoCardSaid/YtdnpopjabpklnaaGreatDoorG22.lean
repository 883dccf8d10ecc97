/- Contracts and plain laws that the proof of the top laws uses (G22). No condition beyond those stated. -/
import Derived.Test.YtdnpopjabpklnaaGreatDoorAwA
set_option maxRecDepth 100000
set_option maxHeartbeats 64000000
set_option linter.all false
namespace Go.Proofs.YtdnpopjabpklnaaGreatDoor
section
open Go.RowKit
open Tryz
def Ez (e:aB):aA:=(e.aD.getLast?).getD itN
theorem AF {e:aB} {n:Nat} {x:aA} (h1:e.aD.length=n+1) (h2:e.aD[n]? =some x):Ez e=x:=by
 unfold Ez;rw[List.getLast?_eq_getElem?,h1,Nat.add_sub_cancel,h2];rfl
theorem Uq {e:aB} (h:0<e.aD.length):(Ez e).id=du e:=by
 obtain⟨n,hn⟩:∃n,e.aD.length=n+1:=⟨e.aD.length - 1,by omega⟩;obtain⟨x,hx⟩:∃x,e.aD[n]? =some x:=⟨_,List.getElem?_eq_getElem (by omega)⟩
 have hg:e.aD.getLast? =some x:=by rw[List.getLast?_eq_getElem?,hn,Nat.add_sub_cancel,hx]
 rw[AF hn hx];unfold du;rw[hg]
theorem Ps {e:aB} (h:0<e.aD.length):Ez e∈e.aD:=by
 obtain⟨n,hn⟩:∃n,e.aD.length=n+1:=⟨e.aD.length - 1,by omega⟩;obtain⟨x,hx⟩:∃x,e.aD[n]? =some x:=⟨_,List.getElem?_eq_getElem (by omega)⟩;rw[AF hn hx];exact List.mem_of_getElem? hx
theorem acm {α:Type} {R:List Value→α→Prop} {Cs:List (List Value)} {bY:List α} {k:Nat} {C:List Value} {it:α} (hl:Cs.length=k) (h4:∀(i:Nat) (C:List Value) (x:α),Cs[i]? =some C→bY[i]? =some x→R C x) (hx:bY[k]? =some it) (hC:R C it):
  ∀(i:Nat) (D:List Value) (x:α),(Cs++ [C])[i]? =some D→bY[i]? =some x→R D x:=by
 intro i D x a b
 rcases Nat.lt_or_ge i k with hi|hi
 ·rw[List.getElem?_append_left (by omega)] at a;exact h4 i D x a b
 ·rw[List.getElem?_append_right (by omega)] at a
  have I9:i=k:=by
   rcases Nat.eq_or_lt_of_le hi with h|h
   ·exact h.symm
   ·rw[List.getElem?_eq_none (by simp;omega)] at a;cases a
  subst I9;rw[hl,Nat.sub_self] at a;rw[hx] at b;simp only[List.getElem?_cons_zero,Option.some.injEq] at a b;subst a b;exact hC
def lM (b:cK):List aA:=b.entries.map Ez
theorem Ju {t:Nat} {b:cK} (h:gL t b):∀it∈lM b,fb it=0:=by
 intro it hi;obtain⟨e,he,rfl⟩:=List.mem_map.1 hi;exact((h.entry e he).item _ (Ps (h.entry e he).ne)).1
theorem Pu {t:Nat} {b:cK} (h:gL t b):((lM b).map (·.id)).Nodup:=by
 have:(lM b).map (·.id)=b.entries.map du:=by
  unfold lM;rw[List.map_map]
  apply List.map_congr_left
  intro e he;exact Uq (h.entry e he).ne
 rw[this];exact h.ids
theorem RH {w:World} {A:Option Addr} {n k:Nat} {bY:List aA} {it:aA} (h:ib w A n bY) (hx:bY[k]? =some it):∃b o vo vc vt va,A=some ⟨b,o,none⟩∧dO w (fS it vo vc vt va) it∧Cl w b (o+k*17) (fS it vo vc vt va):=by
 obtain⟨b,o,D,hA,_,aO,_,oI⟩:=h.at_ hx;obtain⟨vo,vc,vt,va,rfl,h1⟩:=id oI;exact⟨b,o,vo,vc,vt,va,hA,oI,aO⟩
theorem Q2 {P:Prop} (h:P:=by
 obtain⟨Ds,h1,h2,h3,h4⟩:=h
 exact⟨Ds,h1,h2,h3.below (by decide) hb,fun i D it a b=>(h4 i D it a b).below hb⟩):P:=h
theorem ib.below {w w':World} {A:Option Addr} {n:Nat} {l:List aA} (h:ib w A n l) (hb:Below w.heap.size w w'):ib w' A n l:=by
 exact Q2
theorem qL.below {w w':World} {A:Option Addr} {n:Nat} {l:List eH} (h:qL w A n l) (hb:Below w.heap.size w w'):qL w' A n l:=by
 exact Q2
theorem FL (A1 A2 A3:Option Addr) (n1 c1 n2 c2 n3 c3:Nat) (ps rs:List Int) (cs:List eH) (w:World) (hp:eI .i64 w (.slice A1 n1 c1) ps) (hr:eI .i64 w (.slice A2 n2 c2) rs) (h1:dF w A1 n1 1 (ps.map (Value.int .i64))) (h2:dF w A2 n2 1 (rs.map (Value.int .i64))) (q1:n1=ps.length) (q2:n2=rs.length) (m1:n1≤1100000) (m2:n2≤1100000)
  (gu:qL w A3 n3 cs) (tq:∀c∈cs,lR c) (m3:n3≤1100000) (m4:n3≤c3) (hm:jl w) (om:rh w) (ht:Id.lk w) (O8:Id.lS w):
  Calls prog 3 #[.agg #[.slice A1 n1 c1,.slice A2 n2 c2],.slice A3 n3 c3] w fun e w'=>e=.returned (.bool true)∧Below w.heap.size w w':=by
 have NG:=fun W (hb:Below w.heap.size w W)=>uh A1 A2 A3 n1 c1 n2 c2 n3 c3 ps rs cs W (hp.below hb) (hr.below hb) (h1.below (by decide) hb) (h2.below (by decide) hb) q1 q2 m1 m2 (gu.below hb) tq m3 m4 (hm.below hb) (om.below hb)
 clear hp hr h1 h2 gu tq q1 q2
 go_enter func3,ntmps3
 have aL:=trivial
 go_wp2_with (first
  |(clear aJ;(with_reducible refine ak ?_ lT R1 rfl ?_);rfl;have bC:=trivial)
  |(clear aL;(with_reducible refine ao (C:=[.slice A1 n1 c1,.slice A2 n2 c2]) ?_ ?_);rfl;intro x1 g1 aR R1 aw;have aJ:=trivial))
 try clear bC
 have BB:=aw;clear aw aR
 with_reducible refine(NG x1 BB).mono ?_
 clear NG R1;rintro e x2 ⟨C,z,rfl,⟨jo,Lr⟩,ax,hz,qU⟩;replace BB:=az BB ax;clear ax hz
 by_cases cD:z=0
 case neg=>
  have iG:(z !=0)=true:=bne_iff_ne.2 cD;clear qU;have aL:=trivial
  go_wp2_with (first
   |(clear aJ;(with_reducible refine av (C:=C) ?_ ?_ aN R7 jo rfl Lr ?_);rfl;rfl;clear R7;intro x8 R7 P8;have eY:=mP.trans (P8.below (Nat.le_of_eq ry));clear mP P8 ry;have bC:=trivial)
   |(clear aL;(with_reducible refine bu dG fG ?_);intro x7 g7 ry R7 mP;have aJ:=trivial))
  try clear bC
  replace BB:=az BB eY
  with_reducible refine(r9 _ (hm.below BB) (om.below BB) (ht.below BB) (O8.below BB)).mono ?_
  rintro e x9 ⟨rfl,eU⟩
  go_wp2_with fail
  go_ret
  exact⟨rfl,az BB eU⟩
 case pos=>
  subst cD;obtain⟨b,m,hO,_,_,_,uw⟩:=qU rfl;clear qU;obtain⟨B1,k1,d1,B2,k2,d2,B3,k3,d3,B4,k4,d4,B5,n5,d5,B6,k6,d6,rfl,O1,O2,O3,O4,O5,O6,z1,z2,z3,z4,q5,z6,_,_,m5,_⟩:=hO.open_;clear O1 O2 O3 O4 O6 hO z1 z2 z3 z4 z6
  have ae_:n5≤40:=by rw[q5];exact uw.entries
  have mL:=Lib.hid q5;have SJ:=Lib.hid uw;clear q5 uw jo;have aL:=trivial
  go_wp2_with (first
   |(clear aJ;(with_reducible refine av (C:=[.int .i64 b.now,.slice B1 k1 d1,.slice B2 k2 d2,.slice B3 k3 d3,.slice B4 k4 d4,.slice B5 n5 d5,.slice B6 k6 d6]) ?_ ?_ aN R7 rfl rfl Lr ?_);rfl;rfl;clear R7;intro x8 R7 P8;have eY:=mP.trans (P8.below (Nat.le_of_eq ry));clear mP P8 ry;have e5:=U (R7.cell 5);have bC:=trivial)
   |(clear aL;(with_reducible refine bu dG fG ?_);intro x7 g7 ry R7 mP;have aJ:=trivial))
  try clear bC
  replace O5:=ej.aa (t:=95) O5 (ah.ab eY);replace BB:=az BB eY;clear eY Lr R7 e5;obtain⟨B0,hB0⟩:∃B0,B0=x8.heap.size:=⟨_,rfl⟩
  go_loopw [7,26] (fun v i wr=>∃(k:Nat) (A:Option Addr) (c:Nat) (Cs:List (List Value)),k≤n5∧v=.slice A k c∧i=.int .i64 (k:Int)∧Cs.length=k∧(∀C∈Cs,C.length=17)∧wr.ownsRow x8.heap.size 47 17 (.slice A k c) k Cs.flatten∧(∀(i:Nat) (C:List Value) (x:aA),Cs[i]? =some C→(lM b)[i]? =some x→dO x8 C x)∧Below x8.heap.size x8 wr) (fun _ i _=>n5 - (intOf i).toNat)
  case atStart=>exact⟨0,none,0,[],Nat.zero_le _,rfl,rfl,rfl,(fun C hC=>by cases hC),World.ownsRow_nil _ _ _ _,(fun i C x a=>by simp at a),Below.refl _ _⟩
  case round=>
   obtain⟨k,A,c,Cs,hk,rfl,rfl,Al,lV,a_,dZ,fw⟩:=hrel
   by_cases aS:k<n5
   ·obtain⟨en,FT⟩:∃en,b.entries[k]? =some en:=⟨_,List.getElem?_eq_getElem (by rw[←mL.out];exact aS)⟩;obtain⟨ge,cpe,CE,yE,_,_,_,_,hE7,WX,hER⟩:=O5.BJ.get FT;have hEi:=SJ.out.entry en (List.mem_of_getElem? FT);obtain⟨n,CF⟩:∃n,en.aD.length=n+1:=⟨en.aD.length - 1,by have:=hEi.ne;omega⟩
    have yN:n≤40:=by have:=hEi.aD;omega
    have DQ:=hER.one;obtain⟨vv,va,vf,vl,vm,rfl,hv,_⟩:=hER;have hx:en.aD[n]? =some (en.aD[n]'(by omega)):=List.getElem?_eq_getElem _;obtain⟨gv,cap,CI,rfl,_,_,_,_,tn,abn,uq⟩:=hv.get hx
    have OG:Hid ((lM b)[k]? =some (en.aD[n]'(by omega))):=by
     unfold Hid lM;rw[List.getElem?_map,FT,Option.map_some,AF CF hx]
    obtain⟨x,Mb⟩:∃x,x=en.aD[n]'(by omega):=⟨_,rfl⟩;rw[←Mb] at uq OG;rw[CF] at WX DQ;have ac5:=(Value.slice.inj yE).1;clear yE;subst ac5;obtain⟨vo,vc,vt,va2,rfl,hI1,hI2,hI3,hI4⟩:=id uq.s_;have RV:=uq.s_;clear hv uq hx Mb hEi hE7 tn CF FT;have ON:=WX.below fw (WX.lt (Nat.succ_pos _));have I2:=abn.below fw (abn.lt (Nat.succ_pos _));unfold ig at ON DQ;unfold fS at I2 RV;obtain⟨X1,y1,rfl,_⟩:=hI1;obtain⟨X2,y2,rfl,_⟩:=hI2;obtain⟨X3,y3,rfl,_⟩:=hI3;obtain⟨X4,y4,rfl,_⟩:=hI4;have rC:∀u∈([.int .i64 x.id,.int .i64 x.bj,.int .i64 x.kind,.string x.aW,.slice X1 x.opts.length y1,.slice X2 x.cA.length y2,.int .i64 x.value,.int .i64 x.de,.slice X3 x.texts.length y3,.int .i64 x.aP,.string x.code,.int .i64 x.bz,.int .i64 x.bB,.int .i64 x.words,.int .i64 x.ay,.slice X4 x.af.length y4,.int .i64 x.aH]:List Value),u.oneCell'=true:=RV.one;have zz:=fw.size;have aL:=trivial
    go_wp2_with (first
     |(clear cY;(refine cv (by rfl) (.tmp 30) (.tmp 39) 36 (by rfl) x8.heap.size 47 _ 17 216 underlying36 rM rfl (by decide) (.slice A k c) k Cs.flatten (some ⟨AW.heap.size,0,none⟩) 1 1 [.int .i64 x.id,.int .i64 x.bj,.int .i64 x.kind,.string x.aW,.slice X1 x.opts.length y1,.slice X2 x.cA.length y2,.int .i64 x.value,.int .i64 x.de,.slice X3 x.texts.length y3,.int .i64 x.aP,.string x.code,.int .i64 x.bz,.int .i64 x.bB,.int .i64 x.words,.int .i64 x.ay,.slice X4 x.af.length y4,.int .i64 x.aH] (by rfl) (by rfl) d_ ⟨rfl,fun _=>⟨_,_,rfl,(Row.new AW 47 [.int .i64 x.id,.int .i64 x.bj,.int .i64 x.kind,.string x.aW,.slice X1 x.opts.length y1,.slice X2 x.cA.length y2,.int .i64 x.value,.int .i64 x.de,.slice X3 x.texts.length y3,.int .i64 x.aP,.string x.code,.int .i64 x.bz,.int .i64 x.bB,.int .i64 x.words,.int .i64 x.ay,.slice X4 x.af.length y4,.int .i64 x.aH]).cl⟩⟩ rC (by unfold maxLen;omega) (by omega) xv ?_);intro v6 w6 yO Aq;have dX:=trivial)
     |(clear cz;(with_reducible refine cJ ?_ aU WY rfl ?_);rfl;have cY:=trivial)
     |(clear bC;(with_reducible refine av (C:=[.slice (some ⟨gv,0,none⟩) (n+1) cap,.int .i64 en.state,.int .i64 en.bF,va,vf,vl,vm]) ?_ ?_ cN R9 rfl rfl DQ ?_);rfl;rfl;clear R9;intro AW R9 P9;have mT:=Ma.trans (P9.below (Nat.le_of_eq uf));have e0:=U (R9.cell 0);have WY:=I2.below mT (I2.lt (Nat.succ_pos _));have d_:(AW.alloc (.cells #[.int .i64 x.id,.int .i64 x.bj,.int .i64 x.kind,.string x.aW,.slice X1 x.opts.length y1,.slice X2 x.cA.length y2,.int .i64 x.value,.int .i64 x.de,.slice X3 x.texts.length y3,.int .i64 x.aP,.string x.code,.int .i64 x.bz,.int .i64 x.bB,.int .i64 x.words,.int .i64 x.ay,.slice X4 x.af.length y4,.int .i64 x.aH] 47)).ownsRow x8.heap.size 47 17 (.slice A k c) k Cs.flatten:=I (I a_ mT) (ai _ _);have iw:Below wr.heap.size wr (AW.alloc (.cells #[.int .i64 x.id,.int .i64 x.bj,.int .i64 x.kind,.string x.aW,.slice X1 x.opts.length y1,.slice X2 x.cA.length y2,.int .i64 x.value,.int .i64 x.de,.slice X3 x.texts.length y3,.int .i64 x.aP,.string x.code,.int .i64 x.bz,.int .i64 x.bB,.int .i64 x.words,.int .i64 x.ay,.slice X4 x.af.length y4,.int .i64 x.aH] 47)):=mT.trans ((ai AW _).mono mT.size);have xv:=Nat.le_trans zz iw.size;clear Ma P9;have cz:=trivial)
     |(clear aJ;(with_reducible refine bu (Z:=[.slice none 0 0,.int .i64 0,.int .i64 0,.slice none 0 0,.slice none 0 0,.slice none 0 0,.slice none 0 0]) gY vq ?_);intro NA g9 uf R9 Ma;have bC:=trivial)
     |(clear aL;(with_reducible refine cJ ?_ cN ON rfl ?_);rfl;have aJ:=trivial))
    try clear dX
    clear e0 R9 WY I2 ON uf mT DQ rC;generalize (AW.alloc (.cells #[.int .i64 x.id,.int .i64 x.bj,.int .i64 x.kind,.string x.aW,.slice X1 x.opts.length y1,.slice X2 x.cA.length y2,.int .i64 x.value,.int .i64 x.de,.slice X3 x.texts.length y3,.int .i64 x.aP,.string x.code,.int .i64 x.bz,.int .i64 x.bB,.int .i64 x.words,.int .i64 x.ay,.slice X4 x.af.length y4,.int .i64 x.aH] 47))=xa at*;obtain⟨X6,y6,rfl,_,_⟩:=aj yO;have rE:=fw.trans ((iw.mono zz).trans (bG d_ Aq (Nat.le_refl _) xv));clear d_ Aq iw xv a_ fw
    have ac7:(Cs++([[.int .i64 x.id,.int .i64 x.bj,.int .i64 x.kind,.string x.aW,.slice X1 x.opts.length y1,.slice X2 x.cA.length y2,.int .i64 x.value,.int .i64 x.de,.slice X3 x.texts.length y3,.int .i64 x.aP,.string x.code,.int .i64 x.bz,.int .i64 x.bB,.int .i64 x.words,.int .i64 x.ay,.slice X4 x.af.length y4,.int .i64 x.aH]]:List (List Value))).length=k+1:=by rw[List.length_append,Al];rfl
    have ac2:∀C∈Cs++([[.int .i64 x.id,.int .i64 x.bj,.int .i64 x.kind,.string x.aW,.slice X1 x.opts.length y1,.slice X2 x.cA.length y2,.int .i64 x.value,.int .i64 x.de,.slice X3 x.texts.length y3,.int .i64 x.aP,.string x.code,.int .i64 x.bz,.int .i64 x.bB,.int .i64 x.words,.int .i64 x.ay,.slice X4 x.af.length y4,.int .i64 x.aH]]:List (List Value)),C.length=17:=fun C hC=>by
     rcases List.mem_append.1 hC with hC|hC
     ·exact lV C hC
     ·rw[List.mem_singleton] at hC;subst hC;rfl
    have adj:=acm (R:=dO x8) (C:=([.int .i64 x.id,.int .i64 x.bj,.int .i64 x.kind,.string x.aW,.slice X1 x.opts.length y1,.slice X2 x.cA.length y2,.int .i64 x.value,.int .i64 x.de,.slice X3 x.texts.length y3,.int .i64 x.aP,.string x.code,.int .i64 x.bz,.int .i64 x.bB,.int .i64 x.words,.int .i64 x.ay,.slice X4 x.af.length y4,.int .i64 x.aH]:List Value)) Al dZ OG.out RV
    have ho7:w6.ownsRow x8.heap.size 47 17 (.slice X6 (k+1) y6) (k+1) (Cs++([[.int .i64 x.id,.int .i64 x.bj,.int .i64 x.kind,.string x.aW,.slice X1 x.opts.length y1,.slice X2 x.cA.length y2,.int .i64 x.value,.int .i64 x.de,.slice X3 x.texts.length y3,.int .i64 x.aP,.string x.code,.int .i64 x.bz,.int .i64 x.bB,.int .i64 x.words,.int .i64 x.ay,.slice X4 x.af.length y4,.int .i64 x.aH]]:List (List Value))).flatten:=by
     rw[List.flatten_append,List.flatten_cons,List.flatten_nil,List.append_nil];exact yO
    have tu:=@aS;clear Al lV dZ RV yO
    have hms:n5 - (intOf (.int .i64 ((k:Int)+1))).toNat<n5 - (intOf (.int .i64 (k:Int))).toNat:=by simp[intOf];omega
    exact⟨⟨k+1,X6,y6,Cs++([[.int .i64 x.id,.int .i64 x.bj,.int .i64 x.kind,.string x.aW,.slice X1 x.opts.length y1,.slice X2 x.cA.length y2,.int .i64 x.value,.int .i64 x.de,.slice X3 x.texts.length y3,.int .i64 x.aP,.string x.code,.int .i64 x.bz,.int .i64 x.bB,.int .i64 x.words,.int .i64 x.ay,.slice X4 x.af.length y4,.int .i64 x.aH]]:List (List Value)),aS,rfl,by go_num,ac7,ac2,ho7,adj,rE⟩,hms⟩
   ·obtain rfl:k=n5:=by omega
    have hlen:(lM b).length=k:=by unfold lM;rw[List.length_map];exact mL.out.symm
    have HI:ib wr A k (lM b):=⟨Cs,Al,hlen,bZ a_,fun i C x a c=>(dZ i C x a c).below fw⟩;have Dj:=az BB fw;have tw:=Ju SJ.out;have po:=Pu SJ.out
    have Sa:(lM b).length≤50:=by omega
    have NJ:=Lib.hid hlen;have NM:=E7 A k c (lM b) wr HI tw po (by omega) (hm.below Dj) (ht.below Dj) (O8.below Dj);obtain⟨PT,OH⟩:∃PT,PT=ag (bf (gD (lM b))):=⟨_,rfl⟩;rw[←OH] at NM;have Vu:=Lib.hid OH;clear OH Al lV a_ dZ fw BB O5 hlen aS
    go_wp2_with fail
    with_reducible refine NM.mono ?_
    clear NM;rintro e AX ⟨rfl,kc⟩;replace HI:=HI.below kc;replace Dj:=az Dj kc;clear kc
    go_wp2_with fail
    have SV:=EU PT (lM b) AX Vu.out tw po Sa (hm.below Dj) (ht.below Dj) (O8.below Dj);rw[NJ.out] at SV
    with_reducible refine SV.mono ?_
    clear SV;rintro e AY ⟨A9,c9,rfl,aft,wE⟩;replace HI:=HI.below wE;replace Dj:=az Dj wE;have HI2:=aft.Jq (Nat.le_of_eq NJ.out.symm);rw[List.take_of_length_le (Nat.le_of_eq NJ.out)] at HI2;clear wE aft;have HV1:=Lib.hid tw;clear tw po Sa Vu
    go_wp2_with fail
    go_loopw [66] (fun i wq=>∃j:Nat,j≤k∧i=.int .i64 (j:Int)∧Below AY.heap.size AY wq) (fun i _=>k - (intOf i).toNat)
    case atStart=>exact⟨0,Nat.zero_le _,rfl,Below.refl _ _⟩
    case round=>
     obtain⟨j,hj,rfl,fw⟩:=hrel
     by_cases aS:j<k
     ·obtain⟨it,hx⟩:∃it,(lM b)[j]? =some it:=⟨_,List.getElem?_eq_getElem (by rw[NJ.out];exact aS)⟩;obtain⟨bp,op,v1,v2,v3,v4,rfl,TK,pg⟩:=RH HI hx;obtain⟨bq,oq,u1,u2,u3,u4,rfl,vY,vZ⟩:=RH HI2 hx;have Av:=(jH (HV1.out it (List.mem_of_getElem? hx))).short
      have HSY:=fun W (hb:Below wr.heap.size wr W)=>U6 _ _ it W ((TK.below fw).below hb) ((vY.below fw).below hb) Av
      replace pg:=pg.below fw (pg.lt (Nat.succ_pos _));replace vZ:=vZ.below fw (vZ.lt (Nat.succ_pos _));unfold fS at HSY pg vZ;clear TK vY Av hx;have hlp:=block_lt_of_cell (pg 0 _ rfl);have uB:=block_lt_of_cell (vZ 0 _ rfl)
      go_wp2_with fail
      have bQ:∀p∈([
        (fun v _=>v=.slice (some ⟨bp,op,none⟩) k c),
        (fun v _=>v=.int .i64 (j:Int)),
        (fun v _=>v=.pointer (some ⟨bp,op+j*17,none⟩)),
        (fun v _=>v=.agg ([.int .i64 it.id,.int .i64 it.bj,.int .i64 it.kind,.string it.aW,v1,v2,.int .i64 it.value,.int .i64 it.de,v3,.int .i64 it.aP,.string it.code,.int .i64 it.bz,.int .i64 it.bB,.int .i64 it.words,.int .i64 it.ay,v4,.int .i64 it.aH]:List Value).toArray),
        (fun v _=>v=.slice (some ⟨bq,oq,none⟩) k c9),
        (fun v _=>v=.int .i64 (j:Int)),
        (fun v _=>v=.pointer (some ⟨bq,oq+j*17,none⟩)),
        (fun v _=>v=.agg ([.int .i64 it.id,.int .i64 it.bj,.int .i64 it.kind,.string it.aW,u1,u2,.int .i64 it.value,.int .i64 it.de,u3,.int .i64 it.aP,.string it.code,.int .i64 it.bz,.int .i64 it.bB,.int .i64 it.words,.int .i64 it.ay,u4,.int .i64 it.aH]:List Value).toArray),
        (fun v _=>v=.bool true)]:List (Value→World→Prop)),∀v w w',p v w→Below w.heap.size w w'→p v w':=by
       refine List.forall_mem_cons.2 ⟨fun _ _ _ h _=>h,List.forall_mem_cons.2 ⟨fun _ _ _ h _=>h,List.forall_mem_cons.2 ⟨fun _ _ _ h _=>h,List.forall_mem_cons.2 ⟨fun _ _ _ h _=>h,List.forall_mem_cons.2 ⟨fun _ _ _ h _=>h,List.forall_mem_cons.2 ⟨fun _ _ _ h _=>h,List.forall_mem_cons.2 ⟨fun _ _ _ h _=>h,List.forall_mem_cons.2 ⟨fun _ _ _ h _=>h,List.forall_mem_cons.2 ⟨fun _ _ _ h _=>h,(fun _ h=>by cases h)⟩⟩⟩⟩⟩⟩⟩⟩⟩
      refine cT (by kernel_rfl) 9 (fun _=>none) (fun wx=>True∧Below wr.heap.size wr wx) (fun _ w w'=>Below w.heap.size w w') _ (fun j v w w' i _ h hR=>fC bQ (fun _ _ _ _ _=>trivial) i v w w' h hR) (by kernel_rfl) (by kernel_rfl) (fun _ _ h=>by cases h) ⟨trivial,(Below.refl _ _).drew⟩ ?_ ?_
      ·clear bQ;refine⟨fun _ a wx hG hr hb K hK=>?_,?_⟩
       ·have e1:=aq (hb 7);rw[if_pos (by rfl)];unfold Oper.wp execOp
        go_simp
        exact hK _ _ rfl hG (Below.refl _ _)
       refine⟨fun _ a wx hG hr hb K hK=>?_,?_⟩
       ·have e1:=aq (hb 13);rw[if_pos (by rfl)];unfold Oper.wp execOp
        go_simp
        exact hK _ _ rfl hG (Below.refl _ _)
       refine⟨fun _ a wx hG hr hb K hK=>?_,?_⟩
       ·have e1:=aq (hr 0 69);have e2:=aq (hr 1 70);rw[if_pos (by rfl)];unfold Oper.wp execOp
        go_simp
        exact hK _ _ rfl hG (Below.refl _ _)
       refine⟨fun _ a wx hG hr hb K hK=>?_,?_⟩
       ·have e:=aM (hr 2 71);rw[if_pos (by rfl)];exact sE e aU (pg.below hG.2 hlp) rfl (hK _ _ rfl hG (Below.refl _ _))
       refine⟨fun _ a wx hG hr hb K hK=>?_,?_⟩
       ·have e1:=aq (hb 11);rw[if_pos (by rfl)];unfold Oper.wp execOp
        go_simp
        exact hK _ _ rfl hG (Below.refl _ _)
       refine⟨fun _ a wx hG hr hb K hK=>?_,?_⟩
       ·have e1:=aq (hb 13);rw[if_pos (by rfl)];unfold Oper.wp execOp
        go_simp
        exact hK _ _ rfl hG (Below.refl _ _)
       refine⟨fun _ a wx hG hr hb K hK=>?_,?_⟩
       ·have e1:=aq (hr 4 73);have e2:=aq (hr 5 74);rw[if_pos (by rfl)];unfold Oper.wp execOp
        go_simp
        exact hK _ _ rfl hG (Below.refl _ _)
       refine⟨fun _ a wx hG hr hb K hK=>?_,?_⟩
       ·have e:=aM (hr 6 75);rw[if_pos (by rfl)];exact sE e aU (vZ.below hG.2 uB) rfl (hK _ _ rfl hG (Below.refl _ _))
       refine⟨fun _ a wx hG hr hb K hK=>?_,?_⟩
       ·have e1:=aq (hr 3 72);have e2:=aq (hr 7 76);rw[if_pos (by rfl)];unfold Oper.wp execOp
        go_simp
        refine(HSY wx hG.2).mono ?_;rintro e' w' ⟨rfl,aY⟩;exact hK _ _ rfl ⟨trivial,hG.2.trans (aY.mono hG.2.size)⟩ aY
       exact⟨fun h=>absurd h (by decide),trivial⟩
      ·intro v wx oo AA hA ho hG hV K hK
       simp[dh,bD,List.range,List.range.loop,Act.put] at hA
       have e0:=aM (hV 0 (by decide) rfl);have e1:=aM (hV 1 (by decide) rfl);have e2:=aM (hV 2 (by decide) rfl);have e3:=aM (hV 3 (by decide) rfl);have e4:=aM (hV 4 (by decide) rfl);have e5:=aM (hV 5 (by decide) rfl);have e6:=aM (hV 6 (by decide) rfl);have e7:=aM (hV 7 (by decide) rfl);have e8:=aM (hV 8 (by decide) rfl);rw[e0,e1,e2,e3,e4,e5,e6,e7,e8] at hA;subst hA;clear hV e0 e1 e2 e3 e4 e5 e6 e7 e8
       try clear bQ
       have bU:some _=some oo:=ho
       injection bU with bU
       subst bU;clear ho;rw[if_pos (by rfl)];unfold Oper.wp execOp
       go_simp
       refine hK _ _ ?_;have xg:=fw.trans (hG.2.mono fw.size);clear hG hK fw pg vZ hlp uB HSY
       go_wp2_with fail
       go_roundw
       case rel=>exact⟨j+1,aS,by go_num,xg⟩
       case measure=>simp[intOf];omega
     ·obtain rfl:j=k:=by omega
      have zF:=az Dj fw
      go_wp2_with fail
      with_reducible refine(r9 _ (hm.below zF) (om.below zF) (ht.below zF) (O8.below zF)).mono ?_
      rintro e x9 ⟨rfl,eU⟩
      go_wp2_with fail
      go_ret
      exact⟨rfl,az zF eU⟩
end
end Go.Proofs.YtdnpopjabpklnaaGreatDoor
