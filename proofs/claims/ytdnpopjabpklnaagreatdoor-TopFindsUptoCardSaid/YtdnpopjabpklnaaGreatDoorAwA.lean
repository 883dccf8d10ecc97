/- Contracts and plain laws that the proof of the top laws uses (AwA). No condition beyond those stated. -/
import Derived.Test.YtdnpopjabpklnaaGreatDoorRdH
set_option maxRecDepth 100000
set_option maxHeartbeats 64000000
set_option linter.all false
namespace Go.Proofs.YtdnpopjabpklnaaGreatDoor
section
open Go.RowKit
open Tryz
theorem QB:gQ prog 24 [.slice none 0 0,.slice none 0 0]:=by unfold gQ;kernel_rfl
theorem cZ.Pp {w w':World} {base:Nat} {C:List Value} {b:cK} (h:cZ base w C b) (hb:Below w.heap.size w w'):cZ base w' C b:=
 h.aa (t:=95) (ah.ab hb)
theorem GI (w:World) (o:Obj):(w.alloc o).heap.size=w.heap.size+1:=by unfold World.alloc;exact Array.size_push _
theorem Hr (w:World) (t u:Nat) (xs ys:List Value):Row ((w.alloc (.cells xs.toArray t)).alloc (.cells ys.toArray u)) w.heap.size t xs∧Row ((w.alloc (.cells xs.toArray t)).alloc (.cells ys.toArray u)) (w.heap.size+1) u ys∧Below w.heap.size w ((w.alloc (.cells xs.toArray t)).alloc (.cells ys.toArray u)):=by
 have h2:=Row.new (w.alloc (.cells xs.toArray t)) u ys;rw[GI] at h2;exact⟨(Row.new w t xs).keep (ai _ _),h2,(ai w _).trans ((ai _ _).mono (by rw[GI];omega))⟩
theorem r9 (w:World) (hm:jl w) (om:rh w) (ht:Id.lk w) (hp:Id.lS w):
  Calls prog 6 #[] w fun e w'=>e=.returned (.bool true)∧Below w.heap.size w w':=by
 go_enter func6,ntmps6
 have aL:=trivial
 go_wp2_with (first
  |(clear dX;(with_reducible refine ak ?_ aU R3 rfl ?_);rfl;have fu:=trivial)
  |(clear cY;(with_reducible refine ak ?_ lT R1 rfl ?_);rfl;have dX:=trivial)
  |(clear cz;(with_reducible refine av (C:=[.int .i64 5,.int .i64 1,.int .i64 1,.string ⟨#[79,110,101,32,97,110,100,32,111,110,101,63]⟩,.slice (some ⟨x2.heap.size,0,none⟩) 2 2,.slice (some ⟨x2.heap.size+1,0,none⟩) 1 1,.int .i64 0,.int .i64 0,.slice none 0 0,.int .i64 1,.string ⟨#[65]⟩,.int .i64 0,.int .i64 0,.int .i64 0,.int .i64 60,.slice none 0 0,.int .i64 0]) ?_ ?_ aU R3 rfl rfl (by simp[Value.oneCell']) ?_);rfl;rfl;clear R3;intro x4 R3 P4;replace R1:=P4.row R1 (by omega);replace Z0:=P4.row Z0 (by omega);replace Z1:=P4.row Z1 (by omega);replace Z2:=P4.row Z2 (by omega);replace Z3:=P4.row Z3 (by omega);replace BB:=BB.trans (P4.below (by omega));clear P4;have cY:=trivial)
  |(clear bC;obtain⟨Z2,Z3,iM⟩:=Hr x2 9 3 [.string ⟨#[50]⟩,.string ⟨#[51]⟩] [.int .i64 0];replace R1:=R1.keep iM;replace Z0:=Z0.keep iM;replace Z1:=Z1.keep iM;replace BB:=az BB iM;have q0:=Z0.lt;have q1:=Z1.lt;have q2:=Z2.lt;have q3:=Z3.lt;have q4:=R1.lt;(with_reducible refine bu (Z:=Pm) fY vT ?_);intro x3 g3 ew R3 bh;rw[ew] at q0 q1 q2 q3 q4;replace R1:=R1.keep bh;replace Z0:=Z0.keep bh;replace Z1:=Z1.keep bh;replace Z2:=Z2.keep bh;replace Z3:=Z3.keep bh;replace BB:=az BB bh;clear bh;have cz:=trivial)
  |(clear aJ;(with_reducible refine av (C:=[.slice (some ⟨w.heap.size,0,none⟩) 1 1,.slice (some ⟨w.heap.size+1,0,none⟩) 1 1]) ?_ ?_ lT R1 rfl rfl (by simp[Value.oneCell']) ?_);rfl;rfl;clear R1;intro x2 R1 P2;replace Z0:=P2.row Z0 (by omega);replace Z1:=P2.row Z1 (by omega);have BB:=aC.trans (P2.below (by omega));clear P2 aC;have bC:=trivial)
  |(clear aL;obtain⟨Z0,Z1,cD⟩:=Hr w 3 3 [.int .i64 0] [.int .i64 1];have l0:=Z0.lt;have l1:=Z1.lt;(with_reducible refine bu (Z:=[.slice none 0 0,.slice none 0 0]) AL QB ?_);intro x1 g1 aR R1 aw;rw[aR] at l0 l1;replace Z0:=Z0.keep aw;replace Z1:=Z1.keep aw;have aC:=az cD aw;clear aw cD;have aJ:=trivial))
 try clear fu
 obtain⟨C1,nb⟩:∃C1,C1=yg K5 (.slice none 0 0) (.slice none 0 0) (.slice none 0 0) (.slice none 0 0) (.slice none 0 0):=⟨_,rfl⟩;obtain⟨C2,hC2⟩:∃C2,C2=yg K8 (.slice (some ⟨x2.heap.size,0,none⟩) 2 2) (.slice (some ⟨x2.heap.size+1,0,none⟩) 1 1) (.slice none 0 0) (.slice none 0 0) (.slice none 0 0):=⟨_,rfl⟩;have lb:=ai x4 (.cells (C1++C2).toArray 72);have RC:=Row.new x4 72 (C1++C2)
 have HW:Hid (x4.alloc (.cells (yg K5 (.slice none 0 0) (.slice none 0 0) (.slice none 0 0) (.slice none 0 0) (.slice none 0 0)++yg K8 (.slice (some ⟨x2.heap.size,0,none⟩) 2 2) (.slice (some ⟨x2.heap.size+1,0,none⟩) 1 1) (.slice none 0 0) (.slice none 0 0) (.slice none 0 0)).toArray 72)=x4.alloc (.cells (C1++C2).toArray 72)):=by unfold Hid;rw[nb,hC2]
 replace R1:=R1.keep lb;replace R3:=R3.keep lb;replace Z0:=Z0.keep lb;replace Z1:=Z1.keep lb;replace Z2:=Z2.keep lb;replace Z3:=Z3.keep lb;replace BB:=az BB lb
 show Calls _ _ _ (x4.alloc (.cells (yg K5 (.slice none 0 0) (.slice none 0 0) (.slice none 0 0) (.slice none 0 0) (.slice none 0 0)++yg K8 (.slice (some ⟨x2.heap.size,0,none⟩) 2 2) (.slice (some ⟨x2.heap.size+1,0,none⟩) 1 1) (.slice none 0 0) (.slice none 0 0) (.slice none 0 0)).toArray 72)) _
 rw[HW.out];clear HW lb;generalize x4.alloc (.cells (C1++C2).toArray 72)=x5 at*;generalize x4.heap.size=gc at*;generalize x2.heap.size=gs at*
 have l17:0<281474976710656:=by decide
 have S2:Strs x5 (.slice (some ⟨gs,0,none⟩) 2 2) [⟨#[50]⟩,⟨#[51]⟩]:=Strs.fK (base:=0) (e:=9) (uT Z2 rfl (by simp[maxLen]) (Nat.zero_le _));have S3:eI .i64 x5 (.slice (some ⟨gs+1,0,none⟩) 1 1) [0]:=eI.fK (base:=0) (e:=3) (uT Z3 rfl (by simp[maxLen]) (Nat.zero_le _));have S0:eI .i64 x5 (.slice (some ⟨w.heap.size,0,none⟩) 1 1) [0]:=eI.fK (base:=0) (e:=3) (uT Z0 rfl (by simp[maxLen]) (Nat.zero_le _));have S1:eI .i64 x5 (.slice (some ⟨w.heap.size+1,0,none⟩) 1 1) [1]:=eI.fK (base:=0) (e:=3) (uT Z1 rfl (by simp[maxLen]) (Nat.zero_le _));have Q0:dF x5 (some ⟨w.heap.size,0,none⟩) 1 1 ([0].map (Value.int .i64)):=Z0.sl.jZ;have Q1:dF x5 (some ⟨w.heap.size+1,0,none⟩) 1 1 ([1].map (Value.int .i64)):=Z1.sl.jZ;have E1:je x5 C1 K5:=⟨_,_,_,_,none,0,0,nb,Strs.nil _,eI.nil _ _,Strs.nil _,eI.nil _ _,⟨rfl,[],Sl.nil,fun i u r a=>by cases a⟩,Nat.le_refl _⟩;have E2:je x5 C2 K8:=⟨_,_,_,_,none,0,0,hC2,S2,S3,Strs.nil _,eI.nil _ _,⟨rfl,[],Sl.nil,fun i u r a=>by cases a⟩,Nat.le_refl _⟩
 have fh:qL x5 (some ⟨gc,0,none⟩) 2 [K5,K8]:=by
  refine⟨[C1,C2],rfl,rfl,⟨by simp[E1.len,E2.len],fun _=>⟨gc,0,rfl,?_⟩⟩,fun i D c a b=>?_⟩
  ·rw[List.flatten_cons,List.flatten_cons,List.flatten_nil,List.append_nil];exact RC.cl
  ·match i,a,b with
   |0,a,b=>simp only[List.getElem?_cons_zero,Option.some.injEq] at a b;subst a b;exact E1
   |1,a,b=>simp only[List.getElem?_cons_succ,List.getElem?_cons_zero,Option.some.injEq] at a b;subst a b;exact E2
   |n+2,a,b=>simp at a
 have HF:=uh (some ⟨w.heap.size,0,none⟩) (some ⟨w.heap.size+1,0,none⟩) (some ⟨gc,0,none⟩) 1 1 1 1 2 2 [0] [1] [K5,K8] x5 S0 S1 Q0 Q1 rfl rfl (by decide) (by decide) fh
  (fun c hc=>by simp only[List.mem_cons,List.not_mem_nil,or_false] at hc;rcases hc with rfl|rfl;exact abU;exact abV) (by decide) (by decide) (hm.below BB) (om.below BB)
 have I5:dO x5 [.int .i64 5,.int .i64 1,.int .i64 1,.string ⟨#[79,110,101,32,97,110,100,32,111,110,101,63]⟩,.slice (some ⟨gs,0,none⟩) 2 2,.slice (some ⟨gs+1,0,none⟩) 1 1,.int .i64 0,.int .i64 0,.slice none 0 0,.int .i64 1,.string ⟨#[65]⟩,.int .i64 0,.int .i64 0,.int .i64 0,.int .i64 60,.slice none 0 0,.int .i64 0] CM:=⟨_,_,_,_,rfl,S2,S3,Strs.nil _,eI.nil _ _⟩;clear E1 E2 fh S0 S1 S2 S3 Q0 Q1 nb hC2 RC Z0 Z1 Z2 Z3 l17
 with_reducible refine HF.mono ?_
 clear HF;rintro e x6 ⟨C,z,rfl,⟨jo,Lr⟩,rE,hz,qU⟩;obtain rfl:z=0:=hz.trans VW;obtain⟨b,m,hO,Xd,_,v_,uw⟩:=qU rfl;obtain rfl:m=2:=v_ (by decide);have abq:=VV Xd;replace R1:=R1.keep rE;replace R3:=R3.keep rE;replace I5:=I5.below rE;replace BB:=az BB rE;clear hz qU Xd v_ rE;have aL:=trivial
 go_wp2_with (first
  |(clear aJ;(with_reducible refine av (C:=C) ?_ ?_ aN R7 jo rfl Lr ?_);rfl;rfl;clear R7;intro x8 R7 P8;have eY:=mP.trans (P8.below (Nat.le_of_eq ry));clear mP P8 ry;have bC:=trivial)
  |(clear aL;(with_reducible refine bu dG fG ?_);intro x7 g7 ry R7 mP;have aJ:=trivial))
 try clear bC
 replace R1:=R1.keep eY;replace R3:=R3.keep eY;replace hO:=hO.Pp eY;replace I5:=I5.below eY;replace BB:=az BB eY;clear eY;have HPD:=Sw x8;unfold CR at HPD
 with_reducible refine HPD.mono ?_
 clear HPD;rintro e x9 ⟨QC,rfl,hQ,eU⟩;replace R1:=R1.keep eU;replace R3:=R3.keep eU;replace R7:=R7.keep eU;replace hO:=hO.Pp eU;replace I5:=I5.below eU;replace BB:=az BB eU;clear eU;have hQ6:=hQ.len;have hQ1:=hQ.one;have aL:=trivial
 go_wp2_with (first
  |(clear cz;(with_reducible refine ak ?_ bI R9 hQ6 ?_);rfl;have cY:=trivial)
  |(clear bC;(with_reducible refine ak ?_ aN R7 jo ?_);rfl;have cz:=trivial)
  |(clear aJ;(with_reducible refine av (C:=QC) ?_ ?_ bI R9 hQ6 rfl hQ1 ?_);rfl;rfl;clear R9;intro AW R9 P11;have mT:=Ma.trans (P11.below (Nat.le_of_eq uf));clear Ma P11 uf;replace R7:=R7.keep mT;have bC:=trivial)
  |(clear aL;(with_reducible refine bu eK dV ?_);intro NA g9 uf R9 Ma;have aJ:=trivial))
 try clear cY
 replace R1:=R1.keep mT;replace R3:=R3.keep mT;replace hO:=hO.Pp mT;replace I5:=I5.below mT;replace hQ:=hQ.below mT;replace BB:=az BB mT;clear mT
 have abA:iK b.entries (.state dK)=[5]:=by unfold iK;rw[abq];exact ZQ
 have HSE:=BU C QC b (.state dK) AW _ (hO.lower (Nat.zero_le _)) (fun e he=>⟨(uw.entry e he).ne,by have:=(uw.entry e he).aD;omega⟩) (by have:=uw.entries;omega) uw.ids abJ hQ;rw[abA] at HSE
 with_reducible refine HSE.mono ?_
 clear HSE abA;rintro e AX ⟨v,rfl,OL,kc⟩;replace R3:=R3.keep kc;replace I5:=I5.below kc;replace BB:=az BB kc;clear kc hO uw abq hQ R1 R7 R9;obtain⟨XL,yL,rfl,_,_⟩:=aj OL;have aL:=trivial
 go_wp2_with (first
  |(clear aL;(with_reducible refine ak ?_ aU R3 rfl ?_);rfl;have aJ:=trivial))
 try clear aJ
 have lb:=ai AX (.cells #[.int .i64 5,.int .i64 1,.int .i64 1,.string ⟨#[79,110,101,32,97,110,100,32,111,110,101,63]⟩,.slice (some ⟨gs,0,none⟩) 2 2,.slice (some ⟨gs+1,0,none⟩) 1 1,.int .i64 0,.int .i64 0,.slice none 0 0,.int .i64 1,.string ⟨#[65]⟩,.int .i64 0,.int .i64 0,.int .i64 0,.int .i64 60,.slice none 0 0,.int .i64 0] 47);have RI:=Row.new AX 47 [.int .i64 5,.int .i64 1,.int .i64 1,.string ⟨#[79,110,101,32,97,110,100,32,111,110,101,63]⟩,.slice (some ⟨gs,0,none⟩) 2 2,.slice (some ⟨gs+1,0,none⟩) 1 1,.int .i64 0,.int .i64 0,.slice none 0 0,.int .i64 1,.string ⟨#[65]⟩,.int .i64 0,.int .i64 0,.int .i64 0,.int .i64 60,.slice none 0 0,.int .i64 0];replace I5:=I5.below lb;replace OL:=I OL lb;replace BB:=az BB lb;clear lb R3
 show Calls _ _ _ (AX.alloc (.cells #[.int .i64 5,.int .i64 1,.int .i64 1,.string ⟨#[79,110,101,32,97,110,100,32,111,110,101,63]⟩,.slice (some ⟨gs,0,none⟩) 2 2,.slice (some ⟨gs+1,0,none⟩) 1 1,.int .i64 0,.int .i64 0,.slice none 0 0,.int .i64 1,.string ⟨#[65]⟩,.int .i64 0,.int .i64 0,.int .i64 0,.int .i64 60,.slice none 0 0,.int .i64 0] 47)) _
 replace RI:Row (AX.alloc (.cells #[.int .i64 5,.int .i64 1,.int .i64 1,.string ⟨#[79,110,101,32,97,110,100,32,111,110,101,63]⟩,.slice (some ⟨gs,0,none⟩) 2 2,.slice (some ⟨gs+1,0,none⟩) 1 1,.int .i64 0,.int .i64 0,.slice none 0 0,.int .i64 1,.string ⟨#[65]⟩,.int .i64 0,.int .i64 0,.int .i64 0,.int .i64 60,.slice none 0 0,.int .i64 0] 47)) AX.heap.size 47 [.int .i64 5,.int .i64 1,.int .i64 1,.string ⟨#[79,110,101,32,97,110,100,32,111,110,101,63]⟩,.slice (some ⟨gs,0,none⟩) 2 2,.slice (some ⟨gs+1,0,none⟩) 1 1,.int .i64 0,.int .i64 0,.slice none 0 0,.int .i64 1,.string ⟨#[65]⟩,.int .i64 0,.int .i64 0,.int .i64 0,.int .i64 60,.slice none 0 0,.int .i64 0]:=RI;generalize AX.alloc (.cells #[.int .i64 5,.int .i64 1,.int .i64 1,.string ⟨#[79,110,101,32,97,110,100,32,111,110,101,63]⟩,.slice (some ⟨gs,0,none⟩) 2 2,.slice (some ⟨gs+1,0,none⟩) 1 1,.int .i64 0,.int .i64 0,.slice none 0 0,.int .i64 1,.string ⟨#[65]⟩,.int .i64 0,.int .i64 0,.int .i64 0,.int .i64 60,.slice none 0 0,.int .i64 0] 47)=AY at*;generalize AX.heap.size=gp at*
 have HI:ib AY (some ⟨gp,0,none⟩) 1 [CM]:=by
  refine⟨[[.int .i64 5,.int .i64 1,.int .i64 1,.string ⟨#[79,110,101,32,97,110,100,32,111,110,101,63]⟩,.slice (some ⟨gs,0,none⟩) 2 2,.slice (some ⟨gs+1,0,none⟩) 1 1,.int .i64 0,.int .i64 0,.slice none 0 0,.int .i64 1,.string ⟨#[65]⟩,.int .i64 0,.int .i64 0,.int .i64 0,.int .i64 60,.slice none 0 0,.int .i64 0]],rfl,rfl,⟨rfl,fun _=>⟨gp,0,rfl,RI.cl⟩⟩,fun i D c a b=>?_⟩
  match i,a,b with
  |0,a,b=>simp only[List.getElem?_cons_zero,Option.some.injEq] at a b;subst a b;exact I5
  |n+1,a,b=>simp at a
 have tw:∀it∈ [CM],fb it=0:=fun it hi=>by rw[List.mem_singleton] at hi;subst hi;exact GK
 have po:([CM].map (·.id)).Nodup:=by simp
 have NM:=E7 (some ⟨gp,0,none⟩) 1 1 [CM] AY HI tw po (by decide) (hm.below BB) (ht.below BB) (hp.below BB);obtain⟨PT,OH⟩:∃PT,PT=ag (bf (gD [CM])):=⟨_,rfl⟩;rw[←OH] at NM;have Vu:=Lib.hid OH;clear OH HI I5 RI
 with_reducible refine NM.mono ?_
 clear NM;rintro e x14 ⟨rfl,WM⟩;replace OL:=I OL WM;replace BB:=az BB WM;clear WM
 go_wp2_with fail
 have SV:=EU PT [CM] x14 Vu.out tw po (by decide) (hm.below BB) (ht.below BB) (hp.below BB)
 with_reducible refine SV.mono ?_
 clear SV;rintro e x15 ⟨A,c,rfl,aft,WN⟩;replace OL:=I OL WN;replace BB:=az BB WN;clear WN;obtain⟨bp,op,D,rfl,_,aO,_,oI⟩:=(aft.Jq (Nat.le_refl _)).at_ (i:=0) (it:=CM) rfl;obtain⟨vo,vc,vt,va,rfl,_⟩:=oI
 have dI:x15.cell? ⟨bp,op,none⟩=some (.int .i64 5):=by
  have:=aO 0 (.int .i64 5) rfl
  simpa using this
 obtain⟨A9,c9,hA9,_,_,hs9⟩:=eI.fK OL;obtain⟨bl,ol,hAl,qz⟩:=hs9.2 (by decide)
 injection hA9 with hA9 _ _
 subst hA9;subst hAl
 have dL:x15.cell? ⟨bl,ol,none⟩=some (.int .i64 5):=by
  have:=qz 0 (.int .i64 5) rfl
  simpa using this
 clear aft aO OL hs9 qz tw po Vu
 go_wp2_with fail
 go_ret
 exact⟨rfl,BB⟩
end
end Go.Proofs.YtdnpopjabpklnaaGreatDoor
