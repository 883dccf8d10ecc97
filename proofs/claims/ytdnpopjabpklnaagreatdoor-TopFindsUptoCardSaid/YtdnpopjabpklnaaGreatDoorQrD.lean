/- Contracts and plain laws that the proof of the top laws uses (QrD). No condition beyond those stated. -/
import Derived.Test.YtdnpopjabpklnaaGreatDoorG14
set_option maxRecDepth 100000
set_option maxHeartbeats 64000000
set_option linter.all false
namespace Go.Proofs.YtdnpopjabpklnaaGreatDoor
section
open Go.RowKit
open Tryz
theorem aae:(prog.info? 76).map (fun i=>(i.zero,i.size,i.bytes))=some (some (.agg #[.int .i64 0,.int .i64 0,.int .i64 0,.string ByteArray.empty,.string ByteArray.empty,.slice none 0 0]),6,80):=by kernel_rfl
theorem Kp.Ry {L:List Nat} {w w1 w2:World} (h:Kp L w w1) {B:Nat} (hB:w.heap.size≤B) (hb:Below B w1 w2):Kp L w w2:=
 ⟨hb.os.trans h.os,hb.tape.trans h.tape,hb.output.trans h.output,Nat.le_trans h.size hb.size,fun k hk hl=>(hb.block k (by omega)).trans (h.block k hk hl)⟩
theorem ed.kp {base g:Nat} {w w':World} {q:fe} {C:List Value} (h:ed base w q C) (hk:Kp [g] w w') (hg:dE w g 113):ed base w' q C:=
 ed.aa (Kp.aa hk hg) (by decide) h
theorem dE.put {w w':World} {g b t:Nat} (h:dE w b t) (hp:cH g w w') (cu:b≠g):dE w' b t:=by
 obtain⟨cs,fr,h⟩:=h;exact⟨cs,fr,(hp.block b cu).trans h⟩
theorem ed.cells {base:Nat} {w:World} {q:fe} {C:List Value} (h:ed base w q C):∃(kd:Int) (s:ByteArray) (X:Option Addr) (m y:Nat),C=[.int .i64 kd,.int .i64 0,.int .i64 0,.string cw,.string s,.slice X m y]:=by
 cases q with
 |state s=>obtain⟨rfl,_⟩:=h;exact⟨6,s,none,0,0,rfl⟩
 |neg k=>obtain⟨b,c,Ck,rfl,_⟩:=h;exact⟨3,cw,_,_,_,rfl⟩
 |alt a d=>obtain⟨b,c,Ca,Cd,rfl,_⟩:=h;exact⟨2,cw,_,_,_,rfl⟩
theorem iW (kd:Int) (s:ByteArray) (X:Option Addr) (m y:Nat):∀u∈([.int .i64 kd,.int .i64 0,.int .i64 0,.string cw,.string s,.slice X m y]:List Value),u.oneCell'=true:=by
 intro u hu;simp only[List.mem_cons,List.not_mem_nil,or_false] at hu;rcases hu with rfl|rfl|rfl|rfl|rfl|rfl<;>rfl
theorem ET {w:World} {base b t k:Nat} {C:List Value} (h:Row w b t C) (hk:C.length=k) (hb:base≤b):w.ownsRow base t k (.slice (some ⟨b,0,none⟩) 1 1) 1 C:=
 ⟨by omega,.inr ⟨b,1,C.toArray,rfl,hb,h,Nat.le_refl _,by simp[maxLen],by simp[hk],by rw[List.toList_toArray,List.take_of_length_le (by omega)]⟩⟩
theorem IH (w:World) (g k k2:Nat) (ch:List gF) (q1:fe) (x1:gF) (q2:fe) (k3:Nat) (x2:gF) (h:eB w g ch k) (tj:∀W,eB W g ch k→Calls prog 100 #[.pointer (some ⟨g,0,none⟩)] W (QP W g ch k2 q1)) (aw:ch[k2]? =some x1) (tp:jG x1 ⟨#[111,114]⟩=true) (SN:∀W,eB W g ch (k2+1)→Calls prog 100 #[.pointer (some ⟨g,0,none⟩)] W (QP W g ch k3 q2)) (aF:ch[k3]? =some x2) (TL:jG x2 ⟨#[111,114]⟩=false):
  Calls prog 99 #[.pointer (some ⟨g,0,none⟩),.string ⟨#[111,114]⟩,.int .i64 2,.func (.func 100) #[.pointer (some ⟨g,0,none⟩)] #[]] w (QP w g ch k3 (.alt q1 q2)):=by
 have PR:=h;have jW:=h.ty.lt;have zI:=Lib.hid aw;have Ke:=Lib.hid tp;clear h aw tp;have Vy:=Lib.hid aF;have HA2:=Lib.hid TL;clear aF TL
 go_enter func99,ntmps99
 have aL:=trivial
 go_wp2_with (first
  |(clear aL;(with_reducible refine bu eK dV ?_);intro x1 g2 aR R2 aw;have fP:=Nat.le_of_eq aR;replace PR:=PR.aa (t:=76) (ah.ab aw);have BB:=aw;clear aw aR;have aJ:=trivial))
 try clear aJ
 have KK:Kp [g] w x1:=Kp.ab BB;clear BB;have Ut:=R2.lt;have mb:=KK.size;have jK:=PR.ty
 with_reducible refine(tj _ PR).mono ?_
 clear PR;rintro r x2 ⟨C1,rfl,iC,PR,hk⟩;obtain⟨kR,s1,X1,m1,y1,rfl⟩:=iC.cells;replace R2:=R2.kp hk (by(simp only[List.mem_singleton,List.mem_cons,List.not_mem_nil,or_false];omega));replace KK:=KK.trans hk;clear jK;clear hk;have aJ:=trivial
 go_wp2_with (first
  |(clear cz;(with_reducible refine ak ?_ bI eZ rfl ?_);rfl;have cY:=trivial)
  |(clear bC;(with_reducible refine av (C:=[.int .i64 kR,.int .i64 0,.int .i64 0,.string cw,.string s1,.slice X1 m1 y1]) ?_ ?_ bI eZ rfl rfl (iW _ _ _ _ _) ?_);rfl;rfl;clear eZ;intro x4 eZ Px;have hb:=hx.trans (Px.below (Nat.le_of_eq ew));have JR:w.heap.size≤g10:=(by have:=KK.size;omega);have MD:g2≠g10:=(by have:=R2.lt;omega);replace R2:=R2.keep hb;replace PR:=PR.keep hb;replace KK:=KK.trans (Kp.ab hb);replace iC:=iC.below hb;clear Px hx hb ew;have cz:=trivial)
  |(clear aJ;(with_reducible refine bu eK dV ?_);intro x3 g10 ew eZ hx;have bC:=trivial))
 try clear cY
 have H1:=Lib.hid iC;have Kk:=Lib.hid PR.ty;obtain⟨wb,yU⟩:∃wb,wb=x4.alloc (.cells #[.int .i64 kR,.int .i64 0,.int .i64 0,.string cw,.string s1,.slice X1 m1 y1] 76):=⟨_,rfl⟩
 have hb:Below x4.heap.size x4 wb:=by rw[yU];exact ai _ _
 have RK:Row wb x4.heap.size 76 [.int .i64 kR,.int .i64 0,.int .i64 0,.string cw,.string s1,.slice X1 m1 y1]:=by rw[yU];exact Row.new _ _ _
 have Ux:g2<x4.heap.size:=R2.lt;have Sk:g10<x4.heap.size:=eZ.lt;have Sd:w.heap.size≤x4.heap.size:=KK.size;replace R2:=R2.keep hb;replace eZ:=eZ.keep hb;replace PR:=PR.keep hb;replace iC:=iC.below hb;replace KK:=KK.trans (Kp.ab hb);have OK:=ET RK rfl (Nat.le_refl x4.heap.size);have cM:=RK.lt;rw[←yU];have KB:Kp [g] x4 wb:=Kp.ab hb;obtain⟨B,yE⟩:∃B,B=x4.heap.size:=⟨_,rfl⟩;rw[←yE] at cM Ux Sk Sd OK ⊢;have HB:=Lib.hid yE;clear yU RK hb iC yE
 go_loopg [12] 1 (fun gg U5 wr=>Row wr g2 76 [.int .i64 0,.int .i64 0,.int .i64 0,.string cw,.string cw,.slice none 0 0]∧Row wr g10 76 [.int .i64 kR,.int .i64 0,.int .i64 0,.string cw,.string s1,.slice X1 m1 y1]∧Kp [g] x4 wr∧Kp [g] w wr∧B<wr.heap.size∧((gg=1∧U5=.slice (some ⟨B,0,none⟩) 1 1∧wr.ownsRow B 76 6 (.slice (some ⟨B,0,none⟩) 1 1) 1 [.int .i64 kR,.int .i64 0,.int .i64 0,.string cw,.string s1,.slice X1 m1 y1]∧eB wr g ch k2)∨(gg=0∧∃(AE:Int) (s2:ByteArray) (X2:Option Addr) (m2 y2:Nat),wr.ownsRow B 76 6 U5 2 ([.int .i64 kR,.int .i64 0,.int .i64 0,.string cw,.string s1,.slice X1 m1 y1]++ [.int .i64 AE,.int .i64 0,.int .i64 0,.string cw,.string s2,.slice X2 m2 y2])∧ed (B+1) wr q2 [.int .i64 AE,.int .i64 0,.int .i64 0,.string cw,.string s2,.slice X2 m2 y2]∧eB wr g ch k3)))
 case atStart=>exact⟨R2,eZ,KB,KK,cM,Or.inl ⟨rfl,rfl,OK,PR⟩⟩
 case round=>
  clear R2 eZ KK OK PR cM KB;obtain⟨R2,eZ,KB,KK,cM,bQ⟩:=hrel
  rcases bQ with ⟨gJ,rfl,OK,PR⟩|⟨gJ,AE,s2,X2,m2,y2,OK,pR,PR⟩
  ·skip
   go_wp2_with fail
   have jK:=PR.ty
   with_reducible refine(jr _ g k2 ch _ ⟨#[111,114]⟩ PR zI.out).mono ?_
   clear PR;rintro r x5 ⟨rfl,PR,hk⟩;rw[Ke.out] at PR;rw[if_pos rfl] at PR;rw[Ke.out];replace cM:=Nat.lt_of_lt_of_le cM hk.size;replace KB:=KB.trans hk;replace R2:=R2.kp hk (by(simp only[List.mem_singleton,List.mem_cons,List.not_mem_nil,or_false];omega));replace eZ:=eZ.kp hk (by(simp only[List.mem_singleton,List.mem_cons,List.not_mem_nil,or_false];omega));replace OK:=(Kp.aa hk jK).own OK;replace KK:=KK.trans hk;clear jK;clear hk
   go_wp2_with fail
   have jK:=PR.ty
   with_reducible refine(SN _ PR).mono ?_
   clear PR;rintro r x6 ⟨C2,rfl,pR,PR,hk⟩;obtain⟨AE,s2,X2,m2,y2,rfl⟩:=pR.cells;replace pR:=pR.lower (show B+1≤x5.heap.size by omega);replace cM:=Nat.lt_of_lt_of_le cM hk.size;replace KB:=KB.trans hk;replace R2:=R2.kp hk (by(simp only[List.mem_singleton,List.mem_cons,List.not_mem_nil,or_false];omega));replace eZ:=eZ.kp hk (by(simp only[List.mem_singleton,List.mem_cons,List.not_mem_nil,or_false];omega));replace OK:=(Kp.aa hk jK).own OK;replace KK:=KK.trans hk;clear jK;clear hk;have cY:=trivial
   go_wp2_with (first
    |(clear gK;(refine cv (by rfl) (.tmp 36) (.tmp 38) 74 (by rfl) B 76 _ 6 80 underlying74 aae rfl (by decide) (.slice (some ⟨B,0,none⟩) 1 1) 1 [.int .i64 kR,.int .i64 0,.int .i64 0,.string cw,.string s1,.slice X1 m1 y1] (some ⟨x8.heap.size,0,none⟩) 1 1 [.int .i64 AE,.int .i64 0,.int .i64 0,.string cw,.string s2,.slice X2 m2 y2] (by rfl) (by rfl) (bN OK (.cells #[.int .i64 AE,.int .i64 0,.int .i64 0,.string cw,.string s2,.slice X2 m2 y2] 76)) ⟨rfl,fun _=>⟨_,_,rfl,(Row.new x8 76 [.int .i64 AE,.int .i64 0,.int .i64 0,.string cw,.string s2,.slice X2 m2 y2]).cl⟩⟩ (iW _ _ _ _ _) (by unfold maxLen;omega) (by omega) (by simp;omega) ?_);intro v2 w2 gM gy)
    |(clear fu;(with_reducible refine ak ?_ bI ZF rfl ?_);rfl;have gK:=trivial)
    |(clear dX;(with_reducible refine av (C:=[.int .i64 AE,.int .i64 0,.int .i64 0,.string cw,.string s2,.slice X2 m2 y2]) ?_ ?_ bI ZF rfl rfl (iW _ _ _ _ _) ?_);rfl;rfl;clear ZF;intro x8 ZF Px;have hb:=hx.trans (Px.below (Nat.le_of_eq ry));have aeN:w.heap.size≤g13:=(by have:=KK.size;omega);have ad6:g2≠g13:=(by have:=R2.lt;omega);have acp:g10≠g13:=(by have:=eZ.lt;omega);replace R2:=R2.keep hb;replace eZ:=eZ.keep hb;replace cM:=Nat.lt_of_lt_of_le cM hb.size;replace OK:=I OK hb;replace KB:=KB.trans (Kp.ab hb);replace PR:=PR.keep hb;replace KK:=KK.trans (Kp.ab hb);replace pR:=pR.below hb;clear Px hx hb ry;have fu:=trivial)
    |(clear cY;(with_reducible refine bu eK dV ?_);intro x7 g13 ry ZF hx;have dX:=trivial))
   try clear gK
   have hl:=ai x8 (.cells #[.int .i64 AE,.int .i64 0,.int .i64 0,.string cw,.string s2,.slice X2 m2 y2] 76);have OA:=bN OK (.cells #[.int .i64 AE,.int .i64 0,.int .i64 0,.string cw,.string s2,.slice X2 m2 y2] 76);have e_:=bG OA gy (Nat.le_refl B) (Nat.le_of_lt (Nat.lt_of_lt_of_le cM hl.size));have kt:=dN OA gy;have R2z:=(e_.block g2 Ux).trans (R2.keep hl);have acx:=(e_.block g10 Sk).trans (eZ.keep hl);have PRz:=(PR.keep hl).aa kt (by decide) (by decide);have KBz:=(KB.trans (Kp.ab hl)).Ry (by rw[HB.out];exact Nat.le_refl _) e_;have KKz:=(KK.trans (Kp.ab hl)).Ry Sd e_;have adF:ed (B+1) w2 q2 [.int .i64 AE,.int .i64 0,.int .i64 0,.string cw,.string s2,.slice X2 m2 y2]:=(pR.below hl).kept (fun b cs fr hb hh=>by rw[gy.block b (Array.getElem?_eq_some_iff.1 hh).1 (fun e=>by injection e with e;simp only at e;omega)];exact hh) (Nat.le_refl _);have XS:B<w2.heap.size:=Nat.lt_of_lt_of_le (Nat.lt_of_lt_of_le cM hl.size) gy.size
   go_roundg 0
   case measure=>omega
   case rel=>exact⟨R2z,acx,KBz,KKz,XS,Or.inr ⟨rfl,AE,s2,X2,m2,y2,gM,adF,PRz⟩⟩
  ·skip
   obtain⟨X,y,hX,_,_⟩:=aj OK;subst hX
   go_wp2_with fail
   have jK:=PR.ty
   with_reducible refine(jr _ g k3 ch _ ⟨#[111,114]⟩ PR Vy.out).mono ?_
   clear PR;rintro r x5 ⟨rfl,PR,hk⟩;rw[HA2.out] at PR;rw[if_neg (by decide)] at PR;rw[HA2.out];replace KB:=KB.trans hk;replace R2:=R2.kp hk (by(simp only[List.mem_singleton,List.mem_cons,List.not_mem_nil,or_false];omega));replace eZ:=eZ.kp hk (by(simp only[List.mem_singleton,List.mem_cons,List.not_mem_nil,or_false];omega));replace OK:=(Kp.aa hk jK).own OK;replace pR:=ed.aa (Kp.aa hk jK) (by decide) pR;replace KK:=KK.trans hk;clear jK;clear hk;have aL:=trivial
   go_wp2_with (first
    |(clear aL;(with_reducible refine av (C:=[.int .i64 2,.int .i64 0,.int .i64 0,.string cw,.string cw,.slice X 2 y]) ?_ ?_ bI R2 rfl rfl (iW _ _ _ _ _) ?_);rfl;rfl;intro wz RZ Pz;have aJ:=trivial))
   refine bodyPost_ret (bH rfl _ rfl bI RZ rfl) rfl ?_;obtain⟨b,cap,hv,_,_,hBb,dW,aO,_⟩:=cj OK (by omega)
   injection hv with e1 _ e3
   subst e1 e3
   have xg:b≠g2:=by omega
   have q1z:=((H1.out.kp KB Kk.out).put Pz Ut).lower mb
   have nX:w.heap.size≤B+1:=by omega
   exact⟨_,rfl,⟨b,_,[.int .i64 kR,.int .i64 0,.int .i64 0,.string cw,.string s1,.slice X1 m1 y1],[.int .i64 AE,.int .i64 0,.int .i64 0,.string cw,.string s2,.slice X2 m2 y2],rfl,by omega,aO.kp (Kp.dr Pz (L:=[g2]) (by simp)) (by simpa using xg),dW.put Pz xg,rfl,rfl,q1z,(pR.put Pz (by omega)).lower nX⟩,PR.aa (Pz.aa R2.ty),((KK.mono (M:=[g,g2]) (by simp)).trans (Kp.dr Pz (by simp))).less (M:=[g]) (fun k hk=>by(simp only[List.mem_singleton,List.mem_cons,List.not_mem_nil,or_false] at hk ⊢;omega))⟩
theorem Q_ {P:Prop} (h:P:=by
 refine bodyPost_ret (bH rfl _ rfl bI RZ rfl) rfl ?_
 exact⟨_,rfl,(iC.put Pz Ut).lower mb,PR.aa (Pz.aa R2.ty),((KK.mono (M:=[g,g2]) (by simp)).trans (Kp.dr Pz (by simp))).less (M:=[g]) (fun k hk=>by(simp only[List.mem_singleton,List.mem_cons,List.not_mem_nil,or_false] at hk ⊢;omega))⟩):P:=h
theorem IF (w:World) (g k k2:Nat) (ch:List gF) (q1:fe) (x1:gF) (h:eB w g ch k) (tj:∀W,eB W g ch k→Calls prog 154 #[.pointer (some ⟨g,0,none⟩)] W (QP W g ch k2 q1)) (aw:ch[k2]? =some x1) (tp:jG x1 ⟨#[97,110,100]⟩=false):
  Calls prog 99 #[.pointer (some ⟨g,0,none⟩),.string ⟨#[97,110,100]⟩,.int .i64 1,.func (.func 154) #[.pointer (some ⟨g,0,none⟩)] #[]] w (QP w g ch k2 (q1)):=by
 have PR:=h;have jW:=h.ty.lt;have zI:=Lib.hid aw;have Ke:=Lib.hid tp;clear h aw tp
 go_enter func99,ntmps99
 have aL:=trivial
 go_wp2_with (first
  |(clear aL;(with_reducible refine bu eK dV ?_);intro x1 g2 aR R2 aw;have fP:=Nat.le_of_eq aR;replace PR:=PR.aa (t:=76) (ah.ab aw);have BB:=aw;clear aw aR;have aJ:=trivial))
 try clear aJ
 have KK:Kp [g] w x1:=Kp.ab BB;clear BB;have Ut:=R2.lt;have mb:=KK.size;have jK:=PR.ty
 with_reducible refine(tj _ PR).mono ?_
 clear PR;rintro r x2 ⟨C1,rfl,iC,PR,hk⟩;obtain⟨kR,s1,X1,m1,y1,rfl⟩:=iC.cells;replace R2:=R2.kp hk (by(simp only[List.mem_singleton,List.mem_cons,List.not_mem_nil,or_false];omega));replace KK:=KK.trans hk;clear jK;clear hk;have aJ:=trivial
 go_wp2_with (first
  |(clear cz;(with_reducible refine ak ?_ bI eZ rfl ?_);rfl;have cY:=trivial)
  |(clear bC;(with_reducible refine av (C:=[.int .i64 kR,.int .i64 0,.int .i64 0,.string cw,.string s1,.slice X1 m1 y1]) ?_ ?_ bI eZ rfl rfl (iW _ _ _ _ _) ?_);rfl;rfl;clear eZ;intro x4 eZ Px;have hb:=hx.trans (Px.below (Nat.le_of_eq ew));have JR:w.heap.size≤g10:=(by have:=KK.size;omega);have MD:g2≠g10:=(by have:=R2.lt;omega);replace R2:=R2.keep hb;replace PR:=PR.keep hb;replace KK:=KK.trans (Kp.ab hb);replace iC:=iC.below hb;clear Px hx hb ew;have cz:=trivial)
  |(clear aJ;(with_reducible refine bu eK dV ?_);intro x3 g10 ew eZ hx;have bC:=trivial))
 try clear cY
 obtain⟨wb,yU⟩:∃wb,wb=x4.alloc (.cells #[.int .i64 kR,.int .i64 0,.int .i64 0,.string cw,.string s1,.slice X1 m1 y1] 76):=⟨_,rfl⟩
 have hb:Below x4.heap.size x4 wb:=by rw[yU];exact ai _ _
 have RK:Row wb x4.heap.size 76 [.int .i64 kR,.int .i64 0,.int .i64 0,.string cw,.string s1,.slice X1 m1 y1]:=by rw[yU];exact Row.new _ _ _
 have Ux:g2<x4.heap.size:=R2.lt;have Sk:g10<x4.heap.size:=eZ.lt;have Sd:w.heap.size≤x4.heap.size:=KK.size;replace R2:=R2.keep hb;replace eZ:=eZ.keep hb;replace PR:=PR.keep hb;replace iC:=iC.below hb;replace KK:=KK.trans (Kp.ab hb);have OK:=ET RK rfl (Nat.le_refl x4.heap.size);have cM:=RK.lt;rw[←yU];generalize x4.heap.size=B at*;clear yU RK hb
 go_loopg [12] 0 (fun gg U5 wr=>Row wr g2 76 [.int .i64 0,.int .i64 0,.int .i64 0,.string cw,.string cw,.slice none 0 0]∧Row wr g10 76 [.int .i64 kR,.int .i64 0,.int .i64 0,.string cw,.string s1,.slice X1 m1 y1]∧ed x1.heap.size wr q1 [.int .i64 kR,.int .i64 0,.int .i64 0,.string cw,.string s1,.slice X1 m1 y1]∧Kp [g] w wr∧B<wr.heap.size∧(gg=0∧∃kids,wr.ownsRow B 76 6 U5 1 kids∧kids=[.int .i64 kR,.int .i64 0,.int .i64 0,.string cw,.string s1,.slice X1 m1 y1]∧eB wr g ch k2))
 case atStart=>exact⟨R2,eZ,iC,KK,cM,⟨rfl,_,OK,rfl,PR⟩⟩
 case round=>
  clear R2 eZ iC KK OK PR cM;obtain⟨R2,eZ,iC,KK,cM,bQ⟩:=hrel;obtain⟨gJ,kids,OK,rfl,PR⟩:=bQ;obtain⟨X,y,hX,_,_⟩:=aj OK;subst hX
  go_wp2_with fail
  have jK:=PR.ty
  with_reducible refine(jr _ g k2 ch _ ⟨#[97,110,100]⟩ PR zI.out).mono ?_
  clear PR;rintro r x5 ⟨rfl,PR,hk⟩;rw[Ke.out] at PR;rw[if_neg (by decide)] at PR;rw[Ke.out];replace R2:=R2.kp hk (by(simp only[List.mem_singleton,List.mem_cons,List.not_mem_nil,or_false];omega));replace eZ:=eZ.kp hk (by(simp only[List.mem_singleton,List.mem_cons,List.not_mem_nil,or_false];omega));replace iC:=ed.aa (Kp.aa hk jK) (by decide) iC;replace KK:=KK.trans hk;clear jK;clear hk;have aL:=trivial
  go_wp2_with (first
   |(clear aJ;(with_reducible refine av (C:=[.int .i64 kR,.int .i64 0,.int .i64 0,.string cw,.string s1,.slice X1 m1 y1]) ?_ ?_ bI R2 rfl rfl (iW _ _ _ _ _) ?_);rfl;rfl;intro wz RZ Pz;have bC:=trivial)
   |(clear aL;(with_reducible refine ak ?_ bI eZ rfl ?_);rfl;have aJ:=trivial))
  exact Q_
theorem IG (w:World) (g k k2:Nat) (ch:List gF) (q1:fe) (x1:gF) (h:eB w g ch k) (tj:∀W,eB W g ch k→Calls prog 100 #[.pointer (some ⟨g,0,none⟩)] W (QP W g ch k2 q1)) (aw:ch[k2]? =some x1) (tp:jG x1 ⟨#[111,114]⟩=false):
  Calls prog 99 #[.pointer (some ⟨g,0,none⟩),.string ⟨#[111,114]⟩,.int .i64 2,.func (.func 100) #[.pointer (some ⟨g,0,none⟩)] #[]] w (QP w g ch k2 (q1)):=by
 have PR:=h;have jW:=h.ty.lt;have zI:=Lib.hid aw;have Ke:=Lib.hid tp;clear h aw tp
 go_enter func99,ntmps99
 have aL:=trivial
 go_wp2_with (first
  |(clear aL;(with_reducible refine bu eK dV ?_);intro x1 g2 aR R2 aw;have fP:=Nat.le_of_eq aR;replace PR:=PR.aa (t:=76) (ah.ab aw);have BB:=aw;clear aw aR;have aJ:=trivial))
 try clear aJ
 have KK:Kp [g] w x1:=Kp.ab BB;clear BB;have Ut:=R2.lt;have mb:=KK.size;have jK:=PR.ty
 with_reducible refine(tj _ PR).mono ?_
 clear PR;rintro r x2 ⟨C1,rfl,iC,PR,hk⟩;obtain⟨kR,s1,X1,m1,y1,rfl⟩:=iC.cells;replace R2:=R2.kp hk (by(simp only[List.mem_singleton,List.mem_cons,List.not_mem_nil,or_false];omega));replace KK:=KK.trans hk;clear jK;clear hk;have aJ:=trivial
 go_wp2_with (first
  |(clear cz;(with_reducible refine ak ?_ bI eZ rfl ?_);rfl;have cY:=trivial)
  |(clear bC;(with_reducible refine av (C:=[.int .i64 kR,.int .i64 0,.int .i64 0,.string cw,.string s1,.slice X1 m1 y1]) ?_ ?_ bI eZ rfl rfl (iW _ _ _ _ _) ?_);rfl;rfl;clear eZ;intro x4 eZ Px;have hb:=hx.trans (Px.below (Nat.le_of_eq ew));have JR:w.heap.size≤g10:=(by have:=KK.size;omega);have MD:g2≠g10:=(by have:=R2.lt;omega);replace R2:=R2.keep hb;replace PR:=PR.keep hb;replace KK:=KK.trans (Kp.ab hb);replace iC:=iC.below hb;clear Px hx hb ew;have cz:=trivial)
  |(clear aJ;(with_reducible refine bu eK dV ?_);intro x3 g10 ew eZ hx;have bC:=trivial))
 try clear cY
 obtain⟨wb,yU⟩:∃wb,wb=x4.alloc (.cells #[.int .i64 kR,.int .i64 0,.int .i64 0,.string cw,.string s1,.slice X1 m1 y1] 76):=⟨_,rfl⟩
 have hb:Below x4.heap.size x4 wb:=by rw[yU];exact ai _ _
 have RK:Row wb x4.heap.size 76 [.int .i64 kR,.int .i64 0,.int .i64 0,.string cw,.string s1,.slice X1 m1 y1]:=by rw[yU];exact Row.new _ _ _
 have Ux:g2<x4.heap.size:=R2.lt;have Sk:g10<x4.heap.size:=eZ.lt;have Sd:w.heap.size≤x4.heap.size:=KK.size;replace R2:=R2.keep hb;replace eZ:=eZ.keep hb;replace PR:=PR.keep hb;replace iC:=iC.below hb;replace KK:=KK.trans (Kp.ab hb);have OK:=ET RK rfl (Nat.le_refl x4.heap.size);have cM:=RK.lt;rw[←yU];generalize x4.heap.size=B at*;clear yU RK hb
 go_loopg [12] 0 (fun gg U5 wr=>Row wr g2 76 [.int .i64 0,.int .i64 0,.int .i64 0,.string cw,.string cw,.slice none 0 0]∧Row wr g10 76 [.int .i64 kR,.int .i64 0,.int .i64 0,.string cw,.string s1,.slice X1 m1 y1]∧ed x1.heap.size wr q1 [.int .i64 kR,.int .i64 0,.int .i64 0,.string cw,.string s1,.slice X1 m1 y1]∧Kp [g] w wr∧B<wr.heap.size∧(gg=0∧∃kids,wr.ownsRow B 76 6 U5 1 kids∧kids=[.int .i64 kR,.int .i64 0,.int .i64 0,.string cw,.string s1,.slice X1 m1 y1]∧eB wr g ch k2))
 case atStart=>exact⟨R2,eZ,iC,KK,cM,⟨rfl,_,OK,rfl,PR⟩⟩
 case round=>
  clear R2 eZ iC KK OK PR cM;obtain⟨R2,eZ,iC,KK,cM,bQ⟩:=hrel;obtain⟨gJ,kids,OK,rfl,PR⟩:=bQ;obtain⟨X,y,hX,_,_⟩:=aj OK;subst hX
  go_wp2_with fail
  have jK:=PR.ty
  with_reducible refine(jr _ g k2 ch _ ⟨#[111,114]⟩ PR zI.out).mono ?_
  clear PR;rintro r x5 ⟨rfl,PR,hk⟩;rw[Ke.out] at PR;rw[if_neg (by decide)] at PR;rw[Ke.out];replace R2:=R2.kp hk (by(simp only[List.mem_singleton,List.mem_cons,List.not_mem_nil,or_false];omega));replace eZ:=eZ.kp hk (by(simp only[List.mem_singleton,List.mem_cons,List.not_mem_nil,or_false];omega));replace iC:=ed.aa (Kp.aa hk jK) (by decide) iC;replace KK:=KK.trans hk;clear jK;clear hk;have aL:=trivial
  go_wp2_with (first
   |(clear aJ;(with_reducible refine av (C:=[.int .i64 kR,.int .i64 0,.int .i64 0,.string cw,.string s1,.slice X1 m1 y1]) ?_ ?_ bI R2 rfl rfl (iW _ _ _ _ _) ?_);rfl;rfl;intro wz RZ Pz;have bC:=trivial)
   |(clear aL;(with_reducible refine ak ?_ bI eZ rfl ?_);rfl;have aJ:=trivial))
  exact Q_
theorem Ic {P:Prop} (h:P:=by
 have aL:=trivial
 go_wp2_with (first
  |(clear aL;(with_reducible refine bu eK dV ?_);intro x1 g2 aR R2 aw;have fP:=Nat.le_of_eq aR;replace PR:=PR.aa (t:=76) (ah.ab aw);have BB:=aw;clear aw aR;have aJ:=trivial))
 try clear aJ
 have KK:Kp [g] w x1:=Kp.ab BB;clear BB;have Ut:=R2.lt;have mb:=KK.size;have jK:=PR.ty
 with_reducible refine(HCH _ PR).mono ?_
 clear PR;rintro r x2 ⟨C1,rfl,iC,PR,hk⟩;obtain⟨kR,s1,X1,m1,y1,rfl⟩:=iC.cells;replace R2:=R2.kp hk (by(simp only[List.mem_singleton,List.mem_cons,List.not_mem_nil,or_false];omega));replace KK:=KK.trans hk;clear jK;clear hk;have aL:=trivial
 go_wp2_with (first
  |(clear aL;(with_reducible refine av (C:=[.int .i64 kR,.int .i64 0,.int .i64 0,.string cw,.string s1,.slice X1 m1 y1]) ?_ ?_ bI R2 rfl rfl (iW _ _ _ _ _) ?_);rfl;rfl;intro wz RZ Pz;have aJ:=trivial))
 refine bodyPost_ret (bH rfl _ rfl bI RZ rfl) rfl ?_
 exact⟨_,rfl,(iC.put Pz Ut).lower mb,PR.aa (Pz.aa R2.ty),((KK.mono (M:=[g,g2]) (by simp)).trans (Kp.dr Pz (by simp))).less (M:=[g]) (fun k hk=>by(simp only[List.mem_singleton,List.mem_cons,List.not_mem_nil,or_false] at hk ⊢;omega))⟩):P:=h
theorem vB (w:World) (g k k2:Nat) (ch:List gF) (q1:fe) (x1:gF) (h:eB w g ch k) (tj:∀W,eB W g ch k→Calls prog 154 #[.pointer (some ⟨g,0,none⟩)] W (QP W g ch k2 q1)) (aw:ch[k2]? =some x1) (tp:jG x1 ⟨#[97,110,100]⟩=false):
  Calls prog 100 #[.pointer (some ⟨g,0,none⟩)] w (QP w g ch k2 (q1)):=by
 have PR:=h;have jW:=h.ty.lt
 have HCH:=fun W (hP:eB W g ch k)=>IF W g k k2 ch q1 x1 hP tj aw tp
 clear h aw tp tj
 go_enter func100,ntmps100
 exact Ic
theorem MR (w:World) (g k k2:Nat) (ch:List gF) (q1:fe) (x1:gF) (h:eB w g ch k) (tj:∀W,eB W g ch k→Calls prog 100 #[.pointer (some ⟨g,0,none⟩)] W (QP W g ch k2 q1)) (aw:ch[k2]? =some x1) (tp:jG x1 ⟨#[111,114]⟩=false):
  Calls prog 45 #[.pointer (some ⟨g,0,none⟩)] w (QP w g ch k2 (q1)):=by
 have PR:=h;have jW:=h.ty.lt
 have HCH:=fun W (hP:eB W g ch k)=>IG W g k k2 ch q1 x1 hP tj aw tp
 clear h aw tp tj
 go_enter func45,ntmps45
 exact Ic
theorem YU (w:World) (g k k2:Nat) (ch:List gF) (q1:fe) (x1:gF) (q2:fe) (k3:Nat) (x2:gF) (h:eB w g ch k) (tj:∀W,eB W g ch k→Calls prog 100 #[.pointer (some ⟨g,0,none⟩)] W (QP W g ch k2 q1)) (aw:ch[k2]? =some x1) (tp:jG x1 ⟨#[111,114]⟩=true) (SN:∀W,eB W g ch (k2+1)→Calls prog 100 #[.pointer (some ⟨g,0,none⟩)] W (QP W g ch k3 q2)) (aF:ch[k3]? =some x2) (TL:jG x2 ⟨#[111,114]⟩=false):
  Calls prog 45 #[.pointer (some ⟨g,0,none⟩)] w (QP w g ch k3 (.alt q1 q2)):=by
 have PR:=h;have jW:=h.ty.lt
 have HCH:=fun W (hP:eB W g ch k)=>IH W g k k2 ch q1 x1 q2 k3 x2 hP tj aw tp SN aF TL
 clear h aw tp tj SN aF TL
 go_enter func45,ntmps45
 exact Ic
end
end Go.Proofs.YtdnpopjabpklnaaGreatDoor
