/- Contracts and plain laws that the proof of the top laws uses (TrC). No condition beyond those stated. -/
import Derived.Test.YtdnpopjabpklnaaGreatDoorG12
set_option maxRecDepth 100000
set_option maxHeartbeats 64000000
set_option linter.all false
namespace Go.Proofs.YtdnpopjabpklnaaGreatDoor
section
open Go.RowKit
open Tryz
theorem kS {P:Program} {o:Oper} {a:Act} {w:World} {K:Act→World→Prop} {Q:Exit→Act→World→Prop} (s x:Operand) (t:TypeId)
  (ho:o.op=.call {callee:=.builtin .append,args:=#[s,x],argTypes:=#[t,t]})
  (base:Nat) (e:TypeId) (z:Value) (size bytes:Nat) (ht:P.underlying t=some (.slice e)) (jh:(P.info? e).map (fun i=>(i.zero,i.size,i.bytes))=some (some z,size,bytes)) (lJ:z.cells.size=size) (cM:0<size)
  (v:Value) (n:Nat) (xs:List Value) (A:Option Addr) (m c:Nat) (ys:List Value) (hs:a.eval s=v) (hx:a.eval x=.slice A m c) (a_:w.ownsRow base e size v n xs) (hr:dF w A m size ys) (h1:∀u∈ys,u.oneCell'=true)
  (qT:n+m≤maxLen) (gR:(n+m)*bytes≤140737488355328) (fD:base≤w.heap.size)
  (h:∀v' w',w'.ownsRow base e size v' (n+m) (xs++ys)→w.grownBy w' v.ownBlock→K (a.put o.dst v') w'):Oper.wp P o a w K Q:=by
 obtain⟨v',w',iI,h2,h3⟩:=wK (P:=P) w base t o.type e z size bytes ht jh lJ cM v n xs a_ A m c ys hr h1 qT gR fD;unfold Oper.wp execOp;simp only[ho,resolve,invoke,builtin,Sem.run_bind,Sem.run_pure,Result.andThen_ok,List.map_toArray,List.map_cons,List.map_nil,hs,hx,iI];exact h v' w' h2 h3
def mh (B n1 n2 n3:Nat) (w:World) (R:List Value):Prop:=∃(st au:Int) (va vf vl:Value) (zs fs:List Int) (log:List wk),R=[.int .i64 st,.int .i64 au,va,vf,vl]∧db B w va zs∧db B w vf fs∧nh B w vl log∧zs.length≤n1+1∧fs.length≤n2+1∧log.length≤n3+1
def acy (w:World) (n1 n2 n3:Nat) (e:Ending) (w':World):Prop:=∃(R:List Value) (z:Int),R.length=5∧(∀u∈R,u.oneCell'=true)∧e=.returned (.tuple #[.agg R.toArray,.int .i64 z])∧Below w.heap.size w w'∧mh w.heap.size n1 n2 n3 w' R
theorem vK {w w':World} {base e k n:Nat} {v u:Value} {xs:List Value} (h:w.ownsRow base e k v n xs) (hg:w.grownBy w' u.ownBlock) (hd:rf u v):w'.ownsRow base e k v n xs:=by
 refine h.kept hg ?_
 cases hv:v.ownBlock with
 |none=>exact Or.inl rfl
 |some q=>
  right
  rcases hd with h1|h1|h1
  ·rw[h1];intro e;cases e
  ·rw[hv] at h1;cases h1
  ·rw[hv] at h1;exact Ne.symm h1
theorem ju (log:List wk) (a:wk):(log.map mi).flatten++mi a=((log++ [a]).map mi).flatten:=by simp
theorem np {P:Prop} (h:P:=by
 rw[if_pos (by rfl)];unfold Oper.wp execOp
 go_simp
 exact hK _ _ rfl hG ⟨fun _=>Below.refl _ _,ah.refl _ _⟩ (fun f=>absurd f (by decide))):P:=h
theorem Rn {P:Prop} (h:P:=by
 try clear nY
 refine bodyPost_ret (bH rfl _ rfl bd R4 rfl) rfl ?_;refine⟨[.int .i64 5,.int .i64 au,.slice X1 n1 y1,.slice X2 n2 y2,.slice X3 (n3+1) y3],0,rfl,by simp[Value.oneCell'],rfl,BB,⟨5,au,_,_,_,zs,fs,log++ [⟨k,u,r,t⟩],rfl,(fF o1 rj.out.symm),(fF o2 rk.out.symm),?_,by have:=rj.out;omega,by have:=rk.out;omega,by have:=qM.out;simp;omega⟩⟩
 ·unfold nh;rw[←ju,List.length_append,List.length_singleton,←qM.out]
  exact o3):P:=h
theorem Ro {P:Prop} (h:P:=by
 try clear mU
 refine bodyPost_ret (bH rfl _ rfl bd R4 rfl) rfl ?_;refine⟨[.int .i64 1,.int .i64 au,.slice none 0 0,.slice none 0 0,.slice X3 (n3+1) y3],0,rfl,by simp[Value.oneCell'],rfl,BB,⟨1,au,_,_,_,[],[],log++ [⟨k,u,r,t⟩],rfl,db.nil _ _,db.nil _ _,?_,by simp,by simp,by have:=qM.out;simp;omega⟩⟩
 ·unfold nh;rw[←ju,List.length_append,List.length_singleton,←qM.out]
  exact o3):P:=h
theorem BO (st au k u r t:Int) (A1 A2 A3:Option Addr) (n1 n2 n3 c1 c2 c3:Nat) (zs fs:List Int) (log:List wk) (w:World) (h1:dF w A1 n1 1 (zs.map (Value.int .i64))) (h2:dF w A2 n2 1 (fs.map (Value.int .i64))) (h3:dF w A3 n3 4 (log.map mi).flatten)
  (q1:n1=zs.length) (q2:n2=fs.length) (q3:n3=log.length) (b1:n1≤1000) (b2:n2≤1000) (b3:n3≤1000):
  Calls prog 92 #[.agg #[.int .i64 st,.int .i64 au,.slice A1 n1 c1,.slice A2 n2 c2,.slice A3 n3 c3],.agg #[.int .i64 k,.int .i64 u,.int .i64 r,.int .i64 t]] w (acy w n1 n2 n3):=by
 have rj:=Lib.hid q1;have rk:=Lib.hid q2;have qM:=Lib.hid q3;clear q1 q2 q3
 have hAl:=fun W (hb:Below w.heap.size w W)=>by
  have:=Ir A1 A2 A3 st au k u r t n1 n2 c1 c2 c3 zs log W (h1.below (by decide) hb) (by omega) (by rw[←qM.out];exact h3.below (by decide) hb) (by rw[←qM.out];omega);rw[←qM.out] at this;exact this
 go_enter func92,ntmps92
 have aL:=trivial
 go_wp2_with (first
  |(clear cY;(with_reducible refine ak ?_ pU R3 rfl ?_);rfl;have dX:=trivial)
  |(clear cz;(with_reducible refine ak ?_ bd R2 rfl ?_);rfl;have cY:=trivial)
  |(clear bC;(with_reducible refine bu (Z:=[.int .i64 0,.int .i64 0,.slice none 0 0,.slice none 0 0,.slice none 0 0]) lZ sQ ?_);intro x3 g4 ew R4 bh;have oL:=h_ R2 ew;have nF:=h_ R3 ew;have gl:=jq BB ew;replace R2:=R2.keep bh;replace R3:=R3.keep bh;replace BB:=az BB bh;clear bT mX qS mY fB aQ aG cg aE;have bT:=U (R2.cell 0);have mX:=U (R2.cell 1);have qS:=U (R2.cell 2);have mY:=U (R2.cell 3);have fB:=U (R2.cell 4);have aQ:=U (R3.cell 0);have aG:=U (R3.cell 1);have cg:=U (R3.cell 2);have aE:=U (R3.cell 3);clear bh ew;have cz:=trivial)
  |(clear aJ;(with_reducible refine ao (C:=[.int .i64 k,.int .i64 u,.int .i64 r,.int .i64 t]) ?_ ?_);rfl;intro x2 g3 cW R3 aF;have mC:=h_ R2 cW;have jJ:=jq BB cW;replace R2:=R2.keep aF;replace BB:=az BB aF;clear bT mX qS mY fB;have bT:=U (R2.cell 0);have mX:=U (R2.cell 1);have qS:=U (R2.cell 2);have mY:=U (R2.cell 3);have fB:=U (R2.cell 4);have aQ:=U (R3.cell 0);have aG:=U (R3.cell 1);have cg:=U (R3.cell 2);have aE:=U (R3.cell 3);clear aF cW;have bC:=trivial)
  |(clear aL;(with_reducible refine ao (C:=[.int .i64 st,.int .i64 au,.slice A1 n1 c1,.slice A2 n2 c2,.slice A3 n3 c3]) ?_ ?_);rfl;intro x1 g2 aR R2 aw;have fP:=Nat.le_of_eq aR;have BB:=aw;have bT:=U (R2.cell 0);have mX:=U (R2.cell 1);have qS:=U (R2.cell 2);have mY:=U (R2.cell 3);have fB:=U (R2.cell 4);clear aw aR;have aJ:=trivial))
 try clear dX
 have ac4:=hAl _ BB;refine(ac4).mono ?_;rintro r x4 ⟨⟨z,rfl⟩,ek⟩;replace R2:=R2.keep ek;replace R3:=R3.keep ek;replace R4:=R4.keep ek;replace BB:=az BB ek;clear bT mX qS mY fB aQ aG cg aE;have bT:=U (R2.cell 0);have mX:=U (R2.cell 1);have qS:=U (R2.cell 2);have mY:=U (R2.cell 3);have fB:=U (R2.cell 4);have aQ:=U (R3.cell 0);have aG:=U (R3.cell 1);have cg:=U (R3.cell 2);have aE:=U (R3.cell 3);clear ek
 by_cases cD:z=0
 case neg=>
  have dX:=trivial
  go_wp2_with (first
   |(clear dX;(with_reducible refine av (C:=[.int .i64 0,.int .i64 0,.slice none 0 0,.slice none 0 0,.slice none 0 0]) ?_ ?_ bd R4 rfl rfl (by simp[Value.oneCell']) ?_);rfl;rfl;have bg:=R4.ty;clear R4;intro x5 R4 wU;have kt:=wU.aa bg;replace R2:=wU.row R2;replace R3:=wU.row R3;replace BB:=BB.trans (wU.below gl);clear bT mX qS mY fB aQ aG cg aE;have bT:=U (R2.cell 0);have mX:=U (R2.cell 1);have qS:=U (R2.cell 2);have mY:=U (R2.cell 3);have fB:=U (R2.cell 4);have aQ:=U (R3.cell 0);have aG:=U (R3.cell 1);have cg:=U (R3.cell 2);have aE:=U (R3.cell 3);clear wU kt bg;have fu:=trivial))
  try clear fu
  refine bodyPost_ret (bH rfl _ rfl bd R4 rfl) rfl ?_;exact⟨[.int .i64 0,.int .i64 0,.slice none 0 0,.slice none 0 0,.slice none 0 0],z,rfl,by simp[Value.oneCell'],rfl,BB,⟨0,0,_,_,_,[],[],[],rfl,db.nil _ _,db.nil _ _,World.ownsRow_nil _ _ _ _,Nat.zero_le _,Nat.zero_le _,Nat.zero_le _⟩⟩
 subst cD
 go_wp2_with fail
 have zg2:=R2.lt;have zg3:=R3.lt;have zw:=BB.size
 have S1:=fun W (hb:Below x4.heap.size x4 W)=>h1.below (by decide) (az BB hb)
 have S2:=fun W (hb:Below x4.heap.size x4 W)=>h2.below (by decide) (az BB hb)
 have S3:=fun W (hb:Below x4.heap.size x4 W)=>h3.below (by decide) (az BB hb)
 refine zD (by kernel_rfl) 18 (fun i=>if i=12 then some 15 else if i=14 then some 15 else none) (fun i=>decide (i=6)||decide (i=9)) (fun wx=>Row wx g2 39 [.int .i64 st,.int .i64 au,.slice A1 n1 c1,.slice A2 n2 c2,.slice A3 n3 c3]∧Row wx g3 152 [.int .i64 k,.int .i64 u,.int .i64 r,.int .i64 t]∧Below x4.heap.size x4 wx) (fun j w w'=>(j≠15→Below w.heap.size w w')∧ah 152 w w') [
   (fun v _=>v=.pointer (some ⟨g2,0,none⟩)),
  (fun v _=>v=.int .i64 st),
  (fun v _=>v=.pointer (some ⟨g2,1,none⟩)),
  (fun v _=>v=.int .i64 au),
  (fun v _=>v=.pointer (some ⟨g2,2,none⟩)),
  (fun v _=>v=.slice A1 n1 c1),
  (fun v W=>∃(X1:Option Addr) (y1:Nat),W.ownsRow w.heap.size 3 1 (.slice X1 n1 y1) n1 (zs.map (Value.int .i64))∧v=.slice X1 n1 y1),
  (fun v _=>v=.pointer (some ⟨g2,3,none⟩)),
  (fun v _=>v=.slice A2 n2 c2),
  (fun v W=>∃(X2:Option Addr) (y2:Nat),W.ownsRow w.heap.size 3 1 (.slice X2 n2 y2) n2 (fs.map (Value.int .i64))∧v=.slice X2 n2 y2),
  (fun v _=>v=.pointer (some ⟨g2,4,none⟩)),
  (fun v _=>v=.slice A3 n3 c3),
  (fun v W=>∃(X3:Option Addr) (y3:Nat),W.ownsRow x4.heap.size 152 4 (.slice X3 n3 y3) n3 (log.map mi).flatten∧v=.slice X3 n3 y3),
  (fun v _=>v=.agg (([.int .i64 k,.int .i64 u,.int .i64 r,.int .i64 t]:List Value)).toArray),
  (fun v W=>∃q:Nat,Row W q 152 [.int .i64 k,.int .i64 u,.int .i64 r,.int .i64 t]∧v=.slice (some ⟨q,0,none⟩) 1 1),
  (fun v W=>∃(X3:Option Addr) (y3:Nat),W.ownsRow x4.heap.size 152 4 (.slice X3 (n3+1) y3) (n3+1) ((log.map mi).flatten++ [.int .i64 k,.int .i64 u,.int .i64 r,.int .i64 t])∧v=.slice X3 (n3+1) y3),
  (fun v W=>∃(X1:Option Addr) (y1:Nat) (X2:Option Addr) (y2:Nat) (X3:Option Addr) (y3:Nat),(W.ownsRow w.heap.size 3 1 (.slice X1 n1 y1) n1 (zs.map (Value.int .i64))∧W.ownsRow w.heap.size 3 1 (.slice X2 n2 y2) n2 (fs.map (Value.int .i64))∧W.ownsRow x4.heap.size 152 4 (.slice X3 (n3+1) y3) (n3+1) ((log.map mi).flatten++ [.int .i64 k,.int .i64 u,.int .i64 r,.int .i64 t])∧rf (.slice X1 n1 y1) (.slice X2 n2 y2))∧v=.agg #[.int .i64 st,.int .i64 au,.slice X1 n1 y1,.slice X2 n2 y2,.slice X3 (n3+1) y3]),
  (fun v W=>∃(p:Nat) (Z:List Value),(Row W p 39 Z∧Z.length=5∧x4.heap.size≤p)∧v=.pointer (some ⟨p,0,none⟩))] (fun j v w w' i bE hd hc h hR=>?_) (by kernel_rfl) (by kernel_rfl) (fun a b h=>by(try dsimp only at h);(repeat' split at h)<;>first|(injection h with h;omega)|cases h) (fun i f=>by have:i=6∨i=9:=(by simpa using f);rcases this with rfl|rfl<;>rfl) (fun i v w f h k hk=>by have:i=6∨i=9:=(by simpa using f);rcases this with rfl|rfl;all_goals (obtain⟨_,_,h1,rfl⟩:=h;exact(h1.lt k hk).2)) ⟨R2.drew,R3.drew,(Below.refl _ _).drew⟩ ?_ ?_
 ·match i,bE,hd,hc,h with
  |0,bE,hd,hc,h=>exact h
  |1,bE,hd,hc,h=>exact h
  |2,bE,hd,hc,h=>exact h
  |3,bE,hd,hc,h=>exact h
  |4,bE,hd,hc,h=>exact h
  |5,bE,hd,hc,h=>exact h
  |6,bE,hd,hc,h=>obtain⟨X,y,a1,e⟩:=h;exact⟨X,y,hR.2.own a1,e⟩
  |7,bE,hd,hc,h=>exact h
  |8,bE,hd,hc,h=>exact h
  |9,bE,hd,hc,h=>obtain⟨X,y,a1,e⟩:=h;exact⟨X,y,hR.2.own a1,e⟩
  |10,bE,hd,hc,h=>exact h
  |11,bE,hd,hc,h=>exact h
  |12,bE,hd,hc,h=>obtain⟨X,y,a1,e⟩:=h;exact⟨X,y,I a1 (hR.1 (fun q=>hc (by rw[q];rfl))),e⟩
  |13,bE,hd,hc,h=>exact h
  |14,bE,hd,hc,h=>obtain⟨q,a1,e⟩:=h;exact⟨q,a1.keep (hR.1 (fun q=>hc (by rw[q];rfl))),e⟩
  |15,bE,hd,hc,h=>obtain⟨X,y,a1,e⟩:=h;exact⟨X,y,I a1 (hR.1 (fun q=>bE q.symm)),e⟩
  |16,bE,hd,hc,h=>have hj:j≠15:=(by rintro rfl;exact Bool.noConfusion (show false=true from hd.symm.trans (by kernel_rfl)));obtain⟨X1,y1,X2,y2,X3,y3,⟨a1,a2,a3,a4⟩,e⟩:=h;exact⟨X1,y1,X2,y2,X3,y3,⟨hR.2.own a1,hR.2.own a2,I a3 (hR.1 hj),a4⟩,e⟩
  |17,bE,hd,hc,h=>obtain⟨p,Z,⟨a1,a2,a3⟩,e⟩:=h;exact⟨p,Z,⟨a1.aa hR.2,a2,a3⟩,e⟩
  |n+18,_,_,_,_=>trivial
 ·refine⟨fun _ a wx hG hr hb hd K hK=>?_,?_⟩
  ·have e1:=aq (hb 2);exact np
  refine⟨fun _ a wx hG hr hb hd K hK=>?_,?_⟩
  ·have e1:=aq (hr 0 15);have c0:wx.cell? ⟨g2,0,none⟩=some (.int .i64 st):=(hG.1.cell 0).trans (rfl);exact np
  refine⟨fun _ a wx hG hr hb hd K hK=>?_,?_⟩
  ·have e1:=aq (hb 2);exact np
  refine⟨fun _ a wx hG hr hb hd K hK=>?_,?_⟩
  ·have e1:=aq (hr 2 17);have c0:wx.cell? ⟨g2,1,none⟩=some (.int .i64 au):=(hG.1.cell 1).trans (rfl);exact np
  refine⟨fun _ a wx hG hr hb hd K hK=>?_,?_⟩
  ·have e1:=aq (hb 2);exact np
  refine⟨fun _ a wx hG hr hb hd K hK=>?_,?_⟩
  ·have e1:=aq (hr 4 19);have c0:wx.cell? ⟨g2,2,none⟩=some (.slice A1 n1 c1):=(hG.1.cell 2).trans (rfl);exact np
  refine⟨fun _ a wx hG hr hb hd K hK=>?_,?_⟩
  ·rw[if_pos (by rfl)];refine kS (.const (.slice none 0 0)) (.tmp 20) 22 rfl wx.heap.size 3 _ 1 8 underlying22 qC rfl (by decide) (.slice none 0 0) 0 [] A1 n1 c1 (zs.map (Value.int .i64)) rfl (hr 5 20) (World.ownsRow_nil _ _ _ _) (S1 wx hG.2.2) (kQ _) (by unfold maxLen;omega) (by omega) (Nat.le_refl _) ?_;intro v' w' bU oi;rw[Nat.zero_add,List.nil_append] at bU;have ho0:=bU;have aY:=bG (World.ownsRow_nil wx wx.heap.size 3 1) oi (Nat.le_refl _) (Nat.le_refl _);obtain⟨X1,y1,rfl,_,_⟩:=aj bU;exact hK _ _ ⟨X1,y1,aX bU (Nat.le_trans zw hG.2.2.size),rfl⟩ ⟨hG.1.keep aY,hG.2.1.keep aY,hG.2.2.trans (aY.mono hG.2.2.size)⟩ ⟨fun _=>aY,ah.ab aY⟩ (fun _ k hk=>(ho0.lt k hk).1)
  refine⟨fun _ a wx hG hr hb hd K hK=>?_,?_⟩
  ·have e1:=aq (hb 2);exact np
  refine⟨fun _ a wx hG hr hb hd K hK=>?_,?_⟩
  ·have e1:=aq (hr 7 22);have c0:wx.cell? ⟨g2,3,none⟩=some (.slice A2 n2 c2):=(hG.1.cell 3).trans (rfl);exact np
  refine⟨fun _ a wx hG hr hb hd K hK=>?_,?_⟩
  ·rw[if_pos (by rfl)];refine kS (.const (.slice none 0 0)) (.tmp 23) 22 rfl wx.heap.size 3 _ 1 8 underlying22 qC rfl (by decide) (.slice none 0 0) 0 [] A2 n2 c2 (fs.map (Value.int .i64)) rfl (hr 8 23) (World.ownsRow_nil _ _ _ _) (S2 wx hG.2.2) (kQ _) (by unfold maxLen;omega) (by omega) (Nat.le_refl _) ?_;intro v' w' bU oi;rw[Nat.zero_add,List.nil_append] at bU;have ho0:=bU;have aY:=bG (World.ownsRow_nil wx wx.heap.size 3 1) oi (Nat.le_refl _) (Nat.le_refl _);obtain⟨X2,y2,rfl,_,_⟩:=aj bU;exact hK _ _ ⟨X2,y2,aX bU (Nat.le_trans zw hG.2.2.size),rfl⟩ ⟨hG.1.keep aY,hG.2.1.keep aY,hG.2.2.trans (aY.mono hG.2.2.size)⟩ ⟨fun _=>aY,ah.ab aY⟩ (fun _ k hk=>(ho0.lt k hk).1)
  refine⟨fun _ a wx hG hr hb hd K hK=>?_,?_⟩
  ·have e1:=aq (hb 2);exact np
  refine⟨fun _ a wx hG hr hb hd K hK=>?_,?_⟩
  ·have e1:=aq (hr 10 25);have c0:wx.cell? ⟨g2,4,none⟩=some (.slice A3 n3 c3):=(hG.1.cell 4).trans (rfl);exact np
  refine⟨fun _ a wx hG hr hb hd K hK=>?_,?_⟩
  ·rw[if_pos (by rfl)];refine kS (.const (.slice none 0 0)) (.tmp 26) 37 rfl wx.heap.size 152 _ 4 32 underlying37 Jn rfl (by decide) (.slice none 0 0) 0 [] A3 n3 c3 (log.map mi).flatten rfl (hr 11 26) (World.ownsRow_nil _ _ _ _) (S3 wx hG.2.2) (GD _) (by unfold maxLen;omega) (by omega) (Nat.le_refl _) ?_;intro v' w' bU oi;rw[Nat.zero_add,List.nil_append] at bU;have ho0:=bU;have aY:=bG (World.ownsRow_nil wx wx.heap.size 152 4) oi (Nat.le_refl _) (Nat.le_refl _);obtain⟨X3,y3,rfl,_,_⟩:=aj bU;exact hK _ _ ⟨X3,y3,aX bU hG.2.2.size,rfl⟩ ⟨hG.1.keep aY,hG.2.1.keep aY,hG.2.2.trans (aY.mono hG.2.2.size)⟩ ⟨fun _=>aY,ah.ab aY⟩ (fun f=>absurd f (by decide))
  refine⟨fun _ a wx hG hr hb hd K hK=>?_,?_⟩
  ·have e:=aM (hb 3);rw[if_pos (by rfl)];unfold Oper.wp execOp;exact kh e pU hG.2.1 rfl (hK _ _ rfl hG ⟨fun _=>Below.refl _ _,ah.refl _ _⟩ (fun f=>absurd f (by decide)))
  refine⟨fun _ a wx hG hr hb hd K hK=>?_,?_⟩
  ·have e1:=aq (hr 13 28);rw[if_pos (by rfl)];unfold Oper.wp execOp
   go_simp
   have aY:=ai wx (.cells #[.int .i64 k,.int .i64 u,.int .i64 r,.int .i64 t] 152);exact hK _ _ ⟨wx.heap.size,Row.new wx 152 [.int .i64 k,.int .i64 u,.int .i64 r,.int .i64 t],rfl⟩ ⟨hG.1.keep aY,hG.2.1.keep aY,hG.2.2.trans (aY.mono hG.2.2.size)⟩ ⟨fun _=>aY,ah.ab aY⟩ (fun f=>absurd f (by decide))
  refine⟨fun _ a wx hG hr hb hd K hK=>?_,?_⟩
  ·rw[if_pos (by rfl)];obtain⟨X,y,o1,e1⟩:=hr 12 27;obtain⟨q,r1,e2⟩:=hr 14 29;refine kS (.tmp 27) (.tmp 29) 37 rfl x4.heap.size 152 _ 4 32 underlying37 Jn rfl (by decide) (.slice X n3 y) n3 _ (some ⟨q,0,none⟩) 1 1 [.int .i64 k,.int .i64 u,.int .i64 r,.int .i64 t] e1 e2 o1 ⟨rfl,fun _=>⟨q,0,rfl,r1.cl⟩⟩ (by simp[Value.oneCell']) (by unfold maxLen;omega) (by omega) hG.2.2.size ?_;intro v' w' bU oi;have aY:=bG o1 oi (Nat.le_refl _) hG.2.2.size;obtain⟨X3,y3,rfl,_,_⟩:=aj bU;exact hK _ _ ⟨X3,y3,bU,rfl⟩ ⟨hG.1.below aY zg2,hG.2.1.below aY zg3,hG.2.2.trans aY⟩ ⟨fun q=>absurd rfl q,dN o1 oi⟩ (fun f=>absurd f (by decide))
  refine⟨fun _ a wx hG hr hb hd K hK=>?_,?_⟩
  ·have e1:=aq (hr 1 16);have e2:=aq (hr 3 18);rw[if_pos (by rfl)];unfold Oper.wp execOp;obtain⟨X1,y1,o1,e3⟩:=hr 6 21;rw[bR] at e3;obtain⟨X2,y2,o2,e4⟩:=hr 9 24;rw[bR] at e4;obtain⟨X3,y3,o3,e5⟩:=hr 15 30;rw[bR] at e5;have lp:=hd 6 9 21 24 (by decide) (by decide) (by decide) (by kernel_rfl) (by kernel_rfl) rfl rfl;rw[bR,bR,e3,e4] at lp
   go_simp
   exact hK _ _ ⟨X1,y1,X2,y2,X3,y3,⟨o1,o2,o3,lp⟩,rfl⟩ hG ⟨fun _=>Below.refl _ _,ah.refl _ _⟩ (fun f=>absurd f (by decide))
  refine⟨fun _ a wx hG hr hb hd K hK=>?_,?_⟩
  ·rw[if_pos (by rfl)];refine vJ lZ ?_;rintro w' p Z hp hZ hR aY;exact hK _ _ ⟨p,Z,⟨hR,hZ,by have:=hG.2.2.size;omega⟩,rfl⟩ ⟨hG.1.keep aY,hG.2.1.keep aY,hG.2.2.trans (aY.mono hG.2.2.size)⟩ ⟨fun _=>aY,ah.ab aY⟩ (fun f=>absurd f (by decide))
  exact⟨fun h=>absurd h (by decide),trivial⟩
 ·intro v wx oo AA hA ho hG hV K hK
  simp[dh,bD,List.range,List.range.loop,Act.put] at hA
  obtain⟨p,Z,⟨RP,hZ,hp⟩,DJ⟩:=hV 17 (by decide) rfl;have e0:=aM (hV 0 (by decide) rfl);have e1:=aM (hV 1 (by decide) rfl);have e2:=aM (hV 2 (by decide) rfl);have e3:=aM (hV 3 (by decide) rfl);have e4:=aM (hV 4 (by decide) rfl);have e5:=aM (hV 5 (by decide) rfl);obtain⟨_,_,_,e6⟩:=hV 6 (by decide) rfl;have e7:=aM (hV 7 (by decide) rfl);have e8:=aM (hV 8 (by decide) rfl);obtain⟨_,_,_,e9⟩:=hV 9 (by decide) rfl;have ic:=aM (hV 10 (by decide) rfl);have iA:=aM (hV 11 (by decide) rfl);have pO:=aM (hV 13 (by decide) rfl);obtain⟨_,_,_,xb⟩:=hV 15 (by decide) rfl;obtain⟨X1,y1,X2,y2,X3,y3,⟨o1,o2,o3,lp⟩,Ai⟩:=hV 16 (by decide) rfl;rw[DJ,e0,e1,e2,e3,e4,e5,e6,e7,e8,e9,ic,iA,pO,xb,Ai] at hA;subst hA;clear hV DJ e0 e1 e2 e3 e4 e5 e6 e7 e8 e9 ic iA pO xb Ai;have bU:some _=some oo:=ho
  injection bU with bU
  subst bU;clear ho;rw[if_pos (by rfl)];refine sF (g:=p) (t:=39) (C:=[.int .i64 st,.int .i64 au,.slice X1 n1 y1,.slice X2 n2 y2,.slice X3 (n3+1) y3]) (Z:=Z) ?_ ?_ bd RP rfl hZ (by simp[Value.oneCell']) ?_
  ·rfl
  ·rfl
  intro w9 R7 P9;refine hK _ _ ?_
  try rw[vL]
  have kt:=P9.aa RP.ty;replace o1:=kt.own o1;replace o2:=kt.own o2;replace o3:=aX (kt.own o3) zw;have eU:=hG.2.2.trans (P9.below hp);have wj:w.heap.size≤p:=Nat.le_trans zw hp
  have aeK:g2≠p:=by have:=R2.lt;omega
  have aeL:g3≠p:=by have:=R3.lt;omega
  have aeM:g4≠p:=by have:=R4.lt;omega
  clear hG kt P9 RP hK S1 S2 S3 zg2 zg3;replace R2:=R2.keep eU;replace R3:=R3.keep eU;replace R4:=R4.keep eU;replace BB:=az BB eU;clear bT mX qS mY fB aQ aG cg aE;clear eU
  skip
  have aQ:=U (R3.cell 0);have aG:=U (R3.cell 1);have cg:=U (R3.cell 2);have aE:=U (R3.cell 3);have ep:=U (R7.cell 0);have bW:=U (R7.cell 1);have c_:=U (R7.cell 2);have cU:=U (R7.cell 3);have cI:=U (R7.cell 4)
  by_cases kx:k=1
  case pos=>
   have aC:(k==1)=true:=beq_iff_eq.2 kx;clear kx;have dX:=trivial
   go_wp2_with (first
    |(clear gK;(with_reducible refine av (C:=[.int .i64 2,.int .i64 au,.slice X1 n1 y1,.slice X2 n2 y2,.slice X3 (n3+1) y3]) ?_ ?_ bd R4 rfl rfl (by simp[Value.oneCell']) ?_);rfl;rfl;have bg:=R4.ty;clear R4;intro x63 R4 Gp;have kt:=Gp.aa bg;replace R2:=Gp.row R2;replace R3:=Gp.row R3;replace R7:=Gp.row R7;replace o1:=kt.own o1;replace o2:=kt.own o2;replace o3:=kt.own o3;replace BB:=BB.trans (Gp.below gl);clear aQ aG cg aE bW c_ cU cI;have aQ:=U (R3.cell 0);have aG:=U (R3.cell 1);have cg:=U (R3.cell 2);have aE:=U (R3.cell 3);have bW:=U (R7.cell 1);have c_:=U (R7.cell 2);have cU:=U (R7.cell 3);have cI:=U (R7.cell 4);clear Gp kt bg;have nY:=trivial)
    |(clear fu;(with_reducible refine ak ?_ bd R7 aai ?_);rfl;have gK:=trivial)
    |(clear dX;(with_reducible refine cQ (u:=.int .i64 2) ?_ ?_ isAgg3 sizeOf3 R7 (i:=0) (by simp) rfl ?_);rfl;rfl;have bg:=R7.ty;clear R7;intro Zr R7 gP;have aai:(([.int .i64 st,.int .i64 au,.slice X1 n1 y1,.slice X2 n2 y2,.slice X3 (n3+1) y3]:List Value).set 0 (.int .i64 2)).length=_:=(List.length_set ..).trans (show([.int .i64 st,.int .i64 au,.slice X1 n1 y1,.slice X2 n2 y2,.slice X3 (n3+1) y3]:List Value).length=5 from rfl);have kt:=gP.aa bg;replace R2:=gP.row R2;replace R3:=gP.row R3;replace R4:=gP.row R4;replace o1:=kt.own o1;replace o2:=kt.own o2;replace o3:=kt.own o3;replace BB:=BB.trans (gP.below wj);clear aQ aG cg aE ep bW c_ cU cI;have aQ:=U (R3.cell 0);have aG:=U (R3.cell 1);have cg:=U (R3.cell 2);have aE:=U (R3.cell 3);have bW:=U (R7.cell 1);have c_:=U (R7.cell 2);have cU:=U (R7.cell 3);have cI:=U (R7.cell 4);clear gP kt bg;have fu:=trivial))
   try clear nY
   refine bodyPost_ret (bH rfl _ rfl bd R4 rfl) rfl ?_;refine⟨[.int .i64 2,.int .i64 au,.slice X1 n1 y1,.slice X2 n2 y2,.slice X3 (n3+1) y3],0,rfl,by simp[Value.oneCell'],rfl,BB,⟨2,au,_,_,_,zs,fs,log++ [⟨k,u,r,t⟩],rfl,(fF o1 rj.out.symm),(fF o2 rk.out.symm),?_,by have:=rj.out;omega,by have:=rk.out;omega,by have:=qM.out;simp;omega⟩⟩
   ·unfold nh;rw[←ju,List.length_append,List.length_singleton,←qM.out];exact o3
  have aC:(k==1)=false:=beq_eq_false_iff_ne.2 kx;clear kx
  by_cases As:k=2
  case pos=>
   have ax:(k==2)=true:=beq_iff_eq.2 As;clear As;have oA:=bN o1 (.cells #[.int .i64 u] 3);have sA:dF (w9.alloc (.cells #[.int .i64 u] 3)) (some ⟨w9.heap.size,0,none⟩) 1 1 [.int .i64 u]:=(Row.new w9 3 [.int .i64 u]).sl.jZ;have BA:=al BB (.cells #[.int .i64 u] 3)
   by_cases hle:1≤n1
   case pos=>
    have ado:decide ((2:Int)≤(n1:Int)+1)=true:=decide_eq_true (by omega);have adp:decide (2≤n1+1)=true:=decide_eq_true (by omega);have dX:=trivial
    go_wp2_with (first
     |(clear pS;(with_reducible refine av (C:=[.int .i64 3,.int .i64 au,.slice X5 (n1+1) y5,.slice X2 n2 y2,.slice X3 (n3+1) y3]) ?_ ?_ bd R4 rfl rfl (by simp[Value.oneCell']) ?_);rfl;rfl;have bg:=R4.ty;clear R4;intro x74 R4 Gt;have kt:=Gt.aa bg;replace R2:=Gt.row R2;replace R3:=Gt.row R3;replace R7:=Gt.row R7;replace o2:=kt.own o2;replace o3:=kt.own o3;replace gM:=kt.own gM;replace BB:=BB.trans (Gt.below gl);clear aQ aG cg aE bW cU cI c_;have aQ:=U (R3.cell 0);have aG:=U (R3.cell 1);have cg:=U (R3.cell 2);have aE:=U (R3.cell 3);have bW:=U (R7.cell 1);have cU:=U (R7.cell 3);have cI:=U (R7.cell 4);have c_:=U (R7.cell 2);clear Gt kt bg;have mU:=trivial)
     |(clear nY;(with_reducible refine ak ?_ bd R7 aaj ?_);rfl;have pS:=trivial)
     |(clear gK;(with_reducible refine cQ (u:=.int .i64 3) ?_ ?_ isAgg3 sizeOf3 R7 (i:=0) (by simp) rfl ?_);rfl;rfl;have bg:=R7.ty;clear R7;intro x72 R7 Gq;have aaj:((([.int .i64 st,.int .i64 au,.slice X1 n1 y1,.slice X2 n2 y2,.slice X3 (n3+1) y3]:List Value).set 2 (.slice X5 (n1+1) y5)).set 0 (.int .i64 3)).length=_:=(List.length_set ..).trans Js;have kt:=Gq.aa bg;replace R2:=Gq.row R2;replace R3:=Gq.row R3;replace R4:=Gq.row R4;replace o2:=kt.own o2;replace o3:=kt.own o3;replace gM:=kt.own gM;replace BB:=BB.trans (Gq.below wj);clear aQ aG cg aE ep bW cU cI c_;have aQ:=U (R3.cell 0);have aG:=U (R3.cell 1);have cg:=U (R3.cell 2);have aE:=U (R3.cell 3);have bW:=U (R7.cell 1);have cU:=U (R7.cell 3);have cI:=U (R7.cell 4);have c_:=U (R7.cell 2);clear Gq kt bg;have nY:=trivial)
     |(clear fu;(with_reducible refine cQ (u:=.slice X5 (n1+1) y5) ?_ ?_ isAgg22 sizeOf22 R7 (i:=2) (by simp) rfl ?_);rfl;rfl;have bg:=R7.ty;clear R7;intro x71 R7 rl;have Js:(([.int .i64 st,.int .i64 au,.slice X1 n1 y1,.slice X2 n2 y2,.slice X3 (n3+1) y3]:List Value).set 2 (.slice X5 (n1+1) y5)).length=_:=(List.length_set ..).trans (show([.int .i64 st,.int .i64 au,.slice X1 n1 y1,.slice X2 n2 y2,.slice X3 (n3+1) y3]:List Value).length=5 from rfl);have kt:=rl.aa bg;replace R2:=rl.row R2;replace R3:=rl.row R3;replace R4:=rl.row R4;replace o2:=kt.own o2;replace o3:=kt.own o3;replace gM:=kt.own gM;replace BB:=BB.trans (rl.below wj);clear aQ aG cg aE ep bW c_ cU cI;have aQ:=U (R3.cell 0);have aG:=U (R3.cell 1);have cg:=U (R3.cell 2);have aE:=U (R3.cell 3);have ep:=U (R7.cell 0);have bW:=U (R7.cell 1);have cU:=U (R7.cell 3);have cI:=U (R7.cell 4);have c_:=U (R7.cell 2);clear rl kt bg;have gK:=trivial)
     |(clear dX;refine cv (by rfl) (.tmp 40) (.tmp 43) 22 (by rfl) w.heap.size 3 _ 1 8 underlying22 qC rfl (by decide) (.slice X1 n1 y1) n1 (zs.map (Value.int .i64)) (some ⟨w9.heap.size,0,none⟩) 1 1 [.int .i64 u] (by rfl) (by rfl) oA sA (by simp[Value.oneCell']) (by unfold maxLen;omega) (by omega) BA.size ?_;intro v2 w2 gM gy;obtain⟨X5,y5,rfl,_,_⟩:=aj gM;have kt:=dN oA gy;replace R2:=(Row.alloc R2 (.cells #[.int .i64 u] 3)).aa kt (by decide);replace R4:=(Row.alloc R4 (.cells #[.int .i64 u] 3)).aa kt (by decide);replace R7:=(Row.alloc R7 (.cells #[.int .i64 u] 3)).aa kt (by decide);replace R3:=(Row.alloc R3 (.cells #[.int .i64 u] 3)).aa kt (by decide);replace o2:=vK (bN o2 (.cells #[.int .i64 u] 3)) gy lp;replace o3:=kt.own (bN o3 (.cells #[.int .i64 u] 3));replace BB:=BA.trans (bG oA gy (Nat.le_refl _) BA.size);clear aQ aG cg aE ep bW c_ cU cI kt gy;have aQ:=U (R3.cell 0);have aG:=U (R3.cell 1);have cg:=U (R3.cell 2);have aE:=U (R3.cell 3);have ep:=U (R7.cell 0);have bW:=U (R7.cell 1);have c_:=U (R7.cell 2);have cU:=U (R7.cell 3);have cI:=U (R7.cell 4);have fu:=trivial))
    try clear mU
    refine bodyPost_ret (bH rfl _ rfl bd R4 rfl) rfl ?_;refine⟨[.int .i64 3,.int .i64 au,.slice X5 (n1+1) y5,.slice X2 n2 y2,.slice X3 (n3+1) y3],0,rfl,by simp[Value.oneCell'],rfl,BB,⟨3,au,_,_,_,(zs++ [u]),fs,log++ [⟨k,u,r,t⟩],rfl,(fF (by rw[List.map_append];exact gM) (by have:=rj.out;simp;omega)),(fF o2 rk.out.symm),?_,by have:=rj.out;simp;omega,by have:=rk.out;omega,by have:=qM.out;simp;omega⟩⟩
    ·unfold nh;rw[←ju,List.length_append,List.length_singleton,←qM.out];exact o3
   have ado:decide ((2:Int)≤(n1:Int)+1)=false:=decide_eq_false (by omega);have adp:decide (2≤n1+1)=false:=decide_eq_false (by omega);have dX:=trivial
   go_wp2_with (first
    |(clear nY;(with_reducible refine av (C:=[.int .i64 st,.int .i64 au,.slice X5 (n1+1) y5,.slice X2 n2 y2,.slice X3 (n3+1) y3]) ?_ ?_ bd R4 rfl rfl (by simp[Value.oneCell']) ?_);rfl;rfl;have bg:=R4.ty;clear R4;intro x73 R4 Gs;have kt:=Gs.aa bg;replace R2:=Gs.row R2;replace R3:=Gs.row R3;replace R7:=Gs.row R7;replace o2:=kt.own o2;replace o3:=kt.own o3;replace gM:=kt.own gM;replace BB:=BB.trans (Gs.below gl);clear aQ aG cg aE ep bW cU cI c_;have aQ:=U (R3.cell 0);have aG:=U (R3.cell 1);have cg:=U (R3.cell 2);have aE:=U (R3.cell 3);have ep:=U (R7.cell 0);have bW:=U (R7.cell 1);have cU:=U (R7.cell 3);have cI:=U (R7.cell 4);have c_:=U (R7.cell 2);clear Gs kt bg;have pS:=trivial)
    |(clear gK;(with_reducible refine ak ?_ bd R7 Js ?_);rfl;have nY:=trivial)
    |(clear fu;(with_reducible refine cQ (u:=.slice X5 (n1+1) y5) ?_ ?_ isAgg22 sizeOf22 R7 (i:=2) (by simp) rfl ?_);rfl;rfl;have bg:=R7.ty;clear R7;intro x71 R7 rl;have Js:(([.int .i64 st,.int .i64 au,.slice X1 n1 y1,.slice X2 n2 y2,.slice X3 (n3+1) y3]:List Value).set 2 (.slice X5 (n1+1) y5)).length=_:=(List.length_set ..).trans (show([.int .i64 st,.int .i64 au,.slice X1 n1 y1,.slice X2 n2 y2,.slice X3 (n3+1) y3]:List Value).length=5 from rfl);have kt:=rl.aa bg;replace R2:=rl.row R2;replace R3:=rl.row R3;replace R4:=rl.row R4;replace o2:=kt.own o2;replace o3:=kt.own o3;replace gM:=kt.own gM;replace BB:=BB.trans (rl.below wj);clear aQ aG cg aE ep bW c_ cU cI;have aQ:=U (R3.cell 0);have aG:=U (R3.cell 1);have cg:=U (R3.cell 2);have aE:=U (R3.cell 3);have ep:=U (R7.cell 0);have bW:=U (R7.cell 1);have cU:=U (R7.cell 3);have cI:=U (R7.cell 4);have c_:=U (R7.cell 2);clear rl kt bg;have gK:=trivial)
    |(clear dX;refine cv (by rfl) (.tmp 40) (.tmp 43) 22 (by rfl) w.heap.size 3 _ 1 8 underlying22 qC rfl (by decide) (.slice X1 n1 y1) n1 (zs.map (Value.int .i64)) (some ⟨w9.heap.size,0,none⟩) 1 1 [.int .i64 u] (by rfl) (by rfl) oA sA (by simp[Value.oneCell']) (by unfold maxLen;omega) (by omega) BA.size ?_;intro v2 w2 gM gy;obtain⟨X5,y5,rfl,_,_⟩:=aj gM;have kt:=dN oA gy;replace R2:=(Row.alloc R2 (.cells #[.int .i64 u] 3)).aa kt (by decide);replace R4:=(Row.alloc R4 (.cells #[.int .i64 u] 3)).aa kt (by decide);replace R7:=(Row.alloc R7 (.cells #[.int .i64 u] 3)).aa kt (by decide);replace R3:=(Row.alloc R3 (.cells #[.int .i64 u] 3)).aa kt (by decide);replace o2:=vK (bN o2 (.cells #[.int .i64 u] 3)) gy lp;replace o3:=kt.own (bN o3 (.cells #[.int .i64 u] 3));replace BB:=BA.trans (bG oA gy (Nat.le_refl _) BA.size);clear aQ aG cg aE ep bW c_ cU cI kt gy;have aQ:=U (R3.cell 0);have aG:=U (R3.cell 1);have cg:=U (R3.cell 2);have aE:=U (R3.cell 3);have ep:=U (R7.cell 0);have bW:=U (R7.cell 1);have c_:=U (R7.cell 2);have cU:=U (R7.cell 3);have cI:=U (R7.cell 4);have fu:=trivial))
   try clear pS
   refine bodyPost_ret (bH rfl _ rfl bd R4 rfl) rfl ?_;refine⟨[.int .i64 st,.int .i64 au,.slice X5 (n1+1) y5,.slice X2 n2 y2,.slice X3 (n3+1) y3],0,rfl,by simp[Value.oneCell'],rfl,BB,⟨st,au,_,_,_,(zs++ [u]),fs,log++ [⟨k,u,r,t⟩],rfl,(fF (by rw[List.map_append];exact gM) (by have:=rj.out;simp;omega)),(fF o2 rk.out.symm),?_,by have:=rj.out;simp;omega,by have:=rk.out;omega,by have:=qM.out;simp;omega⟩⟩
   ·unfold nh;rw[←ju,List.length_append,List.length_singleton,←qM.out];exact o3
  have ax:(k==2)=false:=beq_eq_false_iff_ne.2 As;clear As
  by_cases CA:k=3
  case pos=>
   have eE:(k==3)=true:=beq_iff_eq.2 CA;clear CA;have dX:=trivial
   go_wp2_with (first
    |(clear pS;(with_reducible refine av (C:=[.int .i64 1,.int .i64 au,.slice none 0 0,.slice none 0 0,.slice X3 (n3+1) y3]) ?_ ?_ bd R4 rfl rfl (by simp[Value.oneCell']) ?_);rfl;rfl;have bg:=R4.ty;clear R4;intro x85 R4 Gx;have kt:=Gx.aa bg;replace R2:=Gx.row R2;replace R3:=Gx.row R3;replace R7:=Gx.row R7;replace o1:=kt.own o1;replace o2:=kt.own o2;replace o3:=kt.own o3;replace BB:=BB.trans (Gx.below gl);clear aQ aG cg aE bW cI;have aQ:=U (R3.cell 0);have aG:=U (R3.cell 1);have cg:=U (R3.cell 2);have aE:=U (R3.cell 3);have bW:=U (R7.cell 1);have cI:=U (R7.cell 4);clear Gx kt bg;have mU:=trivial)
    |(clear nY;(with_reducible refine ak ?_ bd R7 aam ?_);rfl;have pS:=trivial)
    |(clear gK;(with_reducible refine cQ (u:=.slice none 0 0) ?_ ?_ isAgg22 sizeOf22 R7 (i:=3) (by simp) rfl ?_);rfl;rfl;have bg:=R7.ty;clear R7;intro x83 R7 Gw;have aam:(((([.int .i64 st,.int .i64 au,.slice X1 n1 y1,.slice X2 n2 y2,.slice X3 (n3+1) y3]:List Value).set 0 (.int .i64 1)).set 2 (.slice none 0 0)).set 3 (.slice none 0 0)).length=_:=(List.length_set ..).trans aal;have kt:=Gw.aa bg;replace R2:=Gw.row R2;replace R3:=Gw.row R3;replace R4:=Gw.row R4;replace o1:=kt.own o1;replace o2:=kt.own o2;replace o3:=kt.own o3;replace BB:=BB.trans (Gw.below wj);clear aQ aG cg aE bW cU cI;have aQ:=U (R3.cell 0);have aG:=U (R3.cell 1);have cg:=U (R3.cell 2);have aE:=U (R3.cell 3);have bW:=U (R7.cell 1);have cI:=U (R7.cell 4);clear Gw kt bg;have nY:=trivial)
    |(clear fu;(with_reducible refine cQ (u:=.slice none 0 0) ?_ ?_ isAgg22 sizeOf22 R7 (i:=2) (by simp) rfl ?_);rfl;rfl;have bg:=R7.ty;clear R7;intro x82 R7 Gv;have aal:((([.int .i64 st,.int .i64 au,.slice X1 n1 y1,.slice X2 n2 y2,.slice X3 (n3+1) y3]:List Value).set 0 (.int .i64 1)).set 2 (.slice none 0 0)).length=_:=(List.length_set ..).trans aak;have kt:=Gv.aa bg;replace R2:=Gv.row R2;replace R3:=Gv.row R3;replace R4:=Gv.row R4;replace o1:=kt.own o1;replace o2:=kt.own o2;replace o3:=kt.own o3;replace BB:=BB.trans (Gv.below wj);clear aQ aG cg aE bW c_ cU cI;have aQ:=U (R3.cell 0);have aG:=U (R3.cell 1);have cg:=U (R3.cell 2);have aE:=U (R3.cell 3);have bW:=U (R7.cell 1);have cU:=U (R7.cell 3);have cI:=U (R7.cell 4);clear Gv kt bg;have gK:=trivial)
    |(clear dX;(with_reducible refine cQ (u:=.int .i64 1) ?_ ?_ isAgg3 sizeOf3 R7 (i:=0) (by simp) rfl ?_);rfl;rfl;have bg:=R7.ty;clear R7;intro x81 R7 Gu;have aak:(([.int .i64 st,.int .i64 au,.slice X1 n1 y1,.slice X2 n2 y2,.slice X3 (n3+1) y3]:List Value).set 0 (.int .i64 1)).length=_:=(List.length_set ..).trans (show([.int .i64 st,.int .i64 au,.slice X1 n1 y1,.slice X2 n2 y2,.slice X3 (n3+1) y3]:List Value).length=5 from rfl);have kt:=Gu.aa bg;replace R2:=Gu.row R2;replace R3:=Gu.row R3;replace R4:=Gu.row R4;replace o1:=kt.own o1;replace o2:=kt.own o2;replace o3:=kt.own o3;replace BB:=BB.trans (Gu.below wj);clear aQ aG cg aE ep bW c_ cU cI;have aQ:=U (R3.cell 0);have aG:=U (R3.cell 1);have cg:=U (R3.cell 2);have aE:=U (R3.cell 3);have bW:=U (R7.cell 1);have c_:=U (R7.cell 2);have cU:=U (R7.cell 3);have cI:=U (R7.cell 4);clear Gu kt bg;have fu:=trivial))
   exact Ro
  have eE:(k==3)=false:=beq_eq_false_iff_ne.2 CA;clear CA
  by_cases Eb:k=4
  case pos=>
   have gn:(k==4)=true:=beq_iff_eq.2 Eb;clear Eb;have oA:=bN o2 (.cells #[.int .i64 u] 3);have sA:dF (w9.alloc (.cells #[.int .i64 u] 3)) (some ⟨w9.heap.size,0,none⟩) 1 1 [.int .i64 u]:=(Row.new w9 3 [.int .i64 u]).sl.jZ;have BA:=al BB (.cells #[.int .i64 u] 3);have dX:=trivial
   go_wp2_with (first
    |(clear pS;(with_reducible refine av (C:=[.int .i64 4,.int .i64 au,.slice X1 n1 y1,.slice X5 (n2+1) y5,.slice X3 (n3+1) y3]) ?_ ?_ bd R4 rfl rfl (by simp[Value.oneCell']) ?_);rfl;rfl;have bg:=R4.ty;clear R4;intro x94 R4 GB;have kt:=GB.aa bg;replace R2:=GB.row R2;replace R3:=GB.row R3;replace R7:=GB.row R7;replace o1:=kt.own o1;replace o3:=kt.own o3;replace gM:=kt.own gM;replace BB:=BB.trans (GB.below gl);clear aQ aG cg aE bW c_ cI cU;have aQ:=U (R3.cell 0);have aG:=U (R3.cell 1);have cg:=U (R3.cell 2);have aE:=U (R3.cell 3);have bW:=U (R7.cell 1);have c_:=U (R7.cell 2);have cI:=U (R7.cell 4);have cU:=U (R7.cell 3);clear GB kt bg;have mU:=trivial)
    |(clear nY;(with_reducible refine ak ?_ bd R7 aao ?_);rfl;have pS:=trivial)
    |(clear gK;(with_reducible refine cQ (u:=.int .i64 4) ?_ ?_ isAgg3 sizeOf3 R7 (i:=0) (by simp) rfl ?_);rfl;rfl;have bg:=R7.ty;clear R7;intro x92 R7 Gz;have aao:((([.int .i64 st,.int .i64 au,.slice X1 n1 y1,.slice X2 n2 y2,.slice X3 (n3+1) y3]:List Value).set 3 (.slice X5 (n2+1) y5)).set 0 (.int .i64 4)).length=_:=(List.length_set ..).trans aan;have kt:=Gz.aa bg;replace R2:=Gz.row R2;replace R3:=Gz.row R3;replace R4:=Gz.row R4;replace o1:=kt.own o1;replace o3:=kt.own o3;replace gM:=kt.own gM;replace BB:=BB.trans (Gz.below wj);clear aQ aG cg aE ep bW c_ cI cU;have aQ:=U (R3.cell 0);have aG:=U (R3.cell 1);have cg:=U (R3.cell 2);have aE:=U (R3.cell 3);have bW:=U (R7.cell 1);have c_:=U (R7.cell 2);have cI:=U (R7.cell 4);have cU:=U (R7.cell 3);clear Gz kt bg;have nY:=trivial)
    |(clear fu;(with_reducible refine cQ (u:=.slice X5 (n2+1) y5) ?_ ?_ isAgg22 sizeOf22 R7 (i:=3) (by simp) rfl ?_);rfl;rfl;have bg:=R7.ty;clear R7;intro x91 R7 Gy;have aan:(([.int .i64 st,.int .i64 au,.slice X1 n1 y1,.slice X2 n2 y2,.slice X3 (n3+1) y3]:List Value).set 3 (.slice X5 (n2+1) y5)).length=_:=(List.length_set ..).trans (show([.int .i64 st,.int .i64 au,.slice X1 n1 y1,.slice X2 n2 y2,.slice X3 (n3+1) y3]:List Value).length=5 from rfl);have kt:=Gy.aa bg;replace R2:=Gy.row R2;replace R3:=Gy.row R3;replace R4:=Gy.row R4;replace o1:=kt.own o1;replace o3:=kt.own o3;replace gM:=kt.own gM;replace BB:=BB.trans (Gy.below wj);clear aQ aG cg aE ep bW c_ cU cI;have aQ:=U (R3.cell 0);have aG:=U (R3.cell 1);have cg:=U (R3.cell 2);have aE:=U (R3.cell 3);have ep:=U (R7.cell 0);have bW:=U (R7.cell 1);have c_:=U (R7.cell 2);have cI:=U (R7.cell 4);have cU:=U (R7.cell 3);clear Gy kt bg;have gK:=trivial)
    |(clear dX;refine cv (by rfl) (.tmp 60) (.tmp 63) 22 (by rfl) w.heap.size 3 _ 1 8 underlying22 qC rfl (by decide) (.slice X2 n2 y2) n2 (fs.map (Value.int .i64)) (some ⟨w9.heap.size,0,none⟩) 1 1 [.int .i64 u] (by rfl) (by rfl) oA sA (by simp[Value.oneCell']) (by unfold maxLen;omega) (by omega) BA.size ?_;intro v2 w2 gM gy;obtain⟨X5,y5,rfl,_,_⟩:=aj gM;have kt:=dN oA gy;replace R2:=(Row.alloc R2 (.cells #[.int .i64 u] 3)).aa kt (by decide);replace R4:=(Row.alloc R4 (.cells #[.int .i64 u] 3)).aa kt (by decide);replace R7:=(Row.alloc R7 (.cells #[.int .i64 u] 3)).aa kt (by decide);replace R3:=(Row.alloc R3 (.cells #[.int .i64 u] 3)).aa kt (by decide);replace o1:=vK (bN o1 (.cells #[.int .i64 u] 3)) gy lp.symm;replace o3:=kt.own (bN o3 (.cells #[.int .i64 u] 3));replace BB:=BA.trans (bG oA gy (Nat.le_refl _) BA.size);clear aQ aG cg aE ep bW c_ cU cI kt gy;have aQ:=U (R3.cell 0);have aG:=U (R3.cell 1);have cg:=U (R3.cell 2);have aE:=U (R3.cell 3);have ep:=U (R7.cell 0);have bW:=U (R7.cell 1);have c_:=U (R7.cell 2);have cU:=U (R7.cell 3);have cI:=U (R7.cell 4);have fu:=trivial))
   try clear mU
   refine bodyPost_ret (bH rfl _ rfl bd R4 rfl) rfl ?_;refine⟨[.int .i64 4,.int .i64 au,.slice X1 n1 y1,.slice X5 (n2+1) y5,.slice X3 (n3+1) y3],0,rfl,by simp[Value.oneCell'],rfl,BB,⟨4,au,_,_,_,zs,(fs++ [u]),log++ [⟨k,u,r,t⟩],rfl,(fF o1 rj.out.symm),(fF (by rw[List.map_append];exact gM) (by have:=rk.out;simp;omega)),?_,by have:=rj.out;omega,by have:=rk.out;simp;omega,by have:=qM.out;simp;omega⟩⟩
   ·unfold nh;rw[←ju,List.length_append,List.length_singleton,←qM.out];exact o3
  have gn:(k==4)=false:=beq_eq_false_iff_ne.2 Eb;clear Eb
  by_cases tt:k=5
  case pos=>
   have iB:(k==5)=true:=beq_iff_eq.2 tt;clear tt;have dX:=trivial
   go_wp2_with (first
    |(clear gK;(with_reducible refine av (C:=[.int .i64 5,.int .i64 au,.slice X1 n1 y1,.slice X2 n2 y2,.slice X3 (n3+1) y3]) ?_ ?_ bd R4 rfl rfl (by simp[Value.oneCell']) ?_);rfl;rfl;have bg:=R4.ty;clear R4;intro afi R4 zL;have kt:=zL.aa bg;replace R2:=zL.row R2;replace R3:=zL.row R3;replace R7:=zL.row R7;replace o1:=kt.own o1;replace o2:=kt.own o2;replace o3:=kt.own o3;replace BB:=BB.trans (zL.below gl);clear aQ aG cg aE bW c_ cU cI;have aQ:=U (R3.cell 0);have aG:=U (R3.cell 1);have cg:=U (R3.cell 2);have aE:=U (R3.cell 3);have bW:=U (R7.cell 1);have c_:=U (R7.cell 2);have cU:=U (R7.cell 3);have cI:=U (R7.cell 4);clear zL kt bg;have nY:=trivial)
    |(clear fu;(with_reducible refine ak ?_ bd R7 Yk ?_);rfl;have gK:=trivial)
    |(clear dX;(with_reducible refine cQ (u:=.int .i64 5) ?_ ?_ isAgg3 sizeOf3 R7 (i:=0) (by simp) rfl ?_);rfl;rfl;have bg:=R7.ty;clear R7;intro afh R7 zK;have Yk:(([.int .i64 st,.int .i64 au,.slice X1 n1 y1,.slice X2 n2 y2,.slice X3 (n3+1) y3]:List Value).set 0 (.int .i64 5)).length=_:=(List.length_set ..).trans (show([.int .i64 st,.int .i64 au,.slice X1 n1 y1,.slice X2 n2 y2,.slice X3 (n3+1) y3]:List Value).length=5 from rfl);have kt:=zK.aa bg;replace R2:=zK.row R2;replace R3:=zK.row R3;replace R4:=zK.row R4;replace o1:=kt.own o1;replace o2:=kt.own o2;replace o3:=kt.own o3;replace BB:=BB.trans (zK.below wj);clear aQ aG cg aE ep bW c_ cU cI;have aQ:=U (R3.cell 0);have aG:=U (R3.cell 1);have cg:=U (R3.cell 2);have aE:=U (R3.cell 3);have bW:=U (R7.cell 1);have c_:=U (R7.cell 2);have cU:=U (R7.cell 3);have cI:=U (R7.cell 4);clear zK kt bg;have fu:=trivial))
   exact Rn
  have iB:(k==5)=false:=beq_eq_false_iff_ne.2 tt;clear tt
  by_cases pQ:k=6
  case pos=>
   have rE:(k==6)=true:=beq_iff_eq.2 pQ;clear pQ;have dX:=trivial
   go_wp2_with (first
    |(clear gK;(with_reducible refine av (C:=[.int .i64 6,.int .i64 au,.slice X1 n1 y1,.slice X2 n2 y2,.slice X3 (n3+1) y3]) ?_ ?_ bd R4 rfl rfl (by simp[Value.oneCell']) ?_);rfl;rfl;have bg:=R4.ty;clear R4;intro afk R4 zN;have kt:=zN.aa bg;replace R2:=zN.row R2;replace R3:=zN.row R3;replace R7:=zN.row R7;replace o1:=kt.own o1;replace o2:=kt.own o2;replace o3:=kt.own o3;replace BB:=BB.trans (zN.below gl);clear aQ aG cg aE bW c_ cU cI;have aQ:=U (R3.cell 0);have aG:=U (R3.cell 1);have cg:=U (R3.cell 2);have aE:=U (R3.cell 3);have bW:=U (R7.cell 1);have c_:=U (R7.cell 2);have cU:=U (R7.cell 3);have cI:=U (R7.cell 4);clear zN kt bg;have nY:=trivial)
    |(clear fu;(with_reducible refine ak ?_ bd R7 Yl ?_);rfl;have gK:=trivial)
    |(clear dX;(with_reducible refine cQ (u:=.int .i64 6) ?_ ?_ isAgg3 sizeOf3 R7 (i:=0) (by simp) rfl ?_);rfl;rfl;have bg:=R7.ty;clear R7;intro afj R7 zM;have Yl:(([.int .i64 st,.int .i64 au,.slice X1 n1 y1,.slice X2 n2 y2,.slice X3 (n3+1) y3]:List Value).set 0 (.int .i64 6)).length=_:=(List.length_set ..).trans (show([.int .i64 st,.int .i64 au,.slice X1 n1 y1,.slice X2 n2 y2,.slice X3 (n3+1) y3]:List Value).length=5 from rfl);have kt:=zM.aa bg;replace R2:=zM.row R2;replace R3:=zM.row R3;replace R4:=zM.row R4;replace o1:=kt.own o1;replace o2:=kt.own o2;replace o3:=kt.own o3;replace BB:=BB.trans (zM.below wj);clear aQ aG cg aE ep bW c_ cU cI;have aQ:=U (R3.cell 0);have aG:=U (R3.cell 1);have cg:=U (R3.cell 2);have aE:=U (R3.cell 3);have bW:=U (R7.cell 1);have c_:=U (R7.cell 2);have cU:=U (R7.cell 3);have cI:=U (R7.cell 4);clear zM kt bg;have fu:=trivial))
   try clear nY
   refine bodyPost_ret (bH rfl _ rfl bd R4 rfl) rfl ?_;refine⟨[.int .i64 6,.int .i64 au,.slice X1 n1 y1,.slice X2 n2 y2,.slice X3 (n3+1) y3],0,rfl,by simp[Value.oneCell'],rfl,BB,⟨6,au,_,_,_,zs,fs,log++ [⟨k,u,r,t⟩],rfl,(fF o1 rj.out.symm),(fF o2 rk.out.symm),?_,by have:=rj.out;omega,by have:=rk.out;omega,by have:=qM.out;simp;omega⟩⟩
   ·unfold nh;rw[←ju,List.length_append,List.length_singleton,←qM.out];exact o3
  have rE:(k==6)=false:=beq_eq_false_iff_ne.2 pQ;clear pQ
  by_cases Xn:k=7
  case pos=>
   have Am:(k==7)=true:=beq_iff_eq.2 Xn;clear Xn;have dX:=trivial
   go_wp2_with (first
    |(clear gK;(with_reducible refine av (C:=[.int .i64 5,.int .i64 au,.slice X1 n1 y1,.slice X2 n2 y2,.slice X3 (n3+1) y3]) ?_ ?_ bd R4 rfl rfl (by simp[Value.oneCell']) ?_);rfl;rfl;have bg:=R4.ty;clear R4;intro afm R4 zP;have kt:=zP.aa bg;replace R2:=zP.row R2;replace R3:=zP.row R3;replace R7:=zP.row R7;replace o1:=kt.own o1;replace o2:=kt.own o2;replace o3:=kt.own o3;replace BB:=BB.trans (zP.below gl);clear aQ aG cg aE bW c_ cU cI;have aQ:=U (R3.cell 0);have aG:=U (R3.cell 1);have cg:=U (R3.cell 2);have aE:=U (R3.cell 3);have bW:=U (R7.cell 1);have c_:=U (R7.cell 2);have cU:=U (R7.cell 3);have cI:=U (R7.cell 4);clear zP kt bg;have nY:=trivial)
    |(clear fu;(with_reducible refine ak ?_ bd R7 Ym ?_);rfl;have gK:=trivial)
    |(clear dX;(with_reducible refine cQ (u:=.int .i64 5) ?_ ?_ isAgg3 sizeOf3 R7 (i:=0) (by simp) rfl ?_);rfl;rfl;have bg:=R7.ty;clear R7;intro afl R7 zO;have Ym:(([.int .i64 st,.int .i64 au,.slice X1 n1 y1,.slice X2 n2 y2,.slice X3 (n3+1) y3]:List Value).set 0 (.int .i64 5)).length=_:=(List.length_set ..).trans (show([.int .i64 st,.int .i64 au,.slice X1 n1 y1,.slice X2 n2 y2,.slice X3 (n3+1) y3]:List Value).length=5 from rfl);have kt:=zO.aa bg;replace R2:=zO.row R2;replace R3:=zO.row R3;replace R4:=zO.row R4;replace o1:=kt.own o1;replace o2:=kt.own o2;replace o3:=kt.own o3;replace BB:=BB.trans (zO.below wj);clear aQ aG cg aE ep bW c_ cU cI;have aQ:=U (R3.cell 0);have aG:=U (R3.cell 1);have cg:=U (R3.cell 2);have aE:=U (R3.cell 3);have bW:=U (R7.cell 1);have c_:=U (R7.cell 2);have cU:=U (R7.cell 3);have cI:=U (R7.cell 4);clear zO kt bg;have fu:=trivial))
   exact Rn
  have Am:(k==7)=false:=beq_eq_false_iff_ne.2 Xn;clear Xn
  by_cases hk8:k=8
  case pos=>
   have eY:(k==8)=true:=beq_iff_eq.2 hk8;clear hk8;have dX:=trivial
   go_wp2_with (first
    |(clear gK;(with_reducible refine av (C:=[.int .i64 7,.int .i64 au,.slice X1 n1 y1,.slice X2 n2 y2,.slice X3 (n3+1) y3]) ?_ ?_ bd R4 rfl rfl (by simp[Value.oneCell']) ?_);rfl;rfl;have bg:=R4.ty;clear R4;intro afo R4 zR;have kt:=zR.aa bg;replace R2:=zR.row R2;replace R3:=zR.row R3;replace R7:=zR.row R7;replace o1:=kt.own o1;replace o2:=kt.own o2;replace o3:=kt.own o3;replace BB:=BB.trans (zR.below gl);clear aQ aG cg aE bW c_ cU cI;have aQ:=U (R3.cell 0);have aG:=U (R3.cell 1);have cg:=U (R3.cell 2);have aE:=U (R3.cell 3);have bW:=U (R7.cell 1);have c_:=U (R7.cell 2);have cU:=U (R7.cell 3);have cI:=U (R7.cell 4);clear zR kt bg;have nY:=trivial)
    |(clear fu;(with_reducible refine ak ?_ bd R7 Yn ?_);rfl;have gK:=trivial)
    |(clear dX;(with_reducible refine cQ (u:=.int .i64 7) ?_ ?_ isAgg3 sizeOf3 R7 (i:=0) (by simp) rfl ?_);rfl;rfl;have bg:=R7.ty;clear R7;intro afn R7 zQ;have Yn:(([.int .i64 st,.int .i64 au,.slice X1 n1 y1,.slice X2 n2 y2,.slice X3 (n3+1) y3]:List Value).set 0 (.int .i64 7)).length=_:=(List.length_set ..).trans (show([.int .i64 st,.int .i64 au,.slice X1 n1 y1,.slice X2 n2 y2,.slice X3 (n3+1) y3]:List Value).length=5 from rfl);have kt:=zQ.aa bg;replace R2:=zQ.row R2;replace R3:=zQ.row R3;replace R4:=zQ.row R4;replace o1:=kt.own o1;replace o2:=kt.own o2;replace o3:=kt.own o3;replace BB:=BB.trans (zQ.below wj);clear aQ aG cg aE ep bW c_ cU cI;have aQ:=U (R3.cell 0);have aG:=U (R3.cell 1);have cg:=U (R3.cell 2);have aE:=U (R3.cell 3);have bW:=U (R7.cell 1);have c_:=U (R7.cell 2);have cU:=U (R7.cell 3);have cI:=U (R7.cell 4);clear zQ kt bg;have fu:=trivial))
   try clear nY
   refine bodyPost_ret (bH rfl _ rfl bd R4 rfl) rfl ?_;refine⟨[.int .i64 7,.int .i64 au,.slice X1 n1 y1,.slice X2 n2 y2,.slice X3 (n3+1) y3],0,rfl,by simp[Value.oneCell'],rfl,BB,⟨7,au,_,_,_,zs,fs,log++ [⟨k,u,r,t⟩],rfl,(fF o1 rj.out.symm),(fF o2 rk.out.symm),?_,by have:=rj.out;omega,by have:=rk.out;omega,by have:=qM.out;simp;omega⟩⟩
   ·unfold nh;rw[←ju,List.length_append,List.length_singleton,←qM.out];exact o3
  have eY:(k==8)=false:=beq_eq_false_iff_ne.2 hk8;clear hk8
  by_cases hk9:k=9
  case pos=>
   have eU:(k==9)=true:=beq_iff_eq.2 hk9;clear hk9;have dX:=trivial
   go_wp2_with (first
    |(clear pS;(with_reducible refine av (C:=[.int .i64 1,.int .i64 au,.slice none 0 0,.slice none 0 0,.slice X3 (n3+1) y3]) ?_ ?_ bd R4 rfl rfl (by simp[Value.oneCell']) ?_);rfl;rfl;have bg:=R4.ty;clear R4;intro afs R4 zV;have kt:=zV.aa bg;replace R2:=zV.row R2;replace R3:=zV.row R3;replace R7:=zV.row R7;replace o1:=kt.own o1;replace o2:=kt.own o2;replace o3:=kt.own o3;replace BB:=BB.trans (zV.below gl);clear aQ aG cg aE bW cI;have aQ:=U (R3.cell 0);have aG:=U (R3.cell 1);have cg:=U (R3.cell 2);have aE:=U (R3.cell 3);have bW:=U (R7.cell 1);have cI:=U (R7.cell 4);clear zV kt bg;have mU:=trivial)
    |(clear nY;(with_reducible refine ak ?_ bd R7 Yq ?_);rfl;have pS:=trivial)
    |(clear gK;(with_reducible refine cQ (u:=.slice none 0 0) ?_ ?_ isAgg22 sizeOf22 R7 (i:=3) (by simp) rfl ?_);rfl;rfl;have bg:=R7.ty;clear R7;intro afr R7 zU;have Yq:(((([.int .i64 st,.int .i64 au,.slice X1 n1 y1,.slice X2 n2 y2,.slice X3 (n3+1) y3]:List Value).set 0 (.int .i64 1)).set 2 (.slice none 0 0)).set 3 (.slice none 0 0)).length=_:=(List.length_set ..).trans Yp;have kt:=zU.aa bg;replace R2:=zU.row R2;replace R3:=zU.row R3;replace R4:=zU.row R4;replace o1:=kt.own o1;replace o2:=kt.own o2;replace o3:=kt.own o3;replace BB:=BB.trans (zU.below wj);clear aQ aG cg aE bW cU cI;have aQ:=U (R3.cell 0);have aG:=U (R3.cell 1);have cg:=U (R3.cell 2);have aE:=U (R3.cell 3);have bW:=U (R7.cell 1);have cI:=U (R7.cell 4);clear zU kt bg;have nY:=trivial)
    |(clear fu;(with_reducible refine cQ (u:=.slice none 0 0) ?_ ?_ isAgg22 sizeOf22 R7 (i:=2) (by simp) rfl ?_);rfl;rfl;have bg:=R7.ty;clear R7;intro afq R7 zT;have Yp:((([.int .i64 st,.int .i64 au,.slice X1 n1 y1,.slice X2 n2 y2,.slice X3 (n3+1) y3]:List Value).set 0 (.int .i64 1)).set 2 (.slice none 0 0)).length=_:=(List.length_set ..).trans Yo;have kt:=zT.aa bg;replace R2:=zT.row R2;replace R3:=zT.row R3;replace R4:=zT.row R4;replace o1:=kt.own o1;replace o2:=kt.own o2;replace o3:=kt.own o3;replace BB:=BB.trans (zT.below wj);clear aQ aG cg aE bW c_ cU cI;have aQ:=U (R3.cell 0);have aG:=U (R3.cell 1);have cg:=U (R3.cell 2);have aE:=U (R3.cell 3);have bW:=U (R7.cell 1);have cU:=U (R7.cell 3);have cI:=U (R7.cell 4);clear zT kt bg;have gK:=trivial)
    |(clear dX;(with_reducible refine cQ (u:=.int .i64 1) ?_ ?_ isAgg3 sizeOf3 R7 (i:=0) (by simp) rfl ?_);rfl;rfl;have bg:=R7.ty;clear R7;intro afp R7 zS;have Yo:(([.int .i64 st,.int .i64 au,.slice X1 n1 y1,.slice X2 n2 y2,.slice X3 (n3+1) y3]:List Value).set 0 (.int .i64 1)).length=_:=(List.length_set ..).trans (show([.int .i64 st,.int .i64 au,.slice X1 n1 y1,.slice X2 n2 y2,.slice X3 (n3+1) y3]:List Value).length=5 from rfl);have kt:=zS.aa bg;replace R2:=zS.row R2;replace R3:=zS.row R3;replace R4:=zS.row R4;replace o1:=kt.own o1;replace o2:=kt.own o2;replace o3:=kt.own o3;replace BB:=BB.trans (zS.below wj);clear aQ aG cg aE ep bW c_ cU cI;have aQ:=U (R3.cell 0);have aG:=U (R3.cell 1);have cg:=U (R3.cell 2);have aE:=U (R3.cell 3);have bW:=U (R7.cell 1);have c_:=U (R7.cell 2);have cU:=U (R7.cell 3);have cI:=U (R7.cell 4);clear zS kt bg;have fu:=trivial))
   exact Ro
  have eU:(k==9)=false:=beq_eq_false_iff_ne.2 hk9;clear hk9;have dX:=trivial
  go_wp2_with (first
   |(clear fu;(with_reducible refine av (C:=[.int .i64 st,.int .i64 au,.slice X1 n1 y1,.slice X2 n2 y2,.slice X3 (n3+1) y3]) ?_ ?_ bd R4 rfl rfl (by simp[Value.oneCell']) ?_);rfl;rfl;have bg:=R4.ty;clear R4;intro x52 R4 Gn;have kt:=Gn.aa bg;replace R2:=Gn.row R2;replace R3:=Gn.row R3;replace R7:=Gn.row R7;replace o1:=kt.own o1;replace o2:=kt.own o2;replace o3:=kt.own o3;replace BB:=BB.trans (Gn.below gl);clear aQ aG cg aE ep bW c_ cU cI;have aQ:=U (R3.cell 0);have aG:=U (R3.cell 1);have cg:=U (R3.cell 2);have aE:=U (R3.cell 3);have ep:=U (R7.cell 0);have bW:=U (R7.cell 1);have c_:=U (R7.cell 2);have cU:=U (R7.cell 3);have cI:=U (R7.cell 4);clear Gn kt bg;have gK:=trivial)
   |(clear dX;(with_reducible refine ak ?_ bd R7 (show([.int .i64 st,.int .i64 au,.slice X1 n1 y1,.slice X2 n2 y2,.slice X3 (n3+1) y3]:List Value).length=5 from rfl) ?_);rfl;have fu:=trivial))
  try clear gK
  refine bodyPost_ret (bH rfl _ rfl bd R4 rfl) rfl ?_;refine⟨[.int .i64 st,.int .i64 au,.slice X1 n1 y1,.slice X2 n2 y2,.slice X3 (n3+1) y3],0,rfl,by simp[Value.oneCell'],rfl,BB,⟨st,au,_,_,_,zs,fs,log++ [⟨k,u,r,t⟩],rfl,(fF o1 rj.out.symm),(fF o2 rk.out.symm),?_,by have:=rj.out;omega,by have:=rk.out;omega,by have:=qM.out;simp;omega⟩⟩
  ·unfold nh;rw[←ju,List.length_append,List.length_singleton,←qM.out];exact o3
end
end Go.Proofs.YtdnpopjabpklnaaGreatDoor
