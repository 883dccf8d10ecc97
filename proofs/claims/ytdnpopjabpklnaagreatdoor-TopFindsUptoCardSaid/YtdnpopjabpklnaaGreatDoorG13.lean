/- Contracts and plain laws that the proof of the top laws uses (G13). No condition beyond those stated. -/
import Derived.Test.YtdnpopjabpklnaaGreatDoorG12
import Derived.Shelf.Lay
import Derived.Shelf.SlSortCmp.NoneTotal
set_option maxRecDepth 100000
set_option maxHeartbeats 64000000
set_option linter.all false
namespace Go.Proofs
open Tryz
set_option maxRecDepth 100000
set_option maxHeartbeats 64000000
open Go.Shelf Go.RowKit Go.Lib Go.Sort
end Go.Proofs
namespace Go.Proofs.YtdnpopjabpklnaaGreatDoor
open Tryz
open Go.RowKit
set_option linter.unusedVariables false
theorem Ob (b o c:Nat) (x y:Int) (w:World) (h0:w.cell? ⟨b,o,none⟩=some (.int .i64 x)) (h1:w.cell? ⟨b,o+1,none⟩=some (.int .i64 y)):
  Calls prog 202 #[.slice (some ⟨b,o,none⟩) 2 c] w fun e w'=>e=.returned (.int .i64 (if x=0 then y else x))∧w'=w:=by
 obtain⟨r,hr⟩:∃r,r=if x=0 then y else x:=⟨_,rfl⟩
 rw[←hr];have HR:=Lib.hid hr;clear hr
 go_enter func202,ntmps202
 go_wp2_with fail
 go_loopw [8] (fun i wr=>∃k:Nat,k≤2∧i=.int .i64 k∧Hid (1≤k→x=0)∧Hid (2≤k→y=0)∧wr=w) (fun i _=>2 - (intOf i).toNat)
 case atStart=>exact⟨0,Nat.zero_le _,rfl,fun h=>by omega,fun h=>by omega,rfl⟩
 case round=>
  obtain⟨k,hk,rfl,HX,HY,rfl⟩:=hrel
  have kx:k=0∨k=1∨k=2:=by omega
  rcases kx with rfl|rfl|rfl
  ·by_cases hx:x=0
   ·have xw:(x==0)=true:=beq_iff_eq.2 hx
    have Vy:Hid (1≤1→x=0):=fun _=>hx
    have HY2:Hid (2≤1→y=0):=fun h=>absurd h (by decide)
    clear hx
    go_wp2_with fail
    exact⟨⟨1,by omega,by go_num,Vy,HY2,trivial⟩,by simp[intOf]⟩
   ·have HE:Hid (r=x):=by unfold Hid;rw[HR.out,if_neg hx]
    have xw:(x==0)=false:=beq_eq_false_iff_ne.2 hx
    go_wp2_with fail
    go_ret
    exact⟨by rw[HE.out];rfl,rfl⟩
  ·have hx:=HX.out (Nat.le_refl _)
   have HE:Hid (r=y):=by unfold Hid;rw[HR.out,if_pos hx]
   clear hx
   by_cases hy:y=0
   ·have FY:(y==0)=true:=beq_iff_eq.2 hy
    have Vy:Hid (1≤2→x=0):=fun _=>HX.out (Nat.le_refl _)
    have HY2:Hid (2≤2→y=0):=fun _=>hy
    clear hy
    go_wp2_with fail
    exact⟨⟨2,by omega,by go_num,Vy,HY2,trivial⟩,by simp[intOf]⟩
   ·have FY:(y==0)=false:=beq_eq_false_iff_ne.2 hy
    go_wp2_with fail
    go_ret
    exact⟨by rw[HE.out];rfl,rfl⟩
  ·have hx:=HX.out (by omega);have hy:=HY.out (Nat.le_refl _)
   have HE:Hid (r=0):=by unfold Hid;rw[HR.out,if_pos hx,hy]
   clear hx hy
   go_wp2_with fail
   go_ret
   exact⟨by rw[HE.out];rfl,rfl⟩
end Go.Proofs.YtdnpopjabpklnaaGreatDoor
namespace Go.Proofs.YtdnpopjabpklnaaGreatDoor
section
open Go.RowKit Go.Shelf Go.Lib Go.Sort
open Tryz
def Gr (W W':World):Prop:=∃(q:Nat) (os':Array Obj),W'=grow (W.drewN q) os'
theorem Gr.refl (W:World):Gr W W:=⟨0,#[],by rw[grow_empty];rfl⟩
theorem Gr.alloc {W W':World} (h:Gr W W') (o:Obj):Gr W (W'.alloc o):=by
 obtain⟨q,os,rfl⟩:=h;exact⟨q,os++ #[o],by rw[alloc_eq_grow,grow_grow]⟩
theorem Gr.drew {W W':World} (h:Gr W W'):Gr W W'.drew:=by
 obtain⟨q,os,rfl⟩:=h;exact⟨q+1,os,by rw[drew_grow];rfl⟩
section
variable {P:Program} {ty k:Nat} {ops:Array Oper} {rest:List Oper} {a:Act} {w:World} {Q:Exit→Act→World→Prop} {dst:Option Tmp} {x v:Operand} {t':TypeId} {pos:String} {after:Array Edge}
theorem Fl {C:List Value} (hv:a.eval v=.agg C.toArray)
  (h:∀w' g,w.heap.size=g→Row w' g ty C→Below w.heap.size w w'→(∀W,Gr W w→Gr W w')→wpList P ops Q rest (a.put dst (.pointer (some ⟨g,0,none⟩))) w'):wpList P ops Q ({dst:=dst,op:=.box ty v,type:=t',pos:=pos,after:=after,guard:=none}::rest) a w:=
 wpList_plain rfl fun K hK=>by
  unfold Oper.wp execOp;simp only[hv,Instr.box,newVar,newRow,Value.cells,Sem.run_bind,Sem.run_pure];exact hK _ _ (h _ _ rfl (Row.new w ty C) (ai w _) (fun W h=>h.alloc _))
end
def He (x y:Int × Int):Int:=if Lib.compareInt x.1 y.1=0 then Lib.compareInt x.2 y.2 else Lib.compareInt x.1 y.1
theorem EV (x y:Int × Int):ltOf He x y=decide (x.1<y.1∨(x.1=y.1∧x.2<y.2)):=by
 unfold ltOf He Lib.compareInt
 by_cases h1:x.1<y.1
 ·simp[h1]
 ·by_cases h2:y.1<x.1
  ·have h3:¬x.1=y.1:=by omega
   simp[h1,h2,h3]
  ·have h3:x.1=y.1:=by omega
   by_cases h4:x.2<y.2
   ·simp[h3,h4]
   ·by_cases h5:y.2<x.2<;>simp[h3,h4,h5]
theorem UP:SWO (ltOf He):=
 ⟨fun x=>by rw[EV];simp,fun x y z h1 h2=>by rw[EV] at*;simp at*;omega,fun x y z h1 h2=>by rw[EV] at*;simp at*;omega⟩
theorem UO (x y:Int × Int) (W:World):
  Calls prog 201 #[.agg #[.int .i64 x.1,.int .i64 x.2],.agg #[.int .i64 y.1,.int .i64 y.2]] W fun e w'=>e=.returned (.int .i64 (He x y))∧Gr W w':=by
 obtain⟨x1,x2⟩:=x;obtain⟨y1,y2⟩:=y
 have c1:=fun W'=>AnyG.cmp_Compare_int RL x1 y1 W'
 have c2:=fun W'=>AnyG.cmp_Compare_int RL x2 y2 W'
 change ∀W',Calls prog 203 _ _ _ at c1
 change ∀W',Calls prog 203 _ _ _ at c2
 obtain⟨r,hr⟩:∃r,r=He (x1,x2) (y1,y2):=⟨_,rfl⟩;rw[←hr];have HR:Hid (r=if Lib.compareInt x1 y1=0 then Lib.compareInt x2 y2 else Lib.compareInt x1 y1):=Lib.hid hr;clear hr;generalize Lib.compareInt x1 y1=k1 at*;generalize Lib.compareInt x2 y2=k2 at*
 go_enter func201,ntmps201
 have aL:=trivial
 go_wp2_with (first
  |(clear aJ;(with_reducible refine Fl (C:=[.int .i64 y1,.int .i64 y2]) ?_ ?_);rfl;intro z2 g2 cW R2 aF gy;replace R1:=R1.keep aF;have GG:=gy _ GG;clear aF cW gy;have bC:=trivial)
  |(clear aL;(with_reducible refine Fl (C:=[.int .i64 x1,.int .i64 x2]) ?_ ?_);rfl;intro z1 g1 aR R1 aw OU;have GG:=OU _ (Gr.refl _);clear aw aR OU;have aJ:=trivial))
 try clear bC
 have bQ:∀p∈([
   (fun v _=>v=.pointer (some ⟨g1,0,none⟩)),
   (fun v _=>v=.int .i64 x1),
   (fun v _=>v=.pointer (some ⟨g2,0,none⟩)),
   (fun v _=>v=.int .i64 y1),
   (fun v _=>v=.int .i64 k1),
   (fun v _=>v=.pointer (some ⟨g1,1,none⟩)),
   (fun v _=>v=.int .i64 x2),
   (fun v _=>v=.pointer (some ⟨g2,1,none⟩)),
   (fun v _=>v=.int .i64 y2),
   (fun v _=>v=.int .i64 k2),
   (fun v w=>∃b:Nat,Row w b 3 [.int .i64 k1,.int .i64 k2]∧v=.slice (some ⟨b,0,none⟩) 2 2),
   (fun v _=>v=.int .i64 r)]:List (Value→World→Prop)),∀v w w',p v w→Below w.heap.size w w'→p v w':=by
  refine List.forall_mem_cons.2 ⟨fun _ _ _ h _=>h,List.forall_mem_cons.2 ⟨fun _ _ _ h _=>h,List.forall_mem_cons.2 ⟨fun _ _ _ h _=>h,List.forall_mem_cons.2 ⟨fun _ _ _ h _=>h,List.forall_mem_cons.2 ⟨fun _ _ _ h _=>h,List.forall_mem_cons.2 ⟨fun _ _ _ h _=>h,List.forall_mem_cons.2 ⟨fun _ _ _ h _=>h,List.forall_mem_cons.2 ⟨fun _ _ _ h _=>h,List.forall_mem_cons.2 ⟨fun _ _ _ h _=>h,List.forall_mem_cons.2 ⟨fun _ _ _ h _=>h,List.forall_mem_cons.2 ⟨fun v w w' h hb=>by obtain⟨b,h1,h2⟩:=h;exact⟨b,h1.keep hb,h2⟩,List.forall_mem_cons.2 ⟨fun _ _ _ h _=>h,(fun _ h=>by cases h)⟩⟩⟩⟩⟩⟩⟩⟩⟩⟩⟩⟩
 refine cT (by kernel_rfl) 12 (fun _=>none) (fun wx=>Row wx g1 158 [.int .i64 x1,.int .i64 x2]∧Row wx g2 158 [.int .i64 y1,.int .i64 y2]∧Gr W wx) (fun _ w w'=>Below w.heap.size w w') _ (fun j v w w' i _ h hR=>fC bQ (fun _ _ _ _ _=>trivial) i v w w' h hR) (by kernel_rfl) (by kernel_rfl) (fun _ _ h=>by cases h) ⟨R1.drew,R2.drew,GG.drew⟩ ?_ ?_
 ·clear bQ;refine⟨fun _ a wx hG hr hb K hK=>?_,?_⟩
  ·have e1:=aq (hb 2);rw[if_pos (by rfl)];unfold Oper.wp execOp
   go_simp
   exact hK _ _ rfl hG (Below.refl _ _)
  refine⟨fun _ a wx hG hr hb K hK=>?_,?_⟩
  ·have e1:=aq (hr 0 5);have c0:wx.cell? ⟨g1,0,none⟩=some (.int .i64 x1):=(hG.1.cell 0).trans (rfl);rw[if_pos (by rfl)];unfold Oper.wp execOp
   go_simp
   exact hK _ _ rfl hG (Below.refl _ _)
  refine⟨fun _ a wx hG hr hb K hK=>?_,?_⟩
  ·have e1:=aq (hb 3);rw[if_pos (by rfl)];unfold Oper.wp execOp
   go_simp
   exact hK _ _ rfl hG (Below.refl _ _)
  refine⟨fun _ a wx hG hr hb K hK=>?_,?_⟩
  ·have e1:=aq (hr 2 7);have c0:wx.cell? ⟨g2,0,none⟩=some (.int .i64 y1):=(hG.2.1.cell 0).trans (rfl);rw[if_pos (by rfl)];unfold Oper.wp execOp
   go_simp
   exact hK _ _ rfl hG (Below.refl _ _)
  refine⟨fun _ a wx hG hr hb K hK=>?_,?_⟩
  ·have e1:=aq (hr 1 6);have e2:=aq (hr 3 8);rw[if_pos (by rfl)];unfold Oper.wp execOp
   go_simp
   refine(c1 wx).mono ?_;rintro e' w' ⟨rfl,rfl⟩;exact hK _ _ rfl hG (Below.refl _ _)
  refine⟨fun _ a wx hG hr hb K hK=>?_,?_⟩
  ·have e1:=aq (hb 2);rw[if_pos (by rfl)];unfold Oper.wp execOp
   go_simp
   exact hK _ _ rfl hG (Below.refl _ _)
  refine⟨fun _ a wx hG hr hb K hK=>?_,?_⟩
  ·have e1:=aq (hr 5 10);have c0:wx.cell? ⟨g1,1,none⟩=some (.int .i64 x2):=(hG.1.cell 1).trans (rfl);rw[if_pos (by rfl)];unfold Oper.wp execOp
   go_simp
   exact hK _ _ rfl hG (Below.refl _ _)
  refine⟨fun _ a wx hG hr hb K hK=>?_,?_⟩
  ·have e1:=aq (hb 3);rw[if_pos (by rfl)];unfold Oper.wp execOp
   go_simp
   exact hK _ _ rfl hG (Below.refl _ _)
  refine⟨fun _ a wx hG hr hb K hK=>?_,?_⟩
  ·have e1:=aq (hr 7 12);have c0:wx.cell? ⟨g2,1,none⟩=some (.int .i64 y2):=(hG.2.1.cell 1).trans (rfl);rw[if_pos (by rfl)];unfold Oper.wp execOp
   go_simp
   exact hK _ _ rfl hG (Below.refl _ _)
  refine⟨fun _ a wx hG hr hb K hK=>?_,?_⟩
  ·have e1:=aq (hr 6 11);have e2:=aq (hr 8 13);rw[if_pos (by rfl)];unfold Oper.wp execOp
   go_simp
   refine(c2 wx).mono ?_;rintro e' w' ⟨rfl,rfl⟩;exact hK _ _ rfl hG (Below.refl _ _)
  refine⟨fun _ a wx hG hr hb K hK=>?_,?_⟩
  ·have e1:=aq (hr 4 9);have e2:=aq (hr 9 14);rw[if_pos (by rfl)];unfold Oper.wp execOp
   go_simp
   have aY:=ai wx (.cells #[.int .i64 k1,.int .i64 k2] 3);exact hK _ _ ⟨wx.heap.size,Row.new wx 3 [.int .i64 k1,.int .i64 k2],rfl⟩ ⟨hG.1.keep aY,hG.2.1.keep aY,hG.2.2.alloc _⟩ aY
  refine⟨fun _ a wx hG hr hb K hK=>?_,?_⟩
  ·rw[if_pos (by rfl)];unfold Oper.wp execOp;obtain⟨b,XJ,e1⟩:=hr 10 15;rw[bR] at e1
   go_simp
   refine(Ob b 0 2 k1 k2 wx (XJ.cell 0) (XJ.cell 1)).mono ?_;rintro e' w' ⟨rfl,rfl⟩;exact hK _ _ (congrArg (Value.int .i64) HR.out.symm) hG (Below.refl _ _)
  exact⟨fun h=>absurd h (by decide),trivial⟩
 ·intro v wx oo AA hA ho hG hV K hK
  simp[dh,bD,List.range,List.range.loop,Act.put] at hA
  have e0:=aM (hV 0 (by decide) rfl);have e1:=aM (hV 1 (by decide) rfl);have e2:=aM (hV 2 (by decide) rfl);have e3:=aM (hV 3 (by decide) rfl);have e4:=aM (hV 4 (by decide) rfl);have e5:=aM (hV 5 (by decide) rfl);have e6:=aM (hV 6 (by decide) rfl);have e7:=aM (hV 7 (by decide) rfl);have e8:=aM (hV 8 (by decide) rfl);have e9:=aM (hV 9 (by decide) rfl);obtain⟨b,XJ,ic⟩:=hV 10 (by decide) rfl;have iA:=aM (hV 11 (by decide) rfl);rw[e0,e1,e2,e3,e4,e5,e6,e7,e8,e9,ic,iA] at hA;subst hA;clear hV e0 e1 e2 e3 e4 e5 e6 e7 e8 e9 ic iA
  try clear bQ
  have bU:some _=some oo:=ho
  injection bU with bU
  subst bU;clear ho;rw[if_pos (by rfl)];unfold Oper.wp execOp
  go_simp
  refine hK _ _ ?_;have ey:=hG.2.2
  go_wp2_with fail
  go_ret
  exact⟨rfl,ey⟩
end
section
open Go.RowKit Go.Shelf Go.Lib Go.Sort
open Tryz
def da (ps:List (Int × Int)):List Value:=(ps.map ja).flatten
theorem eR (ps:List (Int × Int)):(da ps).length=ps.length*2:=by
 unfold da;rw[rz (k:=2) _ (fun C hC=>by rw[List.mem_map] at hC;obtain⟨y,_,rfl⟩:=hC;rfl),List.length_map]
theorem Ot (ps:List (Int × Int)):∀u∈da ps,u.oneCell'=true:=by
 intro u hu;unfold da at hu;rw[List.mem_flatten] at hu;obtain⟨l,hl,hu⟩:=hu;rw[List.mem_map] at hl;obtain⟨x,_,rfl⟩:=hl;simp only[ja,List.mem_cons,List.not_mem_nil,or_false] at hu
 rcases hu with rfl|rfl<;>rfl
theorem na (a b:List (Int × Int)):da (a++b)=da a++da b:=by unfold da;simp
theorem sf (ps:List (Int × Int)):∀(i j:Nat) (hi:i<ps.length),j<2→(da ps)[i*2+j]? =(ja ps[i])[j]? :=by
 induction ps with
 |nil=>intro i j hi;simp at hi
 |cons p t ih=>
  intro i j hi hj
  cases i with
  |zero=>
   have:j=0∨j=1:=by omega
   rcases this with rfl|rfl<;>rfl
  |succ i=>
   have e:(i+1)*2+j=i*2+j+2:=by omega
   rw[e];have h:=ih i j (by simpa using hi) hj
   simpa[da,ja] using h
def PW (base:Nat) (w:World) (v:Value) (n:Nat):Prop:=∃ps:List (Int × Int),ps.length=n∧w.ownsRow base 158 2 v n (da ps)
section
variable {w w':World} {base n g cap:Nat} {v:Value}
theorem PW.of {ps:List (Int × Int)} (h:w.ownsRow base 158 2 v n (da ps)):PW base w v n:=by
 refine⟨ps,?_,h⟩;have:=h.1;rw[eR] at this;omega
theorem PW.keep (h:PW base w v n) (hb:Below w.heap.size w w'):PW base w' v n:=by
 obtain⟨ps,h1,h2⟩:=h;exact⟨ps,h1,I h2 hb⟩
theorem PW.here (h:PW base w v n) (hn:0<n):∃g cap,v=.slice (some ⟨g,0,none⟩) n cap∧n≤cap∧cap≤maxLen∧base≤g∧dE w g 158:=by
 obtain⟨ps,h1,h2⟩:=h;obtain⟨g,cap,a,b,c,d,e,_⟩:=cj h2 hn;exact⟨g,cap,a,b,c,d,e⟩
theorem PW.get (h:PW base w (.slice (some ⟨g,0,none⟩) n cap) n) (i:Nat) (hi:i<n):∃x y:Int,w.cell? ⟨g,i*2,none⟩=some (.int .i64 x)∧w.cell? ⟨g,i*2+1,none⟩=some (.int .i64 y):=by
 obtain⟨ps,h1,h2⟩:=h;obtain⟨g',mS,hv,_,_,_,_,hc,_⟩:=cj h2 (by omega)
 injection hv with q1 _ _
 injection q1 with q1
 injection q1 with q1
 subst q1;refine⟨(ps[i]'(by omega)).1,(ps[i]'(by omega)).2,?_,?_⟩
 ·have:=hc (i*2+0) _ (by rw[sf ps i 0 (by omega) (by omega)];rfl)
  simpa using this
 ·have:=hc (i*2+1) _ (by rw[sf ps i 1 (by omega) (by omega)];rfl)
  simpa using this
theorem PW.Lm (h:PW base w (.slice (some ⟨g,0,none⟩) n cap) n) (hn:0<n):∀j,w.frozen? ⟨g,j,none⟩=false:=by
 obtain⟨ps,h1,h2⟩:=h;obtain⟨g',mS,hv,_,_,_,_,hc,_,_,hf⟩:=cj h2 hn
 injection hv with q1 _ _
 injection q1 with q1
 injection q1 with q1
 subst q1;exact hf
theorem Ql (ps qs:List (Int × Int)) (i:Nat) (h:i+qs.length≤ps.length):ff (da ps) (i*2) (da qs)=da (ps.take i++qs++ps.drop (i+qs.length)):=by
 unfold ff
 have e1:(da ps).take (i*2)=da (ps.take i):=by
  have h:=congrArg da (List.take_append_drop i ps).symm;rw[na] at h;rw[h,List.take_left'];rw[eR,List.length_take];omega
 have e2:(da ps).drop (i*2+(da qs).length)=da (ps.drop (i+qs.length)):=by
  have h:=congrArg da (List.take_append_drop (i+qs.length) ps).symm;rw[na] at h;rw[h,List.drop_left'];rw[eR,eR,List.length_take];omega
 rw[e1,e2,na,na,List.append_assoc]
theorem PW.Y6 (h:PW base w (.slice (some ⟨g,0,none⟩) n cap) n) (i:Nat) (qs:List (Int × Int)) (hi:i+qs.length≤n) (h0:0<n):PW base (w.setCells g (i*2) (da qs)) (.slice (some ⟨g,0,none⟩) n cap) n:=by
 obtain⟨ps,h1,h2⟩:=h;obtain⟨g',mS,hv,_,_,_,_,hc,hs,_⟩:=cj h2 h0
 injection hv with q1 _ _
 injection q1 with q1
 injection q1 with q1
 subst q1;have:=hs (i*2) (da qs) (by rw[eR,eR];omega);rw[Ql ps qs i (by omega)] at this;exact PW.of this
theorem PW.put (h:PW base w (.slice (some ⟨g,0,none⟩) n cap) n) (i:Nat) (x y:Int) (hi:i<n):PW base ((w.setCell ⟨g,i*2,none⟩ (.int .i64 x)).setCell ⟨g,i*2+1,none⟩ (.int .i64 y)) (.slice (some ⟨g,0,none⟩) n cap) n:=
 h.Y6 i [(x,y)] (by simp;omega) (by omega)
theorem PW.cut (h:PW base w (.slice (some ⟨g,0,none⟩) n cap) n) (h0:0<n) (m:Nat) (hm:m≤n):PW base w (.slice (some ⟨g,0,none⟩) m cap) m:=by
 obtain⟨ps,h1,h2⟩:=h;refine⟨ps.take m,by simp;omega,?_,?_⟩
 ·rw[eR];simp;omega
 ·rcases h2.2 with ⟨a,_⟩|⟨g',mS,cur,hv,hg,hh,r1,r2,r3,r4⟩
  ·cases a
  ·injection hv with q1 q2 q3
   injection q1 with q1
   injection q1 with q1
   subst q1 q3;refine .inr ⟨g,cap,cur,rfl,hg,hh,by omega,r2,r3,?_⟩;have h:=congrArg (List.take (m*2)) r4;rw[List.take_take,Nat.min_eq_left (by omega)] at h;rw[h];have h:=congrArg da (List.take_append_drop m ps).symm;rw[na] at h;rw[h,List.take_left'];rw[eR,List.length_take];omega
end
theorem BK (w:World) (g i j:Nat) (x y:Value):w.grownBy ((w.setCell ⟨g,i,none⟩ x).setCell ⟨g,j,none⟩ y) (some g):=by
 have P:=(cH.set w g i x).trans (cH.set _ g j y);exact⟨P.os,P.tape,P.output,Nat.le_of_eq P.size.symm,fun k hk cu=>P.block k (fun e=>cu (by rw[e]))⟩
theorem Kc (n:Nat):(Builtin.zeroCells #[.int .i64 0,.int .i64 0] n).toList=da (List.replicate n (0,0)):=by
 apply List.ext_getElem?
 intro t
 by_cases ht:t<n*2
 ·have h1:t / 2<n:=by omega
  have h2:=sf (List.replicate n ((0:Int),(0:Int))) (t / 2) (t % 2) (by simpa using h1) (by omega);rw[show t / 2*2+t % 2=t by omega] at h2;rw[h2];simp only[Builtin.zeroCells,List.getElem_replicate]
  have:t % 2=0∨t % 2=1:=by omega
  rcases this with h|h<;>simp[h,ja,ht]
 ·rw[List.getElem?_eq_none (by simp[Builtin.zeroCells];omega),List.getElem?_eq_none (by rw[eR];simp;omega)]
theorem rS {P:Program} (w:World) (t e ty:TypeId) (ht:P.underlying t=some (.slice e)) (hv:∀w,(zeroValue e).run P w=.ok (.agg #[.int .i64 0,.int .i64 0]) w) (b o n c:Nat) (hn:0<n)
  (hc:∀j,j<n*2→(w.cell? ⟨b,o+j,none⟩).isSome=true) (hf:∀j,j<n*2→w.frozen? ⟨b,o+j,none⟩=false):
  (Builtin.clear_ #[t] ty #[.slice (some ⟨b,o,none⟩) n c]).run P w=.ok (.tuple #[]) (w.setCells b o (da (List.replicate n (0,0)))):=by
 have bQ:=run_storeCells_cells (P:=P) b o (da (List.replicate n (0,0))) 0 w (by rw[eR];simpa using hc) (by rw[eR];simpa using hf) (Ot _);simp only[Nat.add_zero] at bQ;obtain⟨m,rfl⟩:∃m,n=m+1:=⟨n - 1,by omega⟩;have hz:=Kc (m+1)
 simp[Builtin.clear_,run_underlying ht,hv,Value.cells,hz,bQ]
theorem yx (d:Array (Int × Int)):flatK ja 2 d=(da d.toList).toArray:=by
 refine ext_get! (by rw[size_flatK];simp[eR]) fun t ht=>?_
 rw[size_flatK] at ht;rw[get_flatK _ _ _ _ ht];have h2:=sf d.toList (t / 2) (t % 2) (by simp;omega) (by omega);rw[show t / 2*2+t % 2=t by omega] at h2
 have h3:(da d.toList).toArray[t]! =((da d.toList)[t]?).getD default:=by simp
 rw[h3,h2]
 have h4:d[t / 2]! =d.toList[t / 2]'(by simp;omega):=by rw[getElem!_pos d (t / 2) (by omega)];simp
 rw[←h4]
 simp
theorem Qk (base:Nat) (v:Value) (n:Nat) (w:World) (h:PW base w v n) (hn:n≤1100000):
  Calls prog 200 #[v,.func (.func 201) #[] #[]] w fun e w'=>e=.returned (.tuple #[])∧PW base w' v n∧w.grownBy w' v.ownBlock:=by
 obtain⟨ps,hl,h⟩:=h
 rcases Nat.eq_zero_or_pos n with rfl|h0
 ·obtain⟨A,c,rfl,_,_⟩:=aj h;refine(AnyF.slices_SortFunc_none Hk A c _ w).mono ?_;rintro e w' ⟨rfl,rfl⟩;exact⟨rfl,⟨ps,hl,h⟩,World.grownBy.refl _ _⟩
 ·obtain⟨g,cap,rfl,h1,h2,hb,dW,aO,bQ,qy,kv⟩:=cj h h0;have eg:∀args w,(callFunc 201 args).run prog w=.ok (.enter 201 args) w:=enters_of func201 (by kernel_rfl) rfl
  have hH:Holds id w g 0 (da ps).toArray:=by
   intro j hj
   have oJ:j<(da ps).length:=by simpa using hj
   refine⟨?_,kv _⟩;have:=aO j (da ps)[j] (List.getElem?_eq_getElem oJ);rw[this]
   simp[oJ]
  have hHK:HoldsK ja 2 w g 0 ps.toArray:=by
   unfold HoldsK;rw[yx];exact hH
  subst hl;refine(AnyQ.slices_SortFunc Hk 2 isAgg158 sizeOf158 ja (fun _=>rfl) (fun x u hu=>by simp[ja] at hu;rcases hu with rfl|rfl<;>rfl) He UP 201 #[] g 0 cap ps.toArray w eg (fun m os dk hdk x y=>(UO x y _).mono fun _ _ h=>h) hHK dW.lt (by simp;omega)).mono ?_;rintro e w' ⟨rfl,d',q,os,hp,hs,rfl⟩
  have cM:(da d'.toList).length=(da ps).toArray.size:=by
   have:=hp.1
   simp[eR] at this ⊢
   omega
  have hd:d'.toList.length=ps.length:=by have:=hp.1;simpa using this
  have hw:sortWorldK ja 2 w g 0 q d' os=grow ((w.drewN q).setCells g 0 (da d'.toList)) os:=by
   unfold sortWorldK putRowK;rw[yx,Go.Lib.putRow_eq_setCells id w g 0 _ _ q hH cM,List.map_id]
  rw[hw];have P:=cH.iX (g:=g) (da d'.toList) 0 (w.drewN q)
  have a_:((w.drewN q).setCells g 0 (da d'.toList)).ownsRow base 158 2 (.slice (some ⟨g,0,none⟩) ps.length cap) ps.length (da d'.toList):=by
   have h':(w.drewN q).ownsRow base 158 2 (.slice (some ⟨g,0,none⟩) ps.length cap) ps.length (da ps):=h;obtain⟨g',mS,hv,_,_,_,_,_,jX,_⟩:=cj h' h0
   injection hv with q1 _ _
   injection q1 with q1
   injection q1 with q1
   subst q1;have:=jX 0 (da d'.toList) (by rw[eR,eR];omega)
   rwa [zB (by rw[eR,eR];omega)] at this
  generalize (w.drewN q).setCells g 0 (da d'.toList)=W at P a_;have hbG:Below W.heap.size W (grow W os):=⟨rfl,rfl,rfl,by simp,fun k hk=>heap_grow_old _ _ hk⟩;refine⟨rfl,PW.of (I a_ hbG),?_⟩;refine⟨P.os,P.tape,P.output,by rw[Go.Sort.size_grow,P.size];exact Nat.le_add_right _ _,fun k hk cu=>?_⟩;rw[heap_grow_old _ _ (by rw[P.size];exact hk)];exact P.block k (fun e=>cu (by rw[e];rfl))
end
section
open Go.RowKit
open Tryz
theorem Mg:(prog.info? 158).map (fun i=>(i.zero,i.size,i.bytes))=some (some (.agg #[.int .i64 0,.int .i64 0]),2,16):=by kernel_rfl
theorem iR {w w1 w2:World} {r:Option Nat} (h:w.grownBy w1 r) (h':w1.grownBy w2 r):w.grownBy w2 r:=
 ⟨h'.os.trans h.os,h'.tape.trans h.tape,h'.output.trans h.output,Nat.le_trans h.size h'.size,fun k hk cu=>(h'.block k (Nat.lt_of_lt_of_le hk h.size) cu).trans (h.block k hk cu)⟩
theorem oH (w:World) (q:Nat) (r:Option Nat):w.grownBy (w.drewN q) r:=⟨rfl,rfl,rfl,Nat.le_refl _,fun _ _ _=>rfl⟩
theorem Bf (w:World) (g o:Nat) (us:List Value):w.grownBy (w.setCells g o us) (some g):=by
 have P:=cH.iX (g:=g) us o w;exact⟨P.os,P.tape,P.output,Nat.le_of_eq P.size.symm,fun k hk cu=>P.block k (fun e=>cu (by rw[e]))⟩
theorem QL {P:Prop} (h:P:=by
 clear hx hq
 go_wp2_with fail
 go_region
 go_wp2_with fail
 go_roundw
 case rel=>exact⟨kk+1,k2+1,by go_num,by go_num,by omega,by omega,by omega,PN,iR GN (oH _ 1 _)⟩
 case measure=>simp[intOf];omega):P:=h
theorem QM {P:Prop} (h:P:=by
 go_region
 go_wp2_with fail
 go_roundw
 case rel=>exact⟨k+1,q+1,by omega,by omega,by go_num,rfl⟩
 case measure=>simp[intOf];omega):P:=h
theorem FF (base:Nat) (v:Value) (n:Nat) (w:World) (h:PW base w v n) (hn:n≤1100000):
  Calls prog 204 #[v] w fun e w'=>∃v',e=.returned v'∧(∃m,m≤n∧PW base w' v' m)∧w.grownBy w' v.ownBlock:=by
 by_cases h2:n<2
 ·obtain⟨A,c,rfl,_,_⟩:=aj h.choose_spec.2
  have yC:(n:Int)<2:=by omega
  have HP:=Lib.hid h;clear h
  go_enter func204,ntmps204
  go_wp2_with fail
  go_ret
  exact⟨_,rfl,⟨n,Nat.le_refl _,HP.out⟩,World.grownBy.refl _ _⟩
 obtain⟨g,cap,rfl,h1,h3,hb,dW⟩:=h.here (by omega)
 have yC:¬(n:Int)<2:=by omega
 have HP:=Lib.hid h;clear h
 go_enter func204,ntmps204
 go_wp2_with fail
 go_loopw [3] (fun i wr=>∃k q:Nat,1≤k∧k≤n∧i=.int .i64 k∧wr=w.drewN q) (fun i _=>n - (intOf i).toNat)
 case atStart=>exact⟨1,0,Nat.le_refl _,by omega,rfl,rfl⟩
 case round=>
  obtain⟨k,q,kx,As,rfl,rfl⟩:=hrel
  by_cases aS:k<n
  ·have wG:(k:Int)<(n:Int):=by omega
   obtain⟨x,y,c0,c1⟩:=HP.out.get k aS;obtain⟨x',y',d0,d1⟩:=HP.out.get (k - 1) (by omega)
   go_wp2_with fail
   by_cases hx:x=x'
   ·have xw:(x==x')=true:=beq_iff_eq.2 hx
    by_cases hy:y=y'
    ·have FY:(y==y')=true:=beq_iff_eq.2 hy;clear hx hy
     go_region
     go_wp2_with fail
     clear c0 c1 d0 d1 xw FY
     go_loopw [3,5] (fun s3 s5 wr=>∃kk k2:Nat,s3=.int .i64 kk∧s5=.int .i64 k2∧1≤k2∧k+k2≤n∧kk+1≤k+k2∧PW base wr (.slice (some ⟨g,0,none⟩) n cap) n∧w.grownBy wr (some g)) (fun _ s5 _=>n - (intOf s5).toNat)
     case atStart=>exact⟨k,1,rfl,rfl,Nat.le_refl _,by omega,by omega,HP.out,oH _ _ _⟩
     case round=>
      obtain⟨kk,k2,rfl,rfl,m1,m2,m3,oW,GR⟩:=hrel
      by_cases Ja:k+k2<n
      ·have adn:(k2:Int)<((n - k:Nat):Int):=by omega
       obtain⟨x,y,c0,c1⟩:=oW.get (k+k2) Ja;obtain⟨x',y',d0,d1⟩:=oW.get (k+k2 - 1) (by omega);rw[show(k+k2)*2=k*2+k2*2 by omega] at c0 c1;rw[show(k+k2 - 1)*2=k*2+(k2 - 1)*2 by omega] at d0 d1
       by_cases hq:x=x'∧y=y'
       ·obtain⟨hx,hy⟩:=hq;have xw:(x==x')=true:=beq_iff_eq.2 hx;have FY:(y==y')=true:=beq_iff_eq.2 hy;clear hx hy
        go_wp2_with fail
        go_region
        go_wp2_with fail
        go_roundw
        case rel=>exact⟨kk,k2+1,rfl,by go_num,by omega,by omega,by omega,oW,iR GR (oH wr 1 _)⟩
        case measure=>simp[intOf];omega
       ·obtain⟨ox,oy,e0,e1⟩:=oW.get kk (by omega);have fr:=oW.Lm (by omega);have fr0:=fr (kk*2);have fr1:=fr (kk*2+1);have PN:=oW.put kk x y (by omega);have GN:=iR GR (BK wr g (kk*2) (kk*2+1) (.int .i64 x) (.int .i64 y));clear fr
        by_cases hx:x=x'
        ·have xw:(x==x')=true:=beq_iff_eq.2 hx;have FY:(y==y')=false:=beq_eq_false_iff_ne.2 (fun h=>hq ⟨hx,h⟩);exact QL
        ·have xw:(x==x')=false:=beq_eq_false_iff_ne.2 hx;exact QL
      ·have adn:¬(k2:Int)<((n - k:Nat):Int):=by omega
       have nW:kk<n:=by omega
       have PW2:=oW;obtain⟨ps,jk,a_⟩:=PW2;obtain⟨gg,mS,hv,_,_,_,_,_,_,jy,kv⟩:=cj a_ (by omega)
       injection hv with q1 _ q3
       injection q1 with q1
       injection q1 with q1
       subst q1 q3
       have aO:∀ty c,(Builtin.clear_ #[29] ty #[.slice (some ⟨g,kk*2,none⟩) (n - kk) c]).run prog wr=.ok (.tuple #[]) (wr.setCells g (kk*2) (da (List.replicate (n - kk) (0,0)))):=fun ty c=>
        rS wr _ _ ty underlying29 zeroValue158 g (kk*2) _ c (by omega) (fun j hj=>jy _ (by have:=h1;omega)) (fun j hj=>kv _)
       have PN:=(oW.Y6 kk (List.replicate (n - kk) (0,0)) (by simp;omega) (by omega)).cut (by omega) kk (by omega);have GN:=iR GR (Bf wr g (kk*2) (da (List.replicate (n - kk) (0,0))));clear jy kv oW GR a_ jk
       go_wp2_with fail
       go_ret
       exact⟨_,rfl,⟨kk,by omega,PN⟩,GN⟩
    ·have FY:(y==y')=false:=beq_eq_false_iff_ne.2 hy;clear hx hy;exact QM
   ·have xw:(x==x')=false:=beq_eq_false_iff_ne.2 hx;clear hx;exact QM
  ·have wG:¬(k:Int)<(n:Int):=by omega
   go_wp2_with fail
   go_ret
   exact⟨_,rfl,⟨n,Nat.le_refl _,HP.out⟩,oH _ _ _⟩
theorem aaH (base:Nat) (w:World):PW base w (.slice none 0 0) 0:=⟨[],rfl,World.ownsRow_nil _ _ _ _⟩
theorem rR {base:Nat} {w:World} {v:Value} {n:Nat} (h:PW base w v n):∃A c,v=.slice A n c∧n≤c∧c≤maxLen:=by
 obtain⟨ps,_,h⟩:=h;exact aj h
theorem Sz {base:Nat} {w w':World} {X:Option Addr} {y n:Nat} {v2:Value} {p q:Int} {ps:List (Int × Int)} (h:w'.ownsRow base 158 2 v2 (n+1) (da ps++ [.int .i64 p,.int .i64 q])):PW base w' v2 (n+1):=by
 have e:da ps++ [.int .i64 p,.int .i64 q]=da (ps++ [(p,q)]):=by rw[na];rfl
 rw[e] at h;exact PW.of h
theorem xc (A:Option Addr) (n c:Nat) (l:List (Int × Int)) (w:World) (h:dF w A n 2 (l.map ja).flatten) (hn:n=l.length) (ix:n≤1100000):
  Calls prog 144 #[.slice A n c] w fun e w'=>∃v,e=.returned v∧(∃m,m≤n∧PW w.heap.size w' v m)∧Below w.heap.size w w':=by
 have HN:=Lib.hid hn;clear hn
 go_enter func144,ntmps144
 go_wp2_with fail
 go_loopw [3,8] (fun s3 i wr=>∃(j m:Nat),j≤n∧i=.int .i64 j∧m≤j∧PW w.heap.size wr s3 m∧Below w.heap.size w wr) (fun _ i _=>n - (intOf i).toNat)
 case atStart=>exact⟨0,0,Nat.zero_le _,rfl,Nat.le_refl _,aaH _ _,Below.refl _ _⟩
 case round=>
  obtain⟨j,m,hj,rfl,hmj,oW,BB⟩:=hrel;obtain⟨X,y,rfl,hmy,hy⟩:=rR oW
  by_cases aS:j<n
  ·have wG:(j:Int)<(n:Int):=by omega
   obtain⟨b',o',sn,jc⟩:=lE h HN.out nj j (by have:=HN.out;omega);subst sn;have fy:=jc.below BB (jc.lt (by rw[nj];decide));generalize l[j]'(by have:=HN.out;omega)=z at fy;have f0:wr.cell? ⟨b',o'+j*2,none⟩=some (.int .i64 z.1):=fy 0 _ rfl;have f1:wr.cell? ⟨b',o'+j*2+1,none⟩=some (.int .i64 z.2):=fy 1 _ rfl;obtain⟨z1,z2⟩:=z;simp only at f0 f1;clear fy jc h;have HB:=BB
   by_cases hz:z1=z2
   ·subst hz
    go_wp2_with fail
    go_roundw
    case rel=>exact⟨j+1,m,by omega,by go_num,by omega,oW.keep (ai wr _),al BB _⟩
    case measure=>simp[intOf];omega
   ·have CK:(z1==z2)=false:=beq_eq_false_iff_ne.2 hz
    go_wp2_with fail
    with_reducible refine(mF z1 z2 _).mono ?_
    rintro e w1 ⟨rfl,aC⟩;generalize min z1 z2=p at*;generalize max z1 z2=q at*;have P1:=(oW.keep (ai wr (.cells #[.int .i64 z1,.int .i64 z2] 158))).keep aC;have B1:=ar aC (al BB (.cells #[.int .i64 z1,.int .i64 z2] 158));obtain⟨ps,jk,a_⟩:=P1;have d_:=bN a_ (.cells #[.int .i64 p,.int .i64 q] 158);have e1:dF (w1.alloc (.cells #[.int .i64 p,.int .i64 q] 158)) (some ⟨w1.heap.size,0,none⟩) 1 2 [.int .i64 p,.int .i64 q]:=⟨rfl,fun _=>⟨_,_,rfl,(Row.new w1 158 [.int .i64 p,.int .i64 q]).cl⟩⟩;have BA:=al B1 (.cells #[.int .i64 p,.int .i64 q] 158);clear f0 f1 a_ aC oW BB hz CK
    go_wp2_with (first|(refine cv (by rfl) (.tmp 17) (.tmp 23) 29 (by rfl) w.heap.size 158 _ 2 16 underlying29 Mg rfl (by decide) (.slice X m y) m (da ps) (some ⟨w1.heap.size,0,none⟩) 1 1 [.int .i64 p,.int .i64 q] (by rfl) (by rfl) d_ e1 (by intro u hu;simp only[List.mem_cons,List.not_mem_nil,or_false] at hu;rcases hu with rfl|rfl<;>rfl) (by unfold maxLen;omega) (by omega) BA.size ?_;intro v2 w2 gM gy;have B2:=BA.trans (bG d_ gy (Nat.le_refl _) BA.size)))
    go_roundw
    case rel=>exact⟨j+1,m+1,by omega,by go_num,by omega,Sz (X:=none) (y:=0) (w:=w2) gM,B2⟩
    case measure=>simp[intOf];omega
  ·have wG:¬(j:Int)<(n:Int):=by omega
   go_wp2_with fail
   with_reducible refine(Qk w.heap.size _ m _ oW (by omega)).mono ?_
   rintro e w1 ⟨rfl,P1,G1⟩;obtain⟨ps,jk,a_⟩:=oW;have B1:=BB.trans (bG a_ G1 (Nat.le_refl _) BB.size);clear a_ G1 BB
   go_wp2_with fail
   with_reducible refine(FF w.heap.size _ m _ P1 (by omega)).mono ?_
   rintro e w2 ⟨v,rfl,⟨m',O7,P2⟩,G2⟩;obtain⟨ps1,afc,gW⟩:=P1;have B2:=B1.trans (bG gW G2 (Nat.le_refl _) B1.size)
   go_wp2_with fail
   go_ret
   exact⟨v,rfl,⟨m',by omega,P2⟩,B2⟩
def Cc (n:Nat) (w:World) (e:Ending) (w':World):Prop:=∃v z,e=.returned (.tuple #[v,.int .i64 z])∧v.oneCell'=true∧(z=0→∃m,m≤n+1∧PW w.heap.size w' v m)∧Below w.heap.size w w'
theorem Cc.err {n:Nat} {w w':World} (z:Int) (hz:z≠0) (hb:Below w.heap.size w w'):Cc n w (.returned (.tuple #[.slice none 0 0,.int .i64 z])) w':=
 ⟨_,z,rfl,rfl,fun h=>absurd h hz,hb⟩
theorem aaI {base n:Nat} {w:World} {v:Value} (h:PW base w v n):v.oneCell'=true:=by
 obtain⟨ps,_,h⟩:=h;exact dv h
theorem SB {base n c:Nat} {w:World} {A:Option Addr} (h:PW base w (.slice A n c) n):∃l:List (Int × Int),l.length=n∧dF w A n 2 (l.map ja).flatten:=by
 obtain⟨ps,h1,h2⟩:=h;exact⟨ps,h1,bZ h2⟩
theorem Tv (A:Option Addr) (n c:Nat) (l:List (Int × Int)) (a b:Int) (w:World) (h:dF w A n 2 (l.map ja).flatten) (hn:n=l.length) (ix:n≤900000):
  Calls prog 94 #[.slice A n c,.int .i64 a,.int .i64 b] w (Cc n w):=by
 have HA:=fun W (hb:Below w.heap.size w W)=>KF A n c l a b W (h.below (by decide) hb) hn (by omega)
 have HM:=fun W (hb:Below w.heap.size w W)=>xc A n c l W (h.below (by decide) hb) hn (by omega)
 clear h hn
 by_cases hr:1≤a∧a≤9999999∧1≤b∧b≤9999999
 case neg=>
  clear HA HM
  go_enter func94,ntmps94
  by_cases q1:a<1
  ·go_wp2_with fail
   go_ret2
   exact Cc.err 3 (by decide) (Below.refl _ _)
  by_cases q2:9999999<a
  ·go_wp2_with fail
   go_ret2
   exact Cc.err 3 (by decide) (Below.refl _ _)
  by_cases q3:b<1
  ·go_wp2_with fail
   go_ret2
   exact Cc.err 3 (by decide) (Below.refl _ _)
  have q4:9999999<b:=by omega
  go_wp2_with fail
  go_ret2
  exact Cc.err 3 (by decide) (Below.refl _ _)
 obtain⟨r1,r2,r3,r4⟩:=hr
 have q1:¬a<1:=by omega
 have q2:¬9999999<a:=by omega
 have q3:¬b<1:=by omega
 have q4:¬9999999<b:=by omega
 go_enter func94,ntmps94
 by_cases hab:a=b
 ·subst hab
  go_wp2_with fail
  go_ret2
  exact Cc.err 1 (by decide) (Below.refl _ _)
 have ae2:(a==b)=false:=beq_eq_false_iff_ne.2 hab
 go_wp2_with fail
 with_reducible refine(HA _ (Below.refl _ _)).mono ?_
 rintro e w1 ⟨⟨t,rfl⟩,aC⟩
 cases t with
 |true=>
  go_wp2_with fail
  go_ret2
  exact Cc.err 7 (by decide) aC
 |false=>
  go_wp2_with fail
  with_reducible refine(HM _ aC).mono ?_
  rintro e w2 ⟨v,rfl,⟨m,hm,P2⟩,ax⟩;have B2:=az aC ax;obtain⟨X,y,rfl,hmy,hy⟩:=rR P2;clear HA HM ax
  by_cases h4:400≤(m:Int)
  ·go_wp2_with fail
   go_ret2
   exact Cc.err 5 (by decide) B2
  ·go_wp2_with fail
   with_reducible refine(mF a b _).mono ?_
   rintro e w3 ⟨rfl,eE⟩;generalize min a b=p at*;generalize max a b=q at*;have P3:=P2.keep eE;have B3:=az B2 eE
   have m9:m≤900000:=by omega
   obtain⟨ps,jk,mz⟩:=P3;have a_:=aX mz aC.size;have d_:=bN a_ (.cells #[.int .i64 p,.int .i64 q] 158);have e1:dF (w3.alloc (.cells #[.int .i64 p,.int .i64 q] 158)) (some ⟨w3.heap.size,0,none⟩) 1 2 [.int .i64 p,.int .i64 q]:=⟨rfl,fun _=>⟨_,_,rfl,(Row.new w3 158 [.int .i64 p,.int .i64 q]).cl⟩⟩;have BA:=al B3 (.cells #[.int .i64 p,.int .i64 q] 158);clear a_ mz aC eE P2 B2 B3
   go_wp2_with (first|(refine cv (by rfl) (.tmp 35) (.tmp 39) 29 (by rfl) w.heap.size 158 _ 2 16 underlying29 Mg rfl (by decide) (.slice X m y) m (da ps) (some ⟨w3.heap.size,0,none⟩) 1 1 [.int .i64 p,.int .i64 q] (by rfl) (by rfl) d_ e1 (by intro u hu;simp only[List.mem_cons,List.not_mem_nil,or_false] at hu;rcases hu with rfl|rfl<;>rfl) (by unfold maxLen;omega) (by omega) BA.size ?_;intro v4 w4 ho4 hg4;have B4:=BA.trans (bG d_ hg4 (Nat.le_refl _) BA.size)))
   have P4:=Sz (X:=none) (y:=0) (w:=w4) ho4;obtain⟨X4,y4,rfl,_,_⟩:=rR P4;obtain⟨l4,hl4,S4⟩:=SB P4
   with_reducible refine(xc X4 (m+1) y4 l4 _ S4 hl4.symm (by omega)).mono ?_
   rintro e w5 ⟨v,rfl,⟨m5,hm5,P5⟩,iB⟩;obtain⟨ps5,adE,pq⟩:=P5
   go_wp2_with fail
   go_ret2
   exact⟨v,0,rfl,dv pq,fun _=>⟨m5,by omega,ps5,adE,aX pq B4.size⟩,az B4 iB⟩
theorem DO (x y p q:Int) (g:Nat) (w:World) (h:Row w g 158 [.int .i64 p,.int .i64 q]):
  Calls prog 147 #[.agg #[.int .i64 x,.int .i64 y],.pointer (some ⟨g,0,none⟩)] w fun e w'=>Kl e∧Below w.heap.size w w':=by
 have hl:=h.lt;have h2:=h.keep (ai w (.cells #[.int .i64 x,.int .i64 y] 158));have c0:(w.alloc (.cells #[.int .i64 x,.int .i64 y] 158)).cell? ⟨g,0,none⟩=some (.int .i64 p):=h2.cell 0;have c1:(w.alloc (.cells #[.int .i64 x,.int .i64 y] 158)).cell? ⟨g,1,none⟩=some (.int .i64 q):=h2.cell 1;have hb:=ai w (.cells #[.int .i64 x,.int .i64 y] 158);clear h h2
 go_enter func147,ntmps147
 by_cases hx:x=p
 ·have xw:(x==p)=true:=beq_iff_eq.2 hx
  by_cases hy:y=q
  ·have FY:(y==q)=true:=beq_iff_eq.2 hy;clear hx hy
   go_wp2_with fail
   go_ret
   exact⟨⟨_,rfl⟩,hb⟩
  ·have FY:(y==q)=false:=beq_eq_false_iff_ne.2 hy;clear hx hy
   go_wp2_with fail
   go_ret
   exact⟨⟨_,rfl⟩,hb⟩
 ·have xw:(x==p)=false:=beq_eq_false_iff_ne.2 hx;clear hx
  go_wp2_with fail
  go_ret
  exact⟨⟨_,rfl⟩,hb⟩
theorem Ua (A:Option Addr) (n c g:Nat) (l:List (Int × Int)) (p q:Int) (w:World) (h:dF w A n 2 (l.map ja).flatten) (hn:n=l.length) (ix:n≤1100000) (hR:Row w g 158 [.int .i64 p,.int .i64 q]):
  Calls prog 205 #[.slice A n c,.func (.func 147) #[] #[.pointer (some ⟨g,0,none⟩)]] w fun e w'=>(∃i:Int,e=.returned (.int .i64 i)∧ -1≤i∧i<n)∧Below w.heap.size w w':=by
 have HN:=Lib.hid hn;clear hn
 go_enter func205,ntmps205
 go_wp2_with fail
 go_loopw [8] (fun i wr=>∃j:Nat,j≤n∧i=.int .i64 j∧Below w.heap.size w wr) (fun i _=>n - (intOf i).toNat)
 case atStart=>exact⟨0,Nat.zero_le _,rfl,Below.refl _ _⟩
 case round=>
  obtain⟨j,hj,rfl,BB⟩:=hrel
  by_cases aS:j<n
  ·have wG:(j:Int)<(n:Int):=by omega
   obtain⟨b',o',sn,jc⟩:=lE h HN.out nj j (by have:=HN.out;omega);subst sn;have fy:=jc.below BB (jc.lt (by rw[nj];decide));generalize l[j]'(by have:=HN.out;omega)=z at fy;have f0:wr.cell? ⟨b',o'+j*2,none⟩=some (.int .i64 z.1):=fy 0 _ rfl;have f1:wr.cell? ⟨b',o'+j*2+1,none⟩=some (.int .i64 z.2):=fy 1 _ rfl;obtain⟨z1,z2⟩:=z;simp only at f0 f1;have HG:=DO z1 z2 p q g wr (hR.keep BB);clear fy jc h
   go_wp2_with fail
   with_reducible refine HG.mono ?_
   rintro e w1 ⟨⟨t,rfl⟩,aC⟩;have B1:=az BB aC;clear HG f0 f1
   cases t with
   |true=>
    go_wp2_with fail
    go_ret
    exact⟨⟨j,rfl,by omega,by omega⟩,B1⟩
   |false=>
    go_wp2_with fail
    go_roundw
    case rel=>exact⟨j+1,by omega,by go_num,B1⟩
    case measure=>simp[intOf];omega
  ·have wG:¬(j:Int)<(n:Int):=by omega
   go_wp2_with fail
   go_ret
   exact⟨⟨-1,rfl,by omega,by omega⟩,BB⟩
theorem Tq (base:Nat) (v:Value) (n g:Nat) (p q:Int) (w:World) (h:PW base w v n) (hn:n≤1100000) (hB:base≤w.heap.size) (hR:Row w g 158 [.int .i64 p,.int .i64 q]) (cu:∀b,v.ownBlock=some b→b≠g):
  Calls prog 146 #[v,.func (.func 147) #[] #[.pointer (some ⟨g,0,none⟩)]] w fun e w'=>∃v',e=.returned v'∧(∃m,m≤n∧PW base w' v' m)∧w.grownBy w' v.ownBlock:=by
 obtain⟨X,y,rfl,hmy,hy⟩:=rR h;obtain⟨l,hl,hs⟩:=SB h;have HI:=Ua X n y g l p q w hs hl.symm hn hR;clear hs hl;have HP:=Lib.hid h;clear h
 go_enter func146,ntmps146
 go_wp2_with fail
 with_reducible refine HI.mono ?_
 rintro e w1 ⟨⟨i,rfl,hi1,I9⟩,aC⟩;have P1:=HP.out.keep aC
 have G1:∀r,w.grownBy w1 r:=fun r=>⟨aC.os,aC.tape,aC.output,aC.size,fun k hk _=>aC.block k hk⟩
 have R1:=hR.keep aC;clear HI aC
 by_cases yM:i= -1
 ·subst yM
  go_wp2_with fail
  go_ret
  exact⟨_,rfl,⟨n,Nat.le_refl _,P1⟩,G1 _⟩
 have ae8:(i== -1)=false:=beq_eq_false_iff_ne.2 yM;obtain⟨k,rfl⟩:∃k:Nat,i=k:=⟨i.toNat,by omega⟩
 have nW:k<n:=by omega
 obtain⟨gv,cap,hv,h1,h3,hb,dW⟩:=P1.here (by omega)
 injection hv with q1 _ q3
 subst q1 q3;have hng:gv≠g:=cu gv rfl;have HG1:=Lib.hid G1;clear yM hi1 I9 G1 dW cu
 go_wp2_with fail
 go_loopw [5,6] (fun s5 s6 wr=>∃ii jj:Nat,s5=.int .i64 ii∧s6=.int .i64 jj∧ii<jj∧jj≤n∧PW base wr (.slice (some ⟨gv,0,none⟩) n y) n∧w.grownBy wr (some gv)∧Row wr g 158 [.int .i64 p,.int .i64 q]) (fun _ s6 _=>n - (intOf s6).toNat)
 case atStart=>exact⟨k,k+1,rfl,by go_num,by omega,by omega,P1,HG1.out _,R1⟩
 case round=>
  obtain⟨ii,jj,rfl,rfl,m1,m2,oW,GR,Rr⟩:=hrel
  by_cases aS:jj<n
  ·have wG:(jj:Int)<(n:Int):=by omega
   obtain⟨x,z,c0,c1⟩:=oW.get jj aS;have PA:=oW.keep (ai wr (.cells #[.int .i64 x,.int .i64 z] 158));have RA:=Rr.keep (ai wr (.cells #[.int .i64 x,.int .i64 z] 158));have HG:=DO x z p q g _ RA;have RZ:Row (wr.alloc (.cells #[.int .i64 x,.int .i64 z] 158)) wr.heap.size 158 [.int .i64 x,.int .i64 z]:=Row.new wr 158 [.int .i64 x,.int .i64 z];have GA:w.grownBy (wr.alloc (.cells #[.int .i64 x,.int .i64 z] 158)) (some gv):=iR GR ⟨rfl,rfl,rfl,(ai wr _).size,fun k hk _=>(ai wr _).block k hk⟩;have jW:=Rr.lt
   go_wp2_with fail
   with_reducible refine HG.mono ?_
   rintro e w2 ⟨⟨t,rfl⟩,ax⟩;have P2:=PA.keep ax;have R2:=RA.keep ax;have Z2:=RZ.keep ax;have G2:w.grownBy w2 (some gv):=iR GA ⟨ax.os,ax.tape,ax.output,ax.size,fun k hk _=>ax.block k hk⟩;have z0:=U (Z2.cell 0);have z1:=U (Z2.cell 1);clear HG PA RA RZ GA c0 c1 oW GR Rr ax jW
   cases t with
   |true=>
    go_wp2_with fail
    go_roundw
    case rel=>exact⟨ii,jj+1,rfl,by go_num,by omega,by omega,P2,G2,R2⟩
    case measure=>simp[intOf];omega
   |false=>
    obtain⟨ox,oy,e0,e1⟩:=P2.get ii (by omega);have fr:=P2.Lm (by omega);have fr0:=fr (ii*2);have fr1:=fr (ii*2+1);have PN:=P2.put ii x z (by omega);have GN:=iR G2 (BK w2 gv (ii*2) (ii*2+1) (.int .i64 x) (.int .i64 z));have PP:=(cH.set w2 gv (ii*2) (.int .i64 x)).trans (cH.set _ gv (ii*2+1) (.int .i64 z));have RN:=PP.row R2 (Ne.symm hng);clear fr PP
    go_wp2_with fail
    go_roundw
    case rel=>exact⟨ii+1,jj+1,by go_num,by go_num,by omega,by omega,PN,GN,RN⟩
    case measure=>simp[intOf];omega
  ·have wG:¬(jj:Int)<(n:Int):=by omega
   have nW:ii<n:=by omega
   have PW2:=oW;obtain⟨ps,jk,a_⟩:=PW2;obtain⟨gg,mS,hv,_,_,_,_,_,_,jy,kv⟩:=cj a_ (by omega)
   injection hv with q1 _ q3
   injection q1 with q1
   injection q1 with q1
   subst q1 q3
   have aO:∀ty c,(Builtin.clear_ #[29] ty #[.slice (some ⟨gv,ii*2,none⟩) (n - ii) c]).run prog wr=.ok (.tuple #[]) (wr.setCells gv (ii*2) (da (List.replicate (n - ii) (0,0)))):=fun ty c=>
    rS wr _ _ ty underlying29 zeroValue158 gv (ii*2) _ c (by omega) (fun j hj=>jy _ (by have:=h1;omega)) (fun j hj=>kv _)
   have PN:=(oW.Y6 ii (List.replicate (n - ii) (0,0)) (by simp;omega) (by omega)).cut (by omega) ii (by omega);have GN:=iR GR (Bf wr gv (ii*2) (da (List.replicate (n - ii) (0,0))));clear jy kv oW GR a_ jk
   go_wp2_with fail
   go_ret
   exact⟨_,rfl,⟨ii,by omega,PN⟩,GN⟩
theorem M_ (A:Option Addr) (n c:Nat) (l:List (Int × Int)) (a b:Int) (w:World) (h:dF w A n 2 (l.map ja).flatten) (hn:n=l.length) (ix:n≤900000):
  Calls prog 95 #[.slice A n c,.int .i64 a,.int .i64 b] w (Cc n w):=by
 have HA:=fun W (hb:Below w.heap.size w W)=>KF A n c l a b W (h.below (by decide) hb) hn (by omega)
 have HM:=fun W (hb:Below w.heap.size w W)=>xc A n c l W (h.below (by decide) hb) hn (by omega)
 clear h hn
 go_enter func95,ntmps95
 go_wp2_with fail
 with_reducible refine(HA _ (Below.refl _ _)).mono ?_
 rintro e w1 ⟨⟨t,rfl⟩,aC⟩
 cases t with
 |false=>
  go_wp2_with fail
  go_ret2
  exact Cc.err 6 (by decide) aC
 |true=>
  go_wp2_with fail
  with_reducible refine(mF a b _).mono ?_
  rintro e w2 ⟨rfl,ax⟩;generalize min a b=p at*;generalize max a b=q at*;have B2:=az aC ax;obtain⟨w3,Ji⟩:∃w3,w3=w2.alloc (.cells #[.int .i64 p,.int .i64 q] 158):=⟨_,rfl⟩
  have R3:Row w3 w2.heap.size 158 [.int .i64 p,.int .i64 q]:=by rw[Ji];exact Row.new w2 _ _
  have B3:Below w.heap.size w w3:=by rw[Ji];exact al B2 _
  go_wp2_with fail
  rw[←Ji]
  with_reducible refine(HM w3 B3).mono ?_
  rintro e w4 ⟨v,rfl,⟨m,hm,P4⟩,gn⟩;have B4:=az B3 gn;have R4:=R3.keep gn;have ae7:=R3.lt;obtain⟨X,y,rfl,hmy,hy⟩:=rR P4
  have cu:∀b,(Value.slice X m y).ownBlock=some b→b≠w2.heap.size:=by
   intro b hb e;obtain⟨ps,jk,ho⟩:=P4
   rcases ho.2 with ⟨e1,_⟩|⟨gx,cx,cux,e1,ey,_⟩
   ·rw[e1] at hb;cases hb
   ·rw[e1] at hb
    injection hb with hb
    simp only at hb;omega
  have wh:=B3.size;clear HA HM aC ax Ji R3 B2 B3 gn;generalize w2.heap.size=gz at*
  have P5:PW w.heap.size w4 (.slice X m y) m:=by
   obtain⟨ps,jk,ho⟩:=P4;exact⟨ps,jk,aX ho wh⟩
  go_wp2_with fail
  with_reducible refine(Tq w.heap.size (.slice X m y) m gz p q w4 P5 (by omega) B4.size R4 cu).mono ?_
  rintro e w5 ⟨v,rfl,⟨m5,hm5,P6⟩,G5⟩;obtain⟨ps,jk,ho⟩:=P5;have B5:=B4.trans (bG ho G5 (Nat.le_refl _) B4.size)
  go_wp2_with fail
  go_ret2
  exact⟨v,0,rfl,aaI P6,fun _=>⟨m5,by omega,P6⟩,B5⟩
end
end Go.Proofs.YtdnpopjabpklnaaGreatDoor
