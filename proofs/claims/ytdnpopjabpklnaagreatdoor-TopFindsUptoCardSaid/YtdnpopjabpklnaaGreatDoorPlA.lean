/- Contracts and plain laws that the proof of the top laws uses (PlA). No condition beyond those stated. -/
import Derived.Test.YtdnpopjabpklnaaGreatDoorG14
set_option maxRecDepth 100000
set_option maxHeartbeats 64000000
set_option linter.all false
namespace Go.Proofs.YtdnpopjabpklnaaGreatDoor
section
open Go.RowKit
open Tryz
theorem yY:(prog.info? 60).map (fun i=>(i.zero,i.size,i.bytes))=some (some (.agg #[.int .i64 0,.string ByteArray.empty,.int .i64 0,.int .i64 0,.int .i64 0,.int .i64 0,.int .i64 0,.int .i64 0,.slice none 0 0]),9,96):=by kernel_rfl
def Dp (es:List aB) (Cs:List (List Value)):Prop:=∀C∈Cs,(C.length=9∧∀u∈C,u.oneCell'=true)∧∃en∈es,en.state=5∧C[0]? =some (.int .i64 (du en))
theorem Dp.snoc {es:List aB} {Cs:List (List Value)} {C:List Value} {en:aB} (h:Dp es Cs) (hm:en∈es) (h5:en.state=5) (h9:C.length=9) (h1:∀u∈C,u.oneCell'=true) (hi:C[0]? =some (.int .i64 (du en))):Dp es (Cs++ [C]):=by
 intro D hD
 rcases List.mem_append.1 hD with hD|hD
 ·exact h D hD
 ·rw[List.mem_singleton.1 hD];exact⟨⟨h9,h1⟩,en,hm,h5,hi⟩
theorem Ml {t:Nat} {e:aB} {it:aA} (h:wm t e) (hm:it∈e.aD):(∀z∈it.af,1≤z∧z≤9999999)∧it.af.length≤1100000∧it.cA.length≤1100000∧(it.kind≤3→∀x∈it.cA,0≤x∧x≤9):=by
 obtain⟨h1,h2,h3⟩:=h.item it hm;have hg:=jH h1;exact⟨fun z hz=>kT hg.BQ z hz,h2.2.2.2,h2.2.1,fun hk=>(hg.Ad hk).2.2⟩
theorem Q3 {P:Prop} (h:P:=by
 refine⟨fun _ a wx hG hr hb K hK=>?_,?_⟩
 ·have e1:=aq (hb 5);rw[if_pos (by rfl)];unfold Oper.wp execOp
  go_simp
  exact hK _ _ rfl hG ⟨fun _=>Below.refl _ _,ah.refl _ _⟩
 refine⟨fun _ a wx hG hr hb K hK=>?_,?_⟩
 ·have e1:=aq (hb 8);rw[if_pos (by rfl)];unfold Oper.wp execOp
  go_simp
  exact hK _ _ rfl hG ⟨fun _=>Below.refl _ _,ah.refl _ _⟩
 refine⟨fun _ a wx hG hr hb K hK=>?_,?_⟩
 ·have e1:=aq (hr 1 70);have c0:wx.cell? ⟨g8,0,none⟩=some (.int .i64 it.id):=(hG.2.2.1.cell 0).trans (rfl);rw[if_pos (by rfl)];unfold Oper.wp execOp
  go_simp
  exact hK _ _ rfl hG ⟨fun _=>Below.refl _ _,ah.refl _ _⟩
 refine⟨fun _ a wx hG hr hb K hK=>?_,?_⟩
 ·have e1:=aq (hb 8);rw[if_pos (by rfl)];unfold Oper.wp execOp
  go_simp
  exact hK _ _ rfl hG ⟨fun _=>Below.refl _ _,ah.refl _ _⟩
 refine⟨fun _ a wx hG hr hb K hK=>?_,?_⟩
 ·have e1:=aq (hr 3 72);have c0:wx.cell? ⟨g8,10,none⟩=some (.string it.code):=(hG.2.2.1.cell 10).trans (rfl);rw[if_pos (by rfl)];unfold Oper.wp execOp
  go_simp
  exact hK _ _ rfl hG ⟨fun _=>Below.refl _ _,ah.refl _ _⟩
 refine⟨fun _ a wx hG hr hb K hK=>?_,?_⟩
 ·have e1:=aq (hb 8);rw[if_pos (by rfl)];unfold Oper.wp execOp
  go_simp
  exact hK _ _ rfl hG ⟨fun _=>Below.refl _ _,ah.refl _ _⟩
 refine⟨fun _ a wx hG hr hb K hK=>?_,?_⟩
 ·have e1:=aq (hr 5 74);have c0:wx.cell? ⟨g8,11,none⟩=some (.int .i64 it.bz):=(hG.2.2.1.cell 11).trans (rfl);rw[if_pos (by rfl)];unfold Oper.wp execOp
  go_simp
  exact hK _ _ rfl hG ⟨fun _=>Below.refl _ _,ah.refl _ _⟩
 refine⟨fun _ a wx hG hr hb K hK=>?_,?_⟩
 ·have e1:=aq (hb 8);rw[if_pos (by rfl)];unfold Oper.wp execOp
  go_simp
  exact hK _ _ rfl hG ⟨fun _=>Below.refl _ _,ah.refl _ _⟩
 refine⟨fun _ a wx hG hr hb K hK=>?_,?_⟩
 ·have e1:=aq (hr 7 76);have c0:wx.cell? ⟨g8,12,none⟩=some (.int .i64 it.bB):=(hG.2.2.1.cell 12).trans (rfl);rw[if_pos (by rfl)];unfold Oper.wp execOp
  go_simp
  exact hK _ _ rfl hG ⟨fun _=>Below.refl _ _,ah.refl _ _⟩
 refine⟨fun _ a wx hG hr hb K hK=>?_,?_⟩
 ·have e1:=aq (hb 8);rw[if_pos (by rfl)];unfold Oper.wp execOp
  go_simp
  exact hK _ _ rfl hG ⟨fun _=>Below.refl _ _,ah.refl _ _⟩
 refine⟨fun _ a wx hG hr hb K hK=>?_,?_⟩
 ·have e1:=aq (hr 9 78);have c0:wx.cell? ⟨g8,13,none⟩=some (.int .i64 it.words):=(hG.2.2.1.cell 13).trans (rfl);rw[if_pos (by rfl)];unfold Oper.wp execOp
  go_simp
  exact hK _ _ rfl hG ⟨fun _=>Below.refl _ _,ah.refl _ _⟩
 refine⟨fun _ a wx hG hr hb K hK=>?_,?_⟩
 ·have e1:=aq (hb 8);rw[if_pos (by rfl)];unfold Oper.wp execOp
  go_simp
  exact hK _ _ rfl hG ⟨fun _=>Below.refl _ _,ah.refl _ _⟩
 refine⟨fun _ a wx hG hr hb K hK=>?_,?_⟩
 ·have e1:=aq (hr 11 80);have c0:wx.cell? ⟨g8,14,none⟩=some (.int .i64 it.ay):=(hG.2.2.1.cell 14).trans (rfl);rw[if_pos (by rfl)];unfold Oper.wp execOp
  go_simp
  exact hK _ _ rfl hG ⟨fun _=>Below.refl _ _,ah.refl _ _⟩
 refine⟨fun _ a wx hG hr hb K hK=>?_,?_⟩
 ·have e1:=aq (hb 8);rw[if_pos (by rfl)];unfold Oper.wp execOp
  go_simp
  exact hK _ _ rfl hG ⟨fun _=>Below.refl _ _,ah.refl _ _⟩
 refine⟨fun _ a wx hG hr hb K hK=>?_,?_⟩
 ·have e1:=aq (hr 13 82);have c0:wx.cell? ⟨g8,9,none⟩=some (.int .i64 it.aP):=(hG.2.2.1.cell 9).trans (rfl);rw[if_pos (by rfl)];unfold Oper.wp execOp
  go_simp
  exact hK _ _ rfl hG ⟨fun _=>Below.refl _ _,ah.refl _ _⟩
 refine⟨fun _ a wx hG hr hb K hK=>?_,?_⟩
 ·have e1:=aq (hb 9);rw[if_pos (by rfl)];unfold Oper.wp execOp
  go_simp
  exact hK _ _ rfl hG ⟨fun _=>Below.refl _ _,ah.refl _ _⟩
 refine⟨fun _ a wx hG hr hb K hK=>?_,?_⟩
 ·have e1:=aq (hb 7);rw[if_pos (by rfl)];unfold Oper.wp execOp
  go_simp
  exact hK _ _ rfl hG ⟨fun _=>Below.refl _ _,ah.refl _ _⟩
 refine⟨fun _ a wx hG hr hb K hK=>?_,?_⟩
 ·have e:=aM (hr 16 85);rw[if_pos (by rfl)];unfold Oper.wp execOp;exact uN e lG hG.2.1 rfl rfl (hK _ _ rfl hG ⟨fun _=>Below.refl _ _,ah.refl _ _⟩)
 refine⟨fun _ a wx hG hr hb K hK=>?_,?_⟩
 ·have e1:=aq (hr 17 86);rw[if_pos (by rfl)];unfold Oper.wp execOp
  go_simp
  refine(SL wx hG.2.2.2.1).mono ?_;rintro e' w' ⟨u,rfl,hO,aY⟩
  have hu1:u.oneCell'=true:=by obtain⟨_,_,_,rfl,_⟩:=hO.xG;rfl
  exact hK _ _ ⟨u,hu1,rfl⟩ ⟨hG.1.keep aY,hG.2.1.keep aY,hG.2.2.1.keep aY,hG.2.2.2.1.trans (ah.ab aY),I hG.2.2.2.2.1 aY,hG.2.2.2.2.2.trans (aY.mono hG.2.2.2.2.2.size)⟩ ⟨fun _=>aY,ah.ab aY⟩
 refine⟨fun _ a wx hG hr hb K hK=>?_,?_⟩
 ·have e1:=aq (hr 2 71);have e2:=aq (hr 4 73);have e3:=aq (hr 6 75);have e4:=aq (hr 8 77);have e5:=aq (hr 10 79);have e6:=aq (hr 12 81);have e7:=aq (hr 14 83);have e8:=aq (hr 15 84);rw[if_pos (by rfl)];unfold Oper.wp execOp;obtain⟨u,hu,e9⟩:=hr 18 87;rw[bR] at e9
  go_simp
  exact hK _ _ ⟨u,hu,rfl⟩ hG ⟨fun _=>Below.refl _ _,ah.refl _ _⟩
 refine⟨fun _ a wx hG hr hb K hK=>?_,?_⟩
 ·rw[if_pos (by rfl)];unfold Oper.wp execOp;obtain⟨u,hu,e1⟩:=hr 19 88;rw[bR] at e1
  go_simp
  have aY:=ai wx (.cells #[.int .i64 it.id,.string it.code,.int .i64 it.bz,.int .i64 it.bB,.int .i64 it.words,.int .i64 it.ay,.int .i64 it.aP,.int .i64 0,u] 60);exact hK _ _ ⟨wx.heap.size,u,⟨Row.new wx 60 [.int .i64 it.id,.string it.code,.int .i64 it.bz,.int .i64 it.bB,.int .i64 it.words,.int .i64 it.ay,.int .i64 it.aP,.int .i64 0,u],hu⟩,rfl⟩ ⟨hG.1.keep aY,hG.2.1.keep aY,hG.2.2.1.keep aY,hG.2.2.2.1.trans (ah.ab aY),I hG.2.2.2.2.1 aY,hG.2.2.2.2.2.trans (aY.mono hG.2.2.2.2.2.size)⟩ ⟨fun _=>aY,ah.ab aY⟩
 refine⟨fun _ a wx hG hr hb K hK=>?_,?_⟩
 ·have e1:=aM (hr 0 69);rw[if_pos (by rfl)];obtain⟨q,u,⟨hq,hu⟩,e2⟩:=hr 20 89
  rcases Nat.eq_zero_or_pos nC with cD|cD
  ·refine kS (.tmp 69) (.tmp 89) 57 rfl w.heap.size 60 _ 9 96 underlying57 yY rfl (by decide) (.slice X nC yy) nC Cs.flatten (some ⟨q,0,none⟩) 1 1 [.int .i64 it.id,.string it.code,.int .i64 it.bz,.int .i64 it.bB,.int .i64 it.words,.int .i64 it.ay,.int .i64 it.aP,.int .i64 0,u] e1 e2 hG.2.2.2.2.1 ⟨rfl,fun _=>⟨q,0,rfl,hq.cl⟩⟩ (by intro z hz;simp only[List.mem_cons,List.not_mem_nil,or_false] at hz;rcases hz with rfl|rfl|rfl|rfl|rfl|rfl|rfl|rfl|rfl<;>first|rfl|exact hu) (by unfold maxLen;omega) (by omega) hG.2.2.2.2.2.size ?_;intro v' w' bU oi;have gB:=dN hG.2.2.2.2.1 oi
   have hold:w'.ownsRow w.heap.size 60 9 (.slice X nC yy) nC Cs.flatten:=by
    obtain⟨rfl,rfl⟩:=QF.out cD
    have FQ:Cs.flatten=[]:=by have:Cs=[]:=List.length_eq_zero_iff.1 (by rw[←SO.out];exact cD);rw[this];rfl
    rw[FQ,cD];exact World.ownsRow_nil _ _ _ _
   obtain⟨X9,y9,rfl,_,_⟩:=aj bU;exact hK _ _ ⟨X9,y9,u,⟨bU,hu⟩,rfl⟩ ⟨hG.1.aa gB,hG.2.1.aa gB,hG.2.2.1.aa gB,hG.2.2.2.1.trans gB,hold,hG.2.2.2.2.2.trans (bG hG.2.2.2.2.1 oi (Nat.le_refl _) hG.2.2.2.2.2.size)⟩ ⟨fun h=>absurd rfl h,gB⟩
  ·refine ly (.tmp 69) (.tmp 89) 57 rfl w.heap.size 60 _ 9 96 underlying57 yY rfl (by decide) (.slice X nC yy) nC Cs.flatten q 1 1 [.int .i64 it.id,.string it.code,.int .i64 it.bz,.int .i64 it.bB,.int .i64 it.words,.int .i64 it.ay,.int .i64 it.aP,.int .i64 0,u] e1 e2 hG.2.2.2.2.1 rfl hq.cl (by intro z hz;simp only[List.mem_cons,List.not_mem_nil,or_false] at hz;rcases hz with rfl|rfl|rfl|rfl|rfl|rfl|rfl|rfl|rfl<;>first|rfl|exact hu) (by unfold maxLen;omega) (by omega) hG.2.2.2.2.2.size cD ?_;intro v' w' bU oi _ hold;have gB:=dN hG.2.2.2.2.1 oi;obtain⟨X9,y9,rfl,_,_⟩:=aj bU;exact hK _ _ ⟨X9,y9,u,⟨bU,hu⟩,rfl⟩ ⟨hG.1.aa gB,hG.2.1.aa gB,hG.2.2.1.aa gB,hG.2.2.2.1.trans gB,hold,hG.2.2.2.2.2.trans (bG hG.2.2.2.2.1 oi (Nat.le_refl _) hG.2.2.2.2.2.size)⟩ ⟨fun h=>absurd rfl h,gB⟩
 exact⟨fun h=>absurd h (by decide),trivial⟩):P:=h
theorem Q4 {P:Prop} (h:P:=by
 intro v wx oo AA hA ho hG hV K hK
 simp[dh,bD,List.range,List.range.loop,Act.put] at hA
 have e0:=aM (hV 0 (by decide) rfl);have e1:=aM (hV 1 (by decide) rfl);have e2:=aM (hV 2 (by decide) rfl);have e3:=aM (hV 3 (by decide) rfl);have e4:=aM (hV 4 (by decide) rfl);have e5:=aM (hV 5 (by decide) rfl);have e6:=aM (hV 6 (by decide) rfl);have e7:=aM (hV 7 (by decide) rfl);have e8:=aM (hV 8 (by decide) rfl);have e9:=aM (hV 9 (by decide) rfl);have ic:=aM (hV 10 (by decide) rfl);have iA:=aM (hV 11 (by decide) rfl);have mM:=aM (hV 12 (by decide) rfl);have pO:=aM (hV 13 (by decide) rfl);have vW:=aM (hV 14 (by decide) rfl);have xb:=aM (hV 15 (by decide) rfl);have Ai:=aM (hV 16 (by decide) rfl);have DJ:=aM (hV 17 (by decide) rfl);obtain⟨u7,hu7,Wm⟩:=hV 18 (by decide) rfl;obtain⟨u8,hu8,Wn⟩:=hV 19 (by decide) rfl;obtain⟨X9,y9,u9,⟨ox,hu9⟩,Wo⟩:=hV 21 (by decide) rfl;rw[e0,e1,e2,e3,e4,e5,e6,e7,e8,e9,ic,iA,mM,pO,vW,xb,Ai,DJ,Wm,Wn,Wo] at hA;subst hA;clear hV e0 e1 e2 e3 e4 e5 e6 e7 e8 e9 ic iA mM pO vW xb Ai DJ Wm Wn Wo
 try clear bQ
 have bU:some _=some oo:=ho
 injection bU with bU
 subst bU;clear ho;rw[if_pos (by rfl)];unfold Oper.wp execOp
 go_simp
 refine hK _ _ ?_;have kv:=hG.2.2.2.2.2;have vY:=hG.1
 have uA:(Cs++ [[.int .i64 it.id,.string it.code,.int .i64 it.bz,.int .i64 it.bB,.int .i64 it.words,.int .i64 it.ay,.int .i64 it.aP,.int .i64 0,u9]]).flatten=Cs.flatten++ [.int .i64 it.id,.string it.code,.int .i64 it.bz,.int .i64 it.bB,.int .i64 it.words,.int .i64 it.ay,.int .i64 it.aP,.int .i64 0,u9]:=by simp
 have xm:(Cs++ [[.int .i64 it.id,.string it.code,.int .i64 it.bz,.int .i64 it.bB,.int .i64 it.words,.int .i64 it.ay,.int .i64 it.aP,.int .i64 0,u9]]).length=nC+1:=by rw[List.length_append,←SO.out];rfl
 have tu:e∈b.entries:=Zv.out
 have Eg:∀u∈([.int .i64 it.id,.string it.code,.int .i64 it.bz,.int .i64 it.bB,.int .i64 it.words,.int .i64 it.ay,.int .i64 it.aP,.int .i64 0,u9]:List Value),u.oneCell'=true:=by
  intro z hz;simp only[List.mem_cons,List.not_mem_nil,or_false] at hz
  rcases hz with rfl|rfl|rfl|rfl|rfl|rfl|rfl|rfl|rfl<;>first|rfl|exact hu9
 clear hG SL hK OW R2 BB R7 R8 si jY
 go_wp2_with fail
 go_roundw
 case rel=>exact⟨k+1,Cs++ [[.int .i64 it.id,.string it.code,.int .i64 it.bz,.int .i64 it.bB,.int .i64 it.words,.int .i64 it.ay,.int .i64 it.aP,.int .i64 0,u9]],by omega,by go_num,by rw[xm];omega,by rw[uA,xm];exact ox,(fun h=>by rw[xm] at h;omega),Hy.out.snoc tu zH.out.symm rfl Eg (by rw[QD.out];rfl),vY,kv⟩
 case measure=>simp[intOf];omega):P:=h
theorem r8 {P:Prop} (h:P:=by
 have e1:=aq (hb 8);rw[if_pos (by rfl)];unfold Oper.wp execOp
 go_simp
 exact hK _ _ rfl hG ⟨fun _=>Below.refl _ _,ah.refl _ _⟩):P:=h
theorem Q5 {P:Prop} (h:P:=by
 obtain⟨X9,y9,rfl,_,_⟩:=aj bU
 exact hK _ _ ⟨X9,y9,u,⟨bU,hu⟩,rfl⟩ ⟨hG.1.aa gB,hG.2.1.aa gB,hG.2.2.1.aa gB,hG.2.2.2.1.trans gB,hold,hG.2.2.2.2.2.trans (bG hG.2.2.2.2.1 oi (Nat.le_refl _) hG.2.2.2.2.2.size)⟩ ⟨fun h=>absurd rfl h,gB⟩):P:=h
theorem CZ {P:Prop} (h:P:=by
 go_roundw
 case rel=>exact⟨k+1,Cs,by omega,by go_num,by omega,OW,Hw,Hy,R2,BB⟩
 case measure=>simp[intOf];omega):P:=h
theorem UR (t:Nat) (C:List Value) (b:cK) (day:Int) (w:World) (hO:cZ 0 w C b) (hI:gL t b) (ht:t≤1000):
  Calls prog 12 #[.agg C.toArray,.int .i64 day] w fun e w'=>∃v,e=.returned v∧(∃Cs:List (List Value),w'.ownsRow w.heap.size 60 9 v Cs.length Cs.flatten∧Dp b.entries Cs)∧Below w.heap.size w w':=by
 obtain⟨A1,n1,c1,A2,n2,c2,A3,n3,c3,A4,n4,c4,A5,n5,c5,A6,n6,c6,rfl,O1,O2,O3,O4,O5,O6,q1,q2,q3,q4,q5,q6,m3,m4,m5,m6⟩:=hO.open_;have mL:=Lib.hid q5;have pL:=Lib.hid q4;have HI:=Lib.hid hI
 have yN:n5≤1000:=by have:=hI.entries;omega
 have CD:n4≤1100000:=by have:=hI.af;omega
 have SA:=jI.jZ O4 q4;have WD:=O5.BJ;clear O1 O2 O3 O4 O5 O6 q1 q2 q3 q4 q5 q6 m3 m4 m5 m6 hO hI
 go_enter func12,ntmps12
 have aL:=trivial
 go_wp2_with (first
  |(clear aL;(with_reducible refine ao (C:=([.int .i64 b.now,.slice A1 n1 c1,.slice A2 n2 c2,.slice A3 n3 c3,.slice A4 n4 c4,.slice A5 n5 c5,.slice A6 n6 c6]:List Value)) ?_ ?_);rfl;intro x1 g2 aR R2 aw;have fP:=Nat.le_of_eq aR;have BB:=aw;have fB:=U (R2.cell 4);have z_:=U (R2.cell 5);clear aw aR;have aJ:=trivial))
 try clear aJ
 clear fB z_
 go_loopw [5,13] (fun s5 i wr=>∃(k:Nat) (Cs:List (List Value)),k≤n5∧i=.int .i64 k∧Cs.length≤k∧wr.ownsRow w.heap.size 60 9 s5 Cs.length Cs.flatten∧Hid (Cs.length=0→s5=.slice none 0 0)∧Hid (Dp b.entries Cs)∧Row wr g2 31 [.int .i64 b.now,.slice A1 n1 c1,.slice A2 n2 c2,.slice A3 n3 c3,.slice A4 n4 c4,.slice A5 n5 c5,.slice A6 n6 c6]∧Below w.heap.size w wr) (fun _ i _=>n5 - (intOf i).toNat)
 case atStart=>exact⟨0,[],Nat.zero_le _,rfl,Nat.le_refl _,World.ownsRow_nil _ _ _ _,(fun _=>rfl),(fun C hC=>by cases hC),R2,BB⟩
 case round=>
  clear R2 BB;obtain⟨k,Cs,hk,rfl,gu,OW,Hw,Hy,R2,BB⟩:=hrel
  by_cases aS:k<n5
  ·skip
   have hx:b.entries[k]? =some (b.entries[k]'(by rw[←mL.out];exact aS)):=List.getElem?_eq_getElem _;obtain⟨gE,cap,D,hs,_,_,_,dW,Ct,aO,hE⟩:=WD.get hx
   injection hs with Em uF wh
   subst Em wh;clear uF;have hme:=List.getElem_mem (by rw[←mL.out];exact aS:k<b.entries.length);have EI:=HI.out.entry _ hme;generalize b.entries[k]=e at*;have Zv:=Lib.hid hme;clear hx;have FP:=hE.aa (t:=31) (ah.ab BB);have lX:=aO.below BB dW.lt;obtain⟨mv,hm⟩:∃m,e.aD.length=m+1:=⟨e.aD.length - 1,by have:=EI.ne;omega⟩;have Au:=FP.one;obtain⟨vv,va,vf,vl,vm,rfl,hv,_,_,_,h5⟩:=FP;have Pd:e.aD[mv]? =some (e.aD[mv]'(by omega)):=List.getElem?_eq_getElem _;have hmv:(e.aD[mv]'(by omega))∈e.aD:=List.getElem_mem _
   have QD:Hid (du e=(e.aD[mv]'(by omega)).id):=by unfold Hid du;rw[List.getLast?_eq_getElem?,show e.aD.length - 1=mv by omega,Pd]
   obtain⟨gv,wu,CI,rfl,hmc,Xw,_,L_,tn,DX,hRv⟩:=hv.get Pd;have RF:=Ml EI hmv;generalize e.aD[mv]=it at*;have IX:=hRv.s_.one;obtain⟨vo,vc,vt,va',rfl,i1,i2,i3,i4⟩:=hRv;have K1s:=db.nums i2;obtain⟨K1,k1,rfl,_,_⟩:=aj i2;obtain⟨K2,k2,rfl,_,_⟩:=aj i4;have SK1:=bZ i2;have SK2:=bZ i4;obtain⟨E5,b7,us7,rfl,_,_,_,_⟩:=h5.xG;have HER:=Lib.hid EI.row;have hrw:=EI.rows;obtain⟨n7,pk⟩:∃n,n=e.rows.length:=⟨_,rfl⟩;obtain⟨n8,LV⟩:∃n,n=it.cA.length:=⟨_,rfl⟩;obtain⟨n9,T0⟩:∃n,n=it.af.length:=⟨_,rfl⟩;obtain⟨st,bQ⟩:∃st,st=e.state:=⟨_,rfl⟩;obtain⟨kd,yK⟩:∃kd,kd=it.kind:=⟨_,rfl⟩;unfold ig at lX Au;unfold fS at DX IX;rw[hm,←pk,←bQ] at lX Au;rw[←LV,←T0,←yK] at DX IX;rw[←pk] at hrw
   have si:i' 0 wr (.slice E5 n7 b7) e.rows:=by rw[pk];exact h5
   have HN7:=Lib.hid pk;rw[←LV] at SK1;rw[←T0] at SK2;have zH:=Lib.hid bQ;have pK:=Lib.hid yK;have HN8:=Lib.hid LV;have HN9:=Lib.hid T0
   have TY:mv+1≤1100000:=by have:=EI.aD;omega
   obtain⟨rf1,rf2,rf3,rf4⟩:=RF;rw[←T0] at rf2;rw[←LV] at rf3;rw[←yK] at rf4;have NO:=Lib.hid rf1;have HR4:=Lib.hid rf4;have WZ:=DX;have R_:=L_.lt;clear bQ yK pk LV T0 rf1 rf4 EI hE aO dW hv Pd hmv L_ hmc Xw i1 i2 i3 i4 h5 K1s hm hme tn DX;have fB:=U (R2.cell 4);have jY:=Below.refl wr.heap.size wr;have ae9:(((mv:Int)+1)==0)=false:=beq_eq_false_iff_ne.2 (by omega)
   by_cases T8:st=5
   case neg=>
    have afd:(st==5)=false:=beq_eq_false_iff_ne.2 T8;clear T8;have aJ:=trivial
    go_wp2_with (first
     |(clear cz;(with_reducible refine av (C:=[.slice (some ⟨gv,0,none⟩) (mv+1) wu,.int .i64 st,.int .i64 e.bF,va,vf,vl,.slice E5 n7 b7]) ?_ ?_ cN R7 rfl Pg Au ?_);rfl;rfl;clear R7;intro x3 R7 Px;have bh:=hx.trans (Px.below (Nat.le_of_eq cW));clear Px hx;have De:g2≠g7:=(by have:=R2.lt;omega);have EP:w.heap.size≤g7:=(by have:=BB.size;omega);have rO:wr.heap.size≤g7:=(by have:=jY.size;omega);replace R2:=R2.keep bh;replace OW:=I OW bh;replace jY:=az jY bh;replace si:=si.aa (t:=31) (ah.ab bh);replace BB:=az BB bh;clear fB;have fB:=U (R2.cell 4);have ep:=U (R7.cell 0);have bW:=U (R7.cell 1);have r':=U (R7.cell 6);clear bh cW;have cY:=trivial)
     |(clear bC;(with_reducible refine cR gY ?_);intro x2 g7 Z7 cW Pg R7 hx;have cz:=trivial)
     |(clear aJ;(with_reducible refine cJ ?_ cN lX rfl ?_);rfl;have bC:=trivial))
    try clear cY
    exact CZ
   subst T8
   by_cases XI:n7=0
   case pos=>
    have adG:((n7:Int)==0)=true:=beq_iff_eq.2 (by omega);clear XI;have aJ:=trivial
    go_wp2_with (first
     |(clear cz;(with_reducible refine av (C:=[.slice (some ⟨gv,0,none⟩) (mv+1) wu,.int .i64 5,.int .i64 e.bF,va,vf,vl,.slice E5 n7 b7]) ?_ ?_ cN R7 rfl Pg Au ?_);rfl;rfl;clear R7;intro x3 R7 Px;have bh:=hx.trans (Px.below (Nat.le_of_eq cW));clear Px hx;have De:g2≠g7:=(by have:=R2.lt;omega);have EP:w.heap.size≤g7:=(by have:=BB.size;omega);have rO:wr.heap.size≤g7:=(by have:=jY.size;omega);replace R2:=R2.keep bh;replace OW:=I OW bh;replace jY:=az jY bh;replace si:=si.aa (t:=31) (ah.ab bh);replace BB:=az BB bh;clear fB;have fB:=U (R2.cell 4);have ep:=U (R7.cell 0);have bW:=U (R7.cell 1);have r':=U (R7.cell 6);clear bh cW;have cY:=trivial)
     |(clear bC;(with_reducible refine cR gY ?_);intro x2 g7 Z7 cW Pg R7 hx;have cz:=trivial)
     |(clear aJ;(with_reducible refine cJ ?_ cN lX rfl ?_);rfl;have bC:=trivial))
    try clear cY
    exact CZ
   have adG:((n7:Int)==0)=false:=beq_eq_false_iff_ne.2 (by omega);clear XI
   by_cases pQ:kd=6
   case pos=>
    have Xm:(kd==6)=true:=beq_iff_eq.2 pQ;clear pQ;have aJ:=trivial
    go_wp2_with (first
     |(clear fu;(with_reducible refine av (C:=[.int .i64 it.id,.int .i64 it.bj,.int .i64 kd,.string it.aW,vo,.slice K1 n8 k1,.int .i64 it.value,.int .i64 it.de,vt,.int .i64 it.aP,.string it.code,.int .i64 it.bz,.int .i64 it.bB,.int .i64 it.words,.int .i64 it.ay,.slice K2 n9 k2,.int .i64 it.aH]) ?_ ?_ aU R8 rfl hz8 IX ?_);rfl;rfl;clear R8;intro x5 R8 Px;have cp:=hx.trans (Px.below (Nat.le_of_eq pP));clear Px hx;have aaA:g2≠g8:=(by have:=R2.lt;omega);have aaB:g7≠g8:=(by have:=R7.lt;omega);have abM:w.heap.size≤g8:=(by have:=BB.size;omega);have UG:wr.heap.size≤g8:=(by have:=jY.size;omega);replace R2:=R2.keep cp;replace R7:=R7.keep cp;replace OW:=I OW cp;replace jY:=az jY cp;replace si:=si.aa (t:=31) (ah.ab cp);replace BB:=az BB cp;clear fB ep bW r';have fB:=U (R2.cell 4);have ep:=U (R7.cell 0);have bW:=U (R7.cell 1);have r':=U (R7.cell 6);have Ix:=U (R8.cell 0);have N7:=U (R8.cell 2);have N8:=U (R8.cell 5);have N9:=U (R8.cell 9);have Iy:=U (R8.cell 10);have Iz:=U (R8.cell 11);have IA:=U (R8.cell 12);have IB:=U (R8.cell 13);have ID:=U (R8.cell 14);have IE:=U (R8.cell 15);clear cp pP;have gK:=trivial)
     |(clear dX;(with_reducible refine cR fY ?_);intro x4 g8 Z8 pP hz8 R8 hx;have fu:=trivial)
     |(clear cY;(with_reducible refine cJ ?_ aU (WZ.below jY R_) rfl ?_);rfl;have dX:=trivial)
     |(clear cz;(with_reducible refine av (C:=[.slice (some ⟨gv,0,none⟩) (mv+1) wu,.int .i64 5,.int .i64 e.bF,va,vf,vl,.slice E5 n7 b7]) ?_ ?_ cN R7 rfl Pg Au ?_);rfl;rfl;clear R7;intro x3 R7 Px;have bh:=hx.trans (Px.below (Nat.le_of_eq cW));clear Px hx;have De:g2≠g7:=(by have:=R2.lt;omega);have EP:w.heap.size≤g7:=(by have:=BB.size;omega);have rO:wr.heap.size≤g7:=(by have:=jY.size;omega);replace R2:=R2.keep bh;replace OW:=I OW bh;replace jY:=az jY bh;replace si:=si.aa (t:=31) (ah.ab bh);replace BB:=az BB bh;clear fB;have fB:=U (R2.cell 4);have ep:=U (R7.cell 0);have bW:=U (R7.cell 1);have r':=U (R7.cell 6);clear bh cW;have cY:=trivial)
     |(clear bC;(with_reducible refine cR gY ?_);intro x2 g7 Z7 cW Pg R7 hx;have cz:=trivial)
     |(clear aJ;(with_reducible refine cJ ?_ cN lX rfl ?_);rfl;have bC:=trivial))
    try clear gK
    exact CZ
   have Xm:(kd==6)=false:=beq_eq_false_iff_ne.2 pQ;clear pQ;have aJ:=trivial
   go_wp2_with (first
    |(clear fu;(with_reducible refine av (C:=[.int .i64 it.id,.int .i64 it.bj,.int .i64 kd,.string it.aW,vo,.slice K1 n8 k1,.int .i64 it.value,.int .i64 it.de,vt,.int .i64 it.aP,.string it.code,.int .i64 it.bz,.int .i64 it.bB,.int .i64 it.words,.int .i64 it.ay,.slice K2 n9 k2,.int .i64 it.aH]) ?_ ?_ aU R8 rfl hz8 IX ?_);rfl;rfl;clear R8;intro x5 R8 Px;have cp:=hx.trans (Px.below (Nat.le_of_eq pP));clear Px hx;have aaA:g2≠g8:=(by have:=R2.lt;omega);have aaB:g7≠g8:=(by have:=R7.lt;omega);have abM:w.heap.size≤g8:=(by have:=BB.size;omega);have UG:wr.heap.size≤g8:=(by have:=jY.size;omega);replace R2:=R2.keep cp;replace R7:=R7.keep cp;replace OW:=I OW cp;replace jY:=az jY cp;replace si:=si.aa (t:=31) (ah.ab cp);replace BB:=az BB cp;clear fB ep bW r';have fB:=U (R2.cell 4);have ep:=U (R7.cell 0);have bW:=U (R7.cell 1);have r':=U (R7.cell 6);have Ix:=U (R8.cell 0);have N7:=U (R8.cell 2);have N8:=U (R8.cell 5);have N9:=U (R8.cell 9);have Iy:=U (R8.cell 10);have Iz:=U (R8.cell 11);have IA:=U (R8.cell 12);have IB:=U (R8.cell 13);have ID:=U (R8.cell 14);have IE:=U (R8.cell 15);clear cp pP;have gK:=trivial)
    |(clear dX;(with_reducible refine cR fY ?_);intro x4 g8 Z8 pP hz8 R8 hx;have fu:=trivial)
    |(clear cY;(with_reducible refine cJ ?_ aU (WZ.below jY R_) rfl ?_);rfl;have dX:=trivial)
    |(clear cz;(with_reducible refine av (C:=[.slice (some ⟨gv,0,none⟩) (mv+1) wu,.int .i64 5,.int .i64 e.bF,va,vf,vl,.slice E5 n7 b7]) ?_ ?_ cN R7 rfl Pg Au ?_);rfl;rfl;clear R7;intro x3 R7 Px;have bh:=hx.trans (Px.below (Nat.le_of_eq cW));clear Px hx;have De:g2≠g7:=(by have:=R2.lt;omega);have EP:w.heap.size≤g7:=(by have:=BB.size;omega);have rO:wr.heap.size≤g7:=(by have:=jY.size;omega);replace R2:=R2.keep bh;replace OW:=I OW bh;replace jY:=az jY bh;replace si:=si.aa (t:=31) (ah.ab bh);replace BB:=az BB bh;clear fB;have fB:=U (R2.cell 4);have ep:=U (R7.cell 0);have bW:=U (R7.cell 1);have r':=U (R7.cell 6);clear bh cW;have cY:=trivial)
    |(clear bC;(with_reducible refine cR gY ?_);intro x2 g7 Z7 cW Pg R7 hx;have cz:=trivial)
    |(clear aJ;(with_reducible refine cJ ?_ cN lX rfl ?_);rfl;have bC:=trivial))
   try clear gK
   have SAx:=SA.below (by decide) BB;have SKx:=SK2.below (by decide) jY;refine(zk K2 A4 n9 k2 n4 c4 it.af b.af day _ SKx SAx HN9.out pL.out rf2 CD NO.out HI.out.aZ).mono ?_;rintro r x6 ⟨M1,nm,cm,rfl,Ee,xy⟩;replace R2:=R2.keep xy;replace R7:=R7.keep xy;replace R8:=R8.keep xy;replace OW:=I OW xy;replace jY:=az jY xy;replace si:=si.aa (t:=31) (ah.ab xy);replace BB:=az BB xy;clear fB ep bW r' Ix N7 N8 N9 Iy Iz IA IB ID IE;have fB:=U (R2.cell 4);have ep:=U (R7.cell 0);have bW:=U (R7.cell 1);have r':=U (R7.cell 6);have Ix:=U (R8.cell 0);have N7:=U (R8.cell 2);have N8:=U (R8.cell 5);have N9:=U (R8.cell 9);have Iy:=U (R8.cell 10);have Iz:=U (R8.cell 11);have IA:=U (R8.cell 12);have IB:=U (R8.cell 13);have ID:=U (R8.cell 14);have IE:=U (R8.cell 15);clear xy;clear SAx SKx SK2
   by_cases adA:0<nm
   case pos=>
    have adB:(0:Int)<(nm:Int):=by omega
    go_wp2_with fail
    exact CZ
   have adB:¬(0:Int)<(nm:Int):=by omega
   clear adA Ee
   by_cases kx:kd=1
   case neg=>
    have adl:(kd==1)=false:=beq_eq_false_iff_ne.2 kx;clear kx
    go_wp2_with fail
    obtain⟨X,yy,hX,_,_⟩:=aj OW;subst hX
    have SL:=fun W' (hk:ah 60 x6 W')=>kr E5 n7 b7 e.rows W' (by have h9:=(si.aa hk).J2 HER.out;rwa [←HN7.out] at h9) hrw
    have aba:=BB.size;obtain⟨nC,Ec⟩:∃nC,nC=Cs.length:=⟨_,rfl⟩
    have QF:Hid (nC=0→X=none∧yy=0):=fun h=>by have:=Hw.out (by omega);injection this with e1 _ e3;exact⟨e1,e3⟩
    rw[←Ec] at OW gu ⊢;have SO:=Lib.hid Ec
    have abp:nC≤1000:=by omega
    clear Ec Hw
    refine fl (by kernel_rfl) 22 (fun i=>if i=20 then some 21 else none) (fun wx=>Row wx g2 31 [.int .i64 b.now,.slice A1 n1 c1,.slice A2 n2 c2,.slice A3 n3 c3,.slice A4 n4 c4,.slice (some ⟨gE,0,none⟩) n5 c5,.slice A6 n6 c6]∧Row wx g7 44 [.slice (some ⟨gv,0,none⟩) (mv+1) wu,.int .i64 5,.int .i64 e.bF,va,vf,vl,.slice E5 n7 b7]∧Row wx g8 47 [.int .i64 it.id,.int .i64 it.bj,.int .i64 kd,.string it.aW,vo,.slice K1 n8 k1,.int .i64 it.value,.int .i64 it.de,vt,.int .i64 it.aP,.string it.code,.int .i64 it.bz,.int .i64 it.bB,.int .i64 it.words,.int .i64 it.ay,.slice K2 n9 k2,.int .i64 it.aH]∧ah 60 x6 wx∧wx.ownsRow w.heap.size 60 9 (.slice X nC yy) nC Cs.flatten∧Below w.heap.size w wx) (fun j w w'=>(j≠21→Below w.heap.size w w')∧ah 60 w w') [
      (fun v _=>v=.slice X nC yy),
  (fun v _=>v=.pointer (some ⟨g8,0,none⟩)),
  (fun v _=>v=.int .i64 it.id),
  (fun v _=>v=.pointer (some ⟨g8,10,none⟩)),
  (fun v _=>v=.string it.code),
  (fun v _=>v=.pointer (some ⟨g8,11,none⟩)),
  (fun v _=>v=.int .i64 it.bz),
  (fun v _=>v=.pointer (some ⟨g8,12,none⟩)),
  (fun v _=>v=.int .i64 it.bB),
  (fun v _=>v=.pointer (some ⟨g8,13,none⟩)),
  (fun v _=>v=.int .i64 it.words),
  (fun v _=>v=.pointer (some ⟨g8,14,none⟩)),
  (fun v _=>v=.int .i64 it.ay),
  (fun v _=>v=.pointer (some ⟨g8,9,none⟩)),
  (fun v _=>v=.int .i64 it.aP),
  (fun v _=>v=.int .i64 0),
  (fun v _=>v=.pointer (some ⟨g7,6,none⟩)),
  (fun v _=>v=.agg [.slice E5 n7 b7].toArray),
  (fun v _=>∃u:Value,u.oneCell'=true∧v=.agg #[u]),
  (fun v _=>∃u:Value,u.oneCell'=true∧v=.agg ([.int .i64 it.id,.string it.code,.int .i64 it.bz,.int .i64 it.bB,.int .i64 it.words,.int .i64 it.ay,.int .i64 it.aP,.int .i64 0,u]:List Value).toArray),
  (fun v w0=>∃(q:Nat) (u:Value),(Row w0 q 60 [.int .i64 it.id,.string it.code,.int .i64 it.bz,.int .i64 it.bB,.int .i64 it.words,.int .i64 it.ay,.int .i64 it.aP,.int .i64 0,u]∧u.oneCell'=true)∧v=.slice (some ⟨q,0,none⟩) 1 1),
  (fun v w0=>∃(X9:Option Addr) (y9:Nat) (u:Value),(w0.ownsRow w.heap.size 60 9 (.slice X9 (nC+1) y9) (nC+1) (Cs.flatten++ [.int .i64 it.id,.string it.code,.int .i64 it.bz,.int .i64 it.bB,.int .i64 it.words,.int .i64 it.ay,.int .i64 it.aP,.int .i64 0,u])∧u.oneCell'=true)∧v=.slice X9 (nC+1) y9)] (fun j v w w' i bE hd hc h hR=>?_) (by kernel_rfl) (by kernel_rfl) (fun a b h=>by(try dsimp only at h);(repeat' split at h)<;>first|(injection h with h;omega)|cases h) ⟨R2.drew,R7.drew,R8.drew,ah.ab (Below.refl _ _).drew,jO OW,BB.drew⟩ ?_ ?_
    ·match i,bE,hd,hc,h with
     |0,bE,hd,hc,h=>exact h
     |1,bE,hd,hc,h=>exact h
     |2,bE,hd,hc,h=>exact h
     |3,bE,hd,hc,h=>exact h
     |4,bE,hd,hc,h=>exact h
     |5,bE,hd,hc,h=>exact h
     |6,bE,hd,hc,h=>exact h
     |7,bE,hd,hc,h=>exact h
     |8,bE,hd,hc,h=>exact h
     |9,bE,hd,hc,h=>exact h
     |10,bE,hd,hc,h=>exact h
     |11,bE,hd,hc,h=>exact h
     |12,bE,hd,hc,h=>exact h
     |13,bE,hd,hc,h=>exact h
     |14,bE,hd,hc,h=>exact h
     |15,bE,hd,hc,h=>exact h
     |16,bE,hd,hc,h=>exact h
     |17,bE,hd,hc,h=>exact h
     |18,bE,hd,hc,h=>exact h
     |19,bE,hd,hc,h=>exact h
     |20,bE,hd,hc,h=>obtain⟨q,u,⟨a1,a2⟩,e⟩:=h;exact⟨q,u,⟨a1.keep (hR.1 (fun q=>hc (by rw[q];rfl))),a2⟩,e⟩
     |21,bE,hd,hc,h=>obtain⟨X9,y9,u,⟨a1,a2⟩,e⟩:=h;exact⟨X9,y9,u,⟨I a1 (hR.1 (fun q=>bE q.symm)),a2⟩,e⟩
     |n+22,_,_,_,_=>trivial
    ·exact Q3
    ·exact Q4
   have adl:(kd==1)=true:=beq_iff_eq.2 kx;have VK:=SK1.below (by decide) jY
   have hz4:=fun hh=>HR4.out (by omega) (it.cA.getD 0 0) hh
   clear kx
   by_cases LV:0<n8
   case neg=>
    have adu:¬(0:Int)<(n8:Int):=by omega
    clear VK hz4
    go_wp2_with fail
    obtain⟨X,yy,hX,_,_⟩:=aj OW;subst hX
    have SL:=fun W' (hk:ah 60 x6 W')=>kr E5 n7 b7 e.rows W' (by have h9:=(si.aa hk).J2 HER.out;rwa [←HN7.out] at h9) hrw
    have aba:=BB.size;obtain⟨nC,Ec⟩:∃nC,nC=Cs.length:=⟨_,rfl⟩
    have QF:Hid (nC=0→X=none∧yy=0):=fun h=>by have:=Hw.out (by omega);injection this with e1 _ e3;exact⟨e1,e3⟩
    rw[←Ec] at OW gu ⊢;have SO:=Lib.hid Ec
    have abp:nC≤1000:=by omega
    clear Ec Hw
    refine fl (by kernel_rfl) 22 (fun i=>if i=20 then some 21 else none) (fun wx=>Row wx g2 31 [.int .i64 b.now,.slice A1 n1 c1,.slice A2 n2 c2,.slice A3 n3 c3,.slice A4 n4 c4,.slice (some ⟨gE,0,none⟩) n5 c5,.slice A6 n6 c6]∧Row wx g7 44 [.slice (some ⟨gv,0,none⟩) (mv+1) wu,.int .i64 5,.int .i64 e.bF,va,vf,vl,.slice E5 n7 b7]∧Row wx g8 47 [.int .i64 it.id,.int .i64 it.bj,.int .i64 kd,.string it.aW,vo,.slice K1 n8 k1,.int .i64 it.value,.int .i64 it.de,vt,.int .i64 it.aP,.string it.code,.int .i64 it.bz,.int .i64 it.bB,.int .i64 it.words,.int .i64 it.ay,.slice K2 n9 k2,.int .i64 it.aH]∧ah 60 x6 wx∧wx.ownsRow w.heap.size 60 9 (.slice X nC yy) nC Cs.flatten∧Below w.heap.size w wx) (fun j w w'=>(j≠21→Below w.heap.size w w')∧ah 60 w w') [
      (fun v _=>v=.slice X nC yy),
  (fun v _=>v=.pointer (some ⟨g8,0,none⟩)),
  (fun v _=>v=.int .i64 it.id),
  (fun v _=>v=.pointer (some ⟨g8,10,none⟩)),
  (fun v _=>v=.string it.code),
  (fun v _=>v=.pointer (some ⟨g8,11,none⟩)),
  (fun v _=>v=.int .i64 it.bz),
  (fun v _=>v=.pointer (some ⟨g8,12,none⟩)),
  (fun v _=>v=.int .i64 it.bB),
  (fun v _=>v=.pointer (some ⟨g8,13,none⟩)),
  (fun v _=>v=.int .i64 it.words),
  (fun v _=>v=.pointer (some ⟨g8,14,none⟩)),
  (fun v _=>v=.int .i64 it.ay),
  (fun v _=>v=.pointer (some ⟨g8,9,none⟩)),
  (fun v _=>v=.int .i64 it.aP),
  (fun v _=>v=.int .i64 0),
  (fun v _=>v=.pointer (some ⟨g7,6,none⟩)),
  (fun v _=>v=.agg [.slice E5 n7 b7].toArray),
  (fun v _=>∃u:Value,u.oneCell'=true∧v=.agg #[u]),
  (fun v _=>∃u:Value,u.oneCell'=true∧v=.agg ([.int .i64 it.id,.string it.code,.int .i64 it.bz,.int .i64 it.bB,.int .i64 it.words,.int .i64 it.ay,.int .i64 it.aP,.int .i64 0,u]:List Value).toArray),
  (fun v w0=>∃(q:Nat) (u:Value),(Row w0 q 60 [.int .i64 it.id,.string it.code,.int .i64 it.bz,.int .i64 it.bB,.int .i64 it.words,.int .i64 it.ay,.int .i64 it.aP,.int .i64 0,u]∧u.oneCell'=true)∧v=.slice (some ⟨q,0,none⟩) 1 1),
  (fun v w0=>∃(X9:Option Addr) (y9:Nat) (u:Value),(w0.ownsRow w.heap.size 60 9 (.slice X9 (nC+1) y9) (nC+1) (Cs.flatten++ [.int .i64 it.id,.string it.code,.int .i64 it.bz,.int .i64 it.bB,.int .i64 it.words,.int .i64 it.ay,.int .i64 it.aP,.int .i64 0,u])∧u.oneCell'=true)∧v=.slice X9 (nC+1) y9)] (fun j v w w' i bE hd hc h hR=>?_) (by kernel_rfl) (by kernel_rfl) (fun a b h=>by(try dsimp only at h);(repeat' split at h)<;>first|(injection h with h;omega)|cases h) ⟨R2.drew,R7.drew,R8.drew,ah.ab (Below.refl _ _).drew,jO OW,BB.drew⟩ ?_ ?_
    ·match i,bE,hd,hc,h with
     |0,bE,hd,hc,h=>exact h
     |1,bE,hd,hc,h=>exact h
     |2,bE,hd,hc,h=>exact h
     |3,bE,hd,hc,h=>exact h
     |4,bE,hd,hc,h=>exact h
     |5,bE,hd,hc,h=>exact h
     |6,bE,hd,hc,h=>exact h
     |7,bE,hd,hc,h=>exact h
     |8,bE,hd,hc,h=>exact h
     |9,bE,hd,hc,h=>exact h
     |10,bE,hd,hc,h=>exact h
     |11,bE,hd,hc,h=>exact h
     |12,bE,hd,hc,h=>exact h
     |13,bE,hd,hc,h=>exact h
     |14,bE,hd,hc,h=>exact h
     |15,bE,hd,hc,h=>exact h
     |16,bE,hd,hc,h=>exact h
     |17,bE,hd,hc,h=>exact h
     |18,bE,hd,hc,h=>exact h
     |19,bE,hd,hc,h=>exact h
     |20,bE,hd,hc,h=>obtain⟨q,u,⟨a1,a2⟩,e⟩:=h;exact⟨q,u,⟨a1.keep (hR.1 (fun q=>hc (by rw[q];rfl))),a2⟩,e⟩
     |21,bE,hd,hc,h=>obtain⟨X9,y9,u,⟨a1,a2⟩,e⟩:=h;exact⟨X9,y9,u,⟨I a1 (hR.1 (fun q=>bE q.symm)),a2⟩,e⟩
     |n+22,_,_,_,_=>trivial
    ·exact Q3
    ·exact Q4
   have adu:(0:Int)<(n8:Int):=by omega
   obtain⟨b1,o1,hK1,pg⟩:=VK.2 LV;subst hK1
   have FW:0<it.cA.length:=by rw[←HN8.out];exact LV
   have cx:x6.cell? ⟨b1,o1,none⟩=some (.int .i64 (it.cA.getD 0 0)):=by have:=pg 0 (.int .i64 (it.cA.getD 0 0)) (by rw[List.getElem?_map,List.getElem?_eq_getElem FW];simp[List.getD,List.getElem?_eq_getElem FW]);simpa using this
   have Yb:=hz4 (by rw[List.getD,List.getElem?_eq_getElem FW];exact List.getElem_mem _);clear hz4 pg VK FW;generalize it.cA.getD 0 0=x0 at*;obtain⟨iG,iM⟩:=Yb
   go_wp2_with fail
   generalize x0+1=ky at*;clear cx;obtain⟨X,yy,hX,_,_⟩:=aj OW;subst hX
   have SL:=fun W' (hk:ah 60 x6 W')=>kr E5 n7 b7 e.rows W' (by have h9:=(si.aa hk).J2 HER.out;rwa [←HN7.out] at h9) hrw
   have aba:=BB.size;obtain⟨nC,Ec⟩:∃nC,nC=Cs.length:=⟨_,rfl⟩
   have QF:Hid (nC=0→X=none∧yy=0):=fun h=>by have:=Hw.out (by omega);injection this with e1 _ e3;exact⟨e1,e3⟩
   rw[←Ec] at OW gu ⊢;have SO:=Lib.hid Ec
   have abp:nC≤1000:=by omega
   clear Ec Hw
   refine fl (by kernel_rfl) 22 (fun i=>if i=20 then some 21 else none) (fun wx=>Row wx g2 31 [.int .i64 b.now,.slice A1 n1 c1,.slice A2 n2 c2,.slice A3 n3 c3,.slice A4 n4 c4,.slice (some ⟨gE,0,none⟩) n5 c5,.slice A6 n6 c6]∧Row wx g7 44 [.slice (some ⟨gv,0,none⟩) (mv+1) wu,.int .i64 5,.int .i64 e.bF,va,vf,vl,.slice E5 n7 b7]∧Row wx g8 47 [.int .i64 it.id,.int .i64 it.bj,.int .i64 kd,.string it.aW,vo,.slice (some ⟨b1,o1,none⟩) n8 k1,.int .i64 it.value,.int .i64 it.de,vt,.int .i64 it.aP,.string it.code,.int .i64 it.bz,.int .i64 it.bB,.int .i64 it.words,.int .i64 it.ay,.slice K2 n9 k2,.int .i64 it.aH]∧ah 60 x6 wx∧wx.ownsRow w.heap.size 60 9 (.slice X nC yy) nC Cs.flatten∧Below w.heap.size w wx) (fun j w w'=>(j≠21→Below w.heap.size w w')∧ah 60 w w') [
     (fun v _=>v=.slice X nC yy),
  (fun v _=>v=.pointer (some ⟨g8,0,none⟩)),
  (fun v _=>v=.int .i64 it.id),
  (fun v _=>v=.pointer (some ⟨g8,10,none⟩)),
  (fun v _=>v=.string it.code),
  (fun v _=>v=.pointer (some ⟨g8,11,none⟩)),
  (fun v _=>v=.int .i64 it.bz),
  (fun v _=>v=.pointer (some ⟨g8,12,none⟩)),
  (fun v _=>v=.int .i64 it.bB),
  (fun v _=>v=.pointer (some ⟨g8,13,none⟩)),
  (fun v _=>v=.int .i64 it.words),
  (fun v _=>v=.pointer (some ⟨g8,14,none⟩)),
  (fun v _=>v=.int .i64 it.ay),
  (fun v _=>v=.pointer (some ⟨g8,9,none⟩)),
  (fun v _=>v=.int .i64 it.aP),
  (fun v _=>v=.int .i64 ky),
  (fun v _=>v=.pointer (some ⟨g7,6,none⟩)),
  (fun v _=>v=.agg [.slice E5 n7 b7].toArray),
  (fun v _=>∃u:Value,u.oneCell'=true∧v=.agg #[u]),
  (fun v _=>∃u:Value,u.oneCell'=true∧v=.agg ([.int .i64 it.id,.string it.code,.int .i64 it.bz,.int .i64 it.bB,.int .i64 it.words,.int .i64 it.ay,.int .i64 it.aP,.int .i64 ky,u]:List Value).toArray),
  (fun v w0=>∃(q:Nat) (u:Value),(Row w0 q 60 [.int .i64 it.id,.string it.code,.int .i64 it.bz,.int .i64 it.bB,.int .i64 it.words,.int .i64 it.ay,.int .i64 it.aP,.int .i64 ky,u]∧u.oneCell'=true)∧v=.slice (some ⟨q,0,none⟩) 1 1),
  (fun v w0=>∃(X9:Option Addr) (y9:Nat) (u:Value),(w0.ownsRow w.heap.size 60 9 (.slice X9 (nC+1) y9) (nC+1) (Cs.flatten++ [.int .i64 it.id,.string it.code,.int .i64 it.bz,.int .i64 it.bB,.int .i64 it.words,.int .i64 it.ay,.int .i64 it.aP,.int .i64 ky,u])∧u.oneCell'=true)∧v=.slice X9 (nC+1) y9)] (fun j v w w' i bE hd hc h hR=>?_) (by kernel_rfl) (by kernel_rfl) (fun a b h=>by(try dsimp only at h);(repeat' split at h)<;>first|(injection h with h;omega)|cases h) ⟨R2.drew,R7.drew,R8.drew,ah.ab (Below.refl _ _).drew,jO OW,BB.drew⟩ ?_ ?_
   ·match i,bE,hd,hc,h with
    |0,bE,hd,hc,h=>exact h
    |1,bE,hd,hc,h=>exact h
    |2,bE,hd,hc,h=>exact h
    |3,bE,hd,hc,h=>exact h
    |4,bE,hd,hc,h=>exact h
    |5,bE,hd,hc,h=>exact h
    |6,bE,hd,hc,h=>exact h
    |7,bE,hd,hc,h=>exact h
    |8,bE,hd,hc,h=>exact h
    |9,bE,hd,hc,h=>exact h
    |10,bE,hd,hc,h=>exact h
    |11,bE,hd,hc,h=>exact h
    |12,bE,hd,hc,h=>exact h
    |13,bE,hd,hc,h=>exact h
    |14,bE,hd,hc,h=>exact h
    |15,bE,hd,hc,h=>exact h
    |16,bE,hd,hc,h=>exact h
    |17,bE,hd,hc,h=>exact h
    |18,bE,hd,hc,h=>exact h
    |19,bE,hd,hc,h=>exact h
    |20,bE,hd,hc,h=>obtain⟨q,u,⟨a1,a2⟩,e⟩:=h;exact⟨q,u,⟨a1.keep (hR.1 (fun q=>hc (by rw[q];rfl))),a2⟩,e⟩
    |21,bE,hd,hc,h=>obtain⟨X9,y9,u,⟨a1,a2⟩,e⟩:=h;exact⟨X9,y9,u,⟨I a1 (hR.1 (fun q=>bE q.symm)),a2⟩,e⟩
    |n+22,_,_,_,_=>trivial
   ·refine⟨fun _ a wx hG hr hb K hK=>?_,?_⟩
    ·have e1:=aq (hb 5);rw[if_pos (by rfl)];unfold Oper.wp execOp
     go_simp
     exact hK _ _ rfl hG ⟨fun _=>Below.refl _ _,ah.refl _ _⟩
    refine⟨fun _ a wx hG hr hb K hK=>?_,?_⟩
    ·exact r8
    refine⟨fun _ a wx hG hr hb K hK=>?_,?_⟩
    ·have e1:=aq (hr 1 70);have c0:wx.cell? ⟨g8,0,none⟩=some (.int .i64 it.id):=(hG.2.2.1.cell 0).trans (rfl);rw[if_pos (by rfl)];unfold Oper.wp execOp
     go_simp
     exact hK _ _ rfl hG ⟨fun _=>Below.refl _ _,ah.refl _ _⟩
    refine⟨fun _ a wx hG hr hb K hK=>?_,?_⟩
    ·exact r8
    refine⟨fun _ a wx hG hr hb K hK=>?_,?_⟩
    ·have e1:=aq (hr 3 72);have c0:wx.cell? ⟨g8,10,none⟩=some (.string it.code):=(hG.2.2.1.cell 10).trans (rfl);rw[if_pos (by rfl)];unfold Oper.wp execOp
     go_simp
     exact hK _ _ rfl hG ⟨fun _=>Below.refl _ _,ah.refl _ _⟩
    refine⟨fun _ a wx hG hr hb K hK=>?_,?_⟩
    ·exact r8
    refine⟨fun _ a wx hG hr hb K hK=>?_,?_⟩
    ·have e1:=aq (hr 5 74);have c0:wx.cell? ⟨g8,11,none⟩=some (.int .i64 it.bz):=(hG.2.2.1.cell 11).trans (rfl);rw[if_pos (by rfl)];unfold Oper.wp execOp
     go_simp
     exact hK _ _ rfl hG ⟨fun _=>Below.refl _ _,ah.refl _ _⟩
    refine⟨fun _ a wx hG hr hb K hK=>?_,?_⟩
    ·exact r8
    refine⟨fun _ a wx hG hr hb K hK=>?_,?_⟩
    ·have e1:=aq (hr 7 76);have c0:wx.cell? ⟨g8,12,none⟩=some (.int .i64 it.bB):=(hG.2.2.1.cell 12).trans (rfl);rw[if_pos (by rfl)];unfold Oper.wp execOp
     go_simp
     exact hK _ _ rfl hG ⟨fun _=>Below.refl _ _,ah.refl _ _⟩
    refine⟨fun _ a wx hG hr hb K hK=>?_,?_⟩
    ·exact r8
    refine⟨fun _ a wx hG hr hb K hK=>?_,?_⟩
    ·have e1:=aq (hr 9 78);have c0:wx.cell? ⟨g8,13,none⟩=some (.int .i64 it.words):=(hG.2.2.1.cell 13).trans (rfl);rw[if_pos (by rfl)];unfold Oper.wp execOp
     go_simp
     exact hK _ _ rfl hG ⟨fun _=>Below.refl _ _,ah.refl _ _⟩
    refine⟨fun _ a wx hG hr hb K hK=>?_,?_⟩
    ·exact r8
    refine⟨fun _ a wx hG hr hb K hK=>?_,?_⟩
    ·have e1:=aq (hr 11 80);have c0:wx.cell? ⟨g8,14,none⟩=some (.int .i64 it.ay):=(hG.2.2.1.cell 14).trans (rfl);rw[if_pos (by rfl)];unfold Oper.wp execOp
     go_simp
     exact hK _ _ rfl hG ⟨fun _=>Below.refl _ _,ah.refl _ _⟩
    refine⟨fun _ a wx hG hr hb K hK=>?_,?_⟩
    ·exact r8
    refine⟨fun _ a wx hG hr hb K hK=>?_,?_⟩
    ·have e1:=aq (hr 13 82);have c0:wx.cell? ⟨g8,9,none⟩=some (.int .i64 it.aP):=(hG.2.2.1.cell 9).trans (rfl);rw[if_pos (by rfl)];unfold Oper.wp execOp
     go_simp
     exact hK _ _ rfl hG ⟨fun _=>Below.refl _ _,ah.refl _ _⟩
    refine⟨fun _ a wx hG hr hb K hK=>?_,?_⟩
    ·have e1:=aq (hb 9);rw[if_pos (by rfl)];unfold Oper.wp execOp
     go_simp
     exact hK _ _ rfl hG ⟨fun _=>Below.refl _ _,ah.refl _ _⟩
    refine⟨fun _ a wx hG hr hb K hK=>?_,?_⟩
    ·have e1:=aq (hb 7);rw[if_pos (by rfl)];unfold Oper.wp execOp
     go_simp
     exact hK _ _ rfl hG ⟨fun _=>Below.refl _ _,ah.refl _ _⟩
    refine⟨fun _ a wx hG hr hb K hK=>?_,?_⟩
    ·have e:=aM (hr 16 85);rw[if_pos (by rfl)];unfold Oper.wp execOp;exact uN e lG hG.2.1 rfl rfl (hK _ _ rfl hG ⟨fun _=>Below.refl _ _,ah.refl _ _⟩)
    refine⟨fun _ a wx hG hr hb K hK=>?_,?_⟩
    ·have e1:=aq (hr 17 86);rw[if_pos (by rfl)];unfold Oper.wp execOp
     go_simp
     refine(SL wx hG.2.2.2.1).mono ?_;rintro e' w' ⟨u,rfl,hO,aY⟩
     have hu1:u.oneCell'=true:=by obtain⟨_,_,_,rfl,_⟩:=hO.xG;rfl
     exact hK _ _ ⟨u,hu1,rfl⟩ ⟨hG.1.keep aY,hG.2.1.keep aY,hG.2.2.1.keep aY,hG.2.2.2.1.trans (ah.ab aY),I hG.2.2.2.2.1 aY,hG.2.2.2.2.2.trans (aY.mono hG.2.2.2.2.2.size)⟩ ⟨fun _=>aY,ah.ab aY⟩
    refine⟨fun _ a wx hG hr hb K hK=>?_,?_⟩
    ·have e1:=aq (hr 2 71);have e2:=aq (hr 4 73);have e3:=aq (hr 6 75);have e4:=aq (hr 8 77);have e5:=aq (hr 10 79);have e6:=aq (hr 12 81);have e7:=aq (hr 14 83);have e8:=aq (hr 15 84);rw[if_pos (by rfl)];unfold Oper.wp execOp;obtain⟨u,hu,e9⟩:=hr 18 87;rw[bR] at e9
     go_simp
     exact hK _ _ ⟨u,hu,rfl⟩ hG ⟨fun _=>Below.refl _ _,ah.refl _ _⟩
    refine⟨fun _ a wx hG hr hb K hK=>?_,?_⟩
    ·rw[if_pos (by rfl)];unfold Oper.wp execOp;obtain⟨u,hu,e1⟩:=hr 19 88;rw[bR] at e1
     go_simp
     have aY:=ai wx (.cells #[.int .i64 it.id,.string it.code,.int .i64 it.bz,.int .i64 it.bB,.int .i64 it.words,.int .i64 it.ay,.int .i64 it.aP,.int .i64 ky,u] 60);exact hK _ _ ⟨wx.heap.size,u,⟨Row.new wx 60 [.int .i64 it.id,.string it.code,.int .i64 it.bz,.int .i64 it.bB,.int .i64 it.words,.int .i64 it.ay,.int .i64 it.aP,.int .i64 ky,u],hu⟩,rfl⟩ ⟨hG.1.keep aY,hG.2.1.keep aY,hG.2.2.1.keep aY,hG.2.2.2.1.trans (ah.ab aY),I hG.2.2.2.2.1 aY,hG.2.2.2.2.2.trans (aY.mono hG.2.2.2.2.2.size)⟩ ⟨fun _=>aY,ah.ab aY⟩
    refine⟨fun _ a wx hG hr hb K hK=>?_,?_⟩
    ·have e1:=aM (hr 0 69);rw[if_pos (by rfl)];obtain⟨q,u,⟨hq,hu⟩,e2⟩:=hr 20 89
     rcases Nat.eq_zero_or_pos nC with cD|cD
     ·refine kS (.tmp 69) (.tmp 89) 57 rfl w.heap.size 60 _ 9 96 underlying57 yY rfl (by decide) (.slice X nC yy) nC Cs.flatten (some ⟨q,0,none⟩) 1 1 [.int .i64 it.id,.string it.code,.int .i64 it.bz,.int .i64 it.bB,.int .i64 it.words,.int .i64 it.ay,.int .i64 it.aP,.int .i64 ky,u] e1 e2 hG.2.2.2.2.1 ⟨rfl,fun _=>⟨q,0,rfl,hq.cl⟩⟩ (by intro z hz;simp only[List.mem_cons,List.not_mem_nil,or_false] at hz;rcases hz with rfl|rfl|rfl|rfl|rfl|rfl|rfl|rfl|rfl<;>first|rfl|exact hu) (by unfold maxLen;omega) (by omega) hG.2.2.2.2.2.size ?_;intro v' w' bU oi;have gB:=dN hG.2.2.2.2.1 oi
      have hold:w'.ownsRow w.heap.size 60 9 (.slice X nC yy) nC Cs.flatten:=by
       obtain⟨rfl,rfl⟩:=QF.out cD
       have FQ:Cs.flatten=[]:=by have:Cs=[]:=List.length_eq_zero_iff.1 (by rw[←SO.out];exact cD);rw[this];rfl
       rw[FQ,cD];exact World.ownsRow_nil _ _ _ _
      exact Q5
     ·refine ly (.tmp 69) (.tmp 89) 57 rfl w.heap.size 60 _ 9 96 underlying57 yY rfl (by decide) (.slice X nC yy) nC Cs.flatten q 1 1 [.int .i64 it.id,.string it.code,.int .i64 it.bz,.int .i64 it.bB,.int .i64 it.words,.int .i64 it.ay,.int .i64 it.aP,.int .i64 ky,u] e1 e2 hG.2.2.2.2.1 rfl hq.cl (by intro z hz;simp only[List.mem_cons,List.not_mem_nil,or_false] at hz;rcases hz with rfl|rfl|rfl|rfl|rfl|rfl|rfl|rfl|rfl<;>first|rfl|exact hu) (by unfold maxLen;omega) (by omega) hG.2.2.2.2.2.size cD ?_;intro v' w' bU oi _ hold;have gB:=dN hG.2.2.2.2.1 oi;exact Q5
    exact⟨fun h=>absurd h (by decide),trivial⟩
   ·intro v wx oo AA hA ho hG hV K hK
    simp[dh,bD,List.range,List.range.loop,Act.put] at hA
    have e0:=aM (hV 0 (by decide) rfl);have e1:=aM (hV 1 (by decide) rfl);have e2:=aM (hV 2 (by decide) rfl);have e3:=aM (hV 3 (by decide) rfl);have e4:=aM (hV 4 (by decide) rfl);have e5:=aM (hV 5 (by decide) rfl);have e6:=aM (hV 6 (by decide) rfl);have e7:=aM (hV 7 (by decide) rfl);have e8:=aM (hV 8 (by decide) rfl);have e9:=aM (hV 9 (by decide) rfl);have ic:=aM (hV 10 (by decide) rfl);have iA:=aM (hV 11 (by decide) rfl);have mM:=aM (hV 12 (by decide) rfl);have pO:=aM (hV 13 (by decide) rfl);have vW:=aM (hV 14 (by decide) rfl);have xb:=aM (hV 15 (by decide) rfl);have Ai:=aM (hV 16 (by decide) rfl);have DJ:=aM (hV 17 (by decide) rfl);obtain⟨u7,hu7,Wm⟩:=hV 18 (by decide) rfl;obtain⟨u8,hu8,Wn⟩:=hV 19 (by decide) rfl;obtain⟨X9,y9,u9,⟨ox,hu9⟩,Wo⟩:=hV 21 (by decide) rfl;rw[e0,e1,e2,e3,e4,e5,e6,e7,e8,e9,ic,iA,mM,pO,vW,xb,Ai,DJ,Wm,Wn,Wo] at hA;subst hA;clear hV e0 e1 e2 e3 e4 e5 e6 e7 e8 e9 ic iA mM pO vW xb Ai DJ Wm Wn Wo
    try clear bQ
    have bU:some _=some oo:=ho
    injection bU with bU
    subst bU;clear ho;rw[if_pos (by rfl)];unfold Oper.wp execOp
    go_simp
    refine hK _ _ ?_;have kv:=hG.2.2.2.2.2;have vY:=hG.1
    have uA:(Cs++ [[.int .i64 it.id,.string it.code,.int .i64 it.bz,.int .i64 it.bB,.int .i64 it.words,.int .i64 it.ay,.int .i64 it.aP,.int .i64 ky,u9]]).flatten=Cs.flatten++ [.int .i64 it.id,.string it.code,.int .i64 it.bz,.int .i64 it.bB,.int .i64 it.words,.int .i64 it.ay,.int .i64 it.aP,.int .i64 ky,u9]:=by simp
    have xm:(Cs++ [[.int .i64 it.id,.string it.code,.int .i64 it.bz,.int .i64 it.bB,.int .i64 it.words,.int .i64 it.ay,.int .i64 it.aP,.int .i64 ky,u9]]).length=nC+1:=by rw[List.length_append,←SO.out];rfl
    have tu:e∈b.entries:=Zv.out
    have Eg:∀u∈([.int .i64 it.id,.string it.code,.int .i64 it.bz,.int .i64 it.bB,.int .i64 it.words,.int .i64 it.ay,.int .i64 it.aP,.int .i64 ky,u9]:List Value),u.oneCell'=true:=by
     intro z hz;simp only[List.mem_cons,List.not_mem_nil,or_false] at hz
     rcases hz with rfl|rfl|rfl|rfl|rfl|rfl|rfl|rfl|rfl<;>first|rfl|exact hu9
    clear hG SL hK OW R2 BB R7 R8 si jY
    go_wp2_with fail
    go_roundw
    case rel=>exact⟨k+1,Cs++ [[.int .i64 it.id,.string it.code,.int .i64 it.bz,.int .i64 it.bB,.int .i64 it.words,.int .i64 it.ay,.int .i64 it.aP,.int .i64 ky,u9]],by omega,by go_num,by rw[xm];omega,by rw[uA,xm];exact ox,(fun h=>by rw[xm] at h;omega),Hy.out.snoc tu zH.out.symm rfl Eg (by rw[QD.out];rfl),vY,kv⟩
    case measure=>simp[intOf];omega
  ·skip
   go_wp2_with fail
   go_ret
   exact⟨_,rfl,⟨Cs,OW,Hy.out⟩,BB⟩
end
end Go.Proofs.YtdnpopjabpklnaaGreatDoor
