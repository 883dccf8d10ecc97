/- Contracts and plain laws that the proof of the top laws uses (TqG). No condition beyond those stated. -/
import Derived.Test.YtdnpopjabpklnaaGreatDoorTqF
set_option maxRecDepth 100000
set_option maxHeartbeats 64000000
set_option linter.all false
namespace Go.Proofs.YtdnpopjabpklnaaGreatDoor
section
open Go.RowKit
open Tryz
structure QI (b:cK):Prop where
 aP:b.aP.length≤1100000
 pri:b.pri.length≤1100000
 dJ:b.dJ.length≤1100000
 af:b.af.length≤1100000
 ft:b.ft.length≤1100000
 entries:b.entries.length≤1100000
 entry:∀e∈b.entries,CX e
theorem Hq (xs:List gH):∀u∈(xs.map fL).flatten,u.oneCell'=true:=by
 intro u hu;rw[List.mem_flatten] at hu;obtain⟨l,hl,hu⟩:=hu;rw[List.mem_map] at hl;obtain⟨x,_,rfl⟩:=hl;simp only[fL,List.mem_cons,List.not_mem_nil,or_false] at hu
 rcases hu with rfl|rfl<;>rfl
theorem GJ (xs:List j0):∀u∈(xs.map fJ).flatten,u.oneCell'=true:=by
 intro u hu;rw[List.mem_flatten] at hu;obtain⟨l,hl,hu⟩:=hu;rw[List.mem_map] at hl;obtain⟨x,_,rfl⟩:=hl;simp only[fJ,List.mem_cons,List.not_mem_nil,or_false] at hu
 rcases hu with rfl|rfl|rfl|rfl|rfl<;>rfl
theorem UK (xs:List (Int × Int)):∀u∈(xs.map ja).flatten,u.oneCell'=true:=by
 intro u hu;rw[List.mem_flatten] at hu;obtain⟨l,hl,hu⟩:=hu;rw[List.mem_map] at hl;obtain⟨x,_,rfl⟩:=hl;simp only[ja,List.mem_cons,List.not_mem_nil,or_false] at hu
 rcases hu with rfl|rfl<;>rfl
theorem cZ.out {w:World} {C:List Value} {b:cK} {base:Nat} (h:cZ base w C b):∃A1 c1 A2 c2 A3 c3 A4 c4 A5 c5 A6 c6,
  C=zY b (.slice A1 b.aP.length c1) (.slice A2 b.pri.length c2) (.slice A3 b.dJ.length c3) (.slice A4 b.af.length c4) (.slice A5 b.entries.length c5) (.slice A6 b.ft.length c6)∧b.entries.length≤9223372036854775807∧b.dJ.length≤9223372036854775807∧b.af.length≤9223372036854775807:=by
 obtain⟨vp,vr,vo,va,ve,vn,rfl,h1,h2,h3,h4,⟨_,_,_,h5,_⟩,h6⟩:=h;obtain⟨_,c1,rfl,_⟩:=aj h1;obtain⟨_,c2,rfl,_⟩:=aj h2;obtain⟨_,c3,rfl,a1,a2⟩:=aj h3;obtain⟨_,c4,rfl,a3,a4⟩:=aj h4;obtain⟨_,c5,rfl,a5,a6⟩:=aj h5;obtain⟨_,c6,rfl,_⟩:=aj h6;refine⟨_,_,_,_,_,_,_,_,_,_,_,_,rfl,?_,?_,?_⟩<;>simp only[maxLen] at a2 a4 a6<;>omega
theorem bN {w:World} {base e k n:Nat} {v:Value} {xs:List Value} (h:w.ownsRow base e k v n xs) (o:Obj):(w.alloc o).ownsRow base e k v n xs:=I h (ai w o)
theorem vj {w:World} {C:List Value} {e:aB} {base:Nat} (h:dn base w C e):∀g,dm C=some g→base≤g∧g<w.heap.size:=by
 obtain⟨vv,va,vf,vl,vm,rfl,⟨Cs,_,_,h1,_⟩,_⟩:=h;intro g hg;exact h1.lt g hg
theorem jO {w:World} {base e k n:Nat} {v:Value} {xs:List Value} (h:w.ownsRow base e k v n xs):(w.drew).ownsRow base e k v n xs:=h
theorem ab5 {w:World} {g t:Nat} {z0 z1 z2 z3 z4 z5 z6:Value} (hr:Row w g t [z0,z1,z2,z3,z4,z5,z6]) (a b c d e f h:Value):
  Row (((((((w.setCell ⟨g,0,none⟩ a).setCell ⟨g,1,none⟩ b).setCell ⟨g,2,none⟩ c).setCell ⟨g,3,none⟩ d).setCell ⟨g,4,none⟩ e).setCell ⟨g,5,none⟩ f).setCell ⟨g,6,none⟩ h) g t [a,b,c,d,e,f,h]∧
  cH g w (((((((w.setCell ⟨g,0,none⟩ a).setCell ⟨g,1,none⟩ b).setCell ⟨g,2,none⟩ c).setCell ⟨g,3,none⟩ d).setCell ⟨g,4,none⟩ e).setCell ⟨g,5,none⟩ f).setCell ⟨g,6,none⟩ h):=
 ⟨abQ hr a b c d e f h,abP w g a b c d e f h⟩
theorem FJ (C:List Value) (b:cK) (w:World) (h:cZ 0 w C b) (hs:QI b):
  Calls prog 36 #[.agg C.toArray] w fun r w'=>∃C',r=.returned (.agg C'.toArray)∧cZ w.heap.size w' C' b∧Below w.heap.size w w':=by
 obtain⟨A1,c1,A2,c2,A3,c3,A4,c4,A5,c5,A6,c6,rfl,yM,hm2,hm3⟩:=h.out;obtain⟨vp,vr,vo,va,ve,vn,lf,h1,h2,h3,h4,h5,h6⟩:=h;unfold zY at lf
 injection lf with _ lf;injection lf with q1 lf;injection lf with q2 lf;injection lf with q3 lf;injection lf with q4 lf;injection lf with q5 lf;injection lf with q6 lf
 subst q1 q2 q3 q4 q5 q6;clear lf;have s1:=bZ h1;have s2:=bZ h2;have s3:=bZ h3;have s4:=bZ h4;have s6:=bZ h6;clear h1 h2 h3 h4 h6;unfold zY
 go_enter func36,ntmps36
 have aL:=trivial
 go_wp2_with (first
  |(clear aJ;(with_reducible refine cR dG ?_);intro x2 g2 Z2 cW uK R2 aF;have jz:g1≠g2:=(by have:=R1.lt;omega);have fP:w.heap.size≤g2:=(by have:=BB.size;omega);replace R1:=R1.keep aF;replace BB:=az BB aF;clear cV bJ aI eo aK bP eQ;have cV:=U (R1.cell 0);have bJ:=U (R1.cell 1);have aI:=U (R1.cell 2);have eo:=U (R1.cell 3);have aK:=U (R1.cell 4);have bP:=U (R1.cell 5);have eQ:=U (R1.cell 6);clear aF cW;have bC:=trivial)
  |(clear aL;(with_reducible refine ao (C:=[.int .i64 b.now,.slice A1 b.aP.length c1,.slice A2 b.pri.length c2,.slice A3 b.dJ.length c3,.slice A4 b.af.length c4,.slice A5 b.entries.length c5,.slice A6 b.ft.length c6]) ?_ ?_);rfl;intro x1 g1 aR R1 aw;have eV:=Nat.le_of_eq aR;have BB:=aw;have cV:=U (R1.cell 0);have bJ:=U (R1.cell 1);have aI:=U (R1.cell 2);have eo:=U (R1.cell 3);have aK:=U (R1.cell 4);have bP:=U (R1.cell 5);have eQ:=U (R1.cell 6);clear aw aR;have aJ:=trivial))
 try clear bC
 simp only[Act.put,List.setIfInBounds_toArray,List.set_cons_zero,List.set_cons_succ];have rW:=R1.lt;have NC:=R2.lt;have hz:=BB.size;have Bx:Below x2.heap.size x2 x2.drew:=(Below.refl _ _).drew;have Bw:Below w.heap.size w x2.drew:=BB.drew;have r1:=Row.drew R1;have r2:=Row.drew R2;have s1':=s1.below (by decide) BB;have s2':=s2.below (by decide) BB;have s3':=s3.below (by decide) BB;have s4':=s4.below (by decide) BB;have s6':=s6.below (by decide) BB
 go_cut [3] (fun s0 wx=>∃(g:Nat) (v1 v2 v3 v4 v6:Value),s0=.pointer (some ⟨g,0,none⟩)∧Row wx g 31 [.int .i64 b.now,v1,v2,v3,v4,.slice none 0 0,v6]∧db w.heap.size wx v1 b.aP∧db w.heap.size wx v2 b.pri∧kE w.heap.size wx v3 b.dJ∧jI w.heap.size wx v4 b.af∧zt w.heap.size wx v6 b.ft∧Row wx g1 31 [.int .i64 b.now,.slice A1 b.aP.length c1,.slice A2 b.pri.length c2,.slice A3 b.dJ.length c3,.slice A4 b.af.length c4,.slice A5 b.entries.length c5,.slice A6 b.ft.length c6]∧Row wx g2 31 Z2∧g1≠g∧g2≠g∧w.heap.size≤g∧Below w.heap.size w wx)
 case first=>
  go_region_held3 (fun w'=>w'.cell? ⟨g1,0,none⟩=some (.int .i64 b.now)∧w'.cell? ⟨g1,1,none⟩=some (.slice A1 b.aP.length c1)∧w'.cell? ⟨g1,2,none⟩=some (.slice A2 b.pri.length c2)∧w'.cell? ⟨g1,3,none⟩=some (.slice A3 b.dJ.length c3)∧w'.cell? ⟨g1,4,none⟩=some (.slice A4 b.af.length c4)∧w'.cell? ⟨g1,6,none⟩=some (.slice A6 b.ft.length c6))
   ((with_reducible refine And.intro (aT rW cV ?_) (And.intro (aT rW bJ ?_) (And.intro (aT rW aI ?_) (And.intro (aT rW eo ?_) (And.intro (aT rW aK ?_) (aT rW eQ ?_))))))<;>((repeat(first|with_reducible exact Below.refl _ _|((with_reducible refine jv ?_ ?_ _);rotate_left;(first|exact Nat.le_refl _|exact IQ|exact IS|exact IT|exact IU))|with_reducible refine ar iB ?_|with_reducible refine ar gn ?_|with_reducible refine ar eE ?_|with_reducible refine ar ax ?_|with_reducible refine al ?_ _|with_reducible refine bL ?_));done))
   (first
    |(go_at_call 35;((with_reducible refine(wA A1 A2 b.aP.length b.pri.length c1 c2 _ _ _ (s1'.below (by decide) ?_) (s2'.below (by decide) ?_) hs.aP hs.pri).mono ?_);(repeat(first|with_reducible exact Below.refl _ _|((with_reducible refine jv ?_ ?_ _);rotate_left;(first|exact Nat.le_refl _|exact IQ|exact IS|exact IT|exact IU))|with_reducible refine ar iB ?_|with_reducible refine ar gn ?_|with_reducible refine ar eE ?_|with_reducible refine ar ax ?_|with_reducible refine al ?_ _|with_reducible refine bL ?_));rintro e w2 ⟨v1,v2,rfl,O1,O2,ax⟩;have IQ:x2.heap.size≤w2.heap.size:=(ar ax (by(repeat(first|with_reducible exact Below.refl _ _|((with_reducible refine jv ?_ ?_ _);rotate_left;(first|exact Nat.le_refl _|exact IQ|exact IS|exact IT|exact IU))|with_reducible refine ar iB ?_|with_reducible refine ar gn ?_|with_reducible refine ar eE ?_|with_reducible refine ar ax ?_|with_reducible refine al ?_ _|with_reducible refine bL ?_))):Below x2.heap.size x2 w2).size;have zg:=Bx.size;(first|(replace RR:=RR.keep ax)|(have RR:Row w2 x2.heap.size 31 [.int .i64 0,.slice none 0 0,.slice none 0 0,.slice none 0 0,.slice none 0 0,.slice none 0 0,.slice none 0 0]:=(Row.new x2.drew 31 [.int .i64 0,.slice none 0 0,.slice none 0 0,.slice none 0 0,.slice none 0 0,.slice none 0 0,.slice none 0 0]).keep ax;have hg:x2.heap.size≤x2.heap.size:=zg)|skip);(first|replace r1:=r1.keep ax|replace r1:=(Row.alloc r1 _).keep ax);(first|replace r2:=r2.keep ax|replace r2:=(Row.alloc r2 _).keep ax);(first|replace O1:=aX O1 Bw.size|replace O1:=aX O1 (al Bw _).size);(first|replace O2:=aX O2 Bw.size|replace O2:=aX O2 (al Bw _).size);(first|replace Bx:=az Bx ax|replace Bx:=(al Bx _).trans (ax.mono (al Bx _).size));(first|replace Bw:=az Bw ax|replace Bw:=(al Bw _).trans (ax.mono (al Bw _).size));obtain⟨X1,y1,rfl,_,_⟩:=aj O1;obtain⟨X2,y2,rfl,_,_⟩:=aj O2))
    |(go_at_call 77;((with_reducible refine(FD A3 b.dJ.length c3 _ _ (s3'.below (by decide) ?_) (Hq _) hs.dJ).mono ?_);(repeat(first|with_reducible exact Below.refl _ _|((with_reducible refine jv ?_ ?_ _);rotate_left;(first|exact Nat.le_refl _|exact IQ|exact IS|exact IT|exact IU))|with_reducible refine ar iB ?_|with_reducible refine ar gn ?_|with_reducible refine ar eE ?_|with_reducible refine ar ax ?_|with_reducible refine al ?_ _|with_reducible refine bL ?_));rintro e w3 ⟨v3,rfl,O3,eE⟩;have IS:x2.heap.size≤w3.heap.size:=(ar eE (by(repeat(first|with_reducible exact Below.refl _ _|((with_reducible refine jv ?_ ?_ _);rotate_left;(first|exact Nat.le_refl _|exact IQ|exact IS|exact IT|exact IU))|with_reducible refine ar iB ?_|with_reducible refine ar gn ?_|with_reducible refine ar eE ?_|with_reducible refine ar ax ?_|with_reducible refine al ?_ _|with_reducible refine bL ?_))):Below x2.heap.size x2 w3).size;have zg:=Bx.size;(first|(replace RR:=RR.keep eE)|(have RR:Row w3 w2.heap.size 31 [.int .i64 0,.slice none 0 0,.slice none 0 0,.slice none 0 0,.slice none 0 0,.slice none 0 0,.slice none 0 0]:=(Row.new w2 31 [.int .i64 0,.slice none 0 0,.slice none 0 0,.slice none 0 0,.slice none 0 0,.slice none 0 0,.slice none 0 0]).keep eE;have hg:x2.heap.size≤w2.heap.size:=zg)|skip);(first|replace O1:=I O1 eE|replace O1:=I (bN O1 _) eE);(first|replace O2:=I O2 eE|replace O2:=I (bN O2 _) eE);(first|replace r1:=r1.keep eE|replace r1:=(Row.alloc r1 _).keep eE);(first|replace r2:=r2.keep eE|replace r2:=(Row.alloc r2 _).keep eE);(first|replace O3:=aX O3 Bw.size|replace O3:=aX O3 (al Bw _).size);(first|replace Bx:=az Bx eE|replace Bx:=(al Bx _).trans (eE.mono (al Bx _).size));(first|replace Bw:=az Bw eE|replace Bw:=(al Bw _).trans (eE.mono (al Bw _).size));obtain⟨X3,y3,rfl,_,_⟩:=aj O3))
    |(go_at_call 78;((with_reducible refine(FB A4 b.af.length c4 _ _ (s4'.below (by decide) ?_) (GJ _) hs.af).mono ?_);(repeat(first|with_reducible exact Below.refl _ _|((with_reducible refine jv ?_ ?_ _);rotate_left;(first|exact Nat.le_refl _|exact IQ|exact IS|exact IT|exact IU))|with_reducible refine ar iB ?_|with_reducible refine ar gn ?_|with_reducible refine ar eE ?_|with_reducible refine ar ax ?_|with_reducible refine al ?_ _|with_reducible refine bL ?_));rintro e w4 ⟨v4,rfl,O4,gn⟩;have IT:x2.heap.size≤w4.heap.size:=(ar gn (by(repeat(first|with_reducible exact Below.refl _ _|((with_reducible refine jv ?_ ?_ _);rotate_left;(first|exact Nat.le_refl _|exact IQ|exact IS|exact IT|exact IU))|with_reducible refine ar iB ?_|with_reducible refine ar gn ?_|with_reducible refine ar eE ?_|with_reducible refine ar ax ?_|with_reducible refine al ?_ _|with_reducible refine bL ?_))):Below x2.heap.size x2 w4).size;have zg:=Bx.size;(first|(replace RR:=RR.keep gn)|(have RR:Row w4 w3.heap.size 31 [.int .i64 0,.slice none 0 0,.slice none 0 0,.slice none 0 0,.slice none 0 0,.slice none 0 0,.slice none 0 0]:=(Row.new w3 31 [.int .i64 0,.slice none 0 0,.slice none 0 0,.slice none 0 0,.slice none 0 0,.slice none 0 0,.slice none 0 0]).keep gn;have hg:x2.heap.size≤w3.heap.size:=zg)|skip);(first|replace O1:=I O1 gn|replace O1:=I (bN O1 _) gn);(first|replace O2:=I O2 gn|replace O2:=I (bN O2 _) gn);(first|replace O3:=I O3 gn|replace O3:=I (bN O3 _) gn);(first|replace r1:=r1.keep gn|replace r1:=(Row.alloc r1 _).keep gn);(first|replace r2:=r2.keep gn|replace r2:=(Row.alloc r2 _).keep gn);(first|replace O4:=aX O4 Bw.size|replace O4:=aX O4 (al Bw _).size);(first|replace Bx:=az Bx gn|replace Bx:=(al Bx _).trans (gn.mono (al Bx _).size));(first|replace Bw:=az Bw gn|replace Bw:=(al Bw _).trans (gn.mono (al Bw _).size));obtain⟨X4,y4,rfl,_,_⟩:=aj O4))
    |(go_at_call 79;((with_reducible refine(FC A6 b.ft.length c6 _ _ (s6'.below (by decide) ?_) (UK _) hs.ft).mono ?_);(repeat(first|with_reducible exact Below.refl _ _|((with_reducible refine jv ?_ ?_ _);rotate_left;(first|exact Nat.le_refl _|exact IQ|exact IS|exact IT|exact IU))|with_reducible refine ar iB ?_|with_reducible refine ar gn ?_|with_reducible refine ar eE ?_|with_reducible refine ar ax ?_|with_reducible refine al ?_ _|with_reducible refine bL ?_));rintro e w5 ⟨v6,rfl,O6,iB⟩;have IU:x2.heap.size≤w5.heap.size:=(ar iB (by(repeat(first|with_reducible exact Below.refl _ _|((with_reducible refine jv ?_ ?_ _);rotate_left;(first|exact Nat.le_refl _|exact IQ|exact IS|exact IT|exact IU))|with_reducible refine ar iB ?_|with_reducible refine ar gn ?_|with_reducible refine ar eE ?_|with_reducible refine ar ax ?_|with_reducible refine al ?_ _|with_reducible refine bL ?_))):Below x2.heap.size x2 w5).size;have zg:=Bx.size;(first|(replace RR:=RR.keep iB)|(have RR:Row w5 w4.heap.size 31 [.int .i64 0,.slice none 0 0,.slice none 0 0,.slice none 0 0,.slice none 0 0,.slice none 0 0,.slice none 0 0]:=(Row.new w4 31 [.int .i64 0,.slice none 0 0,.slice none 0 0,.slice none 0 0,.slice none 0 0,.slice none 0 0,.slice none 0 0]).keep iB;have hg:x2.heap.size≤w4.heap.size:=zg)|skip);(first|replace O1:=I O1 iB|replace O1:=I (bN O1 _) iB);(first|replace O2:=I O2 iB|replace O2:=I (bN O2 _) iB);(first|replace O3:=I O3 iB|replace O3:=I (bN O3 _) iB);(first|replace O4:=I O4 iB|replace O4:=I (bN O4 _) iB);(first|replace r1:=r1.keep iB|replace r1:=(Row.alloc r1 _).keep iB);(first|replace r2:=r2.keep iB|replace r2:=(Row.alloc r2 _).keep iB);(first|replace O6:=aX O6 Bw.size|replace O6:=aX O6 (al Bw _).size);(first|replace Bx:=az Bx iB|replace Bx:=(al Bx _).trans (iB.mono (al Bx _).size));(first|replace Bw:=az Bw iB|replace Bw:=(al Bw _).trans (iB.mono (al Bw _).size));obtain⟨X6,y6,rfl,_,_⟩:=aj O6;(try (have e0:=RR.cell 0;have f0:=RR.frozen 0;have e1:=RR.cell 1;have f1:=RR.frozen 1;have e2:=RR.cell 2;have f2:=RR.frozen 2;have e3:=RR.cell 3;have f3:=RR.frozen 3;have e4:=RR.cell 4;have f4:=RR.frozen 4;have e5:=RR.cell 5;have f5:=RR.frozen 5;have e6:=RR.cell 6;have f6:=RR.frozen 6;simp only[List.getElem?_cons_zero,List.getElem?_cons_succ] at e0 e1 e2 e3 e4 e5 e6)))))
  all_goals go_wp2_with fail
  all_goals go_meet
  all_goals go_light
  all_goals first
   |(obtain⟨F1,F3⟩:=ab5 RR (.int .i64 b.now) (.slice X1 b.aP.length y1) (.slice X2 b.pri.length y2) (.slice X3 b.dJ.length y3) (.slice X4 b.af.length y4) (.slice none 0 0) (.slice X6 b.ft.length y6);have kt:=F3.aa RR.ty;have n1:=Nat.ne_of_lt (Nat.lt_of_lt_of_le rW hg);have n2:=Nat.ne_of_lt (Nat.lt_of_lt_of_le NC hg);have ob:=Nat.le_trans hz hg;exact⟨_,_,_,_,_,_,rfl,F1,kt.own O1,kt.own O2,kt.own O3,kt.own O4,kt.own O6,F3.row r1 n1,F3.row r2 n2,n1,n2,ob,Bw.trans (F3.below ob)⟩)
   |(have n1:=Nat.ne_of_lt r1.lt;have n2:=Nat.ne_of_lt r2.lt;exact⟨_,_,_,_,_,_,rfl,Row.new _ _ _,bN O1 _,bN O2 _,bN O3 _,bN O4 _,bN O6 _,Row.alloc r1 _,Row.alloc r2 _,n1,n2,Bw.size,Bw.alloc Bw.size _⟩)
 case rest=>
  obtain⟨g3,v1,v2,v3,v4,v6,rfl,R3,O1,O2,O3,O4,O6,r1',r2',n13,n23,jJ,bb⟩:=hcut;clear R1 R2 BB;have BB:=bb;have R2:=r2';have c5':=r1'.cell 5;simp only[List.getElem?_cons_zero,List.getElem?_cons_succ] at c5';obtain⟨n,hn⟩:∃n,n=b.entries.length:=⟨_,rfl⟩;have HN:=Lib.hid hn;have wg:=hs.entries;have HS:=Lib.hid hs;have H5:=Lib.hid h5;rw[←hn] at wg c5' ⊢;clear hn h5 yM hm2 hm3 s1 s2 s3 s4 s6 s1' s2' s3' s4' s6' hs hz rW NC bb Bx Bw r1 r2 r1' r2' cV bJ aI eo aK bP eQ
  go_wp2_with fail
  go_loopw [24] (fun i wr=>∃(k:Nat) (v:Value) (Cs:List (List Value)),k≤n∧i=.int .i64 k∧Row wr g3 31 [.int .i64 b.now,v1,v2,v3,v4,v,v6]∧Row wr g2 31 Z2∧Cs.length=k∧(∀C∈Cs,C.length=7)∧wr.ownsRow w.heap.size 44 7 v k Cs.flatten∧(∀(j:Nat) (C:List Value) (x:aB),Cs[j]? =some C→b.entries[j]? =some x→dn w.heap.size wr C x)∧(∀(i j:Nat) (C D:List Value),Cs[i]? =some C→Cs[j]? =some D→i<j→dm C=none∨dm C≠dm D)∧db w.heap.size wr v1 b.aP∧db w.heap.size wr v2 b.pri∧kE w.heap.size wr v3 b.dJ∧jI w.heap.size wr v4 b.af∧zt w.heap.size wr v6 b.ft∧Below w.heap.size w wr) (fun i _=>n - (intOf i).toNat)
  case atStart=>exact⟨0,_,[],Nat.zero_le _,rfl,R3,R2,rfl,by simp,World.ownsRow_nil _ _ _ _,by simp,by simp,O1,O2,O3,O4,O6,BB⟩
  case round=>
   clear R3 R2 O1 O2 O3 O4 O6 BB c5';obtain⟨k,v,Cs,hk,rfl,R3,R2,aO,hc7,a_,dZ,nQ,O1,O2,O3,O4,O6,BB⟩:=hrel
   by_cases aS:k<n
   ·have hx:b.entries[k]? =some (b.entries[k]'(by rw[←HN.out];exact aS)):=List.getElem?_eq_getElem _;obtain⟨g,cap,C,hA,_,_,_,dW,oh,TN,hO⟩:=H5.out.BJ.get hx;have hsx:=HS.out.entry _ (List.getElem_mem (by rw[←HN.out];exact aS:k<b.entries.length));have HX:=Lib.hid hx;clear hx;generalize b.entries[k]=e at*
    injection hA with TI hA2 Wy
    subst TI;clear hA2 Wy;obtain⟨E1,d1,E2,d2,E3,d3,E4,d4,E5,d5,rfl,_,_⟩:=hO.out;unfold ig at hO TN oh;have oB:=hO.one;have sW:Cl wr g (k*7) [.slice E1 e.aD.length d1,.int .i64 e.state,.int .i64 e.bF,.slice E2 e.b_.length d2,.slice E3 e.fair.length d3,.slice E4 e.log.length d4,.slice E5 e.rows.length d5]:=TN.below BB dW.lt;clear TN oh;have zz:=BB.size;have aL:=trivial
    go_wp2_with (first
     |(clear bC;(with_reducible refine av (C:=[.slice E1 e.aD.length d1,.int .i64 e.state,.int .i64 e.bF,.slice E2 e.b_.length d2,.slice E3 e.fair.length d3,.slice E4 e.log.length d4,.slice E5 e.rows.length d5]) ?_ ?_ cN R5 rfl X' oB ?_);rfl;rfl;have bg:=R5.ty;clear R5;intro w5 R5 P5;have B5:=h4.trans (P5.below (Nat.le_of_eq e5));clear P5 h4 bg;have cz:=trivial)
     |(clear aJ;(with_reducible refine cR gY ?_);intro w4 g5 Z5 e5 X' R5 h4;have bC:=trivial)
     |(clear aL;(with_reducible refine cJ ?_ cN sW rfl ?_);rfl;have aJ:=trivial))
    clear cz;have c0:w5.cell? ⟨g3,5,none⟩=some v:=(R3.keep B5).cell 5;have VZ:=U (R5.cell 0);have V0:=U (R5.cell 1);have V1:=U (R5.cell 2);have V2:=U (R5.cell 3);have V3:=U (R5.cell 4);have V4:=U (R5.cell 5);have V5:=U (R5.cell 6);have ND:=az BB B5;have hO5:=hO.aa (t:=31) (ah.ab ND);have pq:=I a_ B5;have z5:=ND.size;have z6:=B5.size
    go_region_law (first
     |(go_simp;go_at_call 33;((with_reducible refine(tL [.slice E1 e.aD.length d1,.int .i64 e.state,.int .i64 e.bF,.slice E2 e.b_.length d2,.slice E3 e.fair.length d3,.slice E4 e.log.length d4,.slice E5 e.rows.length d5] e _ (hO5.aa (t:=31) (ah.ab ?_)) hsx).mono ?_);(repeat(first|with_reducible exact Below.refl _ _|with_reducible refine bL ?_));rintro r wa ⟨CC,rfl,hE,aC⟩;obtain⟨Y1,y1,Y2,y2,Y3,y3,Y4,y4,Y5,y5,rfl,_,_⟩:=hE.out;unfold ig at hE ⊢;replace aC:=fU aC;have BA:=az ND aC;have d1:wa.cell? ⟨g3,5,none⟩=some v:=((R3.keep B5).keep aC).cell 5;have d2:(wa.alloc (.cells #[.slice Y1 e.aD.length y1,.int .i64 e.state,.int .i64 e.bF,.slice Y2 e.b_.length y2,.slice Y3 e.fair.length y3,.slice Y4 e.log.length y4,.slice Y5 e.rows.length y5] 44)).cell? ⟨g3,5,none⟩=some v:=(((R3.keep B5).keep aC).alloc _).cell 5;have d_:=(I pq aC).alloc (.cells #[.slice Y1 e.aD.length y1,.int .i64 e.state,.int .i64 e.bF,.slice Y2 e.b_.length y2,.slice Y3 e.fair.length y3,.slice Y4 e.log.length y4,.slice Y5 e.rows.length y5] 44);have uH:dF (wa.alloc (.cells #[.slice Y1 e.aD.length y1,.int .i64 e.state,.int .i64 e.bF,.slice Y2 e.b_.length y2,.slice Y3 e.fair.length y3,.slice Y4 e.log.length y4,.slice Y5 e.rows.length y5] 44)) (some ⟨wa.heap.size,0,none⟩) 1 7 [.slice Y1 e.aD.length y1,.int .i64 e.state,.int .i64 e.bF,.slice Y2 e.b_.length y2,.slice Y3 e.fair.length y3,.slice Y4 e.log.length y4,.slice Y5 e.rows.length y5]:=⟨rfl,fun _=>⟨_,0,rfl,(Row.new wa 44 [.slice Y1 e.aD.length y1,.int .i64 e.state,.int .i64 e.bF,.slice Y2 e.b_.length y2,.slice Y3 e.fair.length y3,.slice Y4 e.log.length y4,.slice Y5 e.rows.length y5]).cl⟩⟩;have DU:=(BA.alloc BA.size (.cells #[.slice Y1 e.aD.length y1,.int .i64 e.state,.int .i64 e.bF,.slice Y2 e.b_.length y2,.slice Y3 e.fair.length y3,.slice Y4 e.log.length y4,.slice Y5 e.rows.length y5] 44)).size))
     |(refine lF (by rfl) (.tmp 29) (.tmp 32) 28 (by rfl) w.heap.size 44 _ 7 136 underlying28 AB rfl (by decide) v k Cs.flatten (some ⟨wa.heap.size,0,none⟩) 1 1 [.slice Y1 e.aD.length y1,.int .i64 e.state,.int .i64 e.bF,.slice Y2 e.b_.length y2,.slice Y3 e.fair.length y3,.slice Y4 e.log.length y4,.slice Y5 e.rows.length y5] (by rfl) (by rfl) d_ uH (by decide) hE.one (by unfold maxLen;omega) (by omega) DU ?_;intro v7 w6 yO Aq;obtain⟨X6,y6,rfl,_,_⟩:=aj yO;have kt:=dN d_ Aq;have tk:=((((R3.keep B5).keep aC).alloc _).aa kt (by decide));have q0:=tk.cell 5;have q1:=tk.frozen 5;simp only[List.getElem?_cons_zero,List.getElem?_cons_succ] at q0))
    all_goals
     have P3:=cH.set w6 g3 5 (.slice X6 (k+1) y6);have VI:Row (w6.setCell ⟨g3,5,none⟩ (.slice X6 (k+1) y6)) g3 31 [.int .i64 b.now,v1,v2,v3,v4,.slice X6 (k+1) y6,v6]:=tk.cE 5 _;have iT:=P3.aa tk.ty;have ka:=ah.ab (t:=44) (ai wa (.cells #[.slice Y1 e.aD.length y1,.int .i64 e.state,.int .i64 e.bF,.slice Y2 e.b_.length y2,.slice Y3 e.fair.length y3,.slice Y4 e.log.length y4,.slice Y5 e.rows.length y5] 44));have yZ:=(((ah.ab (t:=44) B5).trans (ah.ab aC)).trans ka).trans kt;have VG:=P3.row (R2.aa yZ) n23;have xo:=iT.own yO;have o1:=iT.own (yZ.own O1);have o2:=iT.own (yZ.own O2);have o3:=iT.own (yZ.own O3);have o4:=iT.own (yZ.own O4);have o6:=iT.own (yZ.own O6);have uE:dn w.heap.size (w6.setCell ⟨g3,5,none⟩ (.slice X6 (k+1) y6)) [.slice Y1 e.aD.length y1,.int .i64 e.state,.int .i64 e.bF,.slice Y2 e.b_.length y2,.slice Y3 e.fair.length y3,.slice Y4 e.log.length y4,.slice Y5 e.rows.length y5] e:=dn.aa (dn.aa (dn.lower hE z5) (ka.trans kt)) iT
     have LP:∀(j:Nat) (C:List Value) (y:aB),(Cs++ [([.slice Y1 e.aD.length y1,.int .i64 e.state,.int .i64 e.bF,.slice Y2 e.b_.length y2,.slice Y3 e.fair.length y3,.slice Y4 e.log.length y4,.slice Y5 e.rows.length y5]:List Value)])[j]? =some C→b.entries[j]? =some y→dn w.heap.size (w6.setCell ⟨g3,5,none⟩ (.slice X6 (k+1) y6)) C y:=by
      intro j C y so Ea
      rcases Nat.lt_or_ge j k with hj|hj
      ·rw[List.getElem?_append_left (by omega)] at so;exact((dZ j C y so Ea).aa yZ (by decide) (by decide) (by decide) (by decide) (by decide)).aa iT (by decide) (by decide) (by decide) (by decide) (by decide)
      ·rw[List.getElem?_append_right (by omega)] at so
       obtain rfl:j=k:=by
        rcases Nat.eq_or_lt_of_le hj with h|h
        ·exact h.symm
        ·rw[List.getElem?_eq_none (by simp;omega)] at so;cases so
       rw[HX.out] at Ea
       injection Ea with Ea
       subst Ea;rw[aO,Nat.sub_self,List.getElem?_cons_zero] at so
       injection so with so
       subst so;exact uE
     have ab9:∀(i j:Nat) (C D:List Value),(Cs++ [([.slice Y1 e.aD.length y1,.int .i64 e.state,.int .i64 e.bF,.slice Y2 e.b_.length y2,.slice Y3 e.fair.length y3,.slice Y4 e.log.length y4,.slice Y5 e.rows.length y5]:List Value)])[i]? =some C→(Cs++ [([.slice Y1 e.aD.length y1,.int .i64 e.state,.int .i64 e.bF,.slice Y2 e.b_.length y2,.slice Y3 e.fair.length y3,.slice Y4 e.log.length y4,.slice Y5 e.rows.length y5]:List Value)])[j]? =some D→i<j→dm C=none∨dm C≠dm D:=by
      intro i j C D hi hj bE
      rcases Nat.lt_or_ge j k with Xj|Xj
      ·rw[List.getElem?_append_left (by omega)] at hi hj;exact nQ i j C D hi hj bE
      ·rw[List.getElem?_append_right (by omega)] at hj
       obtain rfl:j=k:=by
        rcases Nat.eq_or_lt_of_le Xj with h|h
        ·exact h.symm
        ·rw[List.getElem?_eq_none (by simp;omega)] at hj;cases hj
       rw[List.getElem?_append_left (by omega)] at hi;rw[aO,Nat.sub_self,List.getElem?_cons_zero] at hj
       injection hj with hj
       subst hj;have hxi:b.entries[i]? =some (b.entries[i]'(by have:=HN.out;omega)):=List.getElem?_eq_getElem _
       cases hq:dm C with
       |none=>exact Or.inl rfl
       |some q=>
        right
        intro he;have a1:=(vj (dZ i C _ hi hxi) q hq).2;have a2:=(vj hE q he.symm).1;have a3:wr.heap.size≤w5.drew.heap.size:=z6;omega
     have uA:(Cs++ [([.slice Y1 e.aD.length y1,.int .i64 e.state,.int .i64 e.bF,.slice Y2 e.b_.length y2,.slice Y3 e.fair.length y3,.slice Y4 e.log.length y4,.slice Y5 e.rows.length y5]:List Value)]).flatten=Cs.flatten++([.slice Y1 e.aD.length y1,.int .i64 e.state,.int .i64 e.bF,.slice Y2 e.b_.length y2,.slice Y3 e.fair.length y3,.slice Y4 e.log.length y4,.slice Y5 e.rows.length y5]:List Value):=by simp
     rw[←uA] at xo
     have hc3:∀C∈Cs++ [([.slice Y1 e.aD.length y1,.int .i64 e.state,.int .i64 e.bF,.slice Y2 e.b_.length y2,.slice Y3 e.fair.length y3,.slice Y4 e.log.length y4,.slice Y5 e.rows.length y5]:List Value)],C.length=7:=by
      intro C hC;rw[List.mem_append,List.mem_singleton] at hC
      rcases hC with hC|rfl
      ·exact hc7 C hC
      ·rfl
     have TW:(Cs++ [([.slice Y1 e.aD.length y1,.int .i64 e.state,.int .i64 e.bF,.slice Y2 e.b_.length y2,.slice Y3 e.fair.length y3,.slice Y4 e.log.length y4,.slice Y5 e.rows.length y5]:List Value)]).length=k+1:=by simp[aO]
     have B3:=((BA.alloc BA.size (.cells #[.slice Y1 e.aD.length y1,.int .i64 e.state,.int .i64 e.bF,.slice Y2 e.b_.length y2,.slice Y3 e.fair.length y3,.slice Y4 e.log.length y4,.slice Y5 e.rows.length y5] 44)).trans (bG d_ Aq (Nat.le_refl _) DU)).trans (P3.below jJ);clear d1 d2 q0 q1 c0 VZ V0 V1 V2 V3 V4 V5 dZ nQ a_ pq d_ uH uA uE;generalize Cs++ [([.slice Y1 e.aD.length y1,.int .i64 e.state,.int .i64 e.bF,.slice Y2 e.b_.length y2,.slice Y3 e.fair.length y3,.slice Y4 e.log.length y4,.slice Y5 e.rows.length y5]:List Value)]=Ds at*;generalize w6.setCell ⟨g3,5,none⟩ (.slice X6 (k+1) y6)=w7 at*
     go_wp2_with fail
     exact⟨⟨k+1,_,Ds,by omega,rfl,VI,VG,TW,hc3,xo,LP,ab9,o1,o2,o3,o4,o6,B3⟩,by simp[intOf];omega⟩
   ·obtain rfl:k=n:=by omega
    have oB:∀u∈([.int .i64 b.now,v1,v2,v3,v4,v,v6]:List Value),u.oneCell'=true:=by
     intro u hu;simp only[List.mem_cons,List.not_mem_nil,or_false] at hu
     rcases hu with rfl|rfl|rfl|rfl|rfl|rfl|rfl<;>first|rfl|exact dv a_|exact dv O1|exact dv O2|exact dv O3|exact dv O4|exact dv O6
    have aL:=trivial
    go_wp2_with (first
     |(clear aJ;(with_reducible refine av (C:=[.int .i64 b.now,v1,v2,v3,v4,v,v6]) ?_ ?_ aN R2 rfl uK oB ?_);rfl;rfl;have bg:=R2.ty;clear R2;intro w5 R2 P5;have kt:=P5.aa bg;have bC:=trivial)
     |(clear aL;(with_reducible refine ak ?_ aN R3 rfl ?_);rfl;have aJ:=trivial))
    have nV:=HN.out;have OE:ej w.heap.size w5 v b.entries:=⟨Cs,by omega,hc7,by rw[←nV];exact kt.own a_,fun j C x a b=>(dZ j C x a b).aa kt (by decide) (by decide) (by decide) (by decide) (by decide),nQ⟩;replace BB:=BB.trans (P5.below fP);refine bodyPost_ret (js rfl _ rfl aN R2 rfl) rfl ?_;exact⟨_,rfl,⟨v1,v2,v3,v4,v,v6,rfl,kt.own O1,kt.own O2,kt.own O3,kt.own O4,OE,kt.own O6⟩,BB⟩
end
end Go.Proofs.YtdnpopjabpklnaaGreatDoor
