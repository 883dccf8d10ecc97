/- Contracts and plain laws that the proof of the top laws uses (G16). No condition beyond those stated. -/
import Derived.Test.YtdnpopjabpklnaaGreatDoorG15
import Derived.Test.YtdnpopjabpklnaaGreatDoorG04
set_option maxRecDepth 100000
set_option maxHeartbeats 64000000
set_option linter.all false
namespace Go.Proofs.YtdnpopjabpklnaaGreatDoor
section
open Go.RowKit
open Tryz
theorem iL.keep {B b:Nat} {l:List UInt8} {w w':World} (h:iL B w b l) (hb:Below w.heap.size w w'):iL B w' b l:=by
 have key:∀p bs,Lib.BuilderAtF 85 5 B b p bs w→Lib.BuilderAtF 85 5 B b p bs w':=by
  rintro p bs ⟨hB,v,h1,h2,h3⟩;have hl:=(Array.getElem?_eq_some_iff.1 h1).1;refine⟨hB,v,(hb.block b hl).trans h1,⟨h2.1,?_⟩,h3⟩
  rcases h2.2 with h0|⟨g,cap,cur,fz,hv,hbg,hg,rest⟩
  ·exact .inl h0
  ·exact .inr ⟨g,cap,cur,fz,hv,hbg,(hb.block g (Array.getElem?_eq_some_iff.1 hg).1).trans hg,rest⟩
 exact h.elim (fun x=>.inl (key _ _ x)) (fun x=>.inr (key _ _ x))
theorem cL.ab {b:Nat} {w w':World} (h:Below w.heap.size w w'):cL b w w':=fun k o hk _ _=>(h.block k (Array.getElem?_eq_some_iff.1 hk).1).trans hk
theorem cL.trans {b:Nat} {w w1 w2:World} (h:cL b w w1) (h':cL b w1 w2):cL b w w2:=Lib.OthersKept.trans h h'
theorem iL.lt {B b:Nat} {l:List UInt8} {w:World} (h:iL B w b l):b<w.heap.size:=by
 rcases h with ⟨hB,v,h1,_⟩|⟨hB,v,h1,_⟩<;>exact(Array.getElem?_eq_some_iff.1 h1).1
theorem iL.base {B b:Nat} {l:List UInt8} {w:World} (h:iL B w b l):B≤b:=by
 rcases h with ⟨hB,_⟩|⟨hB,_⟩<;>exact hB
def ZL (B g:Nat) (l:List UInt8) (N:Nat) (w:World) (e:Ending) (w':World):Prop:=
 e=.returned (.bool true)∧(∃l',l'.length≤l.length+N∧iL B w' g l')∧Below B w w'∧cL g w w'
theorem Ze {s:ByteArray} (h:s=dK∨s=ef):s.size≤6:=by rcases h with rfl|rfl<;>decide
theorem acn {s:ByteArray} (h:s=dK∨s=ef):s.toList.isEmpty=false:=by rcases h with rfl|rfl<;>(rw[Lib.toList_data];rfl)
theorem ab4 {s:ByteArray} (hs:s=dK∨s=ef):∀(W:World) (b:Nat),Row W b 9 (gO.map Value.string)→Calls prog 151 #[.slice (some ⟨b,0,none⟩) 7 7,.string s] W fun e w'=>e=.returned (.bool true)∧w'=W:=fun W b hR=>by
 refine(slices_Contains_string b 0 7 7 gO s W (by decide) (by decide) (fun j hj=>?_)).mono ?_
 ·rw[Nat.zero_add,hR.cell,List.getElem?_map,List.getElem?_eq_getElem hj]
  simp[List.getD,List.getElem?_eq_getElem hj]
 ·rintro e w' ⟨rfl,rfl⟩;rw[DD hs];exact⟨rfl,rfl⟩
theorem Aj (a b:Int) (w:World):
  Calls prog 246 #[.int .i64 a,.int .i64 b] w fun e w'=>Kl e∧w'=w:=by
 go_enter func246,ntmps246
 go_wp2_with fail
 all_goals (go_ret;exact⟨⟨_,rfl⟩,rfl⟩)
theorem Qy (B g:Nat) (l:List UInt8) (s:ByteArray) (w:World) (hs:s=dK∨s=ef) (hB:B≤w.heap.size) (hb:iL B w g l) (hl:l.length≤500):
  Calls prog 208 #[.pointer (some ⟨g,0,none⟩),.agg #[.int .i64 6,.int .i64 0,.int .i64 0,.string cw,.string s,.slice none 0 0]] w (ZL B g l 30 w):=by
 have hC:=ab4 hs;have cM:=Ze hs;have cu:=acn hs;clear hs;unfold cw
 go_enter func208,ntmps208
 go_wp2_with fail
 obtain⟨w1,nX⟩:∃w1,w1=w.alloc (.cells #[.int .i64 6,.int .i64 0,.int .i64 0,.string ⟨#[]⟩,.string s,.slice none 0 0] 76):=⟨_,rfl⟩
 have R1:Row w1 w.heap.size 76 [.int .i64 6,.int .i64 0,.int .i64 0,.string ⟨#[]⟩,.string s,.slice none 0 0]:=by rw[nX];exact Row.new w _ _
 have B1:Below w.heap.size w w1:=by rw[nX];exact ai w _
 have b1:=hb.keep B1;have lb:=hb.lt;rw[←nX]
 have hgz:w.heap.size≠g:=by omega
 have mb:B≤w1.heap.size:=Nat.le_trans hB B1.size;have lt:=R1.lt;have c0:=U (R1.cell 0);have c4:=U (R1.cell 4);have BB:Below B w w1:=B1.mono hB;have OO:=cL.ab (b:=g) B1;generalize w.heap.size=gt at*;clear nX B1 hb
 go_region_held3 (fun w'=>w'.cell? ⟨gt,4,none⟩=some (.string s)∧w'.cell? ⟨gt,0,none⟩=some (.int .i64 6))
  ((with_reducible refine And.intro (aT lt c4 ?_) (aT lt c0 ?_))<;>((repeat(first|with_reducible exact Below.refl _ _|with_reducible refine ar aC ?_|with_reducible refine al ?_ _|with_reducible refine bL ?_));done))
  (first
   |(go_at_call 106;((with_reducible refine(xJ _).mono ?_);rintro e wa ⟨⟨bn,rfl,El⟩,aC⟩))
   |(go_at_call 151;((with_reducible refine(hC _ bn El).mono ?_);rintro e wb ⟨rfl,rfl⟩)))
 replace aC:=fU aC;replace R1:=R1.keep aC;replace c0:wb.cell? ⟨gt,0,none⟩=some (.int .i64 6):=R1.cell 0;replace c4:wb.cell? ⟨gt,4,none⟩=some (.string s):=R1.cell 4;have b2:=b1.keep aC;have gU:B≤wb.heap.size:=Nat.le_trans mb aC.size;have Fv:=BB.trans (aC.mono mb);have OO2:=OO.trans (cL.ab aC);clear b1 mb BB OO aC hC El lt
 go_wp2_with fail
 have hss:(({data:=#[115,116,97,116,101,32]}:ByteArray)++s).size=6+s.size:=by rw[ByteArray.size_append];rfl
 with_reducible refine(o7 B g l _ wb b2 (by omega) (by omega) gU).mono ?_
 rintro e w3 ⟨⟨n,rfl⟩,b3,Dz,o3⟩
 have fQ:(l++(({data:=#[115,116,97,116,101,32]}:ByteArray)++s).data.toList).length≤l.length+30:=by
  rw[List.length_append,bS,hss];omega
 have Vh:=Fv.trans Dz;have OO3:=OO2.trans o3;clear Fv OO2 Dz o3 b2 c0 c4
 go_wp2_with fail
 go_ret
 exact⟨rfl,⟨_,fQ,b3⟩,Vh,OO3⟩
def mR (q:fe) (N M:Nat) (V:Int):Prop:=∀(B g:Nat) (l:List UInt8) (lv:Int) (C:List Value) (w0 w:World) (base:Nat),ed base w0 q C→w0.heap.size≤B→Below w0.heap.size w0 w→B≤w.heap.size→iL B w g l→l.length≤M→1≤lv→lv≤V→
 Calls prog 155 #[.pointer (some ⟨g,0,none⟩),.agg C.toArray,.int .i64 lv] w (ZL B g l N w)
theorem mR.mono {q:fe} {N M M':Nat} {V V':Int} (h:mR q N M V) (hM:M'≤M) (hV:V'≤V):mR q N M' V':=
 fun B g l lv C w0 w base h1 h2 h3 h4 h5 h6 h7 h8=>h B g l lv C w0 w base h1 h2 h3 h4 h5 (by omega) h7 (by omega)
theorem oN (s:ByteArray):mR (.state s) 30 500 5:=by
 intro B g l lv C w0 w base hq hw kl hB hb hl h1 h5;obtain⟨rfl,hs⟩:=hq
 have iw:=fun W (h:iL B W g l)=>KO B g l W h
 have HC:=fun W (h:iL B W g l) (h2:B≤W.heap.size)=>Qy B g l s W hs h2 h hl
 have hlv:¬8<lv:=by omega
 have xl:¬(1000:Int)<(l.length:Int):=by omega
 have aC:=hb.keep (ai w (.cells #[.int .i64 6,.int .i64 0,.int .i64 0,.string cw,.string s,.slice none 0 0] 76));have mb:B≤(w.alloc (.cells #[.int .i64 6,.int .i64 0,.int .i64 0,.string cw,.string s,.slice none 0 0] 76)).heap.size:=Nat.le_trans hB (ai w _).size;have BB:=(ai w (.cells #[.int .i64 6,.int .i64 0,.int .i64 0,.string cw,.string s,.slice none 0 0] 76)).mono hB;have OO:=cL.ab (b:=g) (ai w (.cells #[.int .i64 6,.int .i64 0,.int .i64 0,.string cw,.string s,.slice none 0 0] 76));clear hb hs kl hw
 go_enter func155,ntmps155
 go_wp2_with fail
 with_reducible refine(iw _ aC).mono ?_
 rintro e w' ⟨rfl,rfl⟩
 go_wp2_with fail
 with_reducible refine(HC _ aC mb).mono ?_
 rintro e w2 ⟨rfl,h2,h3,h4⟩
 go_wp2_with fail
 go_ret
 exact⟨rfl,h2,BB.trans h3,OO.trans h4⟩
theorem aaO (qa:fe) (Na:Nat) (HA:mR qa Na 500 5) (hN:Na≤300) (B g:Nat) (l:List UInt8) (lv:Int) (C:List Value) (w0 w:World) (base:Nat) (hq:ed base w0 (.neg qa) C) (hw:w0.heap.size≤B) (kl:Below w0.heap.size w0 w) (hB:B≤w.heap.size) (hb:iL B w g l) (hl:l.length≤400) (h1:1≤lv) (h5:lv≤4):
  Calls prog 207 #[.pointer (some ⟨g,0,none⟩),.agg C.toArray,.int .i64 lv] w (ZL B g l (Na+20) w):=by
 obtain⟨b,c,Ca,rfl,OJ,aO,dW,ha6,xq⟩:=hq;obtain⟨AD,s0,X0,m0,y0,rfl⟩:=xq.cells;unfold mR at HA;have iw:=dW.lt
 have Ht:=fun W (h:Below B w W)=>aO.below (kl.trans (h.mono hw)) iw
 clear iw aO dW OJ;obtain⟨kq,hkq⟩:∃kq:Int,kq=3:=⟨_,rfl⟩;have HKQ:=Lib.hid hkq
 skip
 go_enter func207,ntmps207
 have aL:=trivial
 go_wp2_with (first
  |(clear aL;(with_reducible refine ao (C:=[.int .i64 3,.int .i64 0,.int .i64 0,.string cw,.string cw,.slice (some ⟨b,0,none⟩) 1 c]) ?_ ?_);rfl;intro x1 g4 aR R4 aw;have gl:=Nat.le_of_eq aR;have BB:=aw;have iZ:x1.cell? ⟨g4,0,none⟩=some (.int .i64 3):=(R4.cell 0).trans (rfl);have o_:x1.cell? ⟨g4,1,none⟩=some (.int .i64 0):=(R4.cell 1).trans (rfl);have pc:x1.cell? ⟨g4,2,none⟩=some (.int .i64 0):=(R4.cell 2).trans (rfl);have N4:x1.cell? ⟨g4,3,none⟩=some (.string ⟨#[]⟩):=(R4.cell 3).trans (rfl);have N5:x1.cell? ⟨g4,4,none⟩=some (.string ⟨#[]⟩):=(R4.cell 4).trans (rfl);have DB:x1.cell? ⟨g4,5,none⟩=some (.slice (some ⟨b,0,none⟩) 1 c):=(R4.cell 5).trans (rfl);clear aw aR;have aJ:=trivial))
 try clear aJ
 have hg4:g<g4:=by have:=hb.lt;have:=gl;omega
 have cO:=hb.keep BB;have OO:=cL.ab (b:=g) BB;have fm:=Nat.le_trans hB BB.size;replace BB:=BB.mono hB;clear hb;clear iZ o_ pc N4 N5 DB
 with_reducible refine(o7 B g l ⟨#[110,111,116,32]⟩ _ cO (by omega) (by decide) fm).mono ?_
 rintro e z1 ⟨⟨nn,rfl⟩,ax,bl,oo⟩;replace R4:=cL.row oo R4 (by omega) (by decide);replace BB:=BB.trans bl;replace OO:=OO.trans oo;replace fm:=Nat.le_trans fm bl.size;clear bl oo cO;have cO:=ax;clear ax
 have TX:(l++(⟨#[110,111,116,32]⟩:ByteArray).data.toList).length≤l.length+4:=by rw[List.length_append];exact Nat.le_refl _
 generalize l++(⟨#[110,111,116,32]⟩:ByteArray).data.toList=lq at*;have iZ:z1.cell? ⟨g4,0,none⟩=some (.int .i64 3):=R4.cell 0;have DB:z1.cell? ⟨g4,5,none⟩=some (.slice (some ⟨b,0,none⟩) 1 c):=R4.cell 5
 go_wp2_with fail
 clear iZ DB
 go_loopw [58] (fun i wr=>((i=.int .i64 0∧∃lx:List UInt8,lx.length≤lq.length+0∧iL B wr g lx)∨(i=.int .i64 1∧∃lx:List UInt8,lx.length≤lq.length+(Na+8)∧iL B wr g lx))∧Row wr g4 76 [.int .i64 3,.int .i64 0,.int .i64 0,.string cw,.string cw,.slice (some ⟨b,0,none⟩) 1 c]∧Below B w wr∧cL g w wr∧B≤wr.heap.size) (fun i _=>1 - (intOf i).toNat)
 case atStart=>exact⟨Or.inl ⟨rfl,lq,Nat.le_refl _,cO⟩,R4,BB,OO,fm⟩
 case round=>
  clear R4 BB OO fm cO;obtain⟨bQ,R4,BB,OO,fm⟩:=hrel;have HC:=Ht _ BB
  rcases bQ with ⟨rfl,lx,hlx,cO⟩|⟨rfl,lx,hlx,cO⟩
  ·skip
   have LF:Cl wr b 0 [.int .i64 AD,.int .i64 0,.int .i64 0,.string cw,.string s0,.slice X0 m0 y0]:=HC;clear HC
   skip
   have aL:=trivial
   go_wp2_with (first
    |(clear bC;(with_reducible refine av (C:=[.int .i64 AD,.int .i64 0,.int .i64 0,.string cw,.string s0,.slice X0 m0 y0]) ?_ ?_ bI R9 rfl rfl (iW _ _ _ _ _) ?_);rfl;rfl;clear R9;intro za R9 Px;have aF:=hx.trans (Px.below (Nat.le_of_eq ez));clear Px hx ez;replace R4:=R4.keep aF;replace cO:=cO.keep aF;replace BB:=BB.trans (aF.mono fm);replace OO:=OO.trans (cL.ab aF);replace fm:=Nat.le_trans fm aF.size;clear aF;have iZ:za.cell? ⟨g4,0,none⟩=some (.int .i64 3):=R4.cell 0;have w_:za.cell? ⟨g9,0,none⟩=some (.int .i64 AD):=R9.cell 0;have cz:=trivial)
    |(clear aJ;(with_reducible refine bu eK dV ?_);intro zz g9 ez R9 hx;have rG:g<g9:=(by have:=cO.lt;omega);have bC:=trivial)
    |(clear aL;(with_reducible refine cJ ?_ bI LF rfl ?_);rfl;have aJ:=trivial))
   try clear cz
   clear LF
   with_reducible refine(Aj _ _ _).mono ?_
   rintro e w' ⟨⟨t,rfl⟩,rfl⟩;clear iZ w_
   cases t with
   |true=>
    go_wp2_with fail
    with_reducible refine(o7 B g lx ⟨#[40]⟩ _ cO (by omega) (by decide) fm).mono ?_
    rintro e z2 ⟨⟨n,rfl⟩,ax,bl,oo⟩;replace R4:=cL.row oo R4 (by omega) (by decide);replace R9:=cL.row oo R9 (by omega) (by decide);replace BB:=BB.trans bl;replace OO:=OO.trans oo;replace fm:=Nat.le_trans fm bl.size;clear bl oo cO;have cO:=ax;clear ax
    have LU:(lx++(⟨#[40]⟩:ByteArray).data.toList).length≤lx.length+1:=by rw[List.length_append];exact Nat.le_refl _
    generalize lx++(⟨#[40]⟩:ByteArray).data.toList=l1 at*;have aL:=trivial
    go_wp2_with (first|(clear aL;(with_reducible refine ak ?_ bI R9 rfl ?_);rfl;have aJ:=trivial))
    try clear aJ
    with_reducible refine(HA B g l1 (lv+1) _ w0 _ base xq hw (kl.trans (BB.mono hw)) fm cO (by omega) (by omega) (by omega)).mono ?_
    rintro e z3 ⟨rfl,⟨l2,Ja,ax⟩,bl,oo⟩;replace R4:=cL.row oo R4 (by omega) (by decide);replace R9:=cL.row oo R9 (by omega) (by decide);replace BB:=BB.trans bl;replace OO:=OO.trans oo;replace fm:=Nat.le_trans fm bl.size;clear bl oo cO;have cO:=ax;clear ax
    go_wp2_with fail
    with_reducible refine(o7 B g l2 ⟨#[41]⟩ _ cO (by omega) (by decide) fm).mono ?_
    rintro e z4 ⟨⟨n,rfl⟩,ax,bl,oo⟩;replace R4:=cL.row oo R4 (by omega) (by decide);replace R9:=cL.row oo R9 (by omega) (by decide);replace BB:=BB.trans bl;replace OO:=OO.trans oo;replace fm:=Nat.le_trans fm bl.size;clear bl oo cO;have cO:=ax;clear ax
    have TW:(l2++(⟨#[41]⟩:ByteArray).data.toList).length≤l2.length+1:=by rw[List.length_append];exact Nat.le_refl _
    generalize l2++(⟨#[41]⟩:ByteArray).data.toList=l3 at*
    go_wp2_with fail
    go_roundw
    case rel=>exact⟨Or.inr (⟨rfl,l3,by omega,cO⟩),R4,BB,OO,fm⟩
    case measure=>simp[intOf]
   |false=>
    have aL:=trivial
    go_wp2_with (first|(clear aL;(with_reducible refine ak ?_ bI R9 rfl ?_);rfl;have aJ:=trivial))
    try clear aJ
    with_reducible refine(HA B g lx (lv+1) _ w0 _ base xq hw (kl.trans (BB.mono hw)) fm cO (by omega) (by omega) (by omega)).mono ?_
    rintro e z2 ⟨rfl,⟨l2,Ja,ax⟩,bl,oo⟩;replace R4:=cL.row oo R4 (by omega) (by decide);replace R9:=cL.row oo R9 (by omega) (by decide);replace BB:=BB.trans bl;replace OO:=OO.trans oo;replace fm:=Nat.le_trans fm bl.size;clear bl oo cO;have cO:=ax;clear ax
    go_wp2_with fail
    go_roundw
    case rel=>exact⟨Or.inr (⟨rfl,l2,by omega,cO⟩),R4,BB,OO,fm⟩
    case measure=>simp[intOf]
  ·skip
   clear HC
   go_wp2_with fail
   go_ret
   exact⟨rfl,⟨lx,by omega,cO⟩,BB,OO⟩
theorem aaN (qa qb:fe) (Na Nb:Nat) (HA:mR qa Na 400 4) (HB:mR qb Nb 400 4) (hN:Na+Nb≤300) (B g:Nat) (l:List UInt8) (lv:Int) (C:List Value) (w0 w:World) (base:Nat) (hq:ed base w0 (.alt qa qb) C) (hw:w0.heap.size≤B) (kl:Below w0.heap.size w0 w) (hB:B≤w.heap.size) (hb:iL B w g l) (hl:l.length≤50) (h1:1≤lv) (h5:lv≤3):
  Calls prog 207 #[.pointer (some ⟨g,0,none⟩),.agg C.toArray,.int .i64 lv] w (ZL B g l (Na+Nb+20) w):=by
 obtain⟨b,c,Ca,Cd,rfl,OJ,aO,dW,ha6,hd6,xq,iC⟩:=hq;obtain⟨AD,s0,X0,m0,y0,rfl⟩:=xq.cells;obtain⟨kR,s1,X1,m1,y1,rfl⟩:=iC.cells;unfold mR at HA HB;have iw:=dW.lt
 have Ht:=fun W (h:Below B w W)=>aO.below (kl.trans (h.mono hw)) iw
 clear iw aO dW OJ;obtain⟨kq,hkq⟩:∃kq:Int,kq=2:=⟨_,rfl⟩;have HKQ:=Lib.hid hkq
 skip
 go_enter func207,ntmps207
 have aL:=trivial
 go_wp2_with (first
  |(clear aL;(with_reducible refine ao (C:=[.int .i64 2,.int .i64 0,.int .i64 0,.string cw,.string cw,.slice (some ⟨b,0,none⟩) 2 c]) ?_ ?_);rfl;intro x1 g4 aR R4 aw;have gl:=Nat.le_of_eq aR;have BB:=aw;have iZ:x1.cell? ⟨g4,0,none⟩=some (.int .i64 2):=(R4.cell 0).trans (rfl);have o_:x1.cell? ⟨g4,1,none⟩=some (.int .i64 0):=(R4.cell 1).trans (rfl);have pc:x1.cell? ⟨g4,2,none⟩=some (.int .i64 0):=(R4.cell 2).trans (rfl);have N4:x1.cell? ⟨g4,3,none⟩=some (.string ⟨#[]⟩):=(R4.cell 3).trans (rfl);have N5:x1.cell? ⟨g4,4,none⟩=some (.string ⟨#[]⟩):=(R4.cell 4).trans (rfl);have DB:x1.cell? ⟨g4,5,none⟩=some (.slice (some ⟨b,0,none⟩) 2 c):=(R4.cell 5).trans (rfl);clear aw aR;have aJ:=trivial))
 try clear aJ
 have hg4:g<g4:=by have:=hb.lt;have:=gl;omega
 have cO:=hb.keep BB;have OO:=cL.ab (b:=g) BB;have fm:=Nat.le_trans hB BB.size;replace BB:=BB.mono hB;clear hb;have TX:l.length≤l.length+4:=Nat.le_add_right _ _;obtain⟨lq,uB⟩:∃lq,lq=l:=⟨_,rfl⟩;rw[←uB] at cO
 have TX:lq.length≤l.length+4:=by rw[uB];exact Nat.le_add_right _ _
 clear uB;clear iZ o_ pc N4 N5 DB
 go_loopw [58] (fun i wr=>((i=.int .i64 0∧∃lx:List UInt8,lx.length≤lq.length+0∧iL B wr g lx)∨(i=.int .i64 1∧∃lx:List UInt8,lx.length≤lq.length+(Na+8)∧iL B wr g lx)∨(i=.int .i64 2∧∃lx:List UInt8,lx.length≤lq.length+(Na+Nb+16)∧iL B wr g lx))∧Row wr g4 76 [.int .i64 2,.int .i64 0,.int .i64 0,.string cw,.string cw,.slice (some ⟨b,0,none⟩) 2 c]∧Below B w wr∧cL g w wr∧B≤wr.heap.size) (fun i _=>2 - (intOf i).toNat)
 case atStart=>exact⟨Or.inl ⟨rfl,lq,Nat.le_refl _,cO⟩,R4,BB,OO,fm⟩
 case round=>
  clear R4 BB OO fm cO;obtain⟨bQ,R4,BB,OO,fm⟩:=hrel;have HC:=Ht _ BB
  rcases bQ with ⟨rfl,lx,hlx,cO⟩|⟨rfl,lx,hlx,cO⟩|⟨rfl,lx,hlx,cO⟩
  ·skip
   have LF:Cl wr b 0 [.int .i64 AD,.int .i64 0,.int .i64 0,.string cw,.string s0,.slice X0 m0 y0]:=by have:=HC.app.1;simpa using this
   clear HC
   skip
   have aL:=trivial
   go_wp2_with (first
    |(clear bC;(with_reducible refine av (C:=[.int .i64 AD,.int .i64 0,.int .i64 0,.string cw,.string s0,.slice X0 m0 y0]) ?_ ?_ bI R9 rfl rfl (iW _ _ _ _ _) ?_);rfl;rfl;clear R9;intro za R9 Px;have aF:=hx.trans (Px.below (Nat.le_of_eq ez));clear Px hx ez;replace R4:=R4.keep aF;replace cO:=cO.keep aF;replace BB:=BB.trans (aF.mono fm);replace OO:=OO.trans (cL.ab aF);replace fm:=Nat.le_trans fm aF.size;clear aF;have iZ:za.cell? ⟨g4,0,none⟩=some (.int .i64 2):=R4.cell 0;have w_:za.cell? ⟨g9,0,none⟩=some (.int .i64 AD):=R9.cell 0;have cz:=trivial)
    |(clear aJ;(with_reducible refine bu eK dV ?_);intro zz g9 ez R9 hx;have rG:g<g9:=(by have:=cO.lt;omega);have bC:=trivial)
    |(clear aL;(with_reducible refine cJ ?_ bI LF rfl ?_);rfl;have aJ:=trivial))
   try clear cz
   clear LF
   with_reducible refine(Aj _ _ _).mono ?_
   rintro e w' ⟨⟨t,rfl⟩,rfl⟩;clear iZ w_
   cases t with
   |true=>
    go_wp2_with fail
    with_reducible refine(o7 B g lx ⟨#[40]⟩ _ cO (by omega) (by decide) fm).mono ?_
    rintro e z1 ⟨⟨n,rfl⟩,ax,bl,oo⟩;replace R4:=cL.row oo R4 (by omega) (by decide);replace R9:=cL.row oo R9 (by omega) (by decide);replace BB:=BB.trans bl;replace OO:=OO.trans oo;replace fm:=Nat.le_trans fm bl.size;clear bl oo cO;have cO:=ax;clear ax
    have LU:(lx++(⟨#[40]⟩:ByteArray).data.toList).length≤lx.length+1:=by rw[List.length_append];exact Nat.le_refl _
    generalize lx++(⟨#[40]⟩:ByteArray).data.toList=l1 at*;have aL:=trivial
    go_wp2_with (first|(clear aL;(with_reducible refine ak ?_ bI R9 rfl ?_);rfl;have aJ:=trivial))
    try clear aJ
    with_reducible refine(HA B g l1 (lv+1) _ w0 _ base xq hw (kl.trans (BB.mono hw)) fm cO (by omega) (by omega) (by omega)).mono ?_
    rintro e z2 ⟨rfl,⟨l2,Ja,ax⟩,bl,oo⟩;replace R4:=cL.row oo R4 (by omega) (by decide);replace R9:=cL.row oo R9 (by omega) (by decide);replace BB:=BB.trans bl;replace OO:=OO.trans oo;replace fm:=Nat.le_trans fm bl.size;clear bl oo cO;have cO:=ax;clear ax
    go_wp2_with fail
    with_reducible refine(o7 B g l2 ⟨#[41]⟩ _ cO (by omega) (by decide) fm).mono ?_
    rintro e z3 ⟨⟨n,rfl⟩,ax,bl,oo⟩;replace R4:=cL.row oo R4 (by omega) (by decide);replace R9:=cL.row oo R9 (by omega) (by decide);replace BB:=BB.trans bl;replace OO:=OO.trans oo;replace fm:=Nat.le_trans fm bl.size;clear bl oo cO;have cO:=ax;clear ax
    have TW:(l2++(⟨#[41]⟩:ByteArray).data.toList).length≤l2.length+1:=by rw[List.length_append];exact Nat.le_refl _
    generalize l2++(⟨#[41]⟩:ByteArray).data.toList=l3 at*
    go_wp2_with fail
    go_roundw
    case rel=>exact⟨Or.inr (Or.inl ⟨rfl,l3,by omega,cO⟩),R4,BB,OO,fm⟩
    case measure=>simp[intOf]
   |false=>
    have aL:=trivial
    go_wp2_with (first|(clear aL;(with_reducible refine ak ?_ bI R9 rfl ?_);rfl;have aJ:=trivial))
    try clear aJ
    with_reducible refine(HA B g lx (lv+1) _ w0 _ base xq hw (kl.trans (BB.mono hw)) fm cO (by omega) (by omega) (by omega)).mono ?_
    rintro e z1 ⟨rfl,⟨l2,Ja,ax⟩,bl,oo⟩;replace R4:=cL.row oo R4 (by omega) (by decide);replace R9:=cL.row oo R9 (by omega) (by decide);replace BB:=BB.trans bl;replace OO:=OO.trans oo;replace fm:=Nat.le_trans fm bl.size;clear bl oo cO;have cO:=ax;clear ax
    go_wp2_with fail
    go_roundw
    case rel=>exact⟨Or.inr (Or.inl ⟨rfl,l2,by omega,cO⟩),R4,BB,OO,fm⟩
    case measure=>simp[intOf]
  ·skip
   have sW:Cl wr b 6 [.int .i64 kR,.int .i64 0,.int .i64 0,.string cw,.string s1,.slice X1 m1 y1]:=by have:=HC.app.2;simpa using this
   clear HC
   skip
   have aL:=trivial
   go_wp2_with (first
    |(clear bC;(with_reducible refine av (C:=[.int .i64 kR,.int .i64 0,.int .i64 0,.string cw,.string s1,.slice X1 m1 y1]) ?_ ?_ bI R9 rfl rfl (iW _ _ _ _ _) ?_);rfl;rfl;clear R9;intro za R9 Px;have aF:=hx.trans (Px.below (Nat.le_of_eq ez));clear Px hx ez;replace R4:=R4.keep aF;replace cO:=cO.keep aF;replace BB:=BB.trans (aF.mono fm);replace OO:=OO.trans (cL.ab aF);replace fm:=Nat.le_trans fm aF.size;clear aF;have iZ:za.cell? ⟨g4,0,none⟩=some (.int .i64 2):=R4.cell 0;have w_:za.cell? ⟨g9,0,none⟩=some (.int .i64 kR):=R9.cell 0;have cz:=trivial)
    |(clear aJ;(with_reducible refine bu eK dV ?_);intro zz g9 ez R9 hx;have rG:g<g9:=(by have:=cO.lt;omega);have bC:=trivial)
    |(clear aL;(with_reducible refine cJ ?_ bI sW rfl ?_);rfl;have aJ:=trivial))
   try clear cz
   clear sW;clear iZ w_
   with_reducible refine(o7 B g lx ⟨#[32,111,114,32]⟩ _ cO (by omega) (by decide) fm).mono ?_
   rintro e z1 ⟨⟨n,rfl⟩,ax,bl,oo⟩;replace R4:=cL.row oo R4 (by omega) (by decide);replace R9:=cL.row oo R9 (by omega) (by decide);replace BB:=BB.trans bl;replace OO:=OO.trans oo;replace fm:=Nat.le_trans fm bl.size;clear bl oo cO;have cO:=ax;clear ax
   have Xp:(lx++(⟨#[32,111,114,32]⟩:ByteArray).data.toList).length≤lx.length+4:=by rw[List.length_append];exact Nat.le_refl _
   generalize lx++(⟨#[32,111,114,32]⟩:ByteArray).data.toList=ld at*;have iZ:z1.cell? ⟨g4,0,none⟩=some (.int .i64 2):=R4.cell 0;have w_:z1.cell? ⟨g9,0,none⟩=some (.int .i64 kR):=R9.cell 0
   go_wp2_with fail
   with_reducible refine(Aj _ _ _).mono ?_
   rintro e w' ⟨⟨t,rfl⟩,rfl⟩;clear iZ w_
   cases t with
   |true=>
    go_wp2_with fail
    with_reducible refine(o7 B g ld ⟨#[40]⟩ _ cO (by omega) (by decide) fm).mono ?_
    rintro e z2 ⟨⟨n,rfl⟩,ax,bl,oo⟩;replace R4:=cL.row oo R4 (by omega) (by decide);replace R9:=cL.row oo R9 (by omega) (by decide);replace BB:=BB.trans bl;replace OO:=OO.trans oo;replace fm:=Nat.le_trans fm bl.size;clear bl oo cO;have cO:=ax;clear ax
    have LU:(ld++(⟨#[40]⟩:ByteArray).data.toList).length≤ld.length+1:=by rw[List.length_append];exact Nat.le_refl _
    generalize ld++(⟨#[40]⟩:ByteArray).data.toList=l1 at*;have aL:=trivial
    go_wp2_with (first|(clear aL;(with_reducible refine ak ?_ bI R9 rfl ?_);rfl;have aJ:=trivial))
    try clear aJ
    with_reducible refine(HB B g l1 (lv+1) _ w0 _ base iC hw (kl.trans (BB.mono hw)) fm cO (by omega) (by omega) (by omega)).mono ?_
    rintro e z3 ⟨rfl,⟨l2,Ja,ax⟩,bl,oo⟩;replace R4:=cL.row oo R4 (by omega) (by decide);replace R9:=cL.row oo R9 (by omega) (by decide);replace BB:=BB.trans bl;replace OO:=OO.trans oo;replace fm:=Nat.le_trans fm bl.size;clear bl oo cO;have cO:=ax;clear ax
    go_wp2_with fail
    with_reducible refine(o7 B g l2 ⟨#[41]⟩ _ cO (by omega) (by decide) fm).mono ?_
    rintro e z4 ⟨⟨n,rfl⟩,ax,bl,oo⟩;replace R4:=cL.row oo R4 (by omega) (by decide);replace R9:=cL.row oo R9 (by omega) (by decide);replace BB:=BB.trans bl;replace OO:=OO.trans oo;replace fm:=Nat.le_trans fm bl.size;clear bl oo cO;have cO:=ax;clear ax
    have TW:(l2++(⟨#[41]⟩:ByteArray).data.toList).length≤l2.length+1:=by rw[List.length_append];exact Nat.le_refl _
    generalize l2++(⟨#[41]⟩:ByteArray).data.toList=l3 at*
    go_wp2_with fail
    go_roundw
    case rel=>exact⟨Or.inr (Or.inr (⟨rfl,l3,by omega,cO⟩)),R4,BB,OO,fm⟩
    case measure=>simp[intOf]
   |false=>
    have aL:=trivial
    go_wp2_with (first|(clear aL;(with_reducible refine ak ?_ bI R9 rfl ?_);rfl;have aJ:=trivial))
    try clear aJ
    with_reducible refine(HB B g ld (lv+1) _ w0 _ base iC hw (kl.trans (BB.mono hw)) fm cO (by omega) (by omega) (by omega)).mono ?_
    rintro e z2 ⟨rfl,⟨l2,Ja,ax⟩,bl,oo⟩;replace R4:=cL.row oo R4 (by omega) (by decide);replace R9:=cL.row oo R9 (by omega) (by decide);replace BB:=BB.trans bl;replace OO:=OO.trans oo;replace fm:=Nat.le_trans fm bl.size;clear bl oo cO;have cO:=ax;clear ax
    go_wp2_with fail
    go_roundw
    case rel=>exact⟨Or.inr (Or.inr (⟨rfl,l2,by omega,cO⟩)),R4,BB,OO,fm⟩
    case measure=>simp[intOf]
  ·skip
   clear HC
   go_wp2_with fail
   go_ret
   exact⟨rfl,⟨lx,by omega,cO⟩,BB,OO⟩
theorem Ra {P:Prop} (h:P:=by
 have aC:=hb.keep aS;have mb:=Nat.le_trans hB aS.size;have BB:=aS.mono hB;have OO:=cL.ab (b:=g) aS;have h01:=kl.trans (BB.mono hw);clear hb hq kl hw aS
 go_enter func155,ntmps155
 go_wp2_with fail
 with_reducible refine(iw _ aC).mono ?_
 rintro e w' ⟨rfl,rfl⟩
 go_wp2_with fail
 with_reducible refine(HK _ aC mb h01).mono ?_
 rintro e w2 ⟨rfl,h2,h3,h4⟩
 go_wp2_with fail
 go_ret
 exact⟨rfl,h2,BB.trans h3,OO.trans h4⟩):P:=h
theorem QA (qa:fe) (Na:Nat) (HA:mR qa Na 500 5) (hN:Na≤300):mR (.neg qa) (Na+20) 400 4:=by
 intro B g l lv C w0 w base hq hw kl hB hb hl h1 h5
 have HK:=fun W (h:iL B W g l) (h2:B≤W.heap.size) (h3:Below w0.heap.size w0 W)=>aaO qa Na HA hN B g l lv C w0 W base hq hw h3 h2 h hl h1 h5
 obtain⟨X,m,y,rfl⟩:∃(X:Option Addr) (m y:Nat),C=[.int .i64 3,.int .i64 0,.int .i64 0,.string cw,.string cw,.slice X m y]:=by
  obtain⟨b,c,Ca,rfl,_⟩:=hq;exact⟨_,_,_,rfl⟩
 have iw:=fun W (h:iL B W g l)=>KO B g l W h
 have hlv:¬8<lv:=by omega
 have xl:¬(1000:Int)<(l.length:Int):=by omega
 have aS:=ai w (.cells #[.int .i64 3,.int .i64 0,.int .i64 0,.string cw,.string cw,.slice X m y] 76);exact Ra
theorem Qz (qa qb:fe) (Na Nb:Nat) (HA:mR qa Na 400 4) (HB:mR qb Nb 400 4) (hN:Na+Nb≤300):mR (.alt qa qb) (Na+Nb+20) 50 3:=by
 intro B g l lv C w0 w base hq hw kl hB hb hl h1 h5
 have HK:=fun W (h:iL B W g l) (h2:B≤W.heap.size) (h3:Below w0.heap.size w0 W)=>aaN qa qb Na Nb HA HB hN B g l lv C w0 W base hq hw h3 h2 h hl h1 h5
 obtain⟨X,m,y,rfl⟩:∃(X:Option Addr) (m y:Nat),C=[.int .i64 2,.int .i64 0,.int .i64 0,.string cw,.string cw,.slice X m y]:=by
  obtain⟨b,c,Ca,Cd,rfl,_⟩:=hq;exact⟨_,_,_,rfl⟩
 have iw:=fun W (h:iL B W g l)=>KO B g l W h
 have hlv:¬8<lv:=by omega
 have xl:¬(1000:Int)<(l.length:Int):=by omega
 have aS:=ai w (.cells #[.int .i64 2,.int .i64 0,.int .i64 0,.string cw,.string cw,.slice X m y] 76);exact Ra
theorem N_ (q:fe) (N:Nat) (HQ:mR q N 0 1) (hN:N≤900) (C:List Value) (w:World) (base:Nat) (hq:ed base w q C):
  Calls prog 101 #[.agg C.toArray] w fun e w'=>(∃s:ByteArray,e=.returned (.tuple #[.string s,.bool true]))∧Below w.heap.size w w':=by
 unfold mR at HQ;obtain⟨kd,s,X,m,y,rfl⟩:=hq.cells;have Kh:=Lib.hid hq;clear hq
 go_enter func101,ntmps101
 have aL:=trivial
 go_wp2_with (first
  |(clear aJ;(with_reducible refine ak ?_ bI (R1.keep (ai _ _)) rfl ?_);rfl;have bC:=trivial)
  |(clear aL;(with_reducible refine ao (C:=[.int .i64 kd,.int .i64 0,.int .i64 0,.string cw,.string s,.slice X m y]) ?_ ?_);rfl;intro x1 g1 aR R1 aw;have eV:=Nat.le_of_eq aR;have BB:=aw;clear aw aR;have aJ:=trivial))
 try clear bC
 have hl:=ai x1 (.cells #[.pointer none,.slice none 0 0] 85);have hf:=iL.fresh x1;have h0:=az BB hl
 with_reducible refine(HQ x1.heap.size x1.heap.size [] 1 _ w _ base Kh.out BB.size h0 hl.size hf (Nat.le_refl _) (by omega) (by omega)).mono ?_
 rintro e w2 ⟨rfl,⟨l',hl',ax⟩,bl,oo⟩;have gU:=Nat.le_trans hl.size bl.size;have h2:=h0.trans (bl.mono BB.size);have hz:=BB.size
 have xl:¬(1000:Int)<(l'.length:Int):=by simp at hl';omega
 generalize x1.heap.size=B at*;clear R1 hl hf BB h0 oo Kh HQ
 go_wp2_with fail
 with_reducible refine(KO B B l' w2 ax).mono ?_
 rintro e w' ⟨rfl,rfl⟩
 go_wp2_with fail
 with_reducible refine(yb B B l' _ ax gU).mono ?_
 rintro e w3 ⟨rfl,_,Dz,_⟩
 go_wp2_with fail
 go_ret2
 exact⟨⟨_,rfl⟩,h2.trans (Dz.mono hz)⟩
theorem M3 (q:fe) (N:Nat) (HQ:mR q N 0 1) (hN:N≤900) (C:List Value) (w:World) (base:Nat) (hq:ed base w q C):
  Calls prog 48 #[.agg C.toArray] w fun e w'=>e=.returned (.bool true)∧Below w.heap.size w w':=by
 have HC:=fun W (hb:Below w.heap.size w W)=>N_ q N HQ hN C W base (hq.below hb)
 obtain⟨kd,s,X,m,y,rfl⟩:=hq.cells;clear hq HQ
 go_enter func48,ntmps48
 have aL:=trivial
 go_wp2_with (first
  |(clear aJ;(with_reducible refine ak ?_ bI R1 rfl ?_);rfl;have bC:=trivial)
  |(clear aL;(with_reducible refine ao (C:=[.int .i64 kd,.int .i64 0,.int .i64 0,.string cw,.string s,.slice X m y]) ?_ ?_);rfl;intro x1 g1 aR R1 aw;have eV:=Nat.le_of_eq aR;have BB:=aw;clear aw aR;have aJ:=trivial))
 try clear bC
 refine(HC _ BB).mono ?_;rintro r x2 ⟨⟨tx,rfl⟩,aF⟩;replace R1:=R1.keep aF;replace BB:=az BB aF;clear aF
 go_wp2_with fail
 go_ret
 exact⟨rfl,BB⟩
theorem uP (s:ByteArray) (q:fe) (N kz:Nat) (pz:Int) (ch:List gF) (w:World) (hs:s.size≤1000) (hp:∀(k:Nat) (hk:k<s.size),mG s[k]=true) (ht:lz s=ch) (rH:0<ch.length) (ix:ch.length≤1000)
  (HOR:∀W g,eB W g ch 0→Calls prog 45 #[.pointer (some ⟨g,0,none⟩)] W (QP W g ch kz q)) (hz:ch[kz]? =some ⟨0,pz,cw⟩) (HQ:mR q N 0 1) (hN:N≤900):
  Calls prog 18 #[.string s] w fun e w'=>∃C,e=.returned (.tuple #[.agg C.toArray,.int .i64 0,.int .i64 0])∧ed w.heap.size w' q C∧Below w.heap.size w w':=by
 have rY:=fun W=>Qm s W hs hp
 rw[ht] at rY;have HZ:=Lib.hid hz
 have Xu:¬(1000:Int)<(s.size:Int):=by omega
 clear ht hz hp
 go_enter func18,ntmps18
 have aL:=trivial
 go_wp2_with (first
  |(clear aL;(with_reducible refine bu eK dV ?_);intro x1 g2 aR R2 aw;have fP:=Nat.le_of_eq aR;have BB:=aw;clear aw aR;have aJ:=trivial))
 try clear aJ
 refine(rY _).mono ?_;rintro r x2 ⟨v,rfl,OT,aF⟩;replace R2:=R2.keep aF;replace BB:=az BB aF;clear aF;obtain⟨bt,cap,rfl,_,_,_,dW,aO,_⟩:=cj OT rH;clear OT rY;have aJ:=trivial
 go_wp2_with (first
  |(clear aJ;(with_reducible refine ao (C:=(prC (some ⟨bt,0,none⟩) ch.length cap 0)) ?_ ?_);rfl;intro x3 g5 ew R5 bh;have aaz:=h_ R2 ew;have EO:=jq BB ew;replace R2:=R2.keep bh;have oz:=aO.below bh dW.lt;have abF:=dW.keep bh;replace BB:=az BB bh;clear bh ew;have bC:=trivial))
 try clear bC
 have PR:eB x3 g5 ch 0:=⟨ix,bt,cap,R5,oz,abF⟩;clear aO oz dW abF;have Ux:=R2.lt;have ob:=BB.size;have jK:=R5.ty
 with_reducible refine(HOR _ _ PR).mono ?_
 clear PR R5;rintro r x4 ⟨C,rfl,hq,PR,hk⟩;obtain⟨kd,sq,X,m,y,rfl⟩:=hq.cells;have gn:Below w.heap.size w x4:=BB.trans (Kp.below hk ob (fun k hk=>by rw[List.mem_singleton] at hk;omega));replace R2:=R2.kp hk (by(simp only[List.mem_singleton];omega));clear BB hk jK;have BB:=gn;clear gn;have LY:=hq;clear hq;have bC:=trivial
 go_wp2_with (first
  |(clear cz;(with_reducible refine av (C:=[.int .i64 kd,.int .i64 0,.int .i64 0,.string cw,.string sq,.slice X m y]) ?_ ?_ bI R6 rfl rfl (iW _ _ _ _ _) ?_);rfl;rfl;clear R6;intro x6 R6 Px;have hb:=hx.trans (Px.below (Nat.le_of_eq e6));have n26:g2≠g6:=(by have:=R2.lt;omega);have ob6:w.heap.size≤g6:=(by have:=BB.size;omega);clear Px hx e6;replace R2:=R2.keep hb;replace PR:=PR.keep hb;replace LY:=LY.below hb;replace BB:=az BB hb;clear hb;have cY:=trivial)
  |(clear bC;(with_reducible refine bu eK dV ?_);intro x5 g6 e6 R6 hx;have cz:=trivial))
 try clear cY
 refine(pI _ g5 kz ch _ PR HZ.out).mono ?_;rintro r x7 ⟨rfl,mP⟩;replace R2:=R2.keep mP;replace R6:=R6.keep mP;replace LY:=LY.below mP;replace PR:=PR.aa (t:=76) (ah.ab mP);replace BB:=az BB mP;clear mP;unfold oE;have aL:=trivial
 go_wp2_with (first
  |rw[zA,Result.andThen_ok]
  |(clear aL;(with_reducible refine ak ?_ bI R6 rfl ?_);rfl;have aJ:=trivial))
 try clear aJ
 refine(M3 q N HQ hN _ _ _ LY).mono ?_;rintro r x8 ⟨rfl,CJ⟩;replace R2:=R2.keep CJ;replace R6:=R6.keep CJ;replace LY:=LY.below CJ;replace PR:=PR.aa (t:=76) (ah.ab CJ);replace BB:=az BB CJ;clear CJ;have aL:=trivial
 go_wp2_with (first
  |(clear aJ;(with_reducible refine av (C:=[.int .i64 kd,.int .i64 0,.int .i64 0,.string cw,.string sq,.slice X m y]) ?_ ?_ bI R2 rfl rfl (iW _ _ _ _ _) ?_);rfl;rfl;intro wz RZ Pz;have bC:=trivial)
  |(clear aL;(with_reducible refine ak ?_ bI R6 rfl ?_);rfl;have aJ:=trivial))
 refine bodyPost_ret (sH rfl _ rfl bI RZ rfl) rfl ?_;exact⟨_,rfl,(LY.put Pz Ux).lower ob,BB.trans (Pz.below fP)⟩
def E9:ByteArray:=⟨#[115,116,97,116,101,32,97,99,116,105,118,101]⟩
def Zh:List gF:=[⟨6,0,jC⟩,⟨6,6,ef⟩,⟨0,12,cw⟩]
theorem aej:lz E9=Zh:=by kernel_rfl
theorem plA:∀(k:Nat) (hk:k<E9.size),mG E9[k]=true:=by
 have h:∀k:Fin 12,mG (E9.data.toList.getD k.val 0)=true:=by decide
 intro k hk;have h2:=h ⟨k,hk⟩
 have e:E9.data.toList.getD k 0=E9[k]:=by rw[List.getD,List.getElem?_eq_getElem (by simpa using hk)];rfl
 rwa [e] at h2
def CR:ByteArray:=⟨#[115,116,97,116,101,32,100,114,97,102,116]⟩
def Zj:List gF:=[⟨6,0,jC⟩,⟨6,6,dK⟩,⟨0,11,cw⟩]
theorem aek:lz CR=Zj:=by kernel_rfl
theorem plD:∀(k:Nat) (hk:k<CR.size),mG CR[k]=true:=by
 have h:∀k:Fin 11,mG (CR.data.toList.getD k.val 0)=true:=by decide
 intro k hk;have h2:=h ⟨k,hk⟩
 have e:CR.data.toList.getD k 0=CR[k]:=by rw[List.getD,List.getElem?_eq_getElem (by simpa using hk)];rfl
 rwa [e] at h2
def E_:ByteArray:=⟨#[115,116,97,116,101,32,100,114,97,102,116,32,111,114,32,110,111,116,32,115,116,97,116,101,32,100,114,97,102,116]⟩
def Qt:List gF:=[⟨6,0,jC⟩,⟨6,6,dK⟩,⟨6,12,⟨#[111,114]⟩⟩,⟨6,15,⟨#[110,111,116]⟩⟩,⟨6,19,jC⟩,⟨6,25,dK⟩,⟨0,30,cw⟩]
theorem ael:lz E_=Qt:=by kernel_rfl
theorem plX:∀(k:Nat) (hk:k<E_.size),mG E_[k]=true:=by
 have h:∀k:Fin 30,mG (E_.data.toList.getD k.val 0)=true:=by decide
 intro k hk;have h2:=h ⟨k,hk⟩
 have e:E_.data.toList.getD k 0=E_[k]:=by rw[List.getD,List.getElem?_eq_getElem (by simpa using hk)];rfl
 rwa [e] at h2
theorem rm (p:Int) (wd:ByteArray):jG ⟨0,p,cw⟩ wd=false:=by unfold jG;simp
theorem NV (p:Int):jG ⟨6,p,⟨#[111,114]⟩⟩ ⟨#[97,110,100]⟩=false:=by unfold jG;simp
theorem ZP (p:Int):jG ⟨6,p,⟨#[111,114]⟩⟩ ⟨#[111,114]⟩=true:=by unfold jG;simp
theorem aaG (w:World):Calls prog 18 #[.string E9] w fun e w'=>∃C,e=.returned (.tuple #[.agg C.toArray,.int .i64 0,.int .i64 0])∧ed w.heap.size w' (.state ef) C∧Below w.heap.size w w':=
 uP E9 (.state ef) 30 2 _ Zh w (by decide) plA aej (by decide) (by decide)
  (fun W g h=>MR W g 0 2 Zh _ _ h (fun W h=>vB W g 0 2 Zh _ _ h (fun W h=>u_ W g 0 Zh 0 6 ef h rfl rfl (Or.inr rfl)) rfl (rm _ _)) rfl (rm _ _)) rfl ((oN _).mono (by decide) (by decide)) (by decide)
theorem Sw (w:World):Calls prog 18 #[.string CR] w fun e w'=>∃C,e=.returned (.tuple #[.agg C.toArray,.int .i64 0,.int .i64 0])∧ed w.heap.size w' (.state dK) C∧Below w.heap.size w w':=
 uP CR (.state dK) 30 2 _ Zj w (by decide) plD aek (by decide) (by decide)
  (fun W g h=>MR W g 0 2 Zj _ _ h (fun W h=>vB W g 0 2 Zj _ _ h (fun W h=>u_ W g 0 Zj 0 6 dK h rfl rfl (Or.inl rfl)) rfl (rm _ _)) rfl (rm _ _)) rfl ((oN _).mono (by decide) (by decide)) (by decide)
def qX:fe:=.alt (.state dK) (.neg (.state dK))
theorem nG (w:World):Calls prog 18 #[.string E_] w fun e w'=>∃C,e=.returned (.tuple #[.agg C.toArray,.int .i64 0,.int .i64 0])∧ed w.heap.size w' qX C∧Below w.heap.size w w':=
 uP E_ qX 100 6 _ Qt w (by decide) plX ael (by decide) (by decide)
  (fun W g h=>YU W g 0 2 Qt _ _ _ 6 _ h (fun W h=>vB W g 0 2 Qt _ _ h (fun W h=>u_ W g 0 Qt 0 6 dK h rfl rfl (Or.inl rfl)) rfl (NV _)) rfl (ZP _)
   (fun W h=>vB W g 3 6 Qt _ _ h (fun W h=>Nu W g 3 Qt 15 19 25 dK h rfl rfl rfl (Or.inl rfl)) rfl (rm _ _)) rfl (rm _ _)) rfl
  (Qz _ _ 30 50 ((oN _).mono (by decide) (by decide)) (QA _ 30 (oN _) (by decide)) (by decide)|>.mono (by decide) (by decide)) (by decide)
def xW (q:fe):Prop:=∀(Cb D QC:List Value) (e:aB) (w:World) (base:Nat),Cb.length=7→dn 0 w D e→0<e.aD.length→e.aD.length≤1100000→ed base w q QC→
 Calls prog 49 #[.agg Cb.toArray,.agg D.toArray,.agg QC.toArray] w fun r w'=>r=.returned (.bool (eN e.state q))∧Below w.heap.size w w'
theorem aac {s:ByteArray} (hs:s=dK∨s=ef):∃k:Nat,k<7∧(∀(W:World) (b:Nat),Row W b 9 (gO.map Value.string)→Calls prog 105 #[.slice (some ⟨b,0,none⟩) 7 7,.string s] W fun e w'=>e=.returned (.int .i64 (k:Int))∧w'=W)∧∀st:Int,eN st (.state s)=decide (st=1+(k:Int)):=by
 have key:∀k:Nat,Lib.idxOfS (gO.take 7) s=(k:Int)→∀(W:World) (b:Nat),Row W b 9 (gO.map Value.string)→Calls prog 105 #[.slice (some ⟨b,0,none⟩) 7 7,.string s] W fun e w'=>e=.returned (.int .i64 (k:Int))∧w'=W:=fun k hk W b hR=>by
  refine(slices_Index_string b 0 7 7 gO s W (by decide) (by decide) (fun j hj=>?_)).mono ?_
  ·rw[Nat.zero_add,hR.cell,List.getElem?_map,List.getElem?_eq_getElem hj]
   simp[List.getD,List.getElem?_eq_getElem hj]
  ·rintro e w' ⟨rfl,rfl⟩;rw[hk];exact⟨rfl,rfl⟩
 rcases hs with rfl|rfl
 ·exact⟨0,by omega,key 0 (by rfl),fun st=>by simp[eN]⟩
 ·refine⟨4,by omega,key 4 (by rfl),fun st=>?_⟩
  have:¬ef=dK:=by decide
  simp[eN,this]
theorem oK (s:ByteArray):xW (.state s):=by
 intro Cb D QC e w base Am hO h0 hn hq;obtain⟨rfl,hs⟩:=hq;obtain⟨k,Xn,hIX,hM⟩:=aac hs;rw[hM];obtain⟨n,CF⟩:∃n,e.aD.length=n+1:=⟨e.aD.length - 1,by omega⟩;obtain⟨vv,va,vf,vl,vm,rfl,hv,_⟩:=hO;have hx:e.aD[n]? =some (e.aD[n]'(by omega)):=List.getElem?_eq_getElem _;obtain⟨gv,cap,CI,rfl,_,_,_,dW,lV,aO,hR⟩:=hv.get hx;have ac6:=hR.s_.one;clear hR hv hx hs hM;obtain⟨st,bQ⟩:∃st,st=e.state:=⟨_,rfl⟩;unfold ig;rw[CF,←bQ];clear bQ h0;obtain⟨tb,mO⟩:∃tb,tb=decide (st=1+(k:Int)):=⟨_,rfl⟩;rw[←mO];have NR:=Lib.hid mO;clear mO
 have yN:n+1≤1100000:=by omega
 clear hn CF
 go_enter func49,ntmps49
 have aL:=trivial
 go_wp2_with (first
  |(clear dX;(with_reducible refine av (C:=CI) ?_ ?_ aU Ku lV Ya ac6 ?_);rfl;rfl;clear Ku;intro xz Ku Pz;replace R3:=Pz.row R3 (by omega);replace R4:=Pz.row R4 (by omega);replace R5:=Pz.row R5 (by omega);replace BB:=BB.trans (Pz.below YR);clear Pz iZ o_ mn z';have iZ:=U (R4.cell 0);have o_:=U (R4.cell 1);have mn:=U (R5.cell 0);have z':=U (R5.cell 4);have fu:=trivial)
  |(clear cY;(with_reducible refine cR fY ?_);intro x4 g11 Zi pP Ya Ku ek;have ad7:g3≠g11:=(by have:=R3.lt;omega);have ad8:g4≠g11:=(by have:=R4.lt;omega);have ad9:g5≠g11:=(by have:=R5.lt;omega);have YR:w.heap.size≤g11:=(by have:=BB.size;omega);replace R3:=R3.keep ek;replace R4:=R4.keep ek;replace R5:=R5.keep ek;replace BB:=az BB ek;clear iZ o_ mn z';have iZ:=U (R4.cell 0);have o_:=U (R4.cell 1);have mn:=U (R5.cell 0);have z':=U (R5.cell 4);clear ek pP;have dX:=trivial)
  |(clear cz;(with_reducible refine cJ ?_ aU W4 lV ?_);rfl;have cY:=trivial)
  |(clear bC;(with_reducible refine ao (C:=[.int .i64 6,.int .i64 0,.int .i64 0,.string cw,.string s,.slice none 0 0]) ?_ ?_);rfl;intro x3 g5 ew R5 bh;have zo:=h_ R3 ew;have zr:=h_ R4 ew;have EO:=jq BB ew;replace R3:=R3.keep bh;replace R4:=R4.keep bh;replace BB:=az BB bh;clear iZ o_;have iZ:=U (R4.cell 0);have o_:=U (R4.cell 1);have mn:=U (R5.cell 0);have z':=U (R5.cell 4);clear bh ew;have W4:=aO.below BB dW.lt;have cz:=trivial)
  |(clear aJ;(with_reducible refine ao (C:=[.slice (some ⟨gv,0,none⟩) (n+1) cap,.int .i64 st,.int .i64 e.bF,va,vf,vl,vm]) ?_ ?_);rfl;intro x2 g4 cW R4 aF;have nF:=h_ R3 cW;have gl:=jq BB cW;replace R3:=R3.keep aF;replace BB:=az BB aF;have iZ:=U (R4.cell 0);have o_:=U (R4.cell 1);clear aF cW;have bC:=trivial)
  |(clear aL;(with_reducible refine ao (C:=Cb) ?_ ?_);rfl;intro x1 g3 aR R3 aw;have jJ:=Nat.le_of_eq aR;have BB:=aw;clear aw aR;have aJ:=trivial))
 try clear fu
 have ltq:=R5.lt
 go_region_held3 (fun w'=>w'.cell? ⟨g5,4,none⟩=some (.string s))
  ((with_reducible refine aT ltq z' ?_)<;>((repeat(first|with_reducible exact Below.refl _ _|with_reducible refine ar aC ?_|with_reducible refine al ?_ _|with_reducible refine bL ?_));done))
  (first
   |(go_at_call 106;((with_reducible refine(xJ _).mono ?_);rintro e wa ⟨⟨bn,rfl,El⟩,aC⟩))
   |(go_at_call 105;((with_reducible refine(hIX _ bn El).mono ?_);rintro e wb ⟨rfl,rfl⟩)))
 replace aC:=fU aC;replace R4:=R4.keep aC;have d1:=U (R4.cell 1);replace BB:=az BB aC;clear El aC iZ o_ mn z'
 by_cases bQ:st=1+(k:Int)
 ·have adJ:(st==1+(k:Int))=true:=beq_iff_eq.2 bQ
  have HE:Hid (tb=true):=by unfold Hid;rw[NR.out,decide_eq_true bQ]
  clear bQ
  go_wp2_with fail
  go_ret
  exact⟨by rw[HE.out];rfl,BB⟩
 ·have adJ:(st==1+(k:Int))=false:=beq_eq_false_iff_ne.2 bQ
  have HE:Hid (tb=false):=by unfold Hid;rw[NR.out,decide_eq_false bQ]
  clear bQ
  go_wp2_with fail
  go_ret
  exact⟨by rw[HE.out];rfl,BB⟩
theorem PD (qa:fe) (HA:xW qa):xW (.neg qa):=by
 intro Cb D QC e w base Am hO h0 hn hq;unfold xW at HA;obtain⟨b,c,Ca,rfl,OJ,aO,dW,ha6,xq⟩:=hq;obtain⟨AD,s0,X0,m0,y0,rfl⟩:=xq.cells
 have HM:=fun W (hb:Below w.heap.size w W)=>HA Cb D _ e W base Am (hO.aa (t:=31) (ah.ab hb)) h0 hn (xq.below hb)
 have Ct:=hO.len;obtain⟨tb,mO⟩:∃tb,tb=eN e.state qa:=⟨_,rfl⟩
 have wH:eN e.state (.neg qa)=!tb:=by rw[mO];rfl
 rw[wH];rw[←mO] at HM;clear wH mO hO xq HA h0 hn OJ
 go_enter func49,ntmps49
 have aL:=trivial
 go_wp2_with (first
  |(clear bC;(with_reducible refine ao (C:=[.int .i64 3,.int .i64 0,.int .i64 0,.string cw,.string cw,.slice (some ⟨b,0,none⟩) 1 c]) ?_ ?_);rfl;intro x3 g5 ew R5 bh;have zo:=h_ R3 ew;have zr:=h_ R4 ew;have EO:=jq BB ew;replace R3:=R3.keep bh;replace R4:=R4.keep bh;replace BB:=az BB bh;have mn:=U (R5.cell 0);have N6:=U (R5.cell 5);clear bh ew;have cz:=trivial)
  |(clear aJ;(with_reducible refine ao (C:=D) ?_ ?_);rfl;intro x2 g4 cW R4 aF;have nF:=h_ R3 cW;have gl:=jq BB cW;replace R3:=R3.keep aF;replace BB:=az BB aF;clear aF cW;have bC:=trivial)
  |(clear aL;(with_reducible refine ao (C:=Cb) ?_ ?_);rfl;intro x1 g3 aR R3 aw;have jJ:=Nat.le_of_eq aR;have BB:=aw;clear aw aR;have aJ:=trivial))
 try clear cz
 have W4:=aO.below BB dW.lt;have afe:=dW.keep BB;clear aO dW mn N6
 have bQ:∀p∈([
   (fun v _=>v=.pointer (some ⟨g5,5,none⟩)),
  (fun v _=>v=.slice (some ⟨b,0,none⟩) 1 c),
  (fun v _=>v=.int .i64 1),
  (fun v _=>v=.bool true),
  (fun v _=>v=.bool true),
  (fun v _=>v=.agg Cb.toArray),
  (fun v _=>v=.agg D.toArray),
  (fun v _=>v=.pointer (some ⟨g5,5,none⟩)),
  (fun v _=>v=.slice (some ⟨b,0,none⟩) 1 c),
  (fun v _=>v=.pointer (some ⟨b,0,none⟩)),
  (fun v _=>v=.agg [.int .i64 AD,.int .i64 0,.int .i64 0,.string cw,.string s0,.slice X0 m0 y0].toArray),
  (fun v _=>v=.bool tb),
  (fun v _=>v=.bool (!tb)),
  (fun v _=>v=.bool (!tb))]:List (Value→World→Prop)),∀v w w',p v w→Below w.heap.size w w'→p v w':=by
  refine List.forall_mem_cons.2 ⟨fun _ _ _ h _=>h,List.forall_mem_cons.2 ⟨fun _ _ _ h _=>h,List.forall_mem_cons.2 ⟨fun _ _ _ h _=>h,List.forall_mem_cons.2 ⟨fun _ _ _ h _=>h,List.forall_mem_cons.2 ⟨fun _ _ _ h _=>h,List.forall_mem_cons.2 ⟨fun _ _ _ h _=>h,List.forall_mem_cons.2 ⟨fun _ _ _ h _=>h,List.forall_mem_cons.2 ⟨fun _ _ _ h _=>h,List.forall_mem_cons.2 ⟨fun _ _ _ h _=>h,List.forall_mem_cons.2 ⟨fun _ _ _ h _=>h,List.forall_mem_cons.2 ⟨fun _ _ _ h _=>h,List.forall_mem_cons.2 ⟨fun _ _ _ h _=>h,List.forall_mem_cons.2 ⟨fun _ _ _ h _=>h,List.forall_mem_cons.2 ⟨fun _ _ _ h _=>h,(fun _ h=>by cases h)⟩⟩⟩⟩⟩⟩⟩⟩⟩⟩⟩⟩⟩⟩
 refine cT (by kernel_rfl) 14 (fun _=>none) (fun wx=>Row wx g3 31 Cb∧Row wx g4 44 D∧Row wx g5 76 [.int .i64 3,.int .i64 0,.int .i64 0,.string cw,.string cw,.slice (some ⟨b,0,none⟩) 1 c]∧Cl wx b 0 [.int .i64 AD,.int .i64 0,.int .i64 0,.string cw,.string s0,.slice X0 m0 y0]∧Below x3.heap.size x3 wx) (fun _ w w'=>Below w.heap.size w w') _ (fun j v w w' i _ h hR=>fC bQ (fun _ _ _ _ _=>trivial) i v w w' h hR) (by kernel_rfl) (by kernel_rfl) (fun _ _ h=>by cases h) ⟨R3.drew,R4.drew,R5.drew,fun j u hu=>W4 j u hu,(Below.refl _ _).drew⟩ ?_ ?_
 ·clear bQ;refine⟨fun _ a wx hG hr hb K hK=>?_,?_⟩
  ·have e1:=aq (hb 5);rw[if_pos (by rfl)];unfold Oper.wp execOp
   go_simp
   exact hK _ _ rfl hG (Below.refl _ _)
  refine⟨fun _ a wx hG hr hb K hK=>?_,?_⟩
  ·have e1:=aq (hr 0 49);have c0:wx.cell? ⟨g5,5,none⟩=some (.slice (some ⟨b,0,none⟩) 1 c):=(hG.2.2.1.cell 5).trans (rfl);rw[if_pos (by rfl)];unfold Oper.wp execOp
   go_simp
   exact hK _ _ rfl hG (Below.refl _ _)
  refine⟨fun _ a wx hG hr hb K hK=>?_,?_⟩
  ·have e1:=aq (hr 1 50);rw[if_pos (by rfl)];unfold Oper.wp execOp
   go_simp
   exact hK _ _ rfl hG (Below.refl _ _)
  refine⟨fun _ a wx hG hr hb K hK=>?_,?_⟩
  ·have e1:=aq (hr 2 51);rw[if_pos (by rfl)];unfold Oper.wp execOp
   go_simp
   exact hK _ _ rfl hG (Below.refl _ _)
  refine⟨fun _ a wx hG hr hb K hK=>?_,?_⟩
  ·have e1:=aq (hr 3 52);rw[if_pos (by rfl)];unfold Oper.wp execOp
   go_simp
   exact hK _ _ rfl hG (Below.refl _ _)
  refine⟨fun _ a wx hG hr hb K hK=>?_,?_⟩
  ·have e8:=aq (hr 4 53);have e9:=fZ e8;rw[if_pos (by simp[Region.wanted,yielded,e9])];clear e8 e9;have e:=aM (hb 3);unfold Oper.wp execOp;exact kh e aN hG.1 Am (hK _ _ rfl hG (Below.refl _ _))
  refine⟨fun _ a wx hG hr hb K hK=>?_,?_⟩
  ·have e8:=aq (hr 4 53);have e9:=fZ e8;rw[if_pos (by simp[Region.wanted,yielded,e9])];clear e8 e9;have e:=aM (hb 4);unfold Oper.wp execOp;exact kh e cN hG.2.1 Ct (hK _ _ rfl hG (Below.refl _ _))
  refine⟨fun _ a wx hG hr hb K hK=>?_,?_⟩
  ·have e8:=aq (hr 4 53);have e9:=fZ e8;rw[if_pos (by simp[Region.wanted,yielded,e9])];clear e8 e9;have e1:=aq (hb 5);unfold Oper.wp execOp
   go_simp
   exact hK _ _ rfl hG (Below.refl _ _)
  refine⟨fun _ a wx hG hr hb K hK=>?_,?_⟩
  ·have e8:=aq (hr 4 53);have e9:=fZ e8;rw[if_pos (by simp[Region.wanted,yielded,e9])];clear e8 e9;have e1:=aq (hr 7 56);have c0:wx.cell? ⟨g5,5,none⟩=some (.slice (some ⟨b,0,none⟩) 1 c):=(hG.2.2.1.cell 5).trans (rfl);unfold Oper.wp execOp
   go_simp
   exact hK _ _ rfl hG (Below.refl _ _)
  refine⟨fun _ a wx hG hr hb K hK=>?_,?_⟩
  ·have e8:=aq (hr 4 53);have e9:=fZ e8;rw[if_pos (by simp[Region.wanted,yielded,e9])];clear e8 e9;have e1:=aq (hr 8 57);unfold Oper.wp execOp
   go_simp
   exact hK _ _ rfl hG (Below.refl _ _)
  refine⟨fun _ a wx hG hr hb K hK=>?_,?_⟩
  ·have e8:=aq (hr 4 53);have e9:=fZ e8;rw[if_pos (by simp[Region.wanted,yielded,e9])];clear e8 e9;have e:=aM (hr 9 58);unfold Oper.wp execOp;exact sE e bI hG.2.2.2.1 rfl (hK _ _ rfl hG (Below.refl _ _))
  refine⟨fun _ a wx hG hr hb K hK=>?_,?_⟩
  ·have e8:=aq (hr 4 53);have e9:=fZ e8;rw[if_pos (by simp[Region.wanted,yielded,e9])];clear e8 e9;have e1:=aq (hr 5 54);have e2:=aq (hr 6 55);have e3:=aq (hr 10 59);unfold Oper.wp execOp
   go_simp
   refine(HM wx (BB.trans (hG.2.2.2.2.mono BB.size))).mono ?_;rintro e' w' ⟨rfl,aY⟩;exact hK _ _ rfl ⟨hG.1.keep aY,hG.2.1.keep aY,hG.2.2.1.keep aY,hG.2.2.2.1.below aY (hG.2.2.2.1.lt (by simp)),hG.2.2.2.2.trans (aY.mono hG.2.2.2.2.size)⟩ aY
  refine⟨fun _ a wx hG hr hb K hK=>?_,?_⟩
  ·have e8:=aq (hr 4 53);have e9:=fZ e8;rw[if_pos (by simp[Region.wanted,yielded,e9])];clear e8 e9;have e1:=aq (hr 11 60);unfold Oper.wp execOp
   go_simp
   exact hK _ _ rfl hG (Below.refl _ _)
  refine⟨fun _ a wx hG hr hb K hK=>?_,?_⟩
  ·have e1:=aq (hr 4 53);have e2:=aq (hr 12 61);rw[if_pos (by rfl)];unfold Oper.wp execOp
   go_simp
   exact hK _ _ rfl hG (Below.refl _ _)
  exact⟨fun h=>absurd h (by decide),trivial⟩
 ·intro v wx oo AA hA ho hG hV K hK
  simp[dh,bD,List.range,List.range.loop,Act.put] at hA
  have e0:=aM (hV 0 (by decide) rfl);have e1:=aM (hV 1 (by decide) rfl);have e2:=aM (hV 2 (by decide) rfl);have e3:=aM (hV 3 (by decide) rfl);have e4:=aM (hV 4 (by decide) rfl);have e5:=aM (hV 5 (by decide) rfl);have e6:=aM (hV 6 (by decide) rfl);have e7:=aM (hV 7 (by decide) rfl);have e8:=aM (hV 8 (by decide) rfl);have e9:=aM (hV 9 (by decide) rfl);have ic:=aM (hV 10 (by decide) rfl);have iA:=aM (hV 11 (by decide) rfl);have mM:=aM (hV 12 (by decide) rfl);have pO:=aM (hV 13 (by decide) rfl);rw[e0,e1,e2,e3,e4,e5,e6,e7,e8,e9,ic,iA,mM,pO] at hA;subst hA;clear hV e0 e1 e2 e3 e4 e5 e6 e7 e8 e9 ic iA mM pO
  try clear bQ
  have bU:some _=some oo:=ho
  injection bU with bU
  subst bU;clear ho;rw[if_pos (by rfl)];unfold Oper.wp execOp
  go_simp
  refine hK _ _ ?_;have ey:=hG.2.2.2.2
  go_wp2_with fail
  go_ret
  exact⟨rfl,az BB ey⟩
theorem PC (qa qb:fe) (HA:xW qa) (HB:xW qb):xW (.alt qa qb):=by
 intro Cb D QC e w base Am hO h0 hn hq;unfold xW at HA HB;obtain⟨b,c,Ca,Cd,rfl,OJ,aO,dW,ha6,hd6,xq,iC⟩:=hq;obtain⟨AD,s0,X0,m0,y0,rfl⟩:=xq.cells;obtain⟨kR,s1,X1,m1,y1,rfl⟩:=iC.cells
 have HM0:=fun W (hb:Below w.heap.size w W)=>HA Cb D _ e W base Am (hO.aa (t:=31) (ah.ab hb)) h0 hn (xq.below hb)
 have tj:=fun W (hb:Below w.heap.size w W)=>HB Cb D _ e W base Am (hO.aa (t:=31) (ah.ab hb)) h0 hn (iC.below hb)
 have Ct:=hO.len;obtain⟨ta,hta⟩:∃tb,tb=eN e.state qa:=⟨_,rfl⟩;obtain⟨tb,mO⟩:∃tb,tb=eN e.state qb:=⟨_,rfl⟩
 have wH:eN e.state (.alt qa qb)=(ta||tb):=by rw[hta,mO];rfl
 rw[wH];rw[←hta] at HM0;rw[←mO] at tj
 have Ht:=fun W (h:Below w.heap.size w W)=>aO.below h dW.lt
 clear wH hta mO hO xq iC HA HB h0 hn OJ aO dW
 go_enter func49,ntmps49
 have aL:=trivial
 go_wp2_with (first
  |(clear bC;(with_reducible refine ao (C:=[.int .i64 2,.int .i64 0,.int .i64 0,.string cw,.string cw,.slice (some ⟨b,0,none⟩) 2 c]) ?_ ?_);rfl;intro x3 g5 ew R5 bh;have zo:=h_ R3 ew;have zr:=h_ R4 ew;have EO:=jq BB ew;replace R3:=R3.keep bh;replace R4:=R4.keep bh;replace BB:=az BB bh;have mn:=U (R5.cell 0);have N6:=U (R5.cell 5);clear bh ew;have cz:=trivial)
  |(clear aJ;(with_reducible refine ao (C:=D) ?_ ?_);rfl;intro x2 g4 cW R4 aF;have nF:=h_ R3 cW;have gl:=jq BB cW;replace R3:=R3.keep aF;replace BB:=az BB aF;clear aF cW;have bC:=trivial)
  |(clear aL;(with_reducible refine ao (C:=Cb) ?_ ?_);rfl;intro x1 g3 aR R3 aw;have jJ:=Nat.le_of_eq aR;have BB:=aw;clear aw aR;have aJ:=trivial))
 try clear cz
 clear R5 mn N6
 go_loopw [38] (fun i wr=>((i=.int .i64 0)∨(i=.int .i64 1∧ta=false)∨(i=.int .i64 2∧ta=false∧tb=false))∧Row wr g3 31 Cb∧Row wr g4 44 D∧Below w.heap.size w wr) (fun i _=>2 - (intOf i).toNat)
 case atStart=>exact⟨Or.inl rfl,R3,R4,BB⟩
 case round=>
  clear R3 R4 BB nF zo zr;obtain⟨bQ,R3,R4,BB⟩:=hrel;have HC:=Ht _ BB
  rcases bQ with rfl|⟨rfl,rfl⟩|⟨rfl,rfl,rfl⟩
  ·skip
   have hc:Cl wr b 0 [.int .i64 AD,.int .i64 0,.int .i64 0,.string cw,.string s0,.slice X0 m0 y0]:=by have:=HC.app.1;simpa using this
   clear HC;have aL:=trivial
   go_wp2_with (first
    |(clear dX;(with_reducible refine ak ?_ bI eZ rfl ?_);rfl;have fu:=trivial)
    |(clear cY;(with_reducible refine ak ?_ cN R4 Ct ?_);rfl;have dX:=trivial)
    |(clear cz;(with_reducible refine ak ?_ aN R3 Am ?_);rfl;have cY:=trivial)
    |(clear bC;(with_reducible refine av (C:=[.int .i64 AD,.int .i64 0,.int .i64 0,.string cw,.string s0,.slice X0 m0 y0]) ?_ ?_ bI eZ rfl rfl (iW _ _ _ _ _) ?_);rfl;rfl;clear eZ;intro za eZ Px;have aF:=hx.trans (Px.below (Nat.le_of_eq ez));clear Px hx ez;replace R3:=R3.keep aF;replace R4:=R4.keep aF;replace BB:=az BB aF;clear aF;have cz:=trivial)
    |(clear aJ;(with_reducible refine bu eK dV ?_);intro zz g10 ez eZ hx;have bC:=trivial)
    |(clear aL;(with_reducible refine cJ ?_ bI hc rfl ?_);rfl;have aJ:=trivial))
   try clear fu
   clear hc
   with_reducible refine(HM0 _ BB).mono ?_
   rintro e w2 ⟨rfl,ax⟩;replace R3:=R3.keep ax;replace R4:=R4.keep ax;replace BB:=az BB ax
   cases ta with
   |true=>
    go_wp2_with fail
    go_ret
    exact⟨by first|rfl|simp,BB⟩
   |false=>
    go_wp2_with fail
    go_roundw
    case rel=>exact⟨Or.inr (Or.inl ⟨rfl,by first|rfl|trivial⟩),R3,R4,BB⟩
    case measure=>simp[intOf]
  ·skip
   have hc:Cl wr b 6 [.int .i64 kR,.int .i64 0,.int .i64 0,.string cw,.string s1,.slice X1 m1 y1]:=by have:=HC.app.2;simpa using this
   clear HC;have aL:=trivial
   go_wp2_with (first
    |(clear dX;(with_reducible refine ak ?_ bI eZ rfl ?_);rfl;have fu:=trivial)
    |(clear cY;(with_reducible refine ak ?_ cN R4 Ct ?_);rfl;have dX:=trivial)
    |(clear cz;(with_reducible refine ak ?_ aN R3 Am ?_);rfl;have cY:=trivial)
    |(clear bC;(with_reducible refine av (C:=[.int .i64 kR,.int .i64 0,.int .i64 0,.string cw,.string s1,.slice X1 m1 y1]) ?_ ?_ bI eZ rfl rfl (iW _ _ _ _ _) ?_);rfl;rfl;clear eZ;intro za eZ Px;have aF:=hx.trans (Px.below (Nat.le_of_eq ez));clear Px hx ez;replace R3:=R3.keep aF;replace R4:=R4.keep aF;replace BB:=az BB aF;clear aF;have cz:=trivial)
    |(clear aJ;(with_reducible refine bu eK dV ?_);intro zz g10 ez eZ hx;have bC:=trivial)
    |(clear aL;(with_reducible refine cJ ?_ bI hc rfl ?_);rfl;have aJ:=trivial))
   try clear fu
   clear hc
   with_reducible refine(tj _ BB).mono ?_
   rintro e w2 ⟨rfl,ax⟩;replace R3:=R3.keep ax;replace R4:=R4.keep ax;replace BB:=az BB ax
   cases tb with
   |true=>
    go_wp2_with fail
    go_ret
    exact⟨by first|rfl|simp,BB⟩
   |false=>
    go_wp2_with fail
    go_roundw
    case rel=>exact⟨Or.inr (Or.inr ⟨rfl,by first|rfl|trivial,by first|rfl|trivial⟩),R3,R4,BB⟩
    case measure=>simp[intOf]
  ·skip
   clear HC
   go_wp2_with fail
   go_ret
   exact⟨rfl,BB⟩
theorem ad3:xW (.state ef):=oK _
theorem abJ:xW (.state dK):=oK _
theorem ad4:xW qX:=PC _ _ (oK _) (PD _ (oK _))
theorem FM {zs:List Int} {j:Nat} (hj:j<zs.length):(zs.map (Value.int .i64))[j]? =some (.int .i64 (zs.getD j 0)):=by
 rw[List.getElem?_map,List.getElem?_eq_getElem hj];simp[List.getD,List.getElem?_eq_getElem hj]
theorem IJ (base:Nat) (v:Value) (n:Nat) (zs:List Int) (w:World) (h:w.ownsRow base 3 1 v n (zs.map (Value.int .i64))) (hn:n≤1100000) (hs:zs.Pairwise (· < ·)):
  Calls prog 51 #[v] w fun e w'=>∃v',e=.returned v'∧w'.ownsRow base 3 1 v' n (zs.map (Value.int .i64))∧w.grownBy w' v.ownBlock:=by
 have hl:zs.length=n:=by have:=h.1;simp at this;omega
 rcases Nat.eq_zero_or_pos n with rfl|h0
 ·obtain⟨A,c,rfl,_,_⟩:=aj h;refine(slices_Compact_int_empty A c w).mono ?_;rintro e w' ⟨rfl,rfl⟩;exact⟨_,rfl,h,World.grownBy.refl _ _⟩
 ·obtain⟨g,cap,rfl,h1,h2,hb,dW,aO,rJ,_,kv⟩:=cj h h0;subst hl
  refine(slices_Compact_int_cells g 0 zs.length cap zs w (Nat.le_refl _) (by omega) h1 (fun j hj=>by
   have:=aO j _ (FM hj)
   simpa using this) (fun j hj=>by simpa using kv j)).mono ?_
  rintro e w' ⟨rfl,q,rfl⟩
  have hc:Go.Lib.compact (zs.take zs.length)=zs:=by rw[List.take_length,Cj hs]
  rw[hc];simp only[Nat.sub_self,List.replicate_zero,List.append_nil];refine⟨_,rfl,?_,?_⟩
  ·have h':(w.drewN q).ownsRow base 3 1 (.slice (some ⟨g,0,none⟩) zs.length cap) zs.length (zs.map (Value.int .i64)):=h;obtain⟨g',mS,hv,_,_,_,_,_,jX,_⟩:=cj h' h0
   injection hv with q1 _ _
   injection q1 with q1
   injection q1 with q1
   subst q1;have:=jX 0 (zs.map (Value.int .i64)) (by simp)
   rwa [zB rfl] at this
  ·have P:=cH.iX (g:=g) (zs.map (Value.int .i64)) 0 (w.drewN q);exact⟨P.os,P.tape,P.output,Nat.le_of_eq P.size.symm,fun k hk cu=>P.block k (fun e=>cu (by rw[e];rfl))⟩
def qI (es:List aB) (q:fe) (k:Nat):List Int:=((es.take k).filter fun e=>eN e.state q).map du
theorem Qi {es:List aB} {q:fe} {k:Nat} {e:aB} (h:es[k]? =some e):qI es q (k+1)=qI es q k++(if eN e.state q=true then [du e] else []):=by
 obtain⟨hk,he⟩:=List.getElem?_eq_some_iff.1 h;unfold qI;rw[List.take_succ_eq_append_getElem hk,he,List.filter_append,List.map_append]
 congr 1
 by_cases hm:eN e.state q=true
 ·rw[if_pos hm];simp[hm]
 ·rw[if_neg hm];simp[hm]
theorem Nj (es:List aB) (q:fe) (k:Nat):(qI es q k).length≤k:=by
 unfold qI;rw[List.length_map];exact Nat.le_trans (List.length_filter_le _ _) (by simp;omega)
theorem BU (C QC:List Value) (b:cK) (q:fe) (w:World) (base:Nat) (hO:cZ 0 w C b) (hv:∀e∈b.entries,0<e.aD.length∧e.aD.length≤1100000) (hl:b.entries.length≤1100000) (hid:(b.entries.map du).Nodup) (hM:xW q) (hq:ed base w q QC):
  Calls prog 19 #[.agg C.toArray,.agg QC.toArray] w fun e w'=>∃v,e=.returned v∧w'.ownsRow w.heap.size 3 1 v (iK b.entries q).length ((iK b.entries q).map (Value.int .i64))∧Below w.heap.size w w':=by
 unfold xW at hM;have jo:=hO.len;obtain⟨A1,n1,c1,A2,n2,c2,A3,n3,c3,A4,n4,c4,A5,n5,c5,A6,n6,c6,rfl,O1,O2,O3,O4,O5,O6,q1,q2,q3,q4,q5,q6,m3,m4,m5,m6⟩:=hO.open_;clear O1 O2 O3 O4 O6 q1 q2 q3 q4 q6 m3 m4 m6 hO;obtain⟨kq,sq,Xq,mq,yq,rfl⟩:=hq.cells;have mL:=Lib.hid q5;have HV:=Lib.hid hv;have th:=Lib.hid hid
 have yN:n5≤1100000:=by omega
 have WD:=O5.BJ
 have Zv:=fun W (hb:Below w.heap.size w W) (D:List Value) (e:aB) (hD:dn 0 W D e) (h0:0<e.aD.length∧e.aD.length≤1100000)=>hM [.int .i64 b.now,.slice A1 n1 c1,.slice A2 n2 c2,.slice A3 n3 c3,.slice A4 n4 c4,.slice A5 n5 c5,.slice A6 n6 c6] D _ e W base rfl hD h0.1 h0.2 (hq.below hb)
 clear hv hid hM hq q5 hl O5
 go_enter func19,ntmps19
 have aL:=trivial
 go_wp2_with (first
  |(clear aJ;(with_reducible refine ao (C:=[.int .i64 kq,.int .i64 0,.int .i64 0,.string cw,.string sq,.slice Xq mq yq]) ?_ ?_);rfl;intro x2 g3 cW R3 aF;have mC:=h_ R2 cW;have jJ:=jq BB cW;replace R2:=R2.keep aF;replace BB:=az BB aF;clear fB z_;have fB:=U (R2.cell 4);have z_:=U (R2.cell 5);clear aF cW;have bC:=trivial)
  |(clear aL;(with_reducible refine ao (C:=([.int .i64 b.now,.slice A1 n1 c1,.slice A2 n2 c2,.slice A3 n3 c3,.slice A4 n4 c4,.slice A5 n5 c5,.slice A6 n6 c6]:List Value)) ?_ ?_);rfl;intro x1 g2 aR R2 aw;have fP:=Nat.le_of_eq aR;have BB:=aw;have fB:=U (R2.cell 4);have z_:=U (R2.cell 5);clear aw aR;have aJ:=trivial))
 try clear bC
 clear fB z_
 go_loopw [5,11] (fun s5 i wr=>∃k:Nat,k≤n5∧i=.int .i64 k∧wr.ownsRow w.heap.size 3 1 s5 (qI b.entries q k).length ((qI b.entries q k).map (Value.int .i64))∧Row wr g2 31 [.int .i64 b.now,.slice A1 n1 c1,.slice A2 n2 c2,.slice A3 n3 c3,.slice A4 n4 c4,.slice A5 n5 c5,.slice A6 n6 c6]∧Row wr g3 76 [.int .i64 kq,.int .i64 0,.int .i64 0,.string cw,.string sq,.slice Xq mq yq]∧Below w.heap.size w wr) (fun _ i _=>n5 - (intOf i).toNat)
 case atStart=>exact⟨0,Nat.zero_le _,rfl,World.ownsRow_nil _ _ _ _,R2,R3,BB⟩
 case round=>
  clear R2 R3 BB mC;obtain⟨k,hk,rfl,OW,R2,R3,BB⟩:=hrel
  by_cases aS:k<n5
  ·skip
   have hx:b.entries[k]? =some (b.entries[k]'(by rw[←mL.out];exact aS)):=List.getElem?_eq_getElem _;obtain⟨gE,cap,D,hs,_,_,_,dW,Ct,aO,hE⟩:=WD.get hx
   injection hs with Em uF wh
   subst Em wh;clear uF;have tv:=HV.out _ (List.getElem_mem (by rw[←mL.out];exact aS:k<b.entries.length));have zH:=Lib.hid (Qi (q:=q) hx);have HX:=Lib.hid hx;clear hx;generalize b.entries[k]=e at*;have FP:=hE.aa (t:=31) (ah.ab BB);have lX:=aO.below BB dW.lt;obtain⟨m,hm⟩:∃m,e.aD.length=m+1:=⟨e.aD.length - 1,by omega⟩;have ac8:=FP;obtain⟨vv,va,vf,vl,vm,rfl,hv,_⟩:=ac8;have Pd:e.aD[m]? =some (e.aD[m]'(by omega)):=List.getElem?_eq_getElem _
   have QD:Hid (du e=(e.aD[m]'(by omega)).id):=by unfold Hid du;rw[List.getLast?_eq_getElem?,show e.aD.length - 1=m by omega,Pd]
   obtain⟨gv,wu,CI,rfl,hmc,Xw,_,L_,tn,DX,hRv⟩:=hv.get Pd;obtain⟨vo,vc,vt,va',rfl,_⟩:=hRv;have ci0:=DX 0 _ rfl;have R_:=L_.lt;generalize e.aD[m]=it at*;have oB:∀u∈ig e (.slice (some ⟨gv,0,none⟩) e.aD.length wu) va vf vl vm,u.oneCell'=true:=FP.one;obtain⟨st,bQ⟩:∃st,st=e.state:=⟨_,rfl⟩;obtain⟨tb,mO⟩:∃tb,tb=eN e.state q:=⟨_,rfl⟩;have NR:=Lib.hid mO
   have NK:=fun W (hb:Below w.heap.size w W) (hw:Below wr.heap.size wr W)=>Zv W hb _ e (FP.aa (t:=31) (ah.ab hw)) tv
   rw[←mO] at NK;unfold ig at lX oB NK;rw[hm] at lX oB NK
   have TY:m+1≤1100000:=by omega
   clear mO bQ FP hE aO dW hv Pd DX L_ tv hmc Xw;have tj:=Lib.hid hm;clear hm;have jY:=Below.refl wr.heap.size wr;have bC:=trivial
   go_wp2_with (first
    |(clear gK;(with_reducible refine od ?_ ?_ bI R3 rfl ?_);rfl;rfl;have nY:=trivial)
    |(clear fu;(with_reducible refine od ?_ ?_ cN R7 rfl ?_);rfl;rfl;have gK:=trivial)
    |(clear dX;(with_reducible refine od ?_ ?_ aN R2 rfl ?_);rfl;rfl;have fu:=trivial)
    |(clear cY;(with_reducible refine av (C:=[.slice (some ⟨gv,0,none⟩) (m+1) wu,.int .i64 e.state,.int .i64 e.bF,va,vf,vl,vm]) ?_ ?_ cN R7 rfl Ya oB ?_);rfl;rfl;have bg:=R7.ty;clear R7;intro x4 R7 jm;have kt:=jm.aa bg;replace R2:=jm.row R2;replace R3:=jm.row R3;replace OW:=kt.own OW;replace jY:=jY.trans (jm.below rO);replace BB:=BB.trans (jm.below EP);have ep:=U (R7.cell 0);clear jm kt bg;have dX:=trivial)
    |(clear cz;(with_reducible refine cR gY ?_);intro x3 g7 Zi ew Ya R7 bh;have De:g2≠g7:=(by have:=R2.lt;omega);have aez:g3≠g7:=(by have:=R3.lt;omega);have EP:w.heap.size≤g7:=(by have:=BB.size;omega);have rO:wr.heap.size≤g7:=(by have:=jY.size;omega);replace R2:=R2.keep bh;replace R3:=R3.keep bh;replace OW:=I OW bh;replace jY:=az jY bh;replace BB:=az BB bh;clear bh ew;have cY:=trivial)
    |(clear bC;(with_reducible refine cJ ?_ cN lX rfl ?_);rfl;have cz:=trivial))
   try clear nY
   refine(NK _ BB jY).mono ?_;rintro r x5 ⟨rfl,cp⟩;replace R2:=R2.keep cp;replace R3:=R3.keep cp;replace R7:=R7.keep cp;replace OW:=I OW cp;replace jY:=az jY cp;replace BB:=az BB cp;clear ep;have ep:=U (R7.cell 0);clear cp;clear NK
   cases tb with
   |true=>
    have ci:x5.cell? ⟨gv,m*17,none⟩=some (.int .i64 it.id):=(jY.cell (p:=⟨gv,m*17,none⟩) R_).trans ci0;clear ci0 jY;obtain⟨zs,lJ⟩:∃zs,zs=qI b.entries q k:=⟨_,rfl⟩
    have uL:zs.length≤k:=by rw[lJ];exact Nj _ _ _
    rw[←lJ] at OW;have HZ:=Lib.hid lJ;clear lJ;obtain⟨X,y,hX,_,_⟩:=aj OW;subst hX
    have yM:((m+1:Nat):Int) - 1=(m:Int):=by omega
    generalize it.id=z at*;have hl:=ai x5 (.cells #[.int .i64 z] 3);have OA:=bN OW (.cells #[.int .i64 z] 3);have e1:dF (x5.alloc (.cells #[.int .i64 z] 3)) (some ⟨x5.heap.size,0,none⟩) 1 1 [.int .i64 z]:=(Row.new x5 3 [.int .i64 z]).sl.jZ
    go_wp2_with (first|(refine cv (by rfl) (.tmp 25) (.tmp 35) 22 (by rfl) w.heap.size 3 _ 1 8 underlying22 qC rfl (by decide) (.slice X zs.length y) zs.length (zs.map (Value.int .i64)) (some ⟨x5.heap.size,0,none⟩) 1 1 [.int .i64 z] (by rfl) (by rfl) OA e1 (by intro u hu;rw[List.mem_singleton.1 hu];rfl) (by unfold maxLen;omega) (by omega) (Nat.le_trans BB.size hl.size) ?_;intro v2 w2 gM gy))
    have kt:=dN OA gy;have e_:=bG OA gy (Nat.le_refl _) (Nat.le_trans BB.size hl.size)
    have wS:Hid (qI b.entries q (k+1)=zs++ [z]):=by unfold Hid;rw[zH.out,if_pos NR.out.symm,QD.out,←HZ.out]
    go_roundw
    case rel=>exact⟨k+1,by omega,by go_num,by rw[wS.out];simpa using gM,(R2.keep hl).aa kt (by decide),(R3.keep hl).aa kt (by decide),(az BB hl).trans e_⟩
    case measure=>simp[intOf];omega
   |false=>
    have wS:Hid (qI b.entries q (k+1)=qI b.entries q k):=by unfold Hid;rw[zH.out,if_neg (by rw[←NR.out];decide)];simp
    go_wp2_with fail
    go_roundw
    case rel=>exact⟨k+1,by omega,by go_num,by rw[wS.out];exact OW,R2,R3,BB⟩
    case measure=>simp[intOf];omega
  ·skip
   have tt:k=n5:=by omega
   have NG:Hid (qI b.entries q k=(b.entries.filter fun e=>eN e.state q).map du):=by unfold Hid qI;rw[List.take_of_length_le (by rw[tt,mL.out];exact Nat.le_refl _)]
   have uL:=Nj b.entries q k;obtain⟨zs,lJ⟩:∃zs,zs=qI b.entries q k:=⟨_,rfl⟩;rw[←lJ] at OW uL;have HZ:=Lib.hid lJ
   have ZB:Hid (iK b.entries q=kJ zs):=by unfold Hid iK;rw[lJ,NG.out]
   clear lJ tt
   go_wp2_with fail
   with_reducible refine(Fh w.heap.size _ zs.length zs _ OW (by omega)).mono ?_
   rintro e w5 ⟨rfl,ho5,Xe⟩;have B5:=BB.trans (bG OW Xe (Nat.le_refl _) BB.size);clear BB OW Xe R2 R3
   go_wp2_with fail
   have adK:(kJ zs).Pairwise (· < ·):=by have:=uV th.out q;rwa [ZB.out] at this
   with_reducible refine(IJ w.heap.size _ zs.length (kJ zs) _ ho5 (by omega) adK).mono ?_
   rintro e w6 ⟨v6,rfl,yO,Aq⟩;have B6:=B5.trans (bG ho5 Aq (Nat.le_refl _) B5.size)
   go_wp2_with fail
   go_ret
   exact⟨v6,rfl,by rw[ZB.out];have uB:(kJ zs).length=zs.length:=(oa zs).length_eq;rw[uB];exact yO,B6⟩
theorem ra (C:List Value) (sx:ByteArray) (b:cK) (q:fe) (w:World) (hO:cZ 0 w C b) (hv:∀e∈b.entries,0<e.aD.length∧e.aD.length≤1100000) (hl:b.entries.length≤1100000) (hid:(b.entries.map du).Nodup) (hM:xW q)
  (HP:∀w,Calls prog 18 #[.string sx] w fun e w'=>∃C,e=.returned (.tuple #[.agg C.toArray,.int .i64 0,.int .i64 0])∧ed w.heap.size w' q C∧Below w.heap.size w w'):
  Calls prog 10 #[.agg C.toArray,.string sx] w fun e w'=>∃v,e=.returned (.tuple #[v,.bool true])∧w'.ownsRow w.heap.size 3 1 v (iK b.entries q).length ((iK b.entries q).map (Value.int .i64))∧Below w.heap.size w w':=by
 have HS:=fun W (hb:Below w.heap.size w W) (QC:List Value) (base:Nat) (hq:ed base W q QC)=>BU C QC b q W base (hO.below hb) hv hl hid hM hq
 have jo:=hO.len;have nb:=hO.one;clear hO hv hl hid hM
 go_enter func10,ntmps10
 have aL:=trivial
 go_wp2_with (first
  |(clear aL;(with_reducible refine ao (C:=C) ?_ ?_);rfl;intro x1 g2 aR R2 aw;have fP:=Nat.le_of_eq aR;have BB:=aw;clear aw aR;have aJ:=trivial))
 try clear aJ
 refine(HP _).mono ?_;rintro r x2 ⟨QC,rfl,hq,aF⟩;replace R2:=R2.keep aF;replace BB:=az BB aF;clear aF;obtain⟨kq,sq,Xq,mq,yq,rfl⟩:=hq.cells;have aJ:=trivial
 go_wp2_with (first
  |(clear cY;(with_reducible refine ak ?_ bI R5 rfl ?_);rfl;have dX:=trivial)
  |(clear cz;(with_reducible refine ak ?_ aN R2 jo ?_);rfl;have cY:=trivial)
  |(clear bC;(with_reducible refine av (C:=[.int .i64 kq,.int .i64 0,.int .i64 0,.string cw,.string sq,.slice Xq mq yq]) ?_ ?_ bI R5 rfl rfl (iW _ _ _ _ _) ?_);rfl;rfl;clear R5;intro x4 R5 Px;have ek:=hx.trans (Px.below (Nat.le_of_eq ew));clear Px hx;have aaz:g2≠g5:=(by have:=R2.lt;omega);have EO:w.heap.size≤g5:=(by have:=BB.size;omega);have ad':x2.heap.size≤g5:=(by omega);replace R2:=R2.keep ek;replace hq:=hq.below ek;replace BB:=az BB ek;clear ek ew;have cz:=trivial)
  |(clear aJ;(with_reducible refine bu eK dV ?_);intro x3 g5 ew R5 hx;have bC:=trivial))
 try clear dX
 refine(HS _ BB _ _ hq).mono ?_;rintro r x5 ⟨v,rfl,ho,cp⟩;have Yb:=BB.size;replace R2:=R2.keep cp;replace R5:=R5.keep cp;replace hq:=hq.below cp;replace BB:=az BB cp;clear cp
 go_wp2_with fail
 go_ret2
 exact⟨v,rfl,aX ho Yb,BB⟩
theorem U7 (C:List Value) (b:cK) (w:World) (hO:cZ 0 w C b) (hv:∀e∈b.entries,0<e.aD.length∧e.aD.length≤1100000) (hl:b.entries.length≤1100000) (hid:(b.entries.map du).Nodup):
  Calls prog 10 #[.agg C.toArray,.string E9] w fun e w'=>∃v,e=.returned (.tuple #[v,.bool true])∧w'.ownsRow w.heap.size 3 1 v (iK b.entries (.state ef)).length ((iK b.entries (.state ef)).map (Value.int .i64))∧Below w.heap.size w w':=
 ra C E9 b _ w hO hv hl hid ad3 aaG
theorem U8 (C:List Value) (b:cK) (w:World) (hO:cZ 0 w C b) (hv:∀e∈b.entries,0<e.aD.length∧e.aD.length≤1100000) (hl:b.entries.length≤1100000) (hid:(b.entries.map du).Nodup):
  Calls prog 10 #[.agg C.toArray,.string CR] w fun e w'=>∃v,e=.returned (.tuple #[v,.bool true])∧w'.ownsRow w.heap.size 3 1 v (iK b.entries (.state dK)).length ((iK b.entries (.state dK)).map (Value.int .i64))∧Below w.heap.size w w':=
 ra C CR b _ w hO hv hl hid abJ Sw
theorem U9 (C:List Value) (b:cK) (w:World) (hO:cZ 0 w C b) (hv:∀e∈b.entries,0<e.aD.length∧e.aD.length≤1100000) (hl:b.entries.length≤1100000) (hid:(b.entries.map du).Nodup):
  Calls prog 10 #[.agg C.toArray,.string E_] w fun e w'=>∃v,e=.returned (.tuple #[v,.bool true])∧w'.ownsRow w.heap.size 3 1 v (iK b.entries qX).length ((iK b.entries qX).map (Value.int .i64))∧Below w.heap.size w w':=
 ra C E_ b _ w hO hv hl hid ad4 nG
structure Wr (B g:Nat) (w0:World) (P:List (List UInt8)) (M:Nat) (w:World):Prop where
 Tc:iL B w g (bf P)
 len:(bf P).length≤M
 base:w0.heap.size≤B
 size:B≤w.heap.size
 e_:Below w0.heap.size w0 w
theorem Wr.lt {B g M:Nat} {w0 w:World} {P:List (List UInt8)} (h:Wr B g w0 P M w):g<w.heap.size:=h.Tc.lt
theorem Wr.keep {B g M:Nat} {w0 w w':World} {P:List (List UInt8)} (h:Wr B g w0 P M w) (hb:Below w.heap.size w w'):Wr B g w0 P M w':=
 ⟨h.Tc.keep hb,h.len,h.base,Nat.le_trans h.size hb.size,h.e_.trans (hb.mono h.e_.size)⟩
theorem Wr.mono {B g M M':Nat} {w0 w:World} {P:List (List UInt8)} (h:Wr B g w0 P M w) (hM:M≤M'):Wr B g w0 P M' w:=⟨h.Tc,Nat.le_trans h.len hM,h.base,h.size,h.e_⟩
def ZM (B g:Nat) (w0:World) (P Q:List (List UInt8)) (M:Nat) (w w':World):Prop:=Wr B g w0 (P++Q) M w'∧Below B w w'∧cL g w w'
theorem Ch (B b:Nat) (l:List UInt8) (c:UInt8) (z:Int) (hz:z=(c.toNat:Int)) (w:World) (h:iL B w b l) (hl:l.length≤100000000) (hB:B≤w.heap.size):
  Calls prog 60 #[.pointer (some ⟨b,0,none⟩),.int .u8 z] w fun e w'=>e=.returned .nilIface∧iL B w' b (l++ [c])∧Below B w w'∧cL b w w':=by
 subst hz;exact ZR B b l c w h hl hB
theorem gS (n:Int) (w:World) (h0: -9223372036854775808≤n) (h1:n≤9223372036854775807) (ht:Id.lk w):
  Calls prog 62 #[.int .i64 n] w fun e w'=>e=.returned (.string (ag (Lib.itoa n)))∧Below w.heap.size w w':=by
 refine(strconv_Itoa n h0 h1 w ht).mono ?_;rintro e w' ⟨rfl,k,os,rfl⟩;exact⟨rfl,Id.below_grow w k os⟩
def xH:List ByteArray:=[⟨#[99,104,111,105,99,101]⟩,⟨#[109,117,108,116,105]⟩,⟨#[111,114,100,101,114]⟩,⟨#[110,117,109,98,101,114]⟩,⟨#[116,101,120,116]⟩,⟨#[101,115,115,97,121]⟩]
theorem Ey (w:World):
  Calls prog 63 #[] w fun e w'=>(∃b,e=.returned (.slice (some ⟨b,0,none⟩) 6 6)∧Row w' b 9 (xH.map Value.string))∧Below w.heap.size w w':=by
 go_enter func63,ntmps63
 go_wp2_with fail
 go_ret
 exact⟨⟨w.heap.size,rfl,Row.new w 9 (xH.map Value.string)⟩,ai w _⟩
theorem Un {k:Int} (h:1≤k∧k≤6):∃s,xH[(k - 1).toNat]? =some s∧s.data.toList=dM k:=by
 have:k=1∨k=2∨k=3∨k=4∨k=5∨k=6:=by omega
 rcases this with rfl|rfl|rfl|rfl|rfl|rfl<;>exact⟨_,rfl,rfl⟩
theorem vH (B g:Nat) (w0:World) (P:List (List UInt8)) (M bk o c n:Nat) (xs:List ByteArray) (w:World) (h:Wr B g w0 P M w) (hM:M≤50000000) (hn:n=xs.length) (hx:xs≠ [])
  (hc:∀(j:Nat) x,xs[j]? =some x→w.cell? ⟨bk,o+j,none⟩=some (.string x)) (DW:n≤c) (qx:n≤1000) (hlen:(aV (xs.map (·.data.toList))).length≤5000):
  Calls prog 21 #[.pointer (some ⟨g,0,none⟩),.slice (some ⟨bk,o,none⟩) n c] w fun e w'=>e=.returned (.tuple #[])∧ZM B g w0 P [aV (xs.map (·.data.toList))] (M+5001) w w':=by
 subst hn
 have hbk:bk<w.heap.size:=by
  cases xs with
  |nil=>exact absurd rfl hx
  |cons x t=>exact block_lt_of_cell (hc 0 x rfl)
 have HJ:=strings_Join bk o c xs ⟨#[32]⟩ w hc hbk (by omega) DW (by show(aV _).length≤_;omega);have qW:Lib.join (xs.map (·.data.toList)) (⟨#[32]⟩:ByteArray).data.toList=aV (xs.map (·.data.toList)):=rfl;rw[qW] at HJ;clear qW hc hbk hx;generalize aV (xs.map (·.data.toList))=L at*
 go_enter func21,ntmps21
 go_wp2_with fail
 with_reducible refine HJ.mono ?_
 rintro e w1 ⟨rfl,hb⟩;have h1:=h.keep hb
 go_wp2_with fail
 have hl:=h.len
 with_reducible refine(o7 B g _ _ w1 h1.Tc (by omega) (by have e:=eD L;unfold ag at e;omega) h1.size).mono ?_
 rintro e w2 ⟨⟨nn,rfl⟩,b2,bl2,o2⟩;have hL:(⟨L.toArray⟩:ByteArray).data.toList=L:=bM L;rw[hL] at b2
 go_wp2_with fail
 have h2:B≤w2.heap.size:=Nat.le_trans h1.size bl2.size
 with_reducible refine(Ch B g _ 10 10 rfl w2 b2 (by rw[List.length_append];omega) h2).mono ?_
 rintro e w3 ⟨rfl,b3,Dz,o3⟩
 go_wp2_with fail
 go_end0
 have e:bf P++L++ [10]=bf (P++ [L]):=by rw[eL,im,List.append_assoc]
 rw[e] at b3;have bw:=hb.mono h.size|>.trans (bl2.trans Dz);exact⟨rfl,⟨b3,by rw[←e];simp;omega,h.base,Nat.le_trans h2 Dz.size,h.e_.trans (bw.mono h.base)⟩,bw,(cL.ab hb).trans (o2.trans o3)⟩
def Oh (s:ByteArray):Prop:=∀c∈s.data.toList,48≤c.toNat∧c.toNat≤57
theorem Wl {s:ByteArray} (h:Oh s) {k:Nat} (hk:k<s.size):48≤s[k].toNat∧s[k].toNat≤57:=h _ (by
 have:s[k]=s.data.toList[k]'(by rw[bS];exact hk):=rfl
 rw[this];exact List.getElem_mem _)
theorem G8 {s:ByteArray} (h:s.data.toList≠ []):s.size≠0∧s≠⟨#[]⟩:=by
 constructor
 ·intro e;rw[←bS] at e;exact h (List.length_eq_zero_iff.1 e)
 ·rintro rfl;exact h rfl
theorem nK (s:ByteArray) (w:World) (hd:Oh s) (cu:s.data.toList≠ []) (hs:s.size≤1000000):
  Calls prog 235 #[.string s] w fun e w'=>e=.returned (.bool true)∧Below w.heap.size w w':=by
 have adx:=(G8 cu).1
 have hl:s.toList.isEmpty=false:=by
  rw[Lib.toList_data]
  cases h:s.data.toList with
  |nil=>exact absurd h cu
  |cons a t=>rfl
 have HD:=Lib.hid hd;clear cu hd
 go_enter func235,ntmps235
 go_wp2_with fail
 go_loopw [3] (fun i wr=>∃k:Nat,k≤s.size∧i=.int .i64 k∧Below w.heap.size w wr) (fun i _=>s.size - (intOf i).toNat)
 case atStart=>exact⟨0,Nat.zero_le _,rfl,Below.refl _ _⟩
 case round=>
  obtain⟨k,hk,rfl,BB⟩:=hrel
  by_cases aS:k<s.size
  ·obtain⟨h1,h2⟩:=Wl HD.out aS
   have g1:¬(s[k].toNat:Int)<48:=by omega
   have g2:¬(57:Int)<(s[k].toNat:Int):=by omega
   go_wp2_with fail
   go_roundw
   case rel=>exact⟨k+1,by omega,by go_num,BB⟩
   case measure=>simp[intOf];omega
  ·go_wp2_with fail
   go_ret
   exact⟨by simp[hl],BB⟩
theorem YJ:(Lib.itoa 9999999).length=7:=by
 have e:Lib.itoa 9999999=Lib.decDigits 9999999:=vG 9999999;rw[e,sa (by decide),show(9999999:Nat) / 1000=9999 by decide,sa (m:=9999) (by decide),show(9999:Nat) / 1000=9 by decide,Lib.decDigits_one (by decide)];rfl
theorem Q6 {P:Prop} (h:P:=by
 go_wp2_with fail
 with_reducible refine(gS 9999999 _ (by decide) (by decide) (HT.out.below hb)).mono ?_
 rintro e w2 ⟨rfl,ax⟩
 go_wp2_with fail
 with_reducible refine(HAT.out _).mono ?_
 rintro e w3 ⟨rfl,t,rfl⟩;have eE:=Lib.bytesWorld_below w2 5 t;generalize Lib.bytesWorld w2 5 t=w4 at*
 go_wp2_with fail
 go_quiet (fail)
 go_wp2_with fail
 go_ret2
 exact⟨rfl,cr ((az hb ax).trans (eE.mono (Nat.le_trans hb.size ax.size))) _⟩):P:=h
theorem AJ (s:ByteArray) (n:Nat) (w:World) (hn:n≤9999999) (hs:s.data.toList=Lib.decDigits n) (ht:Id.lk w):
  Calls prog 184 #[.string s] w fun e w'=>e=.returned (.tuple #[.int .i64 (n:Int),.bool true])∧Below w.heap.size w w':=by
 obtain⟨w1,w2,w3⟩:=UF n;rw[←hs] at w1 w2 w3;have hl:=mZ 6 n (by omega);rw[←hs,bS] at hl;have HAT:=Lib.hid (fun W=>strconv_Atoi s (n:Int) (by omega) (by rw[hs];exact Tb n) W)
 have hml:(ag (Lib.itoa 9999999)).size=7:=by rw[eD];exact YJ
 have adx:=(G8 w1).1
 have hlen:¬(7:Int)<(s.size:Int):=by omega
 have HD:=fun W=>nK s W w2 w1 (by omega)
 have HT:=Lib.hid ht
 have hh:1<s.size→((s[0]'(by omega)).toNat:Int)≠48:=fun h=>by
  have:=w3 (by rw[bS];exact h);intro e;refine this ?_
  have h0:s.data.toList[0]? =some (s[0]'(by omega)):=by rw[List.getElem?_eq_getElem (by rw[bS];omega)];rfl
  rw[List.head?_eq_getElem?,h0];exact congrArg some (UInt8.toNat_inj.1 (by show _=48;omega))
 clear w1 w2 w3 hs ht
 go_enter func184,ntmps184
 go_wp2_with fail
 with_reducible refine(HD _).mono ?_
 rintro e w1 ⟨rfl,hb⟩
 by_cases h1:1<s.size
 ·have h1i:(1:Int)<(s.size:Int):=by omega
  have hz:=beq_eq_false_iff_ne.2 (hh h1);exact Q6
 ·have h1i:¬(1:Int)<(s.size:Int):=by omega
  exact Q6
end
end Go.Proofs.YtdnpopjabpklnaaGreatDoor
