/- Contracts and plain laws that the proof of the top laws uses (TqP). No condition beyond those stated. -/
import Derived.Test.YtdnpopjabpklnaaGreatDoorTqO
set_option maxRecDepth 100000
set_option maxHeartbeats 64000000
set_option linter.all false
namespace Go.Proofs.YtdnpopjabpklnaaGreatDoor
section
open Go.RowKit
open Tryz
theorem Bd (A B:Option Addr) (n m c d:Nat) (xs ys:List ByteArray) (w:World) (h1:dF w A n 1 (xs.map Value.string)) (h2:dF w B m 1 (ys.map Value.string)) (hn:n≤1100000) (hm:m≤1100000):
  Calls prog 196 #[.slice A n c,.slice B m d] w fun e w'=>Kl e∧Below w.heap.size w w':=by
 by_cases Ee:n=m
 ·subst Ee
  rcases Nat.eq_zero_or_pos n with rfl|h0
  ·exact(slices_Equal_string_empty A B c 0 d w (by decide)).mono fun e w' h=>⟨⟨_,h.1⟩,by rw[h.2];exact Below.refl _ _⟩
  ·obtain⟨b,o,rfl,hc⟩:=h1.2 h0;obtain⟨b',o',rfl,jc⟩:=h2.2 h0
   have e1:xs.length=n:=by have:=h1.1;simp at this;omega
   have e2:ys.length=n:=by have:=h2.1;simp at this;omega
   exact(slices_Equal_string b o n c b' o' n d xs ys w (by omega) (by omega) (by omega) (by omega)
    (fun j hj=>by rw[hc j _ (by rw[List.getElem?_map,List.getElem?_eq_getElem hj];rfl)];simp[List.getD,List.getElem?_eq_getElem hj])
    (fun j hj=>by rw[jc j _ (by rw[List.getElem?_map,List.getElem?_eq_getElem hj];rfl)];simp[List.getD,List.getElem?_eq_getElem hj])).mono
    fun e w' h=>⟨⟨_,h.1⟩,by obtain⟨q,hq⟩:=h.2;rw[hq];exact cr (Below.refl _ _) q⟩
 ·exact(slices_Equal_string_lens A B n c m d w Ee).mono fun e w' h=>⟨⟨_,h.1⟩,by rw[h.2];exact Below.refl _ _⟩
theorem Bc (A B:Option Addr) (n m c d:Nat) (xs ys:List Int) (w:World) (h1:dF w A n 1 (xs.map (Value.int .i64))) (h2:dF w B m 1 (ys.map (Value.int .i64))) (hn:n≤1100000) (hm:m≤1100000):
  Calls prog 197 #[.slice A n c,.slice B m d] w fun e w'=>Kl e∧Below w.heap.size w w':=by
 by_cases Ee:n=m
 ·subst Ee
  rcases Nat.eq_zero_or_pos n with rfl|h0
  ·exact(slices_Equal_int_empty A B c 0 d w (by decide)).mono fun e w' h=>⟨⟨_,h.1⟩,by rw[h.2];exact Below.refl _ _⟩
  ·obtain⟨b,o,rfl,hc⟩:=h1.2 h0;obtain⟨b',o',rfl,jc⟩:=h2.2 h0
   have e1:xs.length=n:=by have:=h1.1;simp at this;omega
   have e2:ys.length=n:=by have:=h2.1;simp at this;omega
   exact(slices_Equal_int b o n c b' o' n d xs ys w (by omega) (by omega) (by omega) (by omega)
    (fun j hj=>by rw[hc j _ (by rw[List.getElem?_map,List.getElem?_eq_getElem hj];rfl)];simp[List.getD,List.getElem?_eq_getElem hj])
    (fun j hj=>by rw[jc j _ (by rw[List.getElem?_map,List.getElem?_eq_getElem hj];rfl)];simp[List.getD,List.getElem?_eq_getElem hj])).mono
    fun e w' h=>⟨⟨_,h.1⟩,by obtain⟨q,hq⟩:=h.2;rw[hq];exact cr (Below.refl _ _) q⟩
 ·exact(slices_Equal_int_lens A B n c m d w Ee).mono fun e w' h=>⟨⟨_,h.1⟩,by rw[h.2];exact Below.refl _ _⟩
def rh (w:World):Prop:=∃fs:List ByteArray,fs.length=17∧Cl w 1 0 (fs.map Value.string)
theorem rh.below {w w':World} (h:rh w) (hb:Below w.heap.size w w'):rh w':=by
 obtain⟨fs,h1,h2⟩:=h;exact⟨fs,h1,h2.below hb (h2.lt (by simp;omega))⟩
theorem VR:kj prog 272 17:=⟨by kernel_rfl,by kernel_rfl⟩
theorem G3 {w:World} {C:List Value} {it:aA} (h:dO w C it):∃A1 c1 A2 c2 A3 c3 A4 c4,(C[0]? =some (.int .i64 it.id)∧C[1]? =some (.int .i64 it.bj)∧C[2]? =some (.int .i64 it.kind)∧C[3]? =some (.string it.aW)∧C[4]? =some (.slice A1 it.opts.length c1)∧C[5]? =some (.slice A2 it.cA.length c2)∧C[6]? =some (.int .i64 it.value)∧C[7]? =some (.int .i64 it.de)∧C[8]? =some (.slice A3 it.texts.length c3)∧C[9]? =some (.int .i64 it.aP)∧C[10]? =some (.string it.code)∧C[11]? =some (.int .i64 it.bz)∧C[12]? =some (.int .i64 it.bB)∧C[13]? =some (.int .i64 it.words)∧C[14]? =some (.int .i64 it.ay)∧C[15]? =some (.slice A4 it.af.length c4)∧C[16]? =some (.int .i64 it.aH))∧dF w A1 it.opts.length 1 (it.opts.map Value.string)∧dF w A2 it.cA.length 1 (it.cA.map (Value.int .i64))∧dF w A3 it.texts.length 1 (it.texts.map Value.string)∧dF w A4 it.af.length 1 (it.af.map (Value.int .i64)):=by
 obtain⟨vo,vc,vt,va,rfl,⟨A1,c1,rfl,_,_,S1⟩,⟨A2,c2,rfl,_,_,S2⟩,⟨A3,c3,rfl,_,_,S3⟩,⟨A4,c4,rfl,_,_,S4⟩⟩:=h;exact⟨A1,c1,A2,c2,A3,c3,A4,c4,⟨rfl,rfl,rfl,rfl,rfl,rfl,rfl,rfl,rfl,rfl,rfl,rfl,rfl,rfl,rfl,rfl,rfl⟩,S1.jZ,S2.jZ,S3.jZ,S4.jZ⟩
theorem uU (cs:Array Value) (k:Nat) (u:Value) (w:World) (h:cs[k]? =some u) (hk:k<17):
  (Instr.index 272 (.agg cs) (.int .i64 k)).run prog w=.ok u w:=by
 have hu:prog.underlying 272=some (.array 17 9):=by kernel_rfl
 have mN:(k:Int)<17:=by omega
 simp[Instr.index,run_underlying hu,asIntOf,mN,go_sem,part,h]
 intro hh;omega
theorem Db {P:Prop} (h:P:=by
 rintro e w' ⟨⟨b,rfl⟩,aY⟩
 exact hK _ _ ⟨b,rfl⟩ ⟨hG.1.keep aY,hG.2.1.keep aY,hG.2.2.1.trans (aY.mono hG.2.2.1.size),Nat.le_trans hG.2.2.2 aY.size⟩ aY):P:=h
theorem Tt (C D:List Value) (it iu:aA) (w:World) (h:dO w C it) (h':dO w D iu) (hs:jS it) (jX:jS iu) (hg:rh w):
  Calls prog 142 #[.agg C.toArray,.agg D.toArray] w fun e w'=>∃A n c,∃ss:List ByteArray,e=.returned (.slice A n c)∧n≤17∧dF w' A n 1 (ss.map Value.string)∧Below w.heap.size w w':=by
 have hlen:=h.len;have Jc:=h'.len;obtain⟨A1,c1,A2,c2,A3,c3,A4,c4,⟨C0,C1,C2,C3,C4,C5,C6,C7,C8,C9,SI,s',tc,td,te,jt,rX⟩,S1,S2,S3,S4⟩:=G3 h;obtain⟨B1,d1,B2,d2,B3,d3,B4,d4,⟨D0,D1,D2,D3,D4,D5,D6,D7,D8,D9,D10,D11,D12,D13,D14,D15,D16⟩,T1,T2,T3,T4⟩:=G3 h';clear h h';obtain⟨s1,s2,s3,s4⟩:=hs;obtain⟨t1,t2,t3,t4⟩:=jX
 have q1:=fun W (hb:Below w.heap.size w W)=>Bd A1 B1 _ _ c1 d1 _ _ W (S1.below (by decide) hb) (T1.below (by decide) hb) s1 t1
 have q2:=fun W (hb:Below w.heap.size w W)=>Bc A2 B2 _ _ c2 d2 _ _ W (S2.below (by decide) hb) (T2.below (by decide) hb) s2 t2
 have q3:=fun W (hb:Below w.heap.size w W)=>Bd A3 B3 _ _ c3 d3 _ _ W (S3.below (by decide) hb) (T3.below (by decide) hb) s3 t3
 have q4:=fun W (hb:Below w.heap.size w W)=>Bc A4 B4 _ _ c4 d4 _ _ W (S4.below (by decide) hb) (T4.below (by decide) hb) s4 t4
 clear S1 S2 S3 S4 T1 T2 T3 T4 s1 s2 s3 s4 t1 t2 t3 t4;generalize it.id=fa0 at*;generalize iu.id=fb0 at*;generalize it.bj=fa1 at*;generalize iu.bj=fb1 at*;generalize it.kind=fa2 at*;generalize iu.kind=fb2 at*;generalize it.aW=fa3 at*;generalize iu.aW=fb3 at*;generalize it.opts.length=fa4 at*;generalize iu.opts.length=fb4 at*;generalize it.cA.length=fa5 at*;generalize iu.cA.length=fb5 at*;generalize it.value=fa6 at*;generalize iu.value=fb6 at*;generalize it.de=fa7 at*;generalize iu.de=fb7 at*;generalize it.texts.length=fa8 at*;generalize iu.texts.length=fb8 at*;generalize it.aP=fa9 at*;generalize iu.aP=fb9 at*;generalize it.code=acM at*;generalize iu.code=acT at*;generalize it.bz=acN at*;generalize iu.bz=acU at*;generalize it.bB=acO at*;generalize iu.bB=acV at*;generalize it.words=acP at*;generalize iu.words=acW at*;generalize it.ay=acQ at*;generalize iu.ay=acX at*;generalize it.af.length=acR at*;generalize iu.af.length=acY at*;generalize it.aH=acS at*;generalize iu.aH=acZ at*
 go_enter func142,ntmps142
 have aL:=trivial
 go_wp2_with (first
  |(clear aJ;(with_reducible refine ao (C:=D) ?_ ?_);rfl;intro x2 g2 cW R2 aF;have jz:=h_ R1 cW;have fP:=jq BB cW;replace R1:=R1.keep aF;replace BB:=az BB aF;clear cV bJ aI eo aK bP eQ fO bK qR ye nv ny nz nB bO kL;have cV:=ae R1 C0;have bJ:=ae R1 C1;have aI:=ae R1 C2;have eo:=ae R1 C3;have aK:=ae R1 C4;have bP:=ae R1 C5;have eQ:=ae R1 C6;have fO:=ae R1 C7;have bK:=ae R1 C8;have qR:=ae R1 C9;have ye:=ae R1 SI;have nv:=ae R1 s';have ny:=ae R1 tc;have nz:=ae R1 td;have nB:=ae R1 te;have bO:=ae R1 jt;have kL:=ae R1 rX;have bT:=ae R2 D0;have mX:=ae R2 D1;have qS:=ae R2 D2;have mY:=ae R2 D3;have fB:=ae R2 D4;have z_:=ae R2 D5;have aeD:=ae R2 D6;have aeE:=ae R2 D7;have aeF:=ae R2 D8;have aeG:=ae R2 D9;have aeo:=ae R2 D10;have aep:=ae R2 D11;have aeq:=ae R2 D12;have aer:=ae R2 D13;have aes:=ae R2 D14;have aet:=ae R2 D15;have aeu:=ae R2 D16;clear aF cW;have bC:=trivial)
  |(clear aL;(with_reducible refine ao (C:=C) ?_ ?_);rfl;intro x1 g1 aR R1 aw;have eV:=Nat.le_of_eq aR;have BB:=aw;have cV:=ae R1 C0;have bJ:=ae R1 C1;have aI:=ae R1 C2;have eo:=ae R1 C3;have aK:=ae R1 C4;have bP:=ae R1 C5;have eQ:=ae R1 C6;have fO:=ae R1 C7;have bK:=ae R1 C8;have qR:=ae R1 C9;have ye:=ae R1 SI;have nv:=ae R1 s';have ny:=ae R1 tc;have nz:=ae R1 td;have nB:=ae R1 te;have bO:=ae R1 jt;have kL:=ae R1 rX;clear aw aR;have aJ:=trivial))
 try clear bC
 have rW:=R1.lt;have NC:=R2.lt
 go_cut [5] (fun s0 wx=>∃(g:Nat) (bs:List Bool),s0=.pointer (some ⟨g,0,none⟩)∧bs.length=17∧Row wx g 271 (bs.map Value.bool)∧w.heap.size≤g∧Below w.heap.size w wx)
 case first=>
  have bQ:∀p∈([
    (fun v _=>v=.pointer (some ⟨g1,0,none⟩)),
    (fun v _=>v=(.int .i64 fa0)),
    (fun v _=>v=.pointer (some ⟨g2,0,none⟩)),
    (fun v _=>v=(.int .i64 fb0)),
    (fun v _=>∃b:Bool,v=.bool b),
    (fun v _=>v=.pointer (some ⟨g1,1,none⟩)),
    (fun v _=>v=(.int .i64 fa1)),
    (fun v _=>v=.pointer (some ⟨g2,1,none⟩)),
    (fun v _=>v=(.int .i64 fb1)),
    (fun v _=>∃b:Bool,v=.bool b),
    (fun v _=>v=.pointer (some ⟨g1,2,none⟩)),
    (fun v _=>v=(.int .i64 fa2)),
    (fun v _=>v=.pointer (some ⟨g2,2,none⟩)),
    (fun v _=>v=(.int .i64 fb2)),
    (fun v _=>∃b:Bool,v=.bool b),
    (fun v _=>v=.pointer (some ⟨g1,3,none⟩)),
    (fun v _=>v=(.string fa3)),
    (fun v _=>v=.pointer (some ⟨g2,3,none⟩)),
    (fun v _=>v=(.string fb3)),
    (fun v _=>∃b:Bool,v=.bool b),
    (fun v _=>v=.pointer (some ⟨g1,4,none⟩)),
    (fun v _=>v=(.slice A1 fa4 c1)),
    (fun v _=>v=.pointer (some ⟨g2,4,none⟩)),
    (fun v _=>v=(.slice B1 fb4 d1)),
    (fun v _=>∃b:Bool,v=.bool b),
    (fun v _=>v=.pointer (some ⟨g1,5,none⟩)),
    (fun v _=>v=(.slice A2 fa5 c2)),
    (fun v _=>v=.pointer (some ⟨g2,5,none⟩)),
    (fun v _=>v=(.slice B2 fb5 d2)),
    (fun v _=>∃b:Bool,v=.bool b),
    (fun v _=>v=.pointer (some ⟨g1,6,none⟩)),
    (fun v _=>v=(.int .i64 fa6)),
    (fun v _=>v=.pointer (some ⟨g2,6,none⟩)),
    (fun v _=>v=(.int .i64 fb6)),
    (fun v _=>∃b:Bool,v=.bool b),
    (fun v _=>v=.pointer (some ⟨g1,7,none⟩)),
    (fun v _=>v=(.int .i64 fa7)),
    (fun v _=>v=.pointer (some ⟨g2,7,none⟩)),
    (fun v _=>v=(.int .i64 fb7)),
    (fun v _=>∃b:Bool,v=.bool b),
    (fun v _=>v=.pointer (some ⟨g1,8,none⟩)),
    (fun v _=>v=(.slice A3 fa8 c3)),
    (fun v _=>v=.pointer (some ⟨g2,8,none⟩)),
    (fun v _=>v=(.slice B3 fb8 d3)),
    (fun v _=>∃b:Bool,v=.bool b),
    (fun v _=>v=.pointer (some ⟨g1,9,none⟩)),
    (fun v _=>v=(.int .i64 fa9)),
    (fun v _=>v=.pointer (some ⟨g2,9,none⟩)),
    (fun v _=>v=(.int .i64 fb9)),
    (fun v _=>∃b:Bool,v=.bool b),
    (fun v _=>v=.pointer (some ⟨g1,10,none⟩)),
    (fun v _=>v=(.string acM)),
    (fun v _=>v=.pointer (some ⟨g2,10,none⟩)),
    (fun v _=>v=(.string acT)),
    (fun v _=>∃b:Bool,v=.bool b),
    (fun v _=>v=.pointer (some ⟨g1,11,none⟩)),
    (fun v _=>v=(.int .i64 acN)),
    (fun v _=>v=.pointer (some ⟨g2,11,none⟩)),
    (fun v _=>v=(.int .i64 acU)),
    (fun v _=>∃b:Bool,v=.bool b),
    (fun v _=>v=.pointer (some ⟨g1,12,none⟩)),
    (fun v _=>v=(.int .i64 acO)),
    (fun v _=>v=.pointer (some ⟨g2,12,none⟩)),
    (fun v _=>v=(.int .i64 acV)),
    (fun v _=>∃b:Bool,v=.bool b),
    (fun v _=>v=.pointer (some ⟨g1,13,none⟩)),
    (fun v _=>v=(.int .i64 acP)),
    (fun v _=>v=.pointer (some ⟨g2,13,none⟩)),
    (fun v _=>v=(.int .i64 acW)),
    (fun v _=>∃b:Bool,v=.bool b),
    (fun v _=>v=.pointer (some ⟨g1,14,none⟩)),
    (fun v _=>v=(.int .i64 acQ)),
    (fun v _=>v=.pointer (some ⟨g2,14,none⟩)),
    (fun v _=>v=(.int .i64 acX)),
    (fun v _=>∃b:Bool,v=.bool b),
    (fun v _=>v=.pointer (some ⟨g1,15,none⟩)),
    (fun v _=>v=(.slice A4 acR c4)),
    (fun v _=>v=.pointer (some ⟨g2,15,none⟩)),
    (fun v _=>v=(.slice B4 acY d4)),
    (fun v _=>∃b:Bool,v=.bool b),
    (fun v _=>v=.pointer (some ⟨g1,16,none⟩)),
    (fun v _=>v=(.int .i64 acS)),
    (fun v _=>v=.pointer (some ⟨g2,16,none⟩)),
    (fun v _=>v=(.int .i64 acZ)),
    (fun v _=>∃b:Bool,v=.bool b),
    (fun v _=>∃bs:List Bool,bs.length=17∧v=.agg (bs.map Value.bool).toArray),
    (fun v wx=>∃g,v=.pointer (some ⟨g,0,none⟩)∧x2.heap.size≤g∧Row wx g 271 (List.replicate 17 (.bool false)))]:List (Value→World→Prop)),∀v w w',p v w→Below w.heap.size w w'→p v w':=by
   refine List.forall_mem_cons.2 ⟨fun _ _ _ h _=>h,List.forall_mem_cons.2 ⟨fun _ _ _ h _=>h,List.forall_mem_cons.2 ⟨fun _ _ _ h _=>h,List.forall_mem_cons.2 ⟨fun _ _ _ h _=>h,List.forall_mem_cons.2 ⟨fun _ _ _ h _=>h,List.forall_mem_cons.2 ⟨fun _ _ _ h _=>h,List.forall_mem_cons.2 ⟨fun _ _ _ h _=>h,List.forall_mem_cons.2 ⟨fun _ _ _ h _=>h,List.forall_mem_cons.2 ⟨fun _ _ _ h _=>h,List.forall_mem_cons.2 ⟨fun _ _ _ h _=>h,List.forall_mem_cons.2 ⟨fun _ _ _ h _=>h,List.forall_mem_cons.2 ⟨fun _ _ _ h _=>h,List.forall_mem_cons.2 ⟨fun _ _ _ h _=>h,List.forall_mem_cons.2 ⟨fun _ _ _ h _=>h,List.forall_mem_cons.2 ⟨fun _ _ _ h _=>h,List.forall_mem_cons.2 ⟨fun _ _ _ h _=>h,List.forall_mem_cons.2 ⟨fun _ _ _ h _=>h,List.forall_mem_cons.2 ⟨fun _ _ _ h _=>h,List.forall_mem_cons.2 ⟨fun _ _ _ h _=>h,List.forall_mem_cons.2 ⟨fun _ _ _ h _=>h,List.forall_mem_cons.2 ⟨fun _ _ _ h _=>h,List.forall_mem_cons.2 ⟨fun _ _ _ h _=>h,List.forall_mem_cons.2 ⟨fun _ _ _ h _=>h,List.forall_mem_cons.2 ⟨fun _ _ _ h _=>h,List.forall_mem_cons.2 ⟨fun _ _ _ h _=>h,List.forall_mem_cons.2 ⟨fun _ _ _ h _=>h,List.forall_mem_cons.2 ⟨fun _ _ _ h _=>h,List.forall_mem_cons.2 ⟨fun _ _ _ h _=>h,List.forall_mem_cons.2 ⟨fun _ _ _ h _=>h,List.forall_mem_cons.2 ⟨fun _ _ _ h _=>h,List.forall_mem_cons.2 ⟨fun _ _ _ h _=>h,List.forall_mem_cons.2 ⟨fun _ _ _ h _=>h,List.forall_mem_cons.2 ⟨fun _ _ _ h _=>h,List.forall_mem_cons.2 ⟨fun _ _ _ h _=>h,List.forall_mem_cons.2 ⟨fun _ _ _ h _=>h,List.forall_mem_cons.2 ⟨fun _ _ _ h _=>h,List.forall_mem_cons.2 ⟨fun _ _ _ h _=>h,List.forall_mem_cons.2 ⟨fun _ _ _ h _=>h,List.forall_mem_cons.2 ⟨fun _ _ _ h _=>h,List.forall_mem_cons.2 ⟨fun _ _ _ h _=>h,List.forall_mem_cons.2 ⟨fun _ _ _ h _=>h,List.forall_mem_cons.2 ⟨fun _ _ _ h _=>h,List.forall_mem_cons.2 ⟨fun _ _ _ h _=>h,List.forall_mem_cons.2 ⟨fun _ _ _ h _=>h,List.forall_mem_cons.2 ⟨fun _ _ _ h _=>h,List.forall_mem_cons.2 ⟨fun _ _ _ h _=>h,List.forall_mem_cons.2 ⟨fun _ _ _ h _=>h,List.forall_mem_cons.2 ⟨fun _ _ _ h _=>h,List.forall_mem_cons.2 ⟨fun _ _ _ h _=>h,List.forall_mem_cons.2 ⟨fun _ _ _ h _=>h,List.forall_mem_cons.2 ⟨fun _ _ _ h _=>h,List.forall_mem_cons.2 ⟨fun _ _ _ h _=>h,List.forall_mem_cons.2 ⟨fun _ _ _ h _=>h,List.forall_mem_cons.2 ⟨fun _ _ _ h _=>h,List.forall_mem_cons.2 ⟨fun _ _ _ h _=>h,List.forall_mem_cons.2 ⟨fun _ _ _ h _=>h,List.forall_mem_cons.2 ⟨fun _ _ _ h _=>h,List.forall_mem_cons.2 ⟨fun _ _ _ h _=>h,List.forall_mem_cons.2 ⟨fun _ _ _ h _=>h,List.forall_mem_cons.2 ⟨fun _ _ _ h _=>h,List.forall_mem_cons.2 ⟨fun _ _ _ h _=>h,List.forall_mem_cons.2 ⟨fun _ _ _ h _=>h,List.forall_mem_cons.2 ⟨fun _ _ _ h _=>h,List.forall_mem_cons.2 ⟨fun _ _ _ h _=>h,List.forall_mem_cons.2 ⟨fun _ _ _ h _=>h,List.forall_mem_cons.2 ⟨fun _ _ _ h _=>h,List.forall_mem_cons.2 ⟨fun _ _ _ h _=>h,List.forall_mem_cons.2 ⟨fun _ _ _ h _=>h,List.forall_mem_cons.2 ⟨fun _ _ _ h _=>h,List.forall_mem_cons.2 ⟨fun _ _ _ h _=>h,List.forall_mem_cons.2 ⟨fun _ _ _ h _=>h,List.forall_mem_cons.2 ⟨fun _ _ _ h _=>h,List.forall_mem_cons.2 ⟨fun _ _ _ h _=>h,List.forall_mem_cons.2 ⟨fun _ _ _ h _=>h,List.forall_mem_cons.2 ⟨fun _ _ _ h _=>h,List.forall_mem_cons.2 ⟨fun _ _ _ h _=>h,List.forall_mem_cons.2 ⟨fun _ _ _ h _=>h,List.forall_mem_cons.2 ⟨fun _ _ _ h _=>h,List.forall_mem_cons.2 ⟨fun _ _ _ h _=>h,List.forall_mem_cons.2 ⟨fun _ _ _ h _=>h,List.forall_mem_cons.2 ⟨fun _ _ _ h _=>h,List.forall_mem_cons.2 ⟨fun _ _ _ h _=>h,List.forall_mem_cons.2 ⟨fun _ _ _ h _=>h,List.forall_mem_cons.2 ⟨fun _ _ _ h _=>h,List.forall_mem_cons.2 ⟨fun _ _ _ h _=>h,List.forall_mem_cons.2 ⟨fun _ _ _ h _=>h,List.forall_mem_cons.2 ⟨fun _ _ _ ⟨g,e,hl,hr⟩ hb=>⟨g,e,hl,hr.keep hb⟩,(fun _ h=>by cases h)⟩⟩⟩⟩⟩⟩⟩⟩⟩⟩⟩⟩⟩⟩⟩⟩⟩⟩⟩⟩⟩⟩⟩⟩⟩⟩⟩⟩⟩⟩⟩⟩⟩⟩⟩⟩⟩⟩⟩⟩⟩⟩⟩⟩⟩⟩⟩⟩⟩⟩⟩⟩⟩⟩⟩⟩⟩⟩⟩⟩⟩⟩⟩⟩⟩⟩⟩⟩⟩⟩⟩⟩⟩⟩⟩⟩⟩⟩⟩⟩⟩⟩⟩⟩⟩⟩⟩
  refine cT (by kernel_rfl) 87 (fun _=>none) (fun wx=>Row wx g1 47 C∧Row wx g2 47 D∧Below w.heap.size w wx∧x2.heap.size≤wx.heap.size) (fun _ w w'=>Below w.heap.size w w') _ (fun j v w w' i _ h hR=>fC bQ (fun _ _ _ _ _=>trivial) i v w w' h hR) (by kernel_rfl) (by kernel_rfl) (fun _ _ h=>by cases h) ⟨R1.drew,R2.drew,BB.drew,Nat.le_refl _⟩ ?_ ?_
  ·clear bQ;refine⟨fun _ a wx hG hr hb K hK=>?_,?_⟩
   ·have e:=aq (hb 2);rw[if_pos (by rfl)];unfold Oper.wp execOp
    go_simp
    exact hK _ _ rfl hG (Below.refl _ _)
   refine⟨fun _ a wx hG hr hb K hK=>?_,?_⟩
   ·have e:=aq (hr 0 9);have c:=(hG.1.cell 0).trans C0;rw[if_pos (by rfl)];unfold Oper.wp execOp
    go_simp
    exact hK _ _ rfl hG (Below.refl _ _)
   refine⟨fun _ a wx hG hr hb K hK=>?_,?_⟩
   ·have e:=aq (hb 3);rw[if_pos (by rfl)];unfold Oper.wp execOp
    go_simp
    exact hK _ _ rfl hG (Below.refl _ _)
   refine⟨fun _ a wx hG hr hb K hK=>?_,?_⟩
   ·have e:=aq (hr 2 11);have c:=(hG.2.1.cell 0).trans D0;rw[if_pos (by rfl)];unfold Oper.wp execOp
    go_simp
    exact hK _ _ rfl hG (Below.refl _ _)
   refine⟨fun _ a wx hG hr hb K hK=>?_,?_⟩
   ·have e1:=aq (hr 1 10);have e2:=aq (hr 3 12);rw[if_pos (by rfl)];unfold Oper.wp execOp
    go_simp
    exact hK _ _ ⟨_,rfl⟩ hG (Below.refl _ _)
   refine⟨fun _ a wx hG hr hb K hK=>?_,?_⟩
   ·have e:=aq (hb 2);rw[if_pos (by rfl)];unfold Oper.wp execOp
    go_simp
    exact hK _ _ rfl hG (Below.refl _ _)
   refine⟨fun _ a wx hG hr hb K hK=>?_,?_⟩
   ·have e:=aq (hr 5 14);have c:=(hG.1.cell 1).trans C1;rw[if_pos (by rfl)];unfold Oper.wp execOp
    go_simp
    exact hK _ _ rfl hG (Below.refl _ _)
   refine⟨fun _ a wx hG hr hb K hK=>?_,?_⟩
   ·have e:=aq (hb 3);rw[if_pos (by rfl)];unfold Oper.wp execOp
    go_simp
    exact hK _ _ rfl hG (Below.refl _ _)
   refine⟨fun _ a wx hG hr hb K hK=>?_,?_⟩
   ·have e:=aq (hr 7 16);have c:=(hG.2.1.cell 1).trans D1;rw[if_pos (by rfl)];unfold Oper.wp execOp
    go_simp
    exact hK _ _ rfl hG (Below.refl _ _)
   refine⟨fun _ a wx hG hr hb K hK=>?_,?_⟩
   ·have e1:=aq (hr 6 15);have e2:=aq (hr 8 17);rw[if_pos (by rfl)];unfold Oper.wp execOp
    go_simp
    exact hK _ _ ⟨_,rfl⟩ hG (Below.refl _ _)
   refine⟨fun _ a wx hG hr hb K hK=>?_,?_⟩
   ·have e:=aq (hb 2);rw[if_pos (by rfl)];unfold Oper.wp execOp
    go_simp
    exact hK _ _ rfl hG (Below.refl _ _)
   refine⟨fun _ a wx hG hr hb K hK=>?_,?_⟩
   ·have e:=aq (hr 10 19);have c:=(hG.1.cell 2).trans C2;rw[if_pos (by rfl)];unfold Oper.wp execOp
    go_simp
    exact hK _ _ rfl hG (Below.refl _ _)
   refine⟨fun _ a wx hG hr hb K hK=>?_,?_⟩
   ·have e:=aq (hb 3);rw[if_pos (by rfl)];unfold Oper.wp execOp
    go_simp
    exact hK _ _ rfl hG (Below.refl _ _)
   refine⟨fun _ a wx hG hr hb K hK=>?_,?_⟩
   ·have e:=aq (hr 12 21);have c:=(hG.2.1.cell 2).trans D2;rw[if_pos (by rfl)];unfold Oper.wp execOp
    go_simp
    exact hK _ _ rfl hG (Below.refl _ _)
   refine⟨fun _ a wx hG hr hb K hK=>?_,?_⟩
   ·have e1:=aq (hr 11 20);have e2:=aq (hr 13 22);rw[if_pos (by rfl)];unfold Oper.wp execOp
    go_simp
    exact hK _ _ ⟨_,rfl⟩ hG (Below.refl _ _)
   refine⟨fun _ a wx hG hr hb K hK=>?_,?_⟩
   ·have e:=aq (hb 2);rw[if_pos (by rfl)];unfold Oper.wp execOp
    go_simp
    exact hK _ _ rfl hG (Below.refl _ _)
   refine⟨fun _ a wx hG hr hb K hK=>?_,?_⟩
   ·have e:=aq (hr 15 24);have c:=(hG.1.cell 3).trans C3;rw[if_pos (by rfl)];unfold Oper.wp execOp
    go_simp
    exact hK _ _ rfl hG (Below.refl _ _)
   refine⟨fun _ a wx hG hr hb K hK=>?_,?_⟩
   ·have e:=aq (hb 3);rw[if_pos (by rfl)];unfold Oper.wp execOp
    go_simp
    exact hK _ _ rfl hG (Below.refl _ _)
   refine⟨fun _ a wx hG hr hb K hK=>?_,?_⟩
   ·have e:=aq (hr 17 26);have c:=(hG.2.1.cell 3).trans D3;rw[if_pos (by rfl)];unfold Oper.wp execOp
    go_simp
    exact hK _ _ rfl hG (Below.refl _ _)
   refine⟨fun _ a wx hG hr hb K hK=>?_,?_⟩
   ·have e1:=aq (hr 16 25);have e2:=aq (hr 18 27);rw[if_pos (by rfl)];unfold Oper.wp execOp
    go_simp
    exact hK _ _ ⟨_,rfl⟩ hG (Below.refl _ _)
   refine⟨fun _ a wx hG hr hb K hK=>?_,?_⟩
   ·have e:=aq (hb 2);rw[if_pos (by rfl)];unfold Oper.wp execOp
    go_simp
    exact hK _ _ rfl hG (Below.refl _ _)
   refine⟨fun _ a wx hG hr hb K hK=>?_,?_⟩
   ·have e:=aq (hr 20 29);have c:=(hG.1.cell 4).trans C4;rw[if_pos (by rfl)];unfold Oper.wp execOp
    go_simp
    exact hK _ _ rfl hG (Below.refl _ _)
   refine⟨fun _ a wx hG hr hb K hK=>?_,?_⟩
   ·have e:=aq (hb 3);rw[if_pos (by rfl)];unfold Oper.wp execOp
    go_simp
    exact hK _ _ rfl hG (Below.refl _ _)
   refine⟨fun _ a wx hG hr hb K hK=>?_,?_⟩
   ·have e:=aq (hr 22 31);have c:=(hG.2.1.cell 4).trans D4;rw[if_pos (by rfl)];unfold Oper.wp execOp
    go_simp
    exact hK _ _ rfl hG (Below.refl _ _)
   refine⟨fun _ a wx hG hr hb K hK=>?_,?_⟩
   ·have e1:=aq (hr 21 30);have e2:=aq (hr 23 32);rw[if_pos (by rfl)];unfold Oper.wp execOp
    go_simp
    with_reducible refine(q1 _ hG.2.2.1).mono ?_
    exact Db
   refine⟨fun _ a wx hG hr hb K hK=>?_,?_⟩
   ·have e:=aq (hb 2);rw[if_pos (by rfl)];unfold Oper.wp execOp
    go_simp
    exact hK _ _ rfl hG (Below.refl _ _)
   refine⟨fun _ a wx hG hr hb K hK=>?_,?_⟩
   ·have e:=aq (hr 25 34);have c:=(hG.1.cell 5).trans C5;rw[if_pos (by rfl)];unfold Oper.wp execOp
    go_simp
    exact hK _ _ rfl hG (Below.refl _ _)
   refine⟨fun _ a wx hG hr hb K hK=>?_,?_⟩
   ·have e:=aq (hb 3);rw[if_pos (by rfl)];unfold Oper.wp execOp
    go_simp
    exact hK _ _ rfl hG (Below.refl _ _)
   refine⟨fun _ a wx hG hr hb K hK=>?_,?_⟩
   ·have e:=aq (hr 27 36);have c:=(hG.2.1.cell 5).trans D5;rw[if_pos (by rfl)];unfold Oper.wp execOp
    go_simp
    exact hK _ _ rfl hG (Below.refl _ _)
   refine⟨fun _ a wx hG hr hb K hK=>?_,?_⟩
   ·have e1:=aq (hr 26 35);have e2:=aq (hr 28 37);rw[if_pos (by rfl)];unfold Oper.wp execOp
    go_simp
    with_reducible refine(q2 _ hG.2.2.1).mono ?_
    exact Db
   refine⟨fun _ a wx hG hr hb K hK=>?_,?_⟩
   ·have e:=aq (hb 2);rw[if_pos (by rfl)];unfold Oper.wp execOp
    go_simp
    exact hK _ _ rfl hG (Below.refl _ _)
   refine⟨fun _ a wx hG hr hb K hK=>?_,?_⟩
   ·have e:=aq (hr 30 39);have c:=(hG.1.cell 6).trans C6;rw[if_pos (by rfl)];unfold Oper.wp execOp
    go_simp
    exact hK _ _ rfl hG (Below.refl _ _)
   refine⟨fun _ a wx hG hr hb K hK=>?_,?_⟩
   ·have e:=aq (hb 3);rw[if_pos (by rfl)];unfold Oper.wp execOp
    go_simp
    exact hK _ _ rfl hG (Below.refl _ _)
   refine⟨fun _ a wx hG hr hb K hK=>?_,?_⟩
   ·have e:=aq (hr 32 41);have c:=(hG.2.1.cell 6).trans D6;rw[if_pos (by rfl)];unfold Oper.wp execOp
    go_simp
    exact hK _ _ rfl hG (Below.refl _ _)
   refine⟨fun _ a wx hG hr hb K hK=>?_,?_⟩
   ·have e1:=aq (hr 31 40);have e2:=aq (hr 33 42);rw[if_pos (by rfl)];unfold Oper.wp execOp
    go_simp
    exact hK _ _ ⟨_,rfl⟩ hG (Below.refl _ _)
   refine⟨fun _ a wx hG hr hb K hK=>?_,?_⟩
   ·have e:=aq (hb 2);rw[if_pos (by rfl)];unfold Oper.wp execOp
    go_simp
    exact hK _ _ rfl hG (Below.refl _ _)
   refine⟨fun _ a wx hG hr hb K hK=>?_,?_⟩
   ·have e:=aq (hr 35 44);have c:=(hG.1.cell 7).trans C7;rw[if_pos (by rfl)];unfold Oper.wp execOp
    go_simp
    exact hK _ _ rfl hG (Below.refl _ _)
   refine⟨fun _ a wx hG hr hb K hK=>?_,?_⟩
   ·have e:=aq (hb 3);rw[if_pos (by rfl)];unfold Oper.wp execOp
    go_simp
    exact hK _ _ rfl hG (Below.refl _ _)
   refine⟨fun _ a wx hG hr hb K hK=>?_,?_⟩
   ·have e:=aq (hr 37 46);have c:=(hG.2.1.cell 7).trans D7;rw[if_pos (by rfl)];unfold Oper.wp execOp
    go_simp
    exact hK _ _ rfl hG (Below.refl _ _)
   refine⟨fun _ a wx hG hr hb K hK=>?_,?_⟩
   ·have e1:=aq (hr 36 45);have e2:=aq (hr 38 47);rw[if_pos (by rfl)];unfold Oper.wp execOp
    go_simp
    exact hK _ _ ⟨_,rfl⟩ hG (Below.refl _ _)
   refine⟨fun _ a wx hG hr hb K hK=>?_,?_⟩
   ·have e:=aq (hb 2);rw[if_pos (by rfl)];unfold Oper.wp execOp
    go_simp
    exact hK _ _ rfl hG (Below.refl _ _)
   refine⟨fun _ a wx hG hr hb K hK=>?_,?_⟩
   ·have e:=aq (hr 40 49);have c:=(hG.1.cell 8).trans C8;rw[if_pos (by rfl)];unfold Oper.wp execOp
    go_simp
    exact hK _ _ rfl hG (Below.refl _ _)
   refine⟨fun _ a wx hG hr hb K hK=>?_,?_⟩
   ·have e:=aq (hb 3);rw[if_pos (by rfl)];unfold Oper.wp execOp
    go_simp
    exact hK _ _ rfl hG (Below.refl _ _)
   refine⟨fun _ a wx hG hr hb K hK=>?_,?_⟩
   ·have e:=aq (hr 42 51);have c:=(hG.2.1.cell 8).trans D8;rw[if_pos (by rfl)];unfold Oper.wp execOp
    go_simp
    exact hK _ _ rfl hG (Below.refl _ _)
   refine⟨fun _ a wx hG hr hb K hK=>?_,?_⟩
   ·have e1:=aq (hr 41 50);have e2:=aq (hr 43 52);rw[if_pos (by rfl)];unfold Oper.wp execOp
    go_simp
    with_reducible refine(q3 _ hG.2.2.1).mono ?_
    exact Db
   refine⟨fun _ a wx hG hr hb K hK=>?_,?_⟩
   ·have e:=aq (hb 2);rw[if_pos (by rfl)];unfold Oper.wp execOp
    go_simp
    exact hK _ _ rfl hG (Below.refl _ _)
   refine⟨fun _ a wx hG hr hb K hK=>?_,?_⟩
   ·have e:=aq (hr 45 54);have c:=(hG.1.cell 9).trans C9;rw[if_pos (by rfl)];unfold Oper.wp execOp
    go_simp
    exact hK _ _ rfl hG (Below.refl _ _)
   refine⟨fun _ a wx hG hr hb K hK=>?_,?_⟩
   ·have e:=aq (hb 3);rw[if_pos (by rfl)];unfold Oper.wp execOp
    go_simp
    exact hK _ _ rfl hG (Below.refl _ _)
   refine⟨fun _ a wx hG hr hb K hK=>?_,?_⟩
   ·have e:=aq (hr 47 56);have c:=(hG.2.1.cell 9).trans D9;rw[if_pos (by rfl)];unfold Oper.wp execOp
    go_simp
    exact hK _ _ rfl hG (Below.refl _ _)
   refine⟨fun _ a wx hG hr hb K hK=>?_,?_⟩
   ·have e1:=aq (hr 46 55);have e2:=aq (hr 48 57);rw[if_pos (by rfl)];unfold Oper.wp execOp
    go_simp
    exact hK _ _ ⟨_,rfl⟩ hG (Below.refl _ _)
   refine⟨fun _ a wx hG hr hb K hK=>?_,?_⟩
   ·have e:=aq (hb 2);rw[if_pos (by rfl)];unfold Oper.wp execOp
    go_simp
    exact hK _ _ rfl hG (Below.refl _ _)
   refine⟨fun _ a wx hG hr hb K hK=>?_,?_⟩
   ·have e:=aq (hr 50 59);have c:=(hG.1.cell 10).trans SI;rw[if_pos (by rfl)];unfold Oper.wp execOp
    go_simp
    exact hK _ _ rfl hG (Below.refl _ _)
   refine⟨fun _ a wx hG hr hb K hK=>?_,?_⟩
   ·have e:=aq (hb 3);rw[if_pos (by rfl)];unfold Oper.wp execOp
    go_simp
    exact hK _ _ rfl hG (Below.refl _ _)
   refine⟨fun _ a wx hG hr hb K hK=>?_,?_⟩
   ·have e:=aq (hr 52 61);have c:=(hG.2.1.cell 10).trans D10;rw[if_pos (by rfl)];unfold Oper.wp execOp
    go_simp
    exact hK _ _ rfl hG (Below.refl _ _)
   refine⟨fun _ a wx hG hr hb K hK=>?_,?_⟩
   ·have e1:=aq (hr 51 60);have e2:=aq (hr 53 62);rw[if_pos (by rfl)];unfold Oper.wp execOp
    go_simp
    exact hK _ _ ⟨_,rfl⟩ hG (Below.refl _ _)
   refine⟨fun _ a wx hG hr hb K hK=>?_,?_⟩
   ·have e:=aq (hb 2);rw[if_pos (by rfl)];unfold Oper.wp execOp
    go_simp
    exact hK _ _ rfl hG (Below.refl _ _)
   refine⟨fun _ a wx hG hr hb K hK=>?_,?_⟩
   ·have e:=aq (hr 55 64);have c:=(hG.1.cell 11).trans s';rw[if_pos (by rfl)];unfold Oper.wp execOp
    go_simp
    exact hK _ _ rfl hG (Below.refl _ _)
   refine⟨fun _ a wx hG hr hb K hK=>?_,?_⟩
   ·have e:=aq (hb 3);rw[if_pos (by rfl)];unfold Oper.wp execOp
    go_simp
    exact hK _ _ rfl hG (Below.refl _ _)
   refine⟨fun _ a wx hG hr hb K hK=>?_,?_⟩
   ·have e:=aq (hr 57 66);have c:=(hG.2.1.cell 11).trans D11;rw[if_pos (by rfl)];unfold Oper.wp execOp
    go_simp
    exact hK _ _ rfl hG (Below.refl _ _)
   refine⟨fun _ a wx hG hr hb K hK=>?_,?_⟩
   ·have e1:=aq (hr 56 65);have e2:=aq (hr 58 67);rw[if_pos (by rfl)];unfold Oper.wp execOp
    go_simp
    exact hK _ _ ⟨_,rfl⟩ hG (Below.refl _ _)
   refine⟨fun _ a wx hG hr hb K hK=>?_,?_⟩
   ·have e:=aq (hb 2);rw[if_pos (by rfl)];unfold Oper.wp execOp
    go_simp
    exact hK _ _ rfl hG (Below.refl _ _)
   refine⟨fun _ a wx hG hr hb K hK=>?_,?_⟩
   ·have e:=aq (hr 60 69);have c:=(hG.1.cell 12).trans tc;rw[if_pos (by rfl)];unfold Oper.wp execOp
    go_simp
    exact hK _ _ rfl hG (Below.refl _ _)
   refine⟨fun _ a wx hG hr hb K hK=>?_,?_⟩
   ·have e:=aq (hb 3);rw[if_pos (by rfl)];unfold Oper.wp execOp
    go_simp
    exact hK _ _ rfl hG (Below.refl _ _)
   refine⟨fun _ a wx hG hr hb K hK=>?_,?_⟩
   ·have e:=aq (hr 62 71);have c:=(hG.2.1.cell 12).trans D12;rw[if_pos (by rfl)];unfold Oper.wp execOp
    go_simp
    exact hK _ _ rfl hG (Below.refl _ _)
   refine⟨fun _ a wx hG hr hb K hK=>?_,?_⟩
   ·have e1:=aq (hr 61 70);have e2:=aq (hr 63 72);rw[if_pos (by rfl)];unfold Oper.wp execOp
    go_simp
    exact hK _ _ ⟨_,rfl⟩ hG (Below.refl _ _)
   refine⟨fun _ a wx hG hr hb K hK=>?_,?_⟩
   ·have e:=aq (hb 2);rw[if_pos (by rfl)];unfold Oper.wp execOp
    go_simp
    exact hK _ _ rfl hG (Below.refl _ _)
   refine⟨fun _ a wx hG hr hb K hK=>?_,?_⟩
   ·have e:=aq (hr 65 74);have c:=(hG.1.cell 13).trans td;rw[if_pos (by rfl)];unfold Oper.wp execOp
    go_simp
    exact hK _ _ rfl hG (Below.refl _ _)
   refine⟨fun _ a wx hG hr hb K hK=>?_,?_⟩
   ·have e:=aq (hb 3);rw[if_pos (by rfl)];unfold Oper.wp execOp
    go_simp
    exact hK _ _ rfl hG (Below.refl _ _)
   refine⟨fun _ a wx hG hr hb K hK=>?_,?_⟩
   ·have e:=aq (hr 67 76);have c:=(hG.2.1.cell 13).trans D13;rw[if_pos (by rfl)];unfold Oper.wp execOp
    go_simp
    exact hK _ _ rfl hG (Below.refl _ _)
   refine⟨fun _ a wx hG hr hb K hK=>?_,?_⟩
   ·have e1:=aq (hr 66 75);have e2:=aq (hr 68 77);rw[if_pos (by rfl)];unfold Oper.wp execOp
    go_simp
    exact hK _ _ ⟨_,rfl⟩ hG (Below.refl _ _)
   refine⟨fun _ a wx hG hr hb K hK=>?_,?_⟩
   ·have e:=aq (hb 2);rw[if_pos (by rfl)];unfold Oper.wp execOp
    go_simp
    exact hK _ _ rfl hG (Below.refl _ _)
   refine⟨fun _ a wx hG hr hb K hK=>?_,?_⟩
   ·have e:=aq (hr 70 79);have c:=(hG.1.cell 14).trans te;rw[if_pos (by rfl)];unfold Oper.wp execOp
    go_simp
    exact hK _ _ rfl hG (Below.refl _ _)
   refine⟨fun _ a wx hG hr hb K hK=>?_,?_⟩
   ·have e:=aq (hb 3);rw[if_pos (by rfl)];unfold Oper.wp execOp
    go_simp
    exact hK _ _ rfl hG (Below.refl _ _)
   refine⟨fun _ a wx hG hr hb K hK=>?_,?_⟩
   ·have e:=aq (hr 72 81);have c:=(hG.2.1.cell 14).trans D14;rw[if_pos (by rfl)];unfold Oper.wp execOp
    go_simp
    exact hK _ _ rfl hG (Below.refl _ _)
   refine⟨fun _ a wx hG hr hb K hK=>?_,?_⟩
   ·have e1:=aq (hr 71 80);have e2:=aq (hr 73 82);rw[if_pos (by rfl)];unfold Oper.wp execOp
    go_simp
    exact hK _ _ ⟨_,rfl⟩ hG (Below.refl _ _)
   refine⟨fun _ a wx hG hr hb K hK=>?_,?_⟩
   ·have e:=aq (hb 2);rw[if_pos (by rfl)];unfold Oper.wp execOp
    go_simp
    exact hK _ _ rfl hG (Below.refl _ _)
   refine⟨fun _ a wx hG hr hb K hK=>?_,?_⟩
   ·have e:=aq (hr 75 84);have c:=(hG.1.cell 15).trans jt;rw[if_pos (by rfl)];unfold Oper.wp execOp
    go_simp
    exact hK _ _ rfl hG (Below.refl _ _)
   refine⟨fun _ a wx hG hr hb K hK=>?_,?_⟩
   ·have e:=aq (hb 3);rw[if_pos (by rfl)];unfold Oper.wp execOp
    go_simp
    exact hK _ _ rfl hG (Below.refl _ _)
   refine⟨fun _ a wx hG hr hb K hK=>?_,?_⟩
   ·have e:=aq (hr 77 86);have c:=(hG.2.1.cell 15).trans D15;rw[if_pos (by rfl)];unfold Oper.wp execOp
    go_simp
    exact hK _ _ rfl hG (Below.refl _ _)
   refine⟨fun _ a wx hG hr hb K hK=>?_,?_⟩
   ·have e1:=aq (hr 76 85);have e2:=aq (hr 78 87);rw[if_pos (by rfl)];unfold Oper.wp execOp
    go_simp
    with_reducible refine(q4 _ hG.2.2.1).mono ?_
    exact Db
   refine⟨fun _ a wx hG hr hb K hK=>?_,?_⟩
   ·have e:=aq (hb 2);rw[if_pos (by rfl)];unfold Oper.wp execOp
    go_simp
    exact hK _ _ rfl hG (Below.refl _ _)
   refine⟨fun _ a wx hG hr hb K hK=>?_,?_⟩
   ·have e:=aq (hr 80 89);have c:=(hG.1.cell 16).trans rX;rw[if_pos (by rfl)];unfold Oper.wp execOp
    go_simp
    exact hK _ _ rfl hG (Below.refl _ _)
   refine⟨fun _ a wx hG hr hb K hK=>?_,?_⟩
   ·have e:=aq (hb 3);rw[if_pos (by rfl)];unfold Oper.wp execOp
    go_simp
    exact hK _ _ rfl hG (Below.refl _ _)
   refine⟨fun _ a wx hG hr hb K hK=>?_,?_⟩
   ·have e:=aq (hr 82 91);have c:=(hG.2.1.cell 16).trans D16;rw[if_pos (by rfl)];unfold Oper.wp execOp
    go_simp
    exact hK _ _ rfl hG (Below.refl _ _)
   refine⟨fun _ a wx hG hr hb K hK=>?_,?_⟩
   ·have e1:=aq (hr 81 90);have e2:=aq (hr 83 92);rw[if_pos (by rfl)];unfold Oper.wp execOp
    go_simp
    exact hK _ _ ⟨_,rfl⟩ hG (Below.refl _ _)
   refine⟨fun _ a wx hG hr hb K hK=>?_,?_⟩
   ·rw[if_pos (by rfl)];unfold Oper.wp execOp;obtain⟨b0,e0⟩:=hr 4 13;rw[bR] at e0;obtain⟨b1,e1⟩:=hr 9 18;rw[bR] at e1;obtain⟨b2,e2⟩:=hr 14 23;rw[bR] at e2;obtain⟨b3,e3⟩:=hr 19 28;rw[bR] at e3;obtain⟨b4,e4⟩:=hr 24 33;rw[bR] at e4;obtain⟨b5,e5⟩:=hr 29 38;rw[bR] at e5;obtain⟨b6,e6⟩:=hr 34 43;rw[bR] at e6;obtain⟨b7,e7⟩:=hr 39 48;rw[bR] at e7;obtain⟨b8,e8⟩:=hr 44 53;rw[bR] at e8;obtain⟨b9,e9⟩:=hr 49 58;rw[bR] at e9;obtain⟨Is,ic⟩:=hr 54 63;rw[bR] at ic;obtain⟨KH,iA⟩:=hr 59 68;rw[bR] at iA;obtain⟨KJ,mM⟩:=hr 64 73;rw[bR] at mM;obtain⟨KL,pO⟩:=hr 69 78;rw[bR] at pO;obtain⟨KM,vW⟩:=hr 74 83;rw[bR] at vW;obtain⟨It,xb⟩:=hr 79 88;rw[bR] at xb;obtain⟨KN,Ai⟩:=hr 84 93;rw[bR] at Ai
    go_simp
    exact hK _ _ ⟨[b0,b1,b2,b3,b4,b5,b6,b7,b8,b9,Is,KH,KJ,KL,KM,It,KN],rfl,rfl⟩ hG (Below.refl _ _)
   refine⟨fun _ a wx hG hr hb K hK=>?_,?_⟩
   ·rw[if_pos (by rfl)];unfold Oper.wp execOp
    go_simp
    exact hK _ _ ⟨_,rfl,hG.2.2.2,Row.new _ _ _⟩ ⟨Row.alloc hG.1 _,Row.alloc hG.2.1 _,al hG.2.2.1 _,Nat.le_trans hG.2.2.2 (by simp)⟩ (ai _ _)
   exact⟨fun h=>absurd h (by decide),trivial⟩
  ·intro v wx o A hA ho hG hV K hK;obtain⟨bs,iw,eb⟩:=hV 85 (by decide) rfl;obtain⟨g,eg,jW,mA⟩:=hV 86 (by decide) rfl;have hA':A=⟨(.agg C.toArray:: .agg D.toArray:: .pointer (some ⟨g1,0,none⟩):: .pointer (some ⟨g2,0,none⟩):: .slice none 0 0::v 86::undef::undef::undef::v 0::v 1::v 2::v 3::v 4::v 5::v 6::v 7::v 8::v 9::v 10::v 11::v 12::v 13::v 14::v 15::v 16::v 17::v 18::v 19::v 20::v 21::v 22::v 23::v 24::v 25::v 26::v 27::v 28::v 29::v 30::v 31::v 32::v 33::v 34::v 35::v 36::v 37::v 38::v 39::v 40::v 41::v 42::v 43::v 44::v 45::v 46::v 47::v 48::v 49::v 50::v 51::v 52::v 53::v 54::v 55::v 56::v 57::v 58::v 59::v 60::v 61::v 62::v 63::v 64::v 65::v 66::v 67::v 68::v 69::v 70::v 71::v 72::v 73::v 74::v 75::v 76::v 77::v 78::v 79::v 80::v 81::v 82::v 83::v 84::v 85::undef::undef::undef::undef::undef::undef::undef::undef::undef::undef::undef::undef::undef::undef::undef:: []).toArray,[]⟩:=hA.trans (by kernel_rfl);rw[eb,eg] at hA';subst hA';clear hA hV bQ;have bU:some _=some o:=ho
   injection bU with bU
   subst bU;rw[if_pos (by rfl)];refine sF (k:=17) (C:=bs.map Value.bool) rfl rfl (by exact⟨by kernel_rfl,by kernel_rfl⟩) mA (by simpa using iw) (by simp) (fun u hu=>by rw[List.mem_map] at hu;obtain⟨x,_,rfl⟩:=hu;rfl) ?_;intro w' R' P';refine hK _ _ ?_;rw[vL]
   go_wp2_with fail
   go_meet
   go_light
   exact⟨g,bs,rfl,iw,R',Nat.le_trans BB.size jW,hG.2.2.1.trans (P'.below (Nat.le_trans BB.size jW))⟩
 case rest=>
  obtain⟨g,bs,rfl,iw,R5,jW,BB'⟩:=hcut;clear R1 R2 BB q1 q2 q3 q4 rW NC;obtain⟨fs,uA,hfc⟩:=hg.below BB';have BB:=BB';clear BB';have bQ:=@cJ
  go_wp2_with (first|((with_reducible refine cJ (b:=1) (o:=0) ?_ VR hfc (by simpa using uA) ?_);rfl)|fail)
  go_loopw [6,96] (fun s i wr=>∃(k:Nat) (v:Value) (ss:List ByteArray),k≤17∧s=v∧i=.int .i64 k∧ss.length≤k∧wr.ownsRow w.heap.size 9 1 v ss.length (ss.map Value.string)∧Row wr g 271 (bs.map Value.bool)∧Below w.heap.size w wr) (fun s i _=>17 - (intOf i).toNat)
  case atStart=>exact⟨0,_,[],Nat.zero_le _,rfl,rfl,Nat.le_refl _,World.ownsRow_nil _ _ _ _,R5,BB⟩
  case round=>
   obtain⟨k,v,ss,hk,rfl,rfl,hss,a_,R5,BB⟩:=hrel;obtain⟨X,y,rfl,_,_⟩:=aj a_
   by_cases aS:k<17
   ·obtain⟨f,hf⟩:∃f,(fs.map Value.string).toArray[k]? =some (.string f):=⟨fs[k]'(by omega),by simp[uA,aS]⟩;obtain⟨b,hb⟩:∃b,wr.cell? ⟨g,k,none⟩=some (.bool b):=⟨bs[k]'(by omega),(R5.cell k).trans (by simp[iw,aS])⟩
    have mN:(k:Int)<17:=by omega
    cases b with
    |true=>
     go_wp2_with (first|(rw[uU _ k _ _ hf aS,Result.andThen_ok])|fail)
     go_roundw
     case rel=>exact⟨k+1,_,ss,by omega,rfl,by go_num,by omega,a_,R5,BB⟩
     case measure=>simp[intOf];omega
    |false=>
     have e1:dF (wr.alloc (.cells #[.string f] 9)) (some ⟨wr.heap.size,0,none⟩) 1 1 [.string f]:=(Row.new wr 9 [.string f]).sl.jZ;have d_:=bN a_ (.cells #[.string f] 9);have R5A:=Row.alloc R5 (.cells #[.string f] 9);have BA:=al BB (.cells #[.string f] 9)
     go_wp2_with (first|(rw[uU _ k _ _ hf aS,Result.andThen_ok])|(refine cv (by rfl) (.tmp 104) (.tmp 106) 45 (by rfl) w.heap.size 9 _ 1 16 underlying45 Dc rfl (by decide) (.slice X ss.length y) ss.length (ss.map Value.string) (some ⟨wr.heap.size,0,none⟩) 1 1 [.string f] (by rfl) (by rfl) d_ e1 (by intro u hu;rw[List.mem_singleton.1 hu];rfl) (by unfold maxLen;omega) (by omega) BA.size ?_;intro v2 w2 gM gy;have kt:=dN d_ gy;have R5B:=R5A.aa kt;have BC:=BA.trans (bG d_ gy (Nat.le_refl _) BA.size)))
     go_roundw
     case rel=>exact⟨k+1,_,ss++ [f],by omega,rfl,by go_num,by simp;omega,by simpa using gM,R5B,BC⟩
     case measure=>simp[intOf];omega
   ·go_wp2_with fail
    go_ret
    exact⟨_,_,_,ss,rfl,by omega,by exact(bZ a_),BB⟩
theorem Py (C D:List Value) (it iu:aA) (w:World) (h:dO w C it) (h':dO w D iu) (hs:jS it) (jX:jS iu) (hg:rh w):
  Calls prog 91 #[.agg C.toArray,.agg D.toArray] w fun e w'=>Kl e∧Below w.heap.size w w':=by
 have hlen:=h.len;have Jc:=h'.len
 have hd:=fun W (hb:Below w.heap.size w W)=>Tt C D it iu W (h.below hb) (h'.below hb) hs jX (hg.below hb)
 clear h h' hs jX hg
 go_enter func91,ntmps91
 have aL:=trivial
 go_wp2_with (first
  |(clear cz;(with_reducible refine ak ?_ aU R2 Jc ?_);rfl;have cY:=trivial)
  |(clear bC;(with_reducible refine ak ?_ aU R1 hlen ?_);rfl;have cz:=trivial)
  |(clear aJ;(with_reducible refine ao (C:=D) ?_ ?_);rfl;intro x2 g2 cW R2 aF;have jz:=h_ R1 cW;have fP:=jq BB cW;replace R1:=R1.keep aF;replace BB:=az BB aF;clear aF cW;have bC:=trivial)
  |(clear aL;(with_reducible refine ao (C:=C) ?_ ?_);rfl;intro x1 g1 aR R1 aw;have eV:=Nat.le_of_eq aR;have BB:=aw;clear aw aR;have aJ:=trivial))
 try clear cY
 refine(hd _ BB).mono ?_;rintro r x3 ⟨A,n,c,ss,rfl,hn,qV,bh⟩;replace R1:=R1.keep bh;replace R2:=R2.keep bh;replace BB:=az BB bh;clear bh
 go_wp2_with fail
 obtain⟨abB,abC⟩:=qV
 have dQ:∀k,k<n→∃b o x,A=some ⟨b,o,none⟩∧x3.cell? ⟨b,o+k,none⟩=some (.string x):=fun k hk=>by
  obtain⟨b,o,e,hc⟩:=abC (by omega)
  have As:k<ss.length:=by simp at abB;omega
  exact⟨b,o,ss[k],e,hc k _ (by rw[List.getElem?_map,List.getElem?_eq_getElem As];rfl)⟩
 clear abB abC hd
 go_loop [11] (fun i=>∃k:Nat,k≤n∧i=.int .i64 k) (fun i=>n - (intOf i).toNat)
 case atStart=>exact⟨0,Nat.zero_le _,rfl⟩
 case round=>
  obtain⟨k,hk,rfl⟩:=hrel
  by_cases aS:k<n
  ·obtain⟨b,o,x,rfl,hc⟩:=dQ k aS
   have mN:(k:Int)<(n:Int):=by omega
   clear dQ
   go_wp2_with fail
   all_goals first
    |(go_ret;exact⟨⟨_,rfl⟩,BB⟩)
    |(
     go_round
     case rel=>exact⟨k+1,by omega,by go_num⟩
     case measure=>simp[intOf];omega)
    |(refine⟨⟨k+1,by omega,by go_num⟩,?_⟩;simp[intOf];omega)
  ·go_wp2_with fail
   go_ret
   exact⟨⟨_,rfl⟩,BB⟩
def AT (a b:aA):Int:=if fb b=0 then (if b.id=a.id then (if b.bj - 1=a.bj then 0 else 18) else 11) else fb b
theorem Da {P:Prop} (h:P:=by
 go_enter func90,ntmps90
 have aL:=trivial
 go_wp2_with (first
  |(clear bC;(with_reducible refine ak ?_ aU R2 Jc ?_);rfl;have cz:=trivial)
  |(clear aJ;(with_reducible refine ao (C:=D) ?_ ?_);rfl;intro x2 g2 cW R2 aF;have jz:=h_ R1 cW;have fP:=jq BB cW;replace R1:=R1.keep aF;replace BB:=az BB aF;clear cV bJ;have cV:=ae R1 C0;have bJ:=ae R1 C1;have bT:=ae R2 D0;have mX:=ae R2 D1;clear aF cW;have bC:=trivial)
  |(clear aL;(with_reducible refine ao (C:=C) ?_ ?_);rfl;intro x1 g1 aR R1 aw;have eV:=Nat.le_of_eq aR;have BB:=aw;have cV:=ae R1 C0;have bJ:=ae R1 C1;clear aw aR;have aJ:=trivial))
 try clear cz
 refine(hv _ BB).mono ?_;rintro r x3 ⟨rfl,bh⟩;replace R1:=R1.keep bh;replace R2:=R2.keep bh;replace BB:=az BB bh;clear cV bJ bT mX;have cV:=ae R1 C0;have bJ:=ae R1 C1;have bT:=ae R2 D0;have mX:=ae R2 D1;clear bh
 go_wp2_with fail
 go_ret
 exact⟨rfl,BB⟩):P:=h
theorem J6 (C D:List Value) (it iu:aA) (w:World) (h:dO w C it) (h':dO w D iu) (jX:jS iu) (CK:A7 iu) (hm:jl w):
  Calls prog 90 #[.agg C.toArray,.agg D.toArray] w fun e w'=>e=.returned (.int .i64 (AT it iu))∧Below w.heap.size w w':=by
 have hlen:=h.len;have Jc:=h'.len
 have hv:=fun W (hb:Below w.heap.size w W)=>sP D iu W (h'.below hb) jX CK (hm.below hb)
 obtain⟨C0,C1,_⟩:=lL h;obtain⟨D0,D1,_⟩:=lL h';clear h h' jX CK hm;unfold AT
 have Sb:fb iu=0→1≤iu.bj∧iu.bj≤50:=fun hq=>by
  unfold fb at hq
  split at hq
  ·cases hq
  ·rename_i hn
   simp only[Bool.not_eq_false] at hn;unfold xL at hn;simp only[Bool.and_eq_true] at hn;have:=hn.2.1;unfold iH at this;simp only[Bool.and_eq_true,decide_eq_true_eq] at this;exact this
 generalize fb iu=ve at*;generalize it.id=i1 at*;generalize iu.id=i2 at*;generalize it.bj=v1 at*;generalize iu.bj=v2 at*
 by_cases q0:ve=0
 ·obtain⟨r1,r2⟩:=Sb q0;subst q0;rw[if_pos rfl]
  by_cases q1:i2=i1
  ·rw[if_pos q1];subst q1
   by_cases q2:v2 - 1=v1
   ·rw[if_pos q2];exact Da
   ·rw[if_neg q2];exact Da
  ·rw[if_neg q1];exact Da
 ·rw[if_neg q0];clear Sb;exact Da
end
end Go.Proofs.YtdnpopjabpklnaaGreatDoor
