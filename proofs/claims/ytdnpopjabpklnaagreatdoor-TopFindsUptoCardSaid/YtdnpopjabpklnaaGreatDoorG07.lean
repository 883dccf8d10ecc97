/- Contracts and plain laws that the proof of the top laws uses (G07). No condition beyond those stated. -/
import Derived.Test.YtdnpopjabpklnaaGreatDoorG06
import Derived.Test.YtdnpopjabpklnaaGreatDoorG05
import Derived.Lib.Repeat
import Derived.Lib.ItoaMem
import Derived.IntWalk
import Derived.Lib.AppendIntMem
import Derived.Laws.BitsAllLaws
import Derived.LoopN
import Derived.Laws.IdiomStrings
import Derived.Lib.BufferRead
import Derived.Lib.Slices
set_option maxRecDepth 100000
set_option maxHeartbeats 64000000
set_option linter.all false
namespace Go.Proofs.YtdnpopjabpklnaaGreatDoor.Id
open Tryz
set_option maxRecDepth 100000
set_option maxHeartbeats 64000000
open Go.RowKit
set_option linter.unusedVariables false
def DI (c:UInt8):Bool:=decide (48≤c.toNat)&&decide (c.toNat≤57)
def oD:List UInt8→Int:=fun l=>l.foldl (fun n c=>n*10+((c.toNat:Int) - 48)) 0
def fx (l:List UInt8):Bool:=l.all DI
theorem oP (c:UInt8):DI c=true↔48≤(c.toNat:Int)∧(c.toNat:Int)≤57:=by
 unfold DI;simp;omega
theorem xK (l:List UInt8) (c:UInt8):oD (l++ [c])=oD l*10+((c.toNat:Int) - 48):=by
 unfold oD;rw[List.foldl_append];rfl
theorem wX (l:List UInt8) (c:UInt8):fx (l++ [c])=(fx l&&DI c):=by
 unfold fx;simp
theorem Ga (n:Nat):(10:Int) ^ (n+1)=10 ^ n*10:=Int.pow_succ ..
theorem YQ:∀(n:Nat) (l:List UInt8),l.length=n→fx l=true→0≤oD l∧oD l<10 ^ n:=by
 intro n
 induction n with
 |zero=>intro l hl _;obtain rfl:=List.length_eq_zero_iff.1 hl;simp[oD]
 |succ n ih=>
  intro l hl ha
  have cu:l≠ []:=by intro h;rw[h] at hl;simp at hl
  rw[←List.dropLast_concat_getLast cu] at ha ⊢;rw[wX,Bool.and_eq_true,oP] at ha;rw[xK];have:=ih l.dropLast (by simp;omega) ha.1;rw[Ga];omega
theorem Fo (s:ByteArray) (k:Nat) (h:k<s.size):s.data.toList.take (k+1)=s.data.toList.take k++ [s[k]]:=by
 rw[List.take_succ_eq_append_getElem (by simpa using h)];rfl
theorem YZ (k:Nat) (h:k≤7):(10:Int) ^ k≤10000000:=by
 have:k=0∨k=1∨k=2∨k=3∨k=4∨k=5∨k=6∨k=7:=by omega
 rcases this with h|h|h|h|h|h|h|h<;>subst h<;>decide
theorem qZ (s:ByteArray) (k:Nat) (hk:k≤s.size) (hs:s.size≤7) (h:fx (s.data.toList.take k)=true):
  0≤oD (s.data.toList.take k)∧oD (s.data.toList.take k)<10000000:=by
 have h1:=YQ k (s.data.toList.take k) (by simp;omega) h;have:=YZ k (by omega);omega
theorem sS (s:ByteArray) (k:Nat) (h:k<s.size):fx (s.data.toList.take (k+1))=(fx (s.data.toList.take k)&&DI s[k]):=by
 rw[Fo s k h,wX]
theorem sY (s:ByteArray) (k:Nat) (h:k<s.size):oD (s.data.toList.take (k+1))=oD (s.data.toList.take k)*10+((s[k].toNat:Int) - 48):=by
 rw[Fo s k h,xK]
theorem MK (s:ByteArray) (w:World) (hs:s.size≤7) (hd:Hid (fx s.data.toList=true)):
  Calls prog 234 #[.string s] w fun e w'=>e=.returned (.tuple #[.int .i64 (oD s.data.toList),.bool true])∧w=w':=by
 go_enter func234,ntmps234
 go_wp2
 go_loop [4,5] (fun n i=>∃k:Nat,k≤s.size∧i=.int .i64 k∧n=.int .i64 (oD (s.data.toList.take k))) (fun _ i=>s.size - (intOf i).toNat)
 case atStart=>exact⟨0,Nat.zero_le _,rfl,rfl⟩
 case round=>
  obtain⟨k,hk,rfl,rfl⟩:=hrel
  have dq:∀j,j≤s.size→fx (s.data.toList.take j)=true:=by
   intro j hj;have:=hd.out;unfold fx at*;rw[List.all_eq_true] at*;exact fun x hx=>this x (List.mem_of_mem_take hx)
  by_cases aS:k<s.size
  ·obtain⟨b1,b2⟩:=qZ s k (by omega) hs (dq k (by omega));have HS:=Lib.hid (sY s k aS);have hg:=dq (k+1) (by omega);rw[sS s k aS,Bool.and_eq_true,oP] at hg;obtain⟨_,g1,g2⟩:=hg;clear dq
   go_wp2
   go_round
   case rel=>exact⟨k+1,by omega,by go_num,by rw[HS.out]⟩
   case measure=>simp[intOf];omega
  ·clear dq
   go_wp2
   go_ret2
   refine⟨?_,rfl⟩;rw[List.take_of_length_le (by simp;omega)];rfl
theorem PJ (s:ByteArray) (w:World) (hs:s.size≤7) (hd:Hid (fx s.data.toList=false)):
  Calls prog 234 #[.string s] w fun e w'=>e=.returned (.tuple #[.int .i64 0,.bool false])∧w=w':=by
 go_enter func234,ntmps234
 go_wp2
 go_loop [4,5] (fun n i=>∃k:Nat,k≤s.size∧i=.int .i64 k∧n=.int .i64 (oD (s.data.toList.take k))∧Hid (fx (s.data.toList.take k)=true)) (fun _ i=>s.size - (intOf i).toNat)
 case atStart=>exact⟨0,Nat.zero_le _,rfl,rfl,by simp[Hid,fx]⟩
 case round=>
  obtain⟨k,hk,rfl,rfl,dq⟩:=hrel
  have aS:k<s.size:=by
   rcases Nat.lt_or_ge k s.size with h|h
   ·exact h
   ·have h1:=dq.out;have h2:=hd.out;rw[List.take_of_length_le (by simp;omega)] at h1;rw[h1] at h2;cases h2
  obtain⟨b1,b2⟩:=qZ s k (by omega) hs dq.out;have HS:=Lib.hid (sY s k aS);have HA:=Lib.hid (sS s k aS)
  by_cases W6:DI s[k]=true
  ·obtain⟨g1,g2⟩:=(oP _).1 W6;have HD:=Lib.hid W6;clear W6
   go_wp2
   go_round
   case rel=>exact⟨k+1,by omega,by go_num,by rw[HS.out],by unfold Hid;rw[HA.out,dq.out,HD.out];rfl⟩
   case measure=>simp[intOf];omega
  ·have g:¬(48≤(s[k].toNat:Int)∧(s[k].toNat:Int)≤57):=by rw[←oP];exact W6
   clear W6
   by_cases g1:(s[k].toNat:Int)<48
   ·clear g
    go_wp2
    go_ret2
    exact⟨rfl,rfl⟩
   ·have g2:57<(s[k].toNat:Int):=by omega
    clear g
    go_wp2
    go_ret2
    exact⟨rfl,rfl⟩
def fI (l:List UInt8):Int:=if fx l then oD l else 0
theorem YP (s:ByteArray) (hs:s.size≤7):0≤fI s.data.toList∧fI s.data.toList≤9999999:=by
 unfold fI
 split
 ·rename_i h
  have:=qZ s s.size (Nat.le_refl _) hs (by rw[List.take_of_length_le (by simp)];exact h);rw[List.take_of_length_le (by simp)] at this;omega
 ·omega
theorem qE (s:ByteArray) (w:World) (hs:s.size≤7):
  Calls prog 234 #[.string s] w fun e w'=>e=.returned (.tuple #[.int .i64 (fI s.data.toList),.bool (fx s.data.toList)])∧w=w':=by
 by_cases h:fx s.data.toList=true
 ·have e:fI s.data.toList=oD s.data.toList:=by simp[fI,h]
  rw[e,h];exact MK s w hs h
 ·have h':fx s.data.toList=false:=by simpa using h
  have e:fI s.data.toList=0:=by simp[fI,h']
  rw[e,h'];exact PJ s w hs h'
theorem EM (s:ByteArray) (l:List UInt8) (w:World) (hs:s.size≤7) (hl:s.data.toList=l):
  Calls prog 234 #[.string s] w fun e w'=>e=.returned (.tuple #[.int .i64 (fI l),.bool (fx l)])∧w=w':=by
 subst hl;exact qE s w hs
def preB:Nat→ByteArray
 |1=>⟨#[73,84,77]⟩
 |2=>⟨#[70,82,77]⟩
 |3=>⟨#[67,65,78]⟩
 |4=>⟨#[83,69,83]⟩
 |5=>⟨#[82,65,84]⟩
 |6=>⟨#[65,83,84]⟩
 |_=>⟨#[]⟩
theorem nK (k n:Int) (w:World) (h1:1≤k) (h2:k≤6) (h3:0≤n) (h4:n≤9999999):
  Calls prog 176 #[.int .i64 k,.int .i64 n] w fun e w'=>e=.returned (.int .i64 (98 - ((k*10000000+n)*100) % 97))∧w=w':=by
 go_enter func176,ntmps176
 go_wp2
 go_ret
 exact⟨rfl,rfl⟩
def eJ (p:ByteArray):Nat→Nat
 |0=>0
 |k+1=>if p.toList==(preB (k+1)).toList then k+1 else eJ p k
theorem Pq (p:ByteArray) (k:Nat):eJ p k≤k:=by
 induction k with
 |zero=>exact Nat.le_refl _
 |succ k ih=>unfold eJ;split<;>omega
structure lS (w:World):Prop where
 c0:w.cell? ⟨0,0,none⟩=some (.string (preB 1))
 c1:w.cell? ⟨0,1,none⟩=some (.string (preB 2))
 c2:w.cell? ⟨0,2,none⟩=some (.string (preB 3))
 c3:w.cell? ⟨0,3,none⟩=some (.string (preB 4))
 c4:w.cell? ⟨0,4,none⟩=some (.string (preB 5))
 c5:w.cell? ⟨0,5,none⟩=some (.string (preB 6))
theorem Uc:∀w,(Instr.index 202 (.agg #[.string (preB 1),.string (preB 2),.string (preB 3),.string (preB 4),.string (preB 5),.string (preB 6)]) (.int .i64 0)).run prog w=.ok (.string (preB 1)) w:=fun _=>by kernel_rfl
theorem Ud:∀w,(Instr.index 202 (.agg #[.string (preB 1),.string (preB 2),.string (preB 3),.string (preB 4),.string (preB 5),.string (preB 6)]) (.int .i64 1)).run prog w=.ok (.string (preB 2)) w:=fun _=>by kernel_rfl
theorem Ue:∀w,(Instr.index 202 (.agg #[.string (preB 1),.string (preB 2),.string (preB 3),.string (preB 4),.string (preB 5),.string (preB 6)]) (.int .i64 2)).run prog w=.ok (.string (preB 3)) w:=fun _=>by kernel_rfl
theorem Uf:∀w,(Instr.index 202 (.agg #[.string (preB 1),.string (preB 2),.string (preB 3),.string (preB 4),.string (preB 5),.string (preB 6)]) (.int .i64 3)).run prog w=.ok (.string (preB 4)) w:=fun _=>by kernel_rfl
theorem Ug:∀w,(Instr.index 202 (.agg #[.string (preB 1),.string (preB 2),.string (preB 3),.string (preB 4),.string (preB 5),.string (preB 6)]) (.int .i64 4)).run prog w=.ok (.string (preB 5)) w:=fun _=>by kernel_rfl
theorem Uh:∀w,(Instr.index 202 (.agg #[.string (preB 1),.string (preB 2),.string (preB 3),.string (preB 4),.string (preB 5),.string (preB 6)]) (.int .i64 5)).run prog w=.ok (.string (preB 6)) w:=fun _=>by kernel_rfl
theorem Yf (k:Nat) (h:k<6) (w:World):
  (Instr.index 202 (.agg #[.string (preB 1),.string (preB 2),.string (preB 3),.string (preB 4),.string (preB 5),.string (preB 6)]) (.int .i64 (k:Int))).run prog w=.ok (.string (preB (k+1))) w:=by
 have:k=0∨k=1∨k=2∨k=3∨k=4∨k=5:=by omega
 rcases this with h|h|h|h|h|h<;>subst h
 ·exact Uc w
 ·exact Ud w
 ·exact Ue w
 ·exact Uf w
 ·exact Ug w
 ·exact Uh w
theorem Mo (p:ByteArray) (k:Nat) (h:(p.toList==(preB (k+1)).toList)=true):eJ p (k+1)=k+1:=by
 simp only[eJ,h,if_true]
theorem Jt (p:ByteArray) (k:Nat) (h:(p.toList==(preB (k+1)).toList)=false):eJ p (k+1)=eJ p k:=by
 simp only[eJ,h];rfl
theorem Y_ (p:ByteArray) (k:Nat) (hk:k<6) (h:(p.toList==(preB (k+1)).toList)=true):
  ∃m:Nat,m≤6∧Value.int IntKind.i64 ((k:Int)+1)=.int .i64 (m:Int)∧Value.int IntKind.i64 ((k:Int)+1)=.int .i64 ((eJ p m:Nat):Int):=
 ⟨k+1,by omega,rfl,by rw[Mo p k h];rfl⟩
theorem UY (p:ByteArray) (k:Nat) (hk:k<6) (h:(p.toList==(preB (k+1)).toList)=false):
  ∃m:Nat,m≤6∧Value.int IntKind.i64 ((k:Int)+1)=.int .i64 (m:Int)∧Value.int IntKind.i64 ((eJ p k:Nat):Int)=.int .i64 ((eJ p m:Nat):Int):=
 ⟨k+1,by omega,rfl,by rw[Jt p k h]⟩
theorem Tw (s:ByteArray) (h:s.size=14):(s.extract 4 11).size=7∧(s.extract 12 s.size).size=2:=by
 simp[ByteArray.size_extract,h]
def Dg (s:ByteArray):Nat:=eJ (s.extract 0 3) 6
def d1 (s:ByteArray):List UInt8:=List.take 7 (List.drop 4 s.data.toList)
def d2 (s:ByteArray):List UInt8:=List.take (s.size - 12) (List.drop 12 s.data.toList)
def Ti (k:Nat) (n:Int):Int:=98 - (((k:Int)*10000000+n)*100) % 97
def Fq (a b c:Int):Value:=.tuple #[.int .i64 a,.int .i64 b,.int .i64 c]
def jB (k:Nat) (n m:Int) (a b:Bool):Value:=
 if k=0∨a=false∨b=false then Fq 0 0 2
 else if n=0 then Fq 0 0 3
 else if m≠Ti k n then Fq 0 0 12 else Fq k n 0
theorem MV (s:ByteArray) (w:World) (hp:lS w) (ZZ:s.size≤14) (aa8:14≤s.size) (h3:((s[3].toNat:Int) !=45)=false) (yB:((s[11].toNat:Int) !=45)=false):
  Calls prog 183 #[.string s] w fun e w'=>e=.returned (jB (eJ (s.extract 0 3) 6) (fI (d1 s)) (fI (d2 s)) (fx (d1 s)) (fx (d2 s)))∧w=w':=by
 have HZ:=Lib.hid (Tw s (by omega));obtain⟨x1,x2⟩:=YP (s.extract 4 11) (by rw[HZ.out.1];omega);have HB:=Lib.hid (And.intro x1 x2);clear x1 x2;have hl:=Pq (s.extract 0 3) 6;obtain⟨c0,c1,c2,c3,c4,c5⟩:=hp
 have hq:((s.size:Int) !=14)=false:=by
  rw[bne_eq_false_iff_eq];omega
 go_enter func183,ntmps183
 go_wp2
 clear c0 c1 c2 c3 c4 c5
 go_loop [5,26] (fun n i=>∃k:Nat,k≤6∧i=.int .i64 k∧n=.int .i64 ((eJ (s.extract 0 3) k:Nat):Int)) (fun _ i=>6 - (intOf i).toNat)
 case atStart=>exact⟨0,by omega,rfl,rfl⟩
 case round=>
  obtain⟨k,pQ,rfl,rfl⟩:=hrel
  by_cases aS:k<6
  ·have hi:=Yf k aS
   go_wp2
   all_goals go_round
   all_goals first
    |exact Y_ _ k aS ‹_›
    |exact UY _ k aS ‹_›
    |(simp[intOf];omega)
  ·obtain rfl:k=6:=by omega
   go_wp2_with fail
   refine(EM _ (d1 s) _ (by rw[HZ.out.1];omega) (by simp[d1])).mono ?_;rintro e w' ⟨rfl,rfl⟩
   go_wp2_with fail
   refine(EM _ (d2 s) _ (by rw[HZ.out.2];omega) (by simp[d2])).mono ?_;rintro e w' ⟨rfl,rfl⟩
   have e1:(s.extract 4 11).data.toList=d1 s:=by simp[d1]
   rw[e1] at HB;clear e1 HZ;obtain⟨b1,b2⟩:=HB.out;clear HB
   by_cases hk:eJ (s.extract 0 3) 6=0
   ·have HP:=Lib.hid (show jB (eJ (s.extract 0 3) 6) (fI (d1 s)) (fI (d2 s)) (fx (d1 s)) (fx (d2 s))=Fq 0 0 2 by simp[jB,hk])
    have mN:(((eJ (s.extract 0 3) 6:Nat):Int)==0)=true:=by rw[beq_iff_eq];omega
    clear hk
    go_wp2_with fail
    all_goals (go_ret3;exact⟨by rw[HP.out];rfl,rfl⟩)
   ·have mN:(((eJ (s.extract 0 3) 6:Nat):Int)==0)=false:=by rw[beq_eq_false_iff_ne];omega
    have kx:1≤eJ (s.extract 0 3) 6:=by omega
    have HK:=Lib.hid hk;clear hk
    cases ha:fx (d1 s) with
    |false=>
     have HP:=Lib.hid (show jB (eJ (s.extract 0 3) 6) (fI (d1 s)) (fI (d2 s)) (fx (d1 s)) (fx (d2 s))=Fq 0 0 2 by simp[jB,ha])
     go_wp2_with fail
     all_goals (go_ret3;exact⟨by rw[HP.out];rfl,rfl⟩)
    |true=>
     cases hb:fx (d2 s) with
     |false=>
      have HP:=Lib.hid (show jB (eJ (s.extract 0 3) 6) (fI (d1 s)) (fI (d2 s)) (fx (d1 s)) (fx (d2 s))=Fq 0 0 2 by simp[jB,hb])
      go_wp2_with fail
      all_goals (go_ret3;exact⟨by rw[HP.out];rfl,rfl⟩)
     |true=>
      by_cases hn:fI (d1 s)=0
      ·have HP:=Lib.hid (show jB (eJ (s.extract 0 3) 6) (fI (d1 s)) (fI (d2 s)) (fx (d1 s)) (fx (d2 s))=Fq 0 0 3 by simp[jB,HK.out,ha,hb,hn])
       have TZ:((fI (d1 s))==0)=true:=by rw[beq_iff_eq];omega
       clear hn
       go_wp2_with fail
       all_goals (go_ret3;exact⟨by rw[HP.out];rfl,rfl⟩)
      ·have TZ:((fI (d1 s))==0)=false:=by rw[beq_eq_false_iff_ne];omega
       have HN:=Lib.hid hn;clear hn
       go_wp2_with fail
       refine(nK _ _ _ (by omega) (by omega) b1 b2).mono ?_;rintro e w' ⟨rfl,rfl⟩
       by_cases hc:fI (d2 s)=98 - (((eJ (s.extract 0 3) 6:Nat):Int)*10000000+fI (d1 s))*100 % 97
       ·have HP:=Lib.hid (show jB (eJ (s.extract 0 3) 6) (fI (d1 s)) (fI (d2 s)) (fx (d1 s)) (fx (d2 s))=Fq ((eJ (s.extract 0 3) 6:Nat):Int) (fI (d1 s)) 0 by simp[jB,HK.out,HN.out,ha,hb,hc,Ti])
        have jc:((fI (d2 s)) !=98 - (((eJ (s.extract 0 3) 6:Nat):Int)*10000000+fI (d1 s))*100 % 97)=false:=by rw[bne_eq_false_iff_eq];exact hc
        clear hc
        go_wp2_with fail
        all_goals (go_ret3;exact⟨by rw[HP.out];rfl,rfl⟩)
       ·have HP:=Lib.hid (show jB (eJ (s.extract 0 3) 6) (fI (d1 s)) (fI (d2 s)) (fx (d1 s)) (fx (d2 s))=Fq 0 0 12 by simp[jB,HK.out,HN.out,ha,hb,hc,Ti])
        have jc:((fI (d2 s)) !=98 - (((eJ (s.extract 0 3) 6:Nat):Int)*10000000+fI (d1 s))*100 % 97)=true:=by rw[bne_iff_ne];exact hc
        clear hc
        go_wp2_with fail
        all_goals (go_ret3;exact⟨by rw[HP.out];rfl,rfl⟩)
def nG (k:Nat) (n m:Int) (a b:Bool):Int × Int × Int:=
 if k=0∨a=false∨b=false then (0,0,2)
 else if n=0 then (0,0,3)
 else if m≠Ti k n then (0,0,12) else (k,n,0)
theorem PS (k:Nat) (n m:Int) (a b:Bool):jB k n m a b=Fq (nG k n m a b).1 (nG k n m a b).2.1 (nG k n m a b).2.2:=by
 unfold jB nG;repeat(first|rfl|split)
def pX (s:ByteArray):Int × Int × Int:=
 if s.size=14∧s.data[3]? =some 45∧s.data[11]? =some 45 then nG (Dg s) (fI (d1 s)) (fI (d2 s)) (fx (d1 s)) (fx (d2 s)) else (0,0,2)
def pA (s:ByteArray):Int:=(pX s).1
def pB (s:ByteArray):Int:=(pX s).2.1
def pC (s:ByteArray):Int:=(pX s).2.2
theorem x_ (s:ByteArray) (i:Nat) (h:i<s.size):(s.data[i]? =some 45)↔ (s[i].toNat:Int)=45:=by
 rw[Array.getElem?_eq_getElem (by exact h)]
 constructor
 ·intro e;injection e with e;show((s.data[i]).toNat:Int)=45;rw[e];rfl
 ·intro e;congr 1;apply UInt8.toNat.inj;have:(s.data[i]).toNat=45:=by have e':((s.data[i]).toNat:Int)=45:=e;omega
  rw[this];rfl
theorem JV (s:ByteArray) (w:World) (h:(((s.size:Int)) !=14)=true):
  Calls prog 183 #[.string s] w fun e w'=>e=.returned (.tuple #[.int .i64 0,.int .i64 0,.int .i64 2])∧w=w':=by
 go_enter func183,ntmps183
 go_wp2
 go_ret3
 exact⟨rfl,rfl⟩
theorem QW {P:Prop} (h:P:=by
 have hq:((s.size:Int) !=14)=false:=by
  rw[bne_eq_false_iff_eq];omega
 go_enter func183,ntmps183
 go_wp2
 go_ret3
 exact⟨rfl,rfl⟩):P:=h
theorem UN (s:ByteArray) (w:World) (ZZ:s.size≤14) (aa8:14≤s.size) (h3:((s[3].toNat:Int) !=45)=true):
  Calls prog 183 #[.string s] w fun e w'=>e=.returned (.tuple #[.int .i64 0,.int .i64 0,.int .i64 2])∧w=w':=by
 exact QW
theorem PV (s:ByteArray) (w:World) (ZZ:s.size≤14) (aa8:14≤s.size) (h3:((s[3].toNat:Int) !=45)=false) (yB:((s[11].toNat:Int) !=45)=true):
  Calls prog 183 #[.string s] w fun e w'=>e=.returned (.tuple #[.int .i64 0,.int .i64 0,.int .i64 2])∧w=w':=by
 exact QW
theorem JU (s:ByteArray) (h:¬(s.size=14∧s.data[3]? =some 45∧s.data[11]? =some 45)):pX s=(0,0,2):=by
 unfold pX;rw[if_neg h]
theorem PU (s:ByteArray) (w:World) (hp:lS w):
  Calls prog 183 #[.string s] w fun e w'=>e=.returned (.tuple #[.int .i64 (pA s),.int .i64 (pB s),.int .i64 (pC s)])∧w=w':=by
 unfold pA pB pC
 by_cases h:s.size=14
 ·by_cases h3:(s[3].toNat:Int)=45
  ·by_cases yB:(s[11].toNat:Int)=45
   ·have e:pX s=nG (Dg s) (fI (d1 s)) (fI (d2 s)) (fx (d1 s)) (fx (d2 s)):=by
     unfold pX;rw[if_pos ⟨h,(x_ s 3 (by omega)).2 h3,(x_ s 11 (by omega)).2 yB⟩]
    rw[e];have:=MV s w hp (by omega) (by omega) (by rw[bne_eq_false_iff_eq];exact h3) (by rw[bne_eq_false_iff_eq];exact yB);rw[PS] at this;exact this
   ·rw[JU s (fun x=>yB ((x_ s 11 (by omega)).1 x.2.2))];exact PV s w (by omega) (by omega) (by rw[bne_eq_false_iff_eq];exact h3) (by rw[bne_iff_ne];exact yB)
  ·rw[JU s (fun x=>h3 ((x_ s 3 (by omega)).1 x.2.1))];exact UN s w (by omega) (by omega) (by rw[bne_iff_ne];exact h3)
 ·rw[JU s (fun x=>h x.1)];exact JV s w (by rw[bne_iff_ne];omega)
end Go.Proofs.YtdnpopjabpklnaaGreatDoor.Id
namespace Go.Proofs.YtdnpopjabpklnaaGreatDoor.Id
open Tryz
set_option maxRecDepth 100000
set_option maxHeartbeats 64000000
open Go.RowKit Go.Sort
set_option linter.unusedVariables false
def kN (n:Nat):Nat→List UInt8
 |0=>[]
 |k+1=>kN (n / 10) k++ [UInt8.ofNat (48+n % 10)]
theorem mo (k:Nat):∀n,(kN n k).length=k:=by
 induction k with
 |zero=>intro n;rfl
 |succ k ih=>intro n;simp[kN,ih]
theorem Lg {d:Nat} (h:d<10):(UInt8.ofNat (48+d)).toNat=48+d:=by
 rw[UInt8.toNat_ofNat'];exact Nat.mod_eq_of_lt (by omega)
theorem ZW {d:Nat} (h:d<10):DI (UInt8.ofNat (48+d))=true:=by
 rw[oP,Lg h];omega
theorem yv (k:Nat):∀n,fx (kN n k)=true:=by
 induction k with
 |zero=>intro n;rfl
 |succ k ih=>intro n;rw[kN,wX,ih,ZW (Nat.mod_lt _ (by omega))];rfl
theorem Wk (k:Nat):∀n,n<10 ^ k→oD (kN n k)=(n:Int):=by
 induction k with
 |zero=>
      intro n h;obtain rfl:n=0:=by simpa using h
      rfl
 |succ k ih=>
  intro n h;rw[Nat.pow_succ] at h;rw[kN,xK,ih _ (by omega),Lg (Nat.mod_lt _ (by omega))];omega
theorem Ts (k:Nat):kN 0 k=List.replicate k 48:=by
 induction k with
 |zero=>rfl
 |succ k ih=>rw[kN,Nat.zero_div,ih,List.replicate_succ'];rfl
theorem DH (k:Nat):∀n,n<10 ^ (k+1)→List.replicate (k+1 - (Lib.decDigits n).length) 48++Lib.decDigits n=kN n (k+1)∧(Lib.decDigits n).length≤k+1:=by
 induction k with
 |zero=>
  intro n h
  have h':n<10:=by simpa using h
  rw[Lib.decDigits_one h']
  simp[kN,Nat.mod_eq_of_lt h']
 |succ k ih=>
  intro n h;rw[Nat.pow_succ] at h
  by_cases h':n<10
  ·rw[Lib.decDigits_one h'];refine⟨?_,by simp⟩;rw[kN,show n / 10=0 by omega,Ts,Nat.mod_eq_of_lt h']
   simp
  ·obtain⟨h1,h2⟩:=ih (n / 10) (by omega);rw[Lib.decDigits,dif_neg h',kN,←h1];simp only[List.length_append,List.length_cons,List.length_nil];refine⟨?_,by omega⟩;rw[show k+1+1 - ((Lib.decDigits (n / 10)).length+(0+1))=k+1 - (Lib.decDigits (n / 10)).length by omega,List.append_assoc]
theorem qH (b:UInt8):∀c,Lib.repeatL [b] c=List.replicate c b
 |0=>rfl
 |c+1=>by rw[Lib.repeatL,qH b c,List.replicate_succ];rfl
theorem Iu {a b:ByteArray} (h:a.data.toList=b.data.toList):a=b:=by
 cases a;cases b;simp at h;exact congrArg _ h
theorem aaM {a b:ByteArray} (h:a.data.toList=b.data.toList):Ending.returned (.string a)=.returned (.string b):=by rw[Iu h]
def DC (k n:Int):Int:=if k<1∨6<k then 1 else if n<1∨9999999<n then 3 else 0
def K3 (k n:Int):Int:=if DC k n=0 then 98 - ((k*10000000+n)*100) % 97 else 0
theorem aaW {k n:Int} (h:k<1∨6<k):DC k n=1∧K3 k n=0:=by
 have:DC k n=1:=if_pos h;exact⟨this,by unfold K3;rw[if_neg (by omega)]⟩
theorem aaX {k n:Int} (h:1≤k∧k≤6) (h2:n<1∨9999999<n):DC k n=3∧K3 k n=0:=by
 have:DC k n=3:=by unfold DC;rw[if_neg (by omega),if_pos h2]
 exact⟨this,by unfold K3;rw[if_neg (by omega)]⟩
theorem Wa {k n:Int} (h:1≤k∧k≤6) (h2:1≤n∧n≤9999999):DC k n=0∧K3 k n=98 - ((k*10000000+n)*100) % 97:=by
 have:DC k n=0:=by unfold DC;rw[if_neg (by omega),if_neg (by omega)]
 exact⟨this,by unfold K3;rw[if_pos this]⟩
theorem Jk (k n:Int) (w:World):
  Calls prog 119 #[.int .i64 k,.int .i64 n] w fun e w'=>e=.returned (.tuple #[.int .i64 (K3 k n),.int .i64 (DC k n)])∧w=w':=by
 by_cases h1:k<1
 ·have H:=Lib.hid (aaW (n:=n) (.inl h1))
  go_enter func119,ntmps119
  go_wp2_with fail
  go_ret2
  exact⟨by rw[H.out.1,H.out.2];rfl,rfl⟩
 by_cases h2:6<k
 ·have H:=Lib.hid (aaW (n:=n) (.inr h2))
  have yz:1≤k:=by omega
  clear h1
  go_enter func119,ntmps119
  go_wp2_with fail
  go_ret2
  exact⟨by rw[H.out.1,H.out.2];rfl,rfl⟩
 have yz:1≤k:=by omega
 have yC:k≤6:=by omega
 clear h1 h2
 by_cases h3:n<1
 ·have H:=Lib.hid (aaX (n:=n) ⟨yz,yC⟩ (.inl h3))
  go_enter func119,ntmps119
  go_wp2_with fail
  go_ret2
  exact⟨by rw[H.out.1,H.out.2];rfl,rfl⟩
 by_cases h4:9999999<n
 ·have H:=Lib.hid (aaX (n:=n) ⟨yz,yC⟩ (.inr h4))
  have TG:1≤n:=by omega
  clear h3
  go_enter func119,ntmps119
  go_wp2_with fail
  go_ret2
  exact⟨by rw[H.out.1,H.out.2];rfl,rfl⟩
 have TG:1≤n:=by omega
 have h4':n≤9999999:=by omega
 clear h3 h4;have H:=Lib.hid (Wa ⟨yz,yC⟩ ⟨TG,h4'⟩)
 go_enter func119,ntmps119
 go_wp2_with fail
 refine(nK k n _ yz yC (by omega) h4').mono ?_;rintro e w' ⟨rfl,rfl⟩
 go_wp2_with fail
 go_ret2
 exact⟨by rw[H.out.1,H.out.2];rfl,rfl⟩
theorem below_grow (w:World) (k:Nat) (os:Array Obj):Below w.heap.size w (grow (w.drewN k) os):=by
 refine⟨rfl,rfl,rfl,?_,fun b hb=>?_⟩
 ·simp[grow,World.drewN]
 ·simp[grow,World.drewN,Array.getElem?_append_left hb]
abbrev lk (w:World):Prop:=Lib.TabIs prog w "internal/strconv.uint64pow10" .u64 Lib.pow10Tab
theorem lk.below {w w':World} (h:lk w) (hb:Below w.heap.size w w'):lk w':=Lib.tabBelow_of_tabIs h w' hb
theorem MS (n wd:Nat) (w:World) (nX:1≤wd) (qY:wd≤9) (hn:n<10 ^ wd) (lY:lk w):
  Calls prog 120 #[.int .i64 (n:Int),.int .i64 (wd:Int)] w fun e w'=>e=.returned (.string ⟨(kN n wd).toArray⟩)∧Below w.heap.size w w':=by
 have T0:n<1000000000:=Nat.lt_of_lt_of_le hn (Nat.pow_le_pow_right (by omega) qY);obtain⟨wd,rfl⟩:∃m,wd=m+1:=⟨wd - 1,by omega⟩;have HP:=DH wd n hn;rw[←Lib.itoa_nonneg] at HP;obtain⟨s,hs⟩:∃s:ByteArray,s=⟨(Lib.itoa (n:Int)).toArray⟩:=⟨_,rfl⟩
 have cM:s.size=(Lib.itoa (n:Int)).length:=by rw[hs];simp[ByteArray.size]
 have qV:s.data.toList=Lib.itoa (n:Int):=by rw[hs]
 have hle:s.size≤wd+1:=by rw[cM];exact HP.2
 have HS:=Lib.hid qV
 have HD:Hid (List.replicate (wd+1 - s.size) 48++s.data.toList=kN n (wd+1)):=by unfold Hid;rw[qV,cM];exact HP.1
 have HT:=Lib.hid lY;clear HP cM qV hn lY
 go_enter func120,ntmps120
 go_wp2_with fail
 refine(strconv_Itoa (n:Int) (by omega) (by omega) _ HT.out).mono ?_;rintro e w' ⟨rfl,d,os,rfl⟩;rw[←hs];clear hs;have B1:=below_grow w d os;generalize grow (w.drewN d) os=w1 at*
 go_wp2_with fail
 rw[show(max ((wd:Int)+1 - (s.size:Int)) 0)=((wd+1 - s.size:Nat):Int) by omega];refine(strings_Repeat ⟨#[48]⟩ (wd+1 - s.size) _ (by omega) (by show 1*_≤_;omega)).mono ?_;rintro e w2 ⟨he,ax⟩;have B2:Below w.heap.size w w2:=az B1 ax;obtain⟨r,hr⟩:∃r:ByteArray,r=⟨(Lib.repeatL [48] (wd+1 - s.size)).toArray⟩:=⟨_,rfl⟩
 have yR:r.data.toList=List.replicate (wd+1 - s.size) 48:=by rw[hr,qH]
 have Jg:r.size≤wd+1:=by
  have:r.size=r.data.toList.length:=by rw[Array.length_toList];rfl
  rw[this,yR,List.length_replicate];omega
 have he':e=.returned (.string r):=by rw[hr];exact he
 have HR:=Lib.hid yR;clear he hr yR ax B1;subst he'
 go_wp2_with fail
 go_ret
 exact⟨aaM (by simp only[ByteArray.data_append,Array.toList_append,HR.out,HD.out]),B2⟩
theorem aed (n:Nat) (w:World) (hn:n<10000000) (lY:lk w):
  Calls prog 120 #[.int .i64 (n:Int),.int .i64 7] w fun e w'=>∃x:ByteArray,e=.returned (.string x)∧x.size≤7∧Hid (x.data.toList=kN n 7)∧Below w.heap.size w w':=
 (MS n 7 w (by omega) (by omega) hn lY).mono fun e w' ⟨he,hb⟩=>⟨_,he,by show(kN n 7).toArray.size≤7;rw[List.size_toArray,mo];exact Nat.le_refl _,rfl,hb⟩
theorem aec (n:Nat) (w:World) (hn:n<100) (lY:lk w):
  Calls prog 120 #[.int .i64 (n:Int),.int .i64 2] w fun e w'=>∃x:ByteArray,e=.returned (.string x)∧x.size≤2∧Hid (x.data.toList=kN n 2)∧Below w.heap.size w w':=
 (MS n 2 w (by omega) (by omega) hn lY).mono fun e w' ⟨he,hb⟩=>⟨_,he,by show(kN n 2).toArray.size≤2;rw[List.size_toArray,mo];exact Nat.le_refl _,rfl,hb⟩
theorem ack (n:Nat) (w:World) (a:Nat) (ha:a≤10) (hn:n<10000000) (lY:lk w):
  Calls prog 120 #[.int .i64 (n:Int),.int .i64 7] w fun e w'=>∃x:ByteArray,e=.returned (.string x)∧x.size≤7∧¬9223372036854775807<a+x.size∧¬9223372036854775807<a+x.size+1∧Hid (x.data.toList=kN n 7)∧Below w.heap.size w w':=
 (aed n w hn lY).mono fun e w' ⟨x,he,h1,h2,h3⟩=>⟨x,he,h1,by omega,by omega,h2,h3⟩
theorem acj (n:Nat) (w:World) (a:Nat) (ha:a≤20) (hn:n<100) (lY:lk w):
  Calls prog 120 #[.int .i64 (n:Int),.int .i64 2] w fun e w'=>∃x:ByteArray,e=.returned (.string x)∧x.size≤2∧¬9223372036854775807<a+x.size∧Hid (x.data.toList=kN n 2)∧Below w.heap.size w w':=
 (aec n w hn lY).mono fun e w' ⟨x,he,h1,h2,h3⟩=>⟨x,he,h1,by omega,h2,h3⟩
def Ab (k n:Nat):Nat:=98 - ((k*10000000+n)*100) % 97
theorem RJ (k n:Nat):2≤Ab k n∧Ab k n≤98:=by unfold Ab;omega
theorem V_ {k n:Nat} (h:1≤k∧k≤6) (h2:1≤n∧n≤9999999):DC (k:Int) (n:Int)=0∧K3 (k:Int) (n:Int)=(Ab k n:Int):=by
 obtain⟨h3,h4⟩:=Wa (k:=(k:Int)) (n:=(n:Int)) (by omega) (by omega);refine⟨h3,?_⟩;rw[h4];unfold Ab;omega
def Yc (k n:Nat):List UInt8:=(preB k).data.toList++ [45]++kN n 7++ [45]++kN (Ab k n) 2
def idB (k n:Nat):ByteArray:=⟨(Yc k n).toArray⟩
theorem lS.cell {w:World} (h:lS w) {m:Nat} (hm:m<6):w.cell? ⟨0,m,none⟩=some (.string (preB (m+1))):=by
 obtain⟨c0,c1,c2,c3,c4,c5⟩:=h
 have:m=0∨m=1∨m=2∨m=3∨m=4∨m=5:=by omega
 rcases this with h|h|h|h|h|h<;>subst h<;>assumption
theorem lS.below {w w':World} (h:lS w) (hb:Below w.heap.size w w'):lS w':=by
 obtain⟨c0,c1,c2,c3,c4,c5⟩:=h;have h0:0<w.heap.size:=block_lt_of_cell c0;exact⟨(hb.cell (p:=⟨0,0,none⟩) h0).trans c0,(hb.cell (p:=⟨0,1,none⟩) h0).trans c1,(hb.cell (p:=⟨0,2,none⟩) h0).trans c2,(hb.cell (p:=⟨0,3,none⟩) h0).trans c3,(hb.cell (p:=⟨0,4,none⟩) h0).trans c4,(hb.cell (p:=⟨0,5,none⟩) h0).trans c5⟩
theorem acd {W w':World} {p:Addr} {x:Value} (l:p.block<W.heap.size) (h:W.cell? p=some x) (hb:Below W.heap.size W w'):w'.cell? p=some x∧Below W.heap.size W w':=⟨(hb.cell l).trans h,hb⟩
theorem J8 {a b:ByteArray} {x:Int} (h:a.data.toList=b.data.toList):Ending.returned (.tuple #[.string a,.int .i64 x])=.returned (.tuple #[.string b,.int .i64 x]):=by rw[Iu h]
theorem PY (m:Nat) (h:m<6):(preB (m+1)).size=3:=by
 have:m=0∨m=1∨m=2∨m=3∨m=4∨m=5:=by omega
 rcases this with h|h|h|h|h|h<;>subst h<;>rfl
theorem acz:∀w,(Instr.indexAt 202 (.pointer (some ⟨0,0,none⟩)) (.int .i64 0)).run prog w=.ok (.pointer (some ⟨0,0,none⟩)) w:=fun _=>by kernel_rfl
theorem acA:∀w,(Instr.indexAt 202 (.pointer (some ⟨0,0,none⟩)) (.int .i64 1)).run prog w=.ok (.pointer (some ⟨0,1,none⟩)) w:=fun _=>by kernel_rfl
theorem acB:∀w,(Instr.indexAt 202 (.pointer (some ⟨0,0,none⟩)) (.int .i64 2)).run prog w=.ok (.pointer (some ⟨0,2,none⟩)) w:=fun _=>by kernel_rfl
theorem acC:∀w,(Instr.indexAt 202 (.pointer (some ⟨0,0,none⟩)) (.int .i64 3)).run prog w=.ok (.pointer (some ⟨0,3,none⟩)) w:=fun _=>by kernel_rfl
theorem acD:∀w,(Instr.indexAt 202 (.pointer (some ⟨0,0,none⟩)) (.int .i64 4)).run prog w=.ok (.pointer (some ⟨0,4,none⟩)) w:=fun _=>by kernel_rfl
theorem acE:∀w,(Instr.indexAt 202 (.pointer (some ⟨0,0,none⟩)) (.int .i64 5)).run prog w=.ok (.pointer (some ⟨0,5,none⟩)) w:=fun _=>by kernel_rfl
theorem VP (m:Nat) (h:m<6):∀w:World,(Instr.indexAt 202 (.pointer (some ⟨0,0,none⟩)) (.int .i64 (m:Int))).run prog w=.ok (.pointer (some ⟨0,m,none⟩)) w:=by
 intro w
 have:m=0∨m=1∨m=2∨m=3∨m=4∨m=5:=by omega
 rcases this with h|h|h|h|h|h<;>subst h
 ·exact acz w
 ·exact acA w
 ·exact acB w
 ·exact acC w
 ·exact acD w
 ·exact acE w
theorem UU (k n:Nat) (w:World) (hk:1≤k∧k≤6) (hn:1≤n∧n≤9999999) (hp:lS w) (ht:lk w):
  Calls prog 61 #[.int .i64 (k:Int),.int .i64 (n:Int)] w fun e w'=>e=.returned (.tuple #[.string (idB k n),.int .i64 0])∧Below w.heap.size w w':=by
 obtain⟨h1,h2⟩:=V_ (k:=k) (n:=n) hk hn;obtain⟨n1,n2⟩:=hn;obtain⟨m,hm⟩:∃m,k=m+1:=⟨k - 1,by omega⟩
 have TY:m<6:=by omega
 have H1:=Lib.hid h1;have H2:=Lib.hid h2;have HT:=Lib.hid ht;have I1:=RJ k n;have th:Hid ((idB k n).data.toList=(preB k).data.toList++ [45]++kN n 7++ [45]++kN (Ab k n) 2):=rfl;obtain⟨sz,cM⟩:∃sz:ByteArray,preB k=sz:=⟨_,rfl⟩
 have wh:sz.size≤3:=by rw[←cM,hm,PY m TY];exact Nat.le_refl _
 have c0:=hp.cell TY;have zb:0<w.heap.size:=block_lt_of_cell c0;rw[←hm,cM] at c0;rw[cM] at th;generalize Ab k n=cn at*
 have HW:Hid (IntKind.i64.wrap ((k:Int) - 1)=(m:Int)):=by unfold Hid;rw[IntWalk.i64_in _ (by omega)];omega
 clear cM h1 h2 ht hm hp
 go_enter func61,ntmps61
 go_wp2_with fail
 refine(Jk _ _ _).mono ?_;rintro e w' ⟨rfl,rfl⟩;rw[H1.out,H2.out]
 go_wp2_with fail
 have hA:=VP m TY
 have q1:¬9223372036854775807<sz.size+1:=by omega
 have z4:sz.size+1≤10:=by omega
 have n7:n<10000000:=by omega
 have n2':cn<100:=by omega
 have hwr:=HW.out
 go_region_held3 (fun w'=>w'.cell? ⟨0,m,none⟩=some (.string sz)∧Below w.heap.size w w')
  ((refine acd zb c0 ?_;(repeat(first|with_reducible exact Below.refl _ _|with_reducible refine ar h5 ?_|with_reducible refine ar h6 ?_|with_reducible refine bL ?_))))
  (first
   |(go_at_call 120;((with_reducible refine(ack n _ (sz.size+1) z4 n7 (lk.below HT.out ?_)).mono ?_);((repeat(first|with_reducible exact Below.refl _ _|with_reducible refine ar h5 ?_|with_reducible refine ar h6 ?_|with_reducible refine bL ?_)));rintro e w5 ⟨x5,rfl,Pf,q2,q3,HX5,h5⟩))
   |(go_at_call 120;((with_reducible refine(acj cn _ (sz.size+1+x5.size+1) (Nat.add_le_add (Nat.add_le_add z4 Pf) (Nat.le_of_ble_eq_true rfl:1≤3)) n2' (lk.below HT.out ?_)).mono ?_);((repeat(first|with_reducible exact Below.refl _ _|with_reducible refine ar h5 ?_|with_reducible refine ar h6 ?_|with_reducible refine bL ?_)));rintro e w6 ⟨x6,rfl,hz6,q4,HX6,h6⟩)))
 have B6:=ar h6 (ar h5 (bL (Below.refl w.heap.size w)));clear hwr q1 q2 q3 q4 hA
 go_wp2_with fail
 go_ret2
 refine⟨J8 ?_,B6⟩;rw[th.out,←HX5.out,←HX6.out];simp only[ByteArray.data_append,Array.toList_append]
theorem UT {k:Nat} (h:1≤k∧k≤6):(preB k).data.toList.length=3:=by
 have:k=1∨k=2∨k=3∨k=4∨k=5∨k=6:=by omega
 rcases this with h|h|h|h|h|h<;>subst h<;>rfl
theorem Mp {k:Nat} (h:1≤k∧k≤6):eJ (preB k) 6=k:=by
 have:k=1∨k=2∨k=3∨k=4∨k=5∨k=6:=by omega
 rcases this with h|h|h|h|h|h<;>subst h<;>decide+kernel
theorem acL (s:ByteArray):(s.extract 0 3).data.toList=s.data.toList.take 3:=by simp
theorem pG (s:ByteArray):s.size=s.data.toList.length:=by rw[Array.length_toList];rfl
def join (k:Nat) (l:List UInt8):List UInt8:=(preB k).data.toList++ [45]++l.take 7++ [45]++l.drop 7
theorem Ul (k n:Nat):join k (kN n 7++kN (Ab k n) 2)=Yc k n:=by
 unfold join Yc;rw[List.take_left' (mo 7 n),List.drop_left' (mo 7 n)]
theorem KG {s:ByteArray} {i:Nat}:s.data[i]? =s.data.toList[i]? :=by rw[Array.getElem?_toList]
theorem MU {s:ByteArray} {k:Nat} {l:List UInt8} (hk:1≤k∧k≤6) (hl:l.length=9) (hs:s.data.toList=join k l):
  pX s=nG k (fI (l.take 7)) (fI (l.drop 7)) (fx (l.take 7)) (fx (l.drop 7)):=by
 have hp:=UT hk
 have h7:(l.take 7).length=7:=by rw[List.length_take];omega
 have h2:(l.drop 7).length=2:=by rw[List.length_drop];omega
 have hK:Dg s=k:=by
  unfold Dg
  have:s.extract 0 3=preB k:=by
   refine Iu ?_;rw[acL,hs,join,List.append_assoc,List.append_assoc,List.append_assoc,List.take_left' hp]
  rw[this,Mp hk]
 unfold join at hs;generalize (preB k).data.toList=p at*
 obtain⟨p0,p1,p2,rfl⟩:∃a b c,p=[a,b,c]:=by
  match p,hp with
  |[a,b,c],_=>exact⟨a,b,c,rfl⟩
 have e1:d1 s=l.take 7:=by
  unfold d1;rw[hs];simp only[List.cons_append,List.nil_append,List.drop_succ_cons,List.drop_zero,List.append_assoc];exact List.take_left' h7
 have cM:s.size=14:=by
  rw[pG,hs];simp;omega
 have e2:d2 s=l.drop 7:=by
  unfold d2;rw[hs,cM];have:(([p0,p1,p2]++ [45]++l.take 7++ [45]++l.drop 7:List UInt8).drop 12)=l.drop 7:=List.drop_left' (by simp;omega);rw[this];exact List.take_of_length_le (by rw[h2];omega)
 have e3:s.data[3]? =some 45:=by rw[KG,hs];rfl
 have e4:s.data[11]? =some 45:=by
  rw[KG,hs];rw[List.getElem?_append_left (by simp;omega),List.getElem?_append_right (by simp;omega)]
  simp[h7]
 unfold pX;rw[if_pos ⟨cM,e3,e4⟩,hK,e1,e2]
theorem V9 (k n:Nat):Ti k (n:Int)=(Ab k n:Int):=by unfold Ti Ab;omega
theorem G' {k n:Nat} (h:n<10 ^ k):fI (kN n k)=(n:Int):=by unfold fI;rw[if_pos (yv k n),Wk k n h]
theorem UM {k n:Nat} (hk:1≤k∧k≤6) (hn:1≤n∧n≤9999999):pX (idB k n)=((k:Int),(n:Int),0):=by
 have hb:=RJ k n;have e:(idB k n).data.toList=join k (kN n 7++kN (Ab k n) 2):=(Ul k n).symm;rw[MU hk (by rw[List.length_append,mo,mo]) e,List.take_left' (mo 7 n),List.drop_left' (mo 7 n),G' (by omega),G' (by omega),yv,yv];unfold nG;rw[if_neg (by simp;omega),if_neg (by omega),if_neg (by rw[V9];simp)]
theorem UL (s:ByteArray) {a b c:Int} (h:pX s=(a,b,c)) (w:World) (hp:lS w):
  Calls prog 183 #[.string s] w fun e w'=>e=.returned (.tuple #[.int .i64 a,.int .i64 b,.int .i64 c])∧w=w':=by
 have:=PU s w hp;unfold pA pB pC at this;rw[h] at this;exact this
end Go.Proofs.YtdnpopjabpklnaaGreatDoor.Id
namespace Go.Proofs.YtdnpopjabpklnaaGreatDoor
section
open Go.RowKit Go.Sort Go.Lib
open Tryz
theorem TB (l:List Nat) (k x:Nat):(List.replicate (k+1) 0++l).set k x=List.replicate k 0++x::l:=by
 rw[List.replicate_succ',List.append_assoc,List.set_append_right _ _ (by simp)]
 simp
theorem TA (l:List Nat) (k:Nat):(List.replicate (k+1) 0++l).getD k 0=0:=by
 rw[List.getD_eq_getElem?_getD,List.getElem?_append_left (by simp)]
 simp
theorem Fs (l:List Nat) (k:Nat) (h:k<l.length):val (l.drop k)=l.getD k 0+4294967296*val (l.drop (k+1)):=by
 have:l.drop k=l.getD k 0::l.drop (k+1):=by
  rw[List.drop_eq_getElem_cons h]
  simp[List.getD,List.getElem?_eq_getElem h]
 rw[this];rfl
theorem YV (R x:Nat) (hR:R<4294967296) (hx:x<4294967296):bits .or .u64 ((R:Int)*4294967296) (x:Int)=(R:Int)*4294967296+(x:Int):=by
 have h1:((R:Int)*4294967296)=((R*4294967296:Nat):Int):=by omega
 rw[h1,u64_or_nat _ _ (by omega) (by omega)];have h2:=Nat.shiftLeft_add_eq_or_of_lt (i:=32) (b:=x) (by omega) R;rw[Nat.shiftLeft_eq] at h2
 have h3:R*2 ^ 32=R*4294967296:=by rw[show(2:Nat) ^ 32=4294967296 by decide]
 rw[h3] at h2;rw[←h2];omega
theorem IM (A:Option Addr) (n c d:Nat) (ls:List Nat) (w:World) (hs:Sl w A n (iJ ls)) (dq:dj ls) (hn:n≤c) (hc:c≤9223372036854775807) (hl:n≤70368744177650) (hd:0<d) (hd2:d<4294967296):
  Calls prog 262 #[.slice A n c,.int .u32 (d:Int)] w fun e w'=>∃v,e=.returned (.tuple #[v,.int .u32 ((val ls % d:Nat):Int)])∧xX w w' v (val ls / d) n:=by
 have Xx:=run_mk (P:=prog) underlying252 Eu rfl n (by omega) (by omega)
 have xm:ls.length=n:=by have:=hs.1;rwa [ng] at this
 have NJ:=Lib.hid xm;have HD:=Lib.hid hd
 have SM:((d:Int)==0)=false:=by rw[beq_eq_false_iff_ne];omega
 clear xm
 go_enter func262,ntmps262
 go_wp2_with fail
 clear Xx
 go_loopw [7,8] (fun rv i wr=>∃(k R:Nat) (Q:List Nat),k≤n∧i=.int .i64 ((k:Int) - 1)∧rv=.int .u64 (R:Int)∧R<d∧Hid (Q.length=n - k)∧dj Q∧Hid (val (ls.drop k)=val Q*d+R)∧Row wr w.heap.size 238 (iJ (List.replicate k 0++Q))∧Below w.heap.size w wr) (fun _ i _=>(intOf i+1).toNat)
 case atStart=>exact⟨n,0,[],by omega,rfl,rfl,hd,by simp[Hid],dj.nil,by unfold Hid;rw[List.drop_of_length_le (by rw[NJ.out];omega)];simp[val],by rw[List.append_nil,Mv];exact Row.abK _ _ _ _,(Below.refl _ _).alloc (Nat.le_refl _) _⟩
 case round=>
  obtain⟨k,R,Q,hk,rfl,rfl,hR,hQ,WK,oC,mA,hb⟩:=hrel
  rcases Nat.eq_zero_or_pos k with h0|hp
  ·subst h0
   have aca:Row wr w.heap.size 238 (iJ Q):=by simpa using mA
   have qV:=aca.sl;rw[ng,hQ.out,Nat.sub_zero] at qV
   have hv:val ls=val Q*d+R:=by have:=oC.out;rwa [List.drop_zero] at this
   have HV1:Hid (val ls / d=val Q):=by unfold Hid;rw[hv,Nat.mul_comm,Nat.mul_add_div HD.out,Nat.div_eq_of_lt hR];rfl
   have HV2:Hid (val ls % d=R):=by unfold Hid;rw[hv,Nat.mul_comm,Nat.mul_add_mod,Nat.mod_eq_of_lt hR]
   clear hv oC
   go_wp2_with fail
   refine(nk _ n n Q _ qV (Nat.le_refl _) (by unfold maxLen;omega)).mono ?_;rintro e w' ⟨rfl,rfl⟩
   go_wp2_with fail
   go_ret2
   refine⟨_,by rw[HV2.out];rfl,_,jR.strip qV (Nat.le_refl _) (by unfold maxLen;omega) WK,jD _,by rw[lP,HV1.out],Nat.le_trans (lO _) (by rw[hQ.out];omega),Nat.le_refl _,hb⟩
  ·obtain⟨j,rfl⟩:∃j,k=j+1:=⟨k - 1,by omega⟩
   have TU:j<n:=by omega
   obtain⟨b1,o1,rfl,aC,dQ⟩:=hs.lim TU;have g1:wr.cell? ⟨b1,o1+j,none⟩=some (.int .u32 ((ls.getD j 0:Nat):Int)):=(hb.cell (p:=⟨b1,o1+j,none⟩) aC).trans (dQ j TU);have hx:=dq.getD j;have HX:=Lib.hid (Fs ls j (by rw[NJ.out];exact TU))
   have FQ:wr.cell? ⟨w.heap.size,j,none⟩=some (.int .u32 0):=by
    rw[mA.cell,Uu _ (by simp;omega),TA];rfl
   have DZ:wr.frozen? ⟨w.heap.size,j,none⟩=false:=mA.frozen j;generalize ls.getD j 0=xx at*
   have vY:R<4294967296:=by omega
   have hor:=YV R xx vY hx;have HS:=Lib.hid (Tu oC.out hR (by omega) hx);have iC:=HS.out.2.1;have pR:=HS.out.2.2
   have e1:((((j+1:Nat):Int)) - 1)=(j:Int):=by omega
   have E1:=Lib.hid e1
   have rj:Hid (((R:Int)*4294967296+(xx:Int)) / (d:Int) % 4294967296=(((R*4294967296+xx) / d:Nat):Int)):=by
    unfold Hid;rw[show((R:Int)*4294967296+(xx:Int))=((R*4294967296+xx:Nat):Int) by omega,←Int.natCast_ediv];generalize (R*4294967296+xx) / d=q at*;omega
   have rk:Hid (((R:Int)*4294967296+(xx:Int)) % (d:Int)=(((R*4294967296+xx) % d:Nat):Int)):=by
    unfold Hid;rw[show((R:Int)*4294967296+(xx:Int))=((R*4294967296+xx:Nat):Int) by omega,←Int.natCast_emod]
   clear dQ e1;rw[E1.out]
   go_wp2_with fail
   rw[rj.out,rk.out]
   go_roundw
   case rel=>
    refine⟨j,(R*4294967296+xx) % d,(R*4294967296+xx) / d::Q,by omega,rfl,rfl,pR,by unfold Hid;rw[List.length_cons,hQ.out];omega,dj.cons iC WK,?_,?_,hb.setCell (Nat.le_refl _) _⟩
    ·unfold Hid;rw[HX.out,HS.out.1]
     show _=((R*4294967296+xx) / d+4294967296*val Q)*d+_
     rfl
    ·rw[←TB,←Uw];exact mA.cE j _
   case measure=>simp[intOf]
def sg (neg:Bool) (n:Nat):Int:=if neg then -(n:Int) else (n:Int)
theorem SE (b:Bool) (n:Nat):(sg b n).natAbs=n:=by cases b<;>simp[sg]
def xV (w:World) (v:Value) (p:Int) (L:Nat):Prop:=∃neg mv ls,v=.agg #[.bool neg,mv]∧jR w mv ls∧ls.length≤L∧p=sg neg (val ls)
def ow (base:Nat) (w:World) (v:Value) (p:Int) (L:Nat):Prop:=∃mv,v=.agg #[.bool (decide (p<0)),mv]∧fN w mv p.natAbs L∧kY base mv
theorem ow.adU {base:Nat} {w:World} {v:Value} {p:Int} {L:Nat} (h:ow base w v p L):xV w v p L:=by
 obtain⟨mv,rfl,⟨ls,h1,_,h3,h4⟩,_⟩:=h;refine⟨_,mv,ls,rfl,h1,h4,?_⟩;rw[h3];unfold sg
 split
 ·rename_i h;have:=of_decide_eq_true h;omega
 ·rename_i h;have:¬p<0:=by simpa using h
  omega
theorem xV.below {w w':World} {v:Value} {p:Int} {L:Nat} (h:xV w v p L) (hb:Below w.heap.size w w'):xV w' v p L:=by
 obtain⟨neg,mv,ls,h1,h2,h3,h4⟩:=h;exact⟨neg,mv,ls,h1,h2.below hb,h3,h4⟩
theorem xV.mono {w:World} {v:Value} {p:Int} {L L':Nat} (h:xV w v p L) (hL:L≤L'):xV w v p L':=by
 obtain⟨neg,mv,ls,h1,h2,h3,h4⟩:=h;exact⟨neg,mv,ls,h1,h2,Nat.le_trans h3 hL,h4⟩
theorem ow.below {base:Nat} {w w':World} {v:Value} {p:Int} {L:Nat} (h:ow base w v p L) (hb:Below w.heap.size w w'):ow base w' v p L:=by
 obtain⟨mv,h1,h2,h3⟩:=h;exact⟨mv,h1,h2.below hb,h3⟩
theorem ow.cE {base:Nat} {w:World} {v:Value} {p:Int} {L:Nat} (h:ow base w v p L) {q:Addr} (hq:q.block<base) (x:Value):ow base (w.setCell q x) v p L:=by
 obtain⟨mv,h1,h2,h3⟩:=h;exact⟨mv,h1,h2.cE h3 hq x,h3⟩
theorem ow.base {b b':Nat} {w:World} {v:Value} {p:Int} {L:Nat} (h:ow b w v p L) (hb:b'≤b):ow b' w v p L:=by
 obtain⟨mv,h1,h2,h3⟩:=h;exact⟨mv,h1,h2,h3.mono hb⟩
theorem ow.mono {b:Nat} {w:World} {v:Value} {p:Int} {L L':Nat} (h:ow b w v p L) (hL:L≤L'):ow b w v p L':=by
 obtain⟨mv,h1,h2,h3⟩:=h;exact⟨mv,h1,h2.mono hL,h3⟩
theorem aaK (neg:Bool) (n:Nat):decide (sg neg n<0)=(neg&&decide (0<n)):=by
 cases neg
 ·simp[sg]
 ·simp only[sg,Bool.true_and];rw[Bool.eq_iff_iff];simp
theorem PF {w:World} {v:Value} {n L:Nat} (h:fN w v n L):∃A k c,v=.slice A k c∧(0<k↔0<n)∧k≤9223372036854775807:=by
 obtain⟨ls,⟨⟨A,c,rfl,h1,h2,_⟩,_⟩,nt,hv,_⟩:=h;refine⟨A,_,c,rfl,?_,by unfold maxLen at h2;omega⟩
 constructor
 ·intro h;have:=nt.ge h;have:=Rz (ls.length - 1);omega
 ·intro h
  rcases Nat.eq_zero_or_pos ls.length with h0|h0
  ·have:=List.eq_nil_of_length_eq_zero h0;subst this;simp[val] at hv;omega
  ·exact h0
theorem Et (neg:Bool) (v:Value) (ls:List Nat) (w:World) (h:jR w v ls) (hl:ls.length≤70368744177650):
  Calls prog 230 #[.bool neg,v] w fun e w'=>∃u,e=.returned u∧ow w.heap.size w' u (sg neg (val ls)) ls.length∧Below w.heap.size w w':=by
 have jx:=Row.new w 254 [.bool false,.slice none 0 0];have B0:Below w.heap.size w (w.alloc (.cells #[.bool false,.slice none 0 0] 254)):=(Below.refl _ _).alloc (Nat.le_refl _) _;have h0:=h.below B0;have NQ:=Lib.hid (aaK neg (val ls));have Ki:=Lib.hid (SE neg (val ls))
 go_enter func230,ntmps230
 go_wp2_with fail
 refine(UC v ls _ h0 (by omega)).mono ?_;rintro e w1 ⟨v1,rfl,hN⟩;have aC:=hN.e_;have B1:Below w.heap.size w w1:=az B0 aC;replace jx:=jx.keep aC;have hf:=hN.fresh;have hn:=hN.nat;obtain⟨A,k,c,rfl,hk,As⟩:=PF hn;have zb:w.heap.size<w1.heap.size:=jx.lt;have c0:=jx.cell 0;have c1:=jx.cell 1;have f0:=jx.frozen 0;have f1:=jx.frozen 1;simp only[List.getElem?_cons_zero,List.getElem?_cons_succ] at c0 c1;rw[show(w.alloc (.cells #[.bool false,.slice none 0 0] 254)).heap.size=w.heap.size+1 by simp] at hf
 have HK:Hid (decide (0<k)=decide (0<val ls)):=by unfold Hid;rw[Bool.eq_iff_iff];simpa using hk
 clear hk hN
 cases neg
 ·go_wp2_with fail
  refine bodyPost_ret (v:=.agg #[.bool false,.slice A k c]) (by simp[results,results230,go_sem,c0,c1]) rfl ⟨_,rfl,⟨.slice A k c,by rw[NQ.out];rfl,?_,hf.mono (by omega)⟩,(B1.setCell (Nat.le_refl _) _).setCell (Nat.le_refl _) _⟩;rw[Ki.out];exact(hn.cE hf (by simp) _).cE hf (by simp) _
 ·rcases hd:decide (0<k) with _|_
  ·go_wp2_with fail
   refine bodyPost_ret (v:=.agg #[.bool false,.slice A k c]) (by simp[results,results230,go_sem,c0,c1]) rfl ⟨_,rfl,⟨.slice A k c,by rw[NQ.out,←HK.out,hd];rfl,?_,hf.mono (by omega)⟩,(B1.setCell (Nat.le_refl _) _).setCell (Nat.le_refl _) _⟩;rw[Ki.out];exact(hn.cE hf (by simp) _).cE hf (by simp) _
  ·go_wp2_with fail
   refine bodyPost_ret (v:=.agg #[.bool true,.slice A k c]) (by simp[results,results230,go_sem,c0,c1]) rfl ⟨_,rfl,⟨.slice A k c,by rw[NQ.out,←HK.out,hd];rfl,?_,hf.mono (by omega)⟩,(B1.setCell (Nat.le_refl _) _).setCell (Nat.le_refl _) _⟩;rw[Ki.out];exact(hn.cE hf (by simp) _).cE hf (by simp) _
def BV (p:Int):Int:=if p<0 then -1 else if p=0 then 0 else 1
theorem aaL (neg:Bool) (n:Nat):BV (sg neg n)=if neg then -(p_ n 0) else p_ n 0:=by
 unfold BV sg p_
 cases neg<;>simp<;>repeat' split
 all_goals omega
theorem Pk (v:Value) (p:Int) (L:Nat) (w:World) (h:xV w v p L):
  Calls prog 229 #[v] w fun e w'=>e=.returned (.int .i64 (BV p))∧Below w.heap.size w w':=by
 obtain⟨neg,mv,ls,rfl,h1,h3,h4⟩:=h;have yz:=h1;obtain⟨⟨A,c,rfl,_,_,_⟩,_⟩:=yz;have B0:Below w.heap.size w (w.alloc (.cells #[.bool neg,.slice A ls.length c] 254)):=(Below.refl _ _).alloc (Nat.le_refl _) _;have HC:=Lib.hid (Wd _ _ ls [] _ (h1.below B0) (jR.nil _));have HS:=Lib.hid (aaL neg (val ls));rw[←h4] at HS
 have DY: -1≤p_ (val ls) 0∧p_ (val ls) 0≤1:=by
                               unfold p_;repeat' split
                               all_goals omega
 go_enter func229,ntmps229
 go_wp2_with fail
 refine HC.out.mono ?_;rintro e w' ⟨rfl,d,rfl⟩;rw[show val ([]:List Nat)=0 from rfl];generalize p_ (val ls) 0=cm at*
 cases neg
 ·go_wp2_with fail
  go_ret
  exact⟨by rw[HS.out];rfl,cr B0 d⟩
 ·go_wp2_with fail
  go_ret
  exact⟨by rw[HS.out];rfl,cr B0 d⟩
theorem Yh (n:Int) (w:World) (h1: -9223372036854775808≤n) (h2:n≤9223372036854775807):
  Calls prog 180 #[.int .i64 n] w fun e w'=>∃x,e=.returned x∧ow w.heap.size w' x n 2∧Below w.heap.size w w':=by
 have jx:=Row.new w 254 [.bool false,.slice none 0 0];have B0:Below w.heap.size w (w.alloc (.cells #[.bool false,.slice none 0 0] 254)):=(Below.refl _ _).alloc (Nat.le_refl _) _
 have hz:(w.alloc (.cells #[.bool false,.slice none 0 0] 254)).heap.size=w.heap.size+1:=by simp
 have HZ:=Lib.hid hz;clear hz
 by_cases hn:n<0
 ·obtain⟨m,rfl⟩:∃m:Nat,n= -(m:Int):=⟨n.natAbs,by omega⟩
  have HW:Hid (IntKind.u64.wrap (-IntKind.u64.wrap (-(m:Int)))=(m:Int)):=by
   unfold Hid;rw[IntKind.wrap_u64,IntKind.wrap_u64];omega
  have hm:m<18446744073709551616:=by omega
  have HS:Hid (∀ls,val ls=m→sg true (val ls)= -(m:Int)):=fun ls h=>by rw[h];rfl
  go_enter func180,ntmps180
  go_wp2_with fail
  rw[HW.out];refine(Sq m _ hm).mono ?_;rintro e w5 ⟨v5,rfl,l5,Jb,nt5,hv5,tt,hf5,h5⟩
  go_wp2_with fail
  refine(Et _ _ _ _ Jb (by omega)).mono ?_;rintro e w6 ⟨v6,rfl,⟨mv6,rfl,wg,hf6⟩,h6⟩;have XB:=wg;obtain⟨l6,⟨⟨A6,c6,rfl,_,_,_⟩,_⟩,_⟩:=XB;have Vg:=az h5 h6;have B6:=B0.trans (Vg.mono B0.size);replace jx:=jx.keep Vg;have ur:=HS.out l5 hv5;have d60:=U (jx.cell 0);have d61:=U (jx.cell 1);have f60:=jx.frozen 0;have f61:=jx.frozen 1
  have pk:fN w6 (.slice A6 l6.length c6) (-(m:Int)).natAbs 2:=by rw[←ur];exact wg.mono tt
  have OS:kY (w.heap.size+1) (.slice A6 l6.length c6):=hf6.mono (by have:=h5.size;rw[HZ.out] at this;exact this);rw[ur]
  go_wp2_with fail
  refine bodyPost_ret (v:=.agg #[.bool (decide (-(m:Int)<0)),.slice A6 l6.length c6]) (by simp[results,results180,go_sem,d60,d61];omega) rfl ⟨_,rfl,⟨_,rfl,?_,OS.mono (by omega)⟩,(B6.setCell (Nat.le_refl _) _).setCell (Nat.le_refl _) _⟩;exact(pk.cE OS (by simp) _).cE OS (by simp) _
 ·obtain⟨m,rfl⟩:∃m:Nat,n=(m:Int):=⟨n.natAbs,by omega⟩
  have hm:m<18446744073709551616:=by omega
  have HS:Hid (∀ls,val ls=m→sg false (val ls)=(m:Int)):=fun ls h=>by rw[h];rfl
  clear hn
  go_enter func180,ntmps180
  go_wp2_with fail
  refine(Sq m _ hm).mono ?_;rintro e w5 ⟨v5,rfl,l5,Jb,nt5,hv5,tt,hf5,h5⟩
  go_wp2_with fail
  refine(Et _ _ _ _ Jb (by omega)).mono ?_;rintro e w6 ⟨v6,rfl,⟨mv6,rfl,wg,hf6⟩,h6⟩;have XB:=wg;obtain⟨l6,⟨⟨A6,c6,rfl,_,_,_⟩,_⟩,_⟩:=XB;have Vg:=az h5 h6;have B6:=B0.trans (Vg.mono B0.size);replace jx:=jx.keep Vg;have ur:=HS.out l5 hv5;have d60:=U (jx.cell 0);have d61:=U (jx.cell 1);have f60:=jx.frozen 0;have f61:=jx.frozen 1
  have pk:fN w6 (.slice A6 l6.length c6) ((m:Int)).natAbs 2:=by rw[←ur];exact wg.mono tt
  have OS:kY (w.heap.size+1) (.slice A6 l6.length c6):=hf6.mono (by have:=h5.size;rw[HZ.out] at this;exact this);rw[ur]
  go_wp2_with fail
  refine bodyPost_ret (v:=.agg #[.bool (decide ((m:Int)<0)),.slice A6 l6.length c6]) (by simp[results,results180,go_sem,d60,d61]) rfl ⟨_,rfl,⟨_,rfl,?_,OS.mono (by omega)⟩,(B6.setCell (Nat.le_refl _) _).setCell (Nat.le_refl _) _⟩;exact(pk.cE OS (by simp) _).cE OS (by simp) _
abbrev Dq (w:World):Prop:=Id.lk w
theorem Zb (u:Nat) (hu:u<18446744073709551616) (w:World) (lY:Dq w):
  Calls prog 263 #[.slice none 0 0,.int .u64 u,.int .i64 10] w fun e w'=>∃v',e=.returned v'∧w'.ownsRow w.heap.size 5 1 v' (Lib.decDigits u).length (Lib.byteCells (Lib.decDigits u))∧Below w.heap.size w w':=by
 have H:=Lib.hid (internal_strconv_AppendUint_10 w.heap.size 0 u hu (.slice none 0 0) [] w (World.ownsRow_nil w _ _ 1) (Nat.le_refl _) (by omega) lY);clear hu lY
 go_enter func263,ntmps263
 go_wp2_with fail
 refine H.out.mono ?_;rintro e w' ⟨v',rfl,ho,hb,_⟩;rw[Nat.zero_add,List.nil_append] at ho
 go_wp2_with fail
 go_ret
 exact⟨_,rfl,ho,hb⟩
theorem Dq.below {w w':World} (h:Dq w) (hb:Below w.heap.size w w'):Dq w':=Id.lk.below h hb
theorem JO (v:Value) (ls:List Nat) (w:World) (h:jR w v ls) (h0:val ls=0):
  Calls prog 228 #[v] w fun e w'=>e=.returned (.string ⟨#[48]⟩)∧w=w':=by
 have bQ:=xP h0;obtain⟨⟨A,c,rfl,hn,hc,hs⟩,dq⟩:=h;have HT:=nk A _ c ls w hs hn hc;rw[bQ] at HT;replace HT:=Lib.hid HT;clear hs hn hc dq bQ h0
 go_enter func228,ntmps228
 go_wp2_with fail
 refine HT.out.mono ?_;rintro e w' ⟨rfl,rfl⟩
 go_wp2_with fail
 go_ret
 exact⟨rfl,rfl⟩
theorem Gj {ls:List Nat} {n:Nat} (dq:dj ls) (hv:val ls=n) (h0:0<n) (h1:n<4294967296):strip ls=[n]:=
 G_ (pH dq) (dj.cons h1 dj.nil) (jD _) (.inr ⟨[],n,rfl,h0⟩) (by rw[lP,hv];simp[val])
theorem MJ (v:Value) (ls:List Nat) (n:Nat) (w:World) (h:jR w v ls) (hl:ls.length≤1000000000) (hv:val ls=n) (h0:0<n) (h1:n<1000000000) (lY:Dq w):
  Calls prog 228 #[v] w fun e w'=>e=.returned (.string ⟨(Lib.decDigits n).toArray⟩)∧Below w.heap.size w w':=by
 have Sc:=Gj h.2 hv h0 (by omega);obtain⟨⟨A,c,rfl,hn,hc,hs⟩,dq⟩:=h;have HT:=Lib.hid (nk A _ c ls w hs hn hc);have hL:=jR.strip hs hn hc dq;rw[Sc] at HT hL;have HN:=Lib.hid h1;have acs:=Lib.hid lY
 have CF:n<4294967296:=by omega
 have Kh:Hid (val [n] / 1000000000=0∧val [n] % 1000000000=n):=by unfold Hid;simp[val];omega
 obtain⟨⟨A1,c1,TI,ix,pg,Em⟩,WJ⟩:=hL;have HD:=Lib.hid (IM A1 1 c1 1000000000 [n] w Em WJ ix pg (by omega) (by omega) (by omega));rw[Kh.out.1,Kh.out.2] at HD;have aa9:Value.slice A 1 c=Value.slice A1 1 c1:=TI
 obtain⟨rfl,rfl⟩:A=A1∧c=c1:=by injection aa9 with a b c;exact⟨a,c⟩
 have ae6:(1:Int)≤(c:Int):=by have:1≤c:=ix;omega
 clear TI aa9 hs Em dq WJ Sc hv h1 hn hc ix pg hl lY
 go_enter func228,ntmps228
 go_wp2_with fail
 refine HT.out.mono ?_;rintro e w' ⟨rfl,rfl⟩
 go_wp2_with fail
 refine wp_loop_rounds 2 ?_;rw[rounds_succ]
 go_wp2_with fail
 refine HD.out.mono ?_;rintro e w2 ⟨v2,rfl,hN2⟩;have ax:=hN2.e_;have pR:=hN2.nat;obtain⟨l2,⟨⟨A2,c2,rfl,_,_,_⟩,_⟩,nt2,e2,k2⟩:=pR;have Ed:l2=[]:=nt2.zero e2;subst Ed;clear HD HT hN2 nt2 e2 k2
 go_wp2_with (at_builtin;refine lQ w2 rfl (.tmp 23) (.tmp 25) 251 rfl w.heap.size 238 (.int .u32 0) 4 underlying251 Eu rfl (.slice none 0 0) 0 [] (.int .u32 (n:Int)) rfl rfl (World.ownsRow_nil _ _ _ _) rfl (by simp[maxLen]) (by omega) ax.size ?_;rintro G cG w3 a_ eE)
 rw[List.nil_append] at a_;obtain⟨A3,c3,T_,g1,g2,wh⟩:=Sl.fK a_
 obtain⟨rfl,rfl⟩:G=A3∧cG=c3:=by injection T_ with a b c;exact⟨a,c⟩
 obtain⟨b,o,rfl,dQ⟩:=wh.2 (by omega);have FQ:w3.cell? ⟨b,o,none⟩=some (.int .u32 (n:Int)):=dQ 0 _ rfl;have B3:Below w.heap.size w w3:=ax.trans eE;clear T_ wh dQ a_ ax eE;rw[rounds_succ]
 go_wp2_with fail
 refine(Zb n (Nat.lt_trans HN.out (by decide)) w3 (acs.out.below B3)).mono ?_;rintro e w4 ⟨v4,rfl,ho4,gn⟩;obtain⟨A4,c4,rfl,j1,j2,hs4⟩:=Sl.fK ho4;have B4:=az B3 gn
 have hlen:0<(Lib.decDigits n).length:=by
  unfold Lib.decDigits;split<;>simp
 obtain⟨b4,o4,rfl,aaa⟩:=hs4.2 hlen
 have TM:=run_convert_bytes_back (P:=prog) w4 83 9 5 ⟨b4,o4,none⟩ c4 (Lib.decDigits n) underlying83 underlying5 underlying9 (fun j hj=>by
  have:=aaa j (.int .u8 (((Lib.decDigits n)[j].toNat:Nat):Int)) (by simp[Lib.byteCells,hj]);rw[show(⟨b4,o4,none⟩:Addr).add j=⟨b4,o4+j,none⟩ by cases j<;>simp[Addr.add]]
  exact this)
 go_wp2_with fail
 refine wp_loop_rounds 1 ?_;rw[rounds_succ]
 go_wp2_with fail
 go_ret
 exact⟨rfl,B4⟩
end
end Go.Proofs.YtdnpopjabpklnaaGreatDoor
