/- Contracts and plain laws that the proof of the top laws uses (G08). No condition beyond those stated. -/
import Derived.Test.YtdnpopjabpklnaaGreatDoorTqK
import Derived.Lib.Replace
set_option maxRecDepth 100000
set_option maxHeartbeats 64000000
set_option linter.all false
namespace Go.Proofs.YtdnpopjabpklnaaGreatDoor
section
open Go.RowKit
open Tryz
theorem xC (b c:UInt8) (l:List UInt8) (h:b≠c):Lib.index (b::l) [c]=if Lib.index l [c]= -1 then -1 else Lib.index l [c]+1:=by
 have h0:Lib.occAt (b::l) [c] 0=false:=by simp[Lib.occAt,List.isPrefixOf,Ne.symm h]
 have hn:Lib.NoOcc (b::l) [c] 1:=fun j hj=>by
  obtain rfl:j=0:=by omega
  exact h0
 have:=Lib.index_drop hn (by simp);rw[this];simp only[List.drop_succ_cons,List.drop_zero,beq_iff_eq];rfl
theorem xB (c:UInt8) (l:List UInt8):Lib.index (c::l) [c]=0:=
 Lib.index_first (i:=0) (Nat.zero_le _) (by simp[Lib.occAt]) (fun _ h=>absurd h (Nat.not_lt_zero _))
theorem zx (b c:UInt8) (new l:List UInt8) (h:b≠c):∀k,Lib.replaceK [c] new k (b::l)=b::Lib.replaceK [c] new k l
 |0=>rfl
 |k+1=>by
  unfold Lib.replaceK;rw[xC b c l h];have Ar:=Lib.index_ge l [c]
  by_cases hm:Lib.index l [c]= -1
  ·rw[if_pos hm,hm];rfl
  ·rw[if_neg hm,if_neg (by simp;omega),if_neg (by simpa using hm)];obtain⟨i,hi⟩:∃i:Nat,Lib.index l [c]=i:=⟨(Lib.index l [c]).toNat,by omega⟩;rw[hi,show((i:Int)+1).toNat=i+1 by omega,Int.toNat_natCast];simp only[List.length_cons,List.length_nil,Nat.zero_add,List.take_succ_cons,List.cons_append,List.drop_succ_cons]
theorem q_ (c:UInt8) (new:List UInt8):∀(l:List UInt8),Lib.replaceK [c] new (Lib.count l [c]) l=l.flatMap (fun x=>if x=c then new else [x])
 |[]=>by
  have:Lib.count [] [c]=0:=by rw[Lib.count_one];rfl
  rw[this];rfl
 |b::l=>by
  rw[List.flatMap_cons]
  by_cases h:b=c
  ·subst h;rw[if_pos rfl,Lib.count_cons_eq,Nat.add_comm,Lib.replaceK_hit [b] new _ (b::l) 0 (xB b l)];simp only[List.take_zero,List.nil_append,List.length_cons,List.length_nil,Nat.zero_add,List.drop_succ_cons,List.drop_zero];rw[q_ b new l]
  ·rw[if_neg h,Lib.count_cons_ne b c l h,zx b c new l h,q_ c new l];rfl
theorem CS (c:UInt8) (new l:List UInt8) (h: [c]≠new):Lib.replaceAll l [c] new=l.flatMap (fun x=>if x=c then new else [x]):=by
 unfold Lib.replaceAll Lib.replace;rw[if_neg (by simpa using h)];unfold Lib.replaceNum;rw[if_pos (Or.inl (by decide))];exact q_ c new l
theorem zv (l:List UInt8):Lib.replaceAll l [10] [32]=jd l:=by
 rw[CS 10 [32] l (by decide)];unfold jd
 induction l with
 |nil=>rfl
 |cons b l ih=>
  rw[List.flatMap_cons,List.map_cons,ih]
  by_cases h:b=10<;>simp[h]
theorem DE (s sub:ByteArray) (w:World) (hs:s.size<4294967281) (hm:jl w):
  Calls prog 108 #[.string s,.string sub] w fun e w'=>e=.returned (.bool (Lib.contains s.data.toList sub.data.toList))∧w=w':=by
 obtain⟨m,hm⟩:=hm;exact(strings_Contains s sub m w hs hm).mono fun e w' h=>⟨h.1,h.2.symm⟩
theorem JW (s sub:ByteArray) (w:World):
  Calls prog 68 #[.string s,.string sub] w fun e w'=>e=.returned (.bool (Lib.hasPrefix s.data.toList sub.data.toList))∧w=w':=
 (strings_HasPrefix s sub w).mono fun e w' h=>⟨h.1,h.2.symm⟩
theorem J7 (s sub:ByteArray) (w:World) (hs:s.size≤9223372036854775807):
  Calls prog 173 #[.string s,.string sub] w fun e w'=>e=.returned (.bool (Lib.hasSuffix s.data.toList sub.data.toList))∧w=w':=
 (strings_HasSuffix s sub w hs).mono fun e w' h=>⟨h.1,h.2.symm⟩
theorem Rg {P:Prop} (h:P:=by
 go_wp2_with (go_at_call 53;(first|(with_reducible refine(nX _).mono ?_;rintro e w' ⟨rfl,rfl⟩)|(with_reducible refine(qY _).mono ?_;rintro e w' ⟨rfl,rfl⟩)))
 all_goals
  go_round
  case rel=>exact⟨k+1,by omega,by go_num,by unfold Hid;rw[HA.out,dq.out,HP.out];rfl⟩
  case measure=>simp[intOf];omega):P:=h
theorem CO (s:ByteArray) (w:World) (hs:s.size≤1000000000) (hm:jl w):
  Calls prog 116 #[.string s] w fun e w'=>e=.returned (.bool (mE s.data.toList))∧w=w':=by
 go_enter func116,ntmps116
 go_wp2
 go_loop [3] (fun i=>∃k:Nat,k≤s.size∧i=.int .i64 k∧Hid ((s.data.toList.take k).all By=true)) (fun i=>s.size - (intOf i).toNat)
 case atStart=>exact⟨0,Nat.zero_le _,rfl,by simp[Hid]⟩
 case round=>
  obtain⟨k,hk,rfl,dq⟩:=hrel
  by_cases aS:k<s.size
  ·have HA:=Lib.hid (ml By s k aS)
   have h64:wrap64 (s[k].toNat:Int)=(s[k].toNat:Int):=by have:=s[k].toNat_lt;unfold wrap64;omega
   have nX:=fun W=>bx (wrap64 (s[k].toNat:Int)) 97 122 W
   have qY:=fun W=>bx (wrap64 (s[k].toNat:Int)) 48 57 W
   have i1:iH (wrap64 (s[k].toNat:Int)) 97 122=iH (s[k].toNat:Int) 97 122:=by rw[h64]
   have i2:iH (wrap64 (s[k].toNat:Int)) 48 57=iH (s[k].toNat:Int) 48 57:=by rw[h64]
   rw[i1] at nX;rw[i2] at qY;clear i1 i2 h64
   by_cases hp:By s[k]=true
   ·have HP:=Lib.hid hp;unfold By at hp;rw[Bool.or_eq_true,Bool.or_eq_true,decide_eq_true_eq] at hp
    by_cases uk:(s[k].toNat:Int)=32
    ·clear hp nX qY
     go_wp2_with fail
     all_goals
      go_round
      case rel=>exact⟨k+1,by omega,by go_num,by unfold Hid;rw[HA.out,dq.out,HP.out];rfl⟩
      case measure=>simp[intOf];omega
    ·have RO:s[k]≠32:=fun e=>uk (by rw[e];rfl)
     rcases hp with hp|hp
     ·exact absurd hp RO
     ·rcases hp with hp|hp
      ·rw[hp] at nX;clear RO hp;exact Rg
      ·rw[hp] at qY;clear RO hp
       cases h1:iH (s[k].toNat:Int) 97 122
       all_goals
        rw[h1] at nX;clear h1;exact Rg
   ·have HE:Hid (mE s.data.toList=false):=by
     unfold Hid;have:=nr By s k aS (by simpa using hp);unfold mE;rw[this];rfl
    unfold By at hp;simp only[Bool.or_eq_true,not_or,decide_eq_true_eq,Bool.not_eq_true] at hp;obtain⟨uk,h1,h2⟩:=hp
    have RO:(s[k].toNat:Int)≠32:=fun e=>uk (by apply UInt8.toNat_inj.1;have e2:s[k].toNat=32:=(by omega);rw[e2];rfl)
    rw[h1] at nX;rw[h2] at qY;clear h1 h2 uk
    go_wp2_with (go_at_call 53;(first|(with_reducible refine(nX _).mono ?_;rintro e w' ⟨rfl,rfl⟩)|(with_reducible refine(qY _).mono ?_;rintro e w' ⟨rfl,rfl⟩)))
    all_goals (go_ret;exact⟨by rw[HE.out];rfl,rfl⟩)
  ·have HF:=Lib.hid (nu By s k (by omega) dq.out)
   have Eg:=fun W=>JW s ⟨#[32]⟩ W
   have hp2:=fun W=>J7 s ⟨#[32]⟩ W (by omega)
   have hp3:=DE s ⟨#[32,32]⟩ w (by omega) hm
   have HE:Hid (mE s.data.toList=(!Lib.hasPrefix s.data.toList [32]&& (!Lib.hasSuffix s.data.toList [32]&& !Lib.contains s.data.toList [32,32]))):=by
    unfold Hid mE;rw[HF.out];rfl
   change ∀W,Calls prog 68 #[.string s,.string ⟨#[32]⟩] W fun e w'=>e=.returned (.bool (Lib.hasPrefix s.data.toList [32]))∧W=w' at Eg
   change ∀W,Calls prog 173 #[.string s,.string ⟨#[32]⟩] W fun e w'=>e=.returned (.bool (Lib.hasSuffix s.data.toList [32]))∧W=w' at hp2
   change Calls prog 108 #[.string s,.string ⟨#[32,32]⟩] w fun e w'=>e=.returned (.bool (Lib.contains s.data.toList [32,32]))∧w=w' at hp3
   generalize Lib.hasPrefix s.data.toList [32]=b1 at*;generalize Lib.hasSuffix s.data.toList [32]=b2 at*;generalize Lib.contains s.data.toList [32,32]=b3 at*
   have mN:¬((k:Int)<(s.size:Int)):=by omega
   clear aS HF
   cases b1<;>cases b2<;>cases b3
   all_goals
    go_wp2_with (first
     |(go_at_call 68;with_reducible refine(Eg _).mono ?_;rintro e w' ⟨rfl,rfl⟩)
     |(go_at_call 173;with_reducible refine(hp2 _).mono ?_;rintro e w' ⟨rfl,rfl⟩)
     |(go_at_call 108;with_reducible refine hp3.mono ?_;rintro e w' ⟨rfl,rfl⟩))
    go_ret
    exact⟨by rw[HE.out];rfl,rfl⟩
def A7 (it:aA):Prop:=it.aW.size≤4000000∧it.code.size≤4000000∧(∀s∈it.opts,s.size≤4000000)∧(∀s∈it.texts,s.size≤4000000)
theorem Ge (s:ByteArray) (w:World) (hs:s.size≤4000000) (hm:jl w):
  Calls prog 112 #[.string s,.string ⟨#[10]⟩,.string ⟨#[32]⟩] w fun e w'=>e=.returned (.string ⟨(jd s.data.toList).toArray⟩)∧Below w.heap.size w w':=by
 obtain⟨m,hm⟩:=hm;have hc:=Lib.countB_le ⟨#[10]⟩ (by decide) s.size s (Nat.le_refl _)
 refine(strings_ReplaceAll s ⟨#[10]⟩ ⟨#[32]⟩ m w (by omega) hm (by decide) (by simp only[show(ByteArray.mk #[32]).size=1 from rfl];omega)).mono fun e w' h=>⟨?_,h.2⟩
 rw[h.1]
 show Ending.returned (.string ⟨(Lib.replaceAll s.data.toList [10] [32]).toArray⟩)=_
 rw[zv]
theorem Rh {P:Prop} (h:P:=by
 go_wp2_with (go_at_call 111;with_reducible refine(hw _).mono ?_;rintro e w' ⟨rfl,rfl⟩)
 go_round
 case rel=>exact⟨k+1,by omega,by go_num,HS⟩
 case measure=>simp[intOf];omega):P:=h
theorem J5 (C:List Value) (it:aA) (w:World) (h:dO w C it) (hs:jS it) (hz:A7 it) (hm:jl w):
  Calls prog 54 #[.agg C.toArray] w fun e w'=>e=.returned (.bool (AS it))∧Below w.heap.size w w':=by
 have hlen:=h.len;obtain⟨vo,vc,vt,va,hC,⟨A1,c1,rfl,_,_,S1⟩,_,⟨A3,c3,rfl,_,_,S3⟩,_⟩:=h
 have C3:C[3]? =some (.string it.aW):=by rw[hC];rfl
 have C4:C[4]? =some (.slice A1 it.opts.length c1):=by rw[hC];rfl
 have C8:C[8]? =some (.slice A3 it.texts.length c3):=by rw[hC];rfl
 have SI:C[10]? =some (.string it.code):=by rw[hC];rfl
 clear hC;obtain⟨s1,s2,s3,_⟩:=hs;obtain⟨z1,z2,z3,z4⟩:=hz;unfold AS;generalize it.aW=st at*;generalize it.opts=L1 at*;generalize it.texts=L3 at*;generalize it.code=cd at*;clear s2;have zn1:=Lib.hid z3;have zn3:=Lib.hid z4;clear z3 z4;obtain⟨n1,ix⟩:∃n,n=L1.length:=⟨_,rfl⟩;obtain⟨n3,pj⟩:∃n,n=L3.length:=⟨_,rfl⟩;rw[←ix] at C4 S1 s1;rw[←pj] at C8 S3 s3;have n1e:=Lib.hid ix;have CN:=Lib.hid pj;clear ix pj
 have iw:(⟨(jd st.data.toList).toArray⟩:ByteArray).size≤4000000:=by
  show(jd st.data.toList).toArray.size≤4000000
  unfold jd;simpa using z1
 have RW:(⟨(jd st.data.toList).toArray⟩:ByteArray).data.toList=jd st.data.toList:=rfl
 have hp:∀W,Calls prog 111 #[.string ⟨(jd st.data.toList).toArray⟩,.int .i64 2000] W fun e w'=>e=.returned (.bool (cP (jd st.data.toList) 2000))∧W=w':=
  fun W=>pD ⟨(jd st.data.toList).toArray⟩ 2000 W (by omega) (by decide)
 have hrp:=fun W=>Ge st W z1
 generalize jd st.data.toList=bl at*;clear iw RW
 go_enter func54,ntmps54
 have aL:=trivial
 go_wp2_with (first
  |(clear aL;(with_reducible refine ao (C:=C) ?_ ?_);rfl;intro x1 g1 aR R1 aw;have eV:=Nat.le_of_eq aR;have BB:=aw;have eo:=ae R1 C3;have aK:=ae R1 C4;have bK:=ae R1 C8;have ye:=ae R1 SI;clear aw aR;have aJ:=trivial))
 try clear aJ
 replace S1:=S1.below BB;replace S3:=S3.below BB;replace hm:=hm.below BB;refine(hrp _ hm).mono ?_;rintro r x2 ⟨rfl,aF⟩;replace S1:=S1.below aF;replace S3:=S3.below aF;replace hm:=hm.below aF;replace R1:=R1.keep aF;replace BB:=az BB aF;clear eo aK bK ye;have eo:=ae R1 C3;have aK:=ae R1 C4;have bK:=ae R1 C8;have ye:=ae R1 SI;clear aF;generalize x2=w2 at*
 cases hP:cP bl 2000 with
 |false=>
  rw[hP] at hp
  go_wp2_with (go_at_call 111;with_reducible refine(hp _).mono ?_;rintro e w' ⟨rfl,rfl⟩)
  go_ret
  exact⟨by rw[hP];rfl,BB⟩
 |true=>
 rw[hP] at hp;have HP:=Lib.hid hP;clear hP
 go_wp2_with (go_at_call 111;with_reducible refine(hp _).mono ?_;rintro e w' ⟨rfl,rfl⟩)
 obtain⟨_,S1⟩:=S1;obtain⟨_,S3⟩:=S3
 go_loop [15] (fun i=>∃k:Nat,k≤n1∧i=.int .i64 k∧Hid (∀j,j<k→cP (L1.getD j ⟨#[]⟩).data.toList 200=true)) (fun i=>n1 - (intOf i).toNat)
 case atStart=>exact⟨0,Nat.zero_le _,rfl,fun j hj=>absurd hj (Nat.not_lt_zero _)⟩
 case round=>
  obtain⟨k,hk,rfl,dq⟩:=hrel
  by_cases aS:k<n1
  ·have mN:(k:Int)<(n1:Int):=by omega
   obtain⟨b,o,rfl,hc⟩:=S1 (by omega)
   have c0:w2.cell? ⟨b,o+k,none⟩=some (.string (L1.getD k ⟨#[]⟩)):=by
    refine hc k _ ?_;have:=n1e.out;rw[List.getElem?_map,List.getElem?_eq_getElem (by omega)]
    simp[List.getD,List.getElem?_eq_getElem (show k<L1.length by omega)]
   have cM:(L1.getD k ⟨#[]⟩).size≤4000000:=zn1.out _ (by
    have:=n1e.out
    simp[List.getD,List.getElem?_eq_getElem (show k<L1.length by omega)])
   have hw:∀W,Calls prog 111 #[.string (L1.getD k ⟨#[]⟩),.int .i64 200] W fun e w'=>e=.returned (.bool (cP (L1.getD k ⟨#[]⟩).data.toList 200))∧W=w':=
    fun W=>pD (L1.getD k ⟨#[]⟩) 200 W (by omega) (by decide)
   cases dZ:cP (L1.getD k ⟨#[]⟩).data.toList 200 with
   |false=>
    have HF:Hid (L1.all (fun s=>cP s.data.toList 200)=false):=by
     unfold Hid;rw[List.all_eq_false];refine⟨L1.getD k ⟨#[]⟩,?_,by rw[dZ];decide⟩;have:=n1e.out
     simp[List.getD,List.getElem?_eq_getElem (show k<L1.length by omega)]
    rw[dZ] at hw;clear dZ hc S1;generalize L1.getD k ⟨#[]⟩=x at c0 hw
    go_wp2_with (go_at_call 111;with_reducible refine(hw _).mono ?_;rintro e w' ⟨rfl,rfl⟩)
    go_ret
    exact⟨by rw[HP.out,HF.out];rfl,BB⟩
   |true=>
    have HS:Hid (∀j,j<k+1→cP (L1.getD j ⟨#[]⟩).data.toList 200=true):=by
     intro j hj
     rcases Nat.lt_or_ge j k with oJ|oJ
     ·exact dq.out j oJ
     ·obtain rfl:j=k:=by omega
      exact dZ
    rw[dZ] at hw;clear dZ hc S1;generalize L1.getD k ⟨#[]⟩=x at c0 hw;exact Rh
  ·have mN:¬((k:Int)<(n1:Int)):=by omega
   have aaU:Hid (L1.all (fun s=>cP s.data.toList 200)=true):=by
    unfold Hid;rw[List.all_eq_true];intro x hx;obtain⟨j,hj,rfl⟩:=List.mem_iff_getElem.1 hx;have:=dq.out j (by have:=n1e.out;omega)
    simpa[List.getD,List.getElem?_eq_getElem hj] using this
   go_wp2
   go_loop [26] (fun i=>∃k:Nat,k≤n3∧i=.int .i64 k∧Hid (∀j,j<k→cP (L3.getD j ⟨#[]⟩).data.toList 200=true)) (fun i=>n3 - (intOf i).toNat)
   case atStart=>exact⟨0,Nat.zero_le _,rfl,fun j hj=>absurd hj (Nat.not_lt_zero _)⟩
   case round=>
    obtain⟨k,hk,rfl,dq⟩:=hrel
    by_cases aS:k<n3
    ·have mN:(k:Int)<(n3:Int):=by omega
     obtain⟨b,o,rfl,hc⟩:=S3 (by omega)
     have c0:w2.cell? ⟨b,o+k,none⟩=some (.string (L3.getD k ⟨#[]⟩)):=by
      refine hc k _ ?_;have:=CN.out;rw[List.getElem?_map,List.getElem?_eq_getElem (by omega)]
      simp[List.getD,List.getElem?_eq_getElem (show k<L3.length by omega)]
     have cM:(L3.getD k ⟨#[]⟩).size≤4000000:=zn3.out _ (by
      have:=CN.out
      simp[List.getD,List.getElem?_eq_getElem (show k<L3.length by omega)])
     have hw:∀W,Calls prog 111 #[.string (L3.getD k ⟨#[]⟩),.int .i64 200] W fun e w'=>e=.returned (.bool (cP (L3.getD k ⟨#[]⟩).data.toList 200))∧W=w':=
      fun W=>pD (L3.getD k ⟨#[]⟩) 200 W (by omega) (by decide)
     cases dZ:cP (L3.getD k ⟨#[]⟩).data.toList 200 with
     |false=>
      have HF:Hid (L3.all (fun s=>cP s.data.toList 200)=false):=by
       unfold Hid;rw[List.all_eq_false];refine⟨L3.getD k ⟨#[]⟩,?_,by rw[dZ];decide⟩;have:=CN.out
       simp[List.getD,List.getElem?_eq_getElem (show k<L3.length by omega)]
      rw[dZ] at hw;clear dZ hc S3;generalize L3.getD k ⟨#[]⟩=x at c0 hw
      go_wp2_with (go_at_call 111;with_reducible refine(hw _).mono ?_;rintro e w' ⟨rfl,rfl⟩)
      go_ret
      exact⟨by rw[HP.out,aaU.out,HF.out];rfl,BB⟩
     |true=>
      have HS:Hid (∀j,j<k+1→cP (L3.getD j ⟨#[]⟩).data.toList 200=true):=by
       intro j hj
       rcases Nat.lt_or_ge j k with oJ|oJ
       ·exact dq.out j oJ
       ·obtain rfl:j=k:=by omega
        exact dZ
      rw[dZ] at hw;clear dZ hc S3;generalize L3.getD k ⟨#[]⟩=x at c0 hw;exact Rh
    ·have mN:¬((k:Int)<(n3:Int)):=by omega
     have acu:Hid (L3.all (fun s=>cP s.data.toList 200)=true):=by
      unfold Hid;rw[List.all_eq_true];intro x hx;obtain⟨j,hj,rfl⟩:=List.mem_iff_getElem.1 hx;have:=dq.out j (by have:=CN.out;omega)
      simpa[List.getD,List.getElem?_eq_getElem hj] using this
     have hcd:=GP cd w2 (by omega) hm
     go_wp2_with (go_at_call 113;with_reducible refine hcd.mono ?_;rintro e w' ⟨rfl,hb⟩)
     go_ret
     exact⟨by rw[HP.out,aaU.out,acu.out];rfl,az BB hb⟩
end
end Go.Proofs.YtdnpopjabpklnaaGreatDoor
