/- Contracts and plain laws that the proof of the top laws uses (G15). No condition beyond those stated. -/
import Derived.Test.YtdnpopjabpklnaaGreatDoorQrD
import Derived.Lib.OthersKept
set_option maxRecDepth 100000
set_option maxHeartbeats 64000000
set_option linter.all false
namespace Go.Proofs.YtdnpopjabpklnaaGreatDoor
section
open Go.RowKit
open Tryz
theorem EY {c:UInt8} (h:mG c=true):c.toNat<128∧c≠40∧c≠41∧c≠34∧c≠60∧c≠62∧c≠61∧c≠33:=by
 unfold mG at h
 simpa using h
theorem nI {c d:UInt8} (h:c≠d):((c.toNat:Int)==(d.toNat:Int))=false:=by
 rw[beq_eq_false_iff_ne];intro e;exact h (UInt8.toNat_inj.1 (by omega))
theorem Mf (c:UInt8) (w:World) (h:mG c=true):
  Calls prog 97 #[.int .i32 (c.toNat:Int)] w fun e w'=>e=.returned (.bool (!(c==32)))∧w'=w:=by
 obtain⟨_,h1,h2,h3,h4,h5,h6,h7⟩:=EY h;have e1:((c.toNat:Int)==40)=false:=nI h1;have e2:((c.toNat:Int)==41)=false:=nI h2;have e3:((c.toNat:Int)==34)=false:=nI h3;have e4:((c.toNat:Int)==60)=false:=nI h4;have e5:((c.toNat:Int)==62)=false:=nI h5;have e6:((c.toNat:Int)==61)=false:=nI h6;have e7:((c.toNat:Int)==33)=false:=nI h7;clear h h1 h2 h3 h4 h5 h6 h7
 by_cases hc:c=32
 ·subst hc
  go_enter func97,ntmps97
  go_wp2_with fail
  go_ret
  exact⟨rfl,rfl⟩
 ·have e0:((c.toNat:Int)==32)=false:=nI hc;have vZ:(c==32)=false:=beq_eq_false_iff_ne.2 hc;rw[vZ];generalize (c.toNat:Int)=x at*
  go_enter func97,ntmps97
  go_wp2_with fail
  go_ret
  exact⟨rfl,rfl⟩
theorem YX {w w':World} {base e k n g:Nat} {v:Value} {xs:List Value} (h:w.ownsRow base e k v n xs) (hp:cH g w w') (hg:g<base):w'.ownsRow base e k v n xs:=by
 refine⟨h.1,?_⟩
 rcases h.2 with h0|⟨b,cap,cur,hv,hb,hh,rest⟩
 ·exact .inl h0
 ·exact .inr ⟨b,cap,cur,hv,hb,(hp.block b (by omega)).trans hh,rest⟩
theorem GU:ByteArray.empty=⟨#[]⟩:=rfl
theorem Dd:(prog.info? 117).map (fun i=>(i.zero,i.size,i.bytes))=some (some (.agg #[.int .i64 0,.int .i64 0,.string ByteArray.empty]),3,32):=by kernel_rfl
theorem Qh (s:ByteArray) (k:Nat) (hk:k<s.size):dU s (k+1)=if s[k]=32 then (if 0≤(dU s k).1 then (-1,(dU s k).2++ [⟨6,(dU s k).1,s.extract (dU s k).1.toNat k⟩]) else dU s k) else (if (dU s k).1<0 then ((k:Int),(dU s k).2) else dU s k):=by
 have:s.data.toList.getD k 0=s[k]:=by rw[List.getD,List.getElem?_eq_getElem (by simpa using hk)];rfl
 rw[dU,this]
theorem Q' {P:Prop} (h:P:=by
 go_wp2_with fail
 go_roundw
 case rel=>exact⟨k+1,by omega,rfl,⟨p,rfl,by unfold Hid;rw[wS.out];exact hp.out⟩,by rw[wS.out,←SU.out,←xU.out];exact O1,GW,B1⟩
 case measure=>exact Xz _ GW):P:=h
theorem Qm (s:ByteArray) (w:World) (hs:s.size≤1000) (hp:∀(k:Nat) (hk:k<s.size),mG s[k]=true):
  Calls prog 44 #[.string s] w fun e w'=>∃v,e=.returned v∧w'.ownsRow w.heap.size 117 3 v (lz s).length ((lz s).map oE).flatten∧Below w.heap.size w w':=by
 have HP:=Lib.hid hp;clear hp
 go_enter func44,ntmps44
 go_wp2_with fail
 have HI:=World.iter_heap w s 0;have BI:Below w.heap.size w (w.iter s 0):=ai w (.stringIter s 0)
 go_loopw [3,4,5] (fun s3 s4 s5 wr=>∃k:Nat,k≤s.size∧s5=.int .i64 0∧(∃p:Int,s4=.int .i64 p∧Hid (p=(dU s k).1))∧wr.ownsRow (w.heap.size+1) 117 3 s3 (dU s k).2.length ((dU s k).2.map oE).flatten∧wr.heap[w.heap.size]? =some (.stringIter s k)∧Below w.heap.size w wr) (fun _ _ _ wr=>s.size - wr.iterPos w.heap.size)
 case atStart=>exact⟨0,Nat.zero_le _,rfl,⟨-1,rfl,rfl⟩,World.ownsRow_nil _ _ _ _,HI,BI⟩
 case round=>
  clear HI BI;obtain⟨k,hk,rfl,⟨p,rfl,hp⟩,OT,hit,BB⟩:=hrel;have hle:=vN s k;rw[←hp.out] at hle
  have hmu:wr.iterPos w.heap.size=k:=by simp[World.iterPos,hit]
  have Xh:w.heap.size<wr.heap.size:=(Array.getElem?_eq_some_iff.1 hit).1
  by_cases aS:k<s.size
  ·have zH:=Lib.hid (Qh s k aS);have yQ:=HP.out k aS;have aa7:=(EY yQ).1
   have T6:∀ty,(Instr.next (.pointer (some ⟨w.heap.size,0,none⟩)) true ty).run prog wr=_:=fun ty=>Lib.run_next_ascii_at wr w.heap.size s k ty hit aS aa7
   have PI:cH w.heap.size wr (wr.iterAt w.heap.size s (k+1)):=⟨rfl,rfl,rfl,Lib.iterAt_size _ _ _ _,fun b hb=>Lib.iterAt_other _ _ _ _ _ hb⟩;have O1:=YX OT PI (Nat.lt_succ_self _);have GW:=Lib.iterAt_heap wr w.heap.size s k (k+1) hit;have B1:=BB.trans (PI.below (Nat.le_refl _))
   have OU:w.heap.size<(wr.iterAt w.heap.size s (k+1)).heap.size:=by rw[Lib.iterAt_size];exact Xh
   have HW:=fun W=>Mf s[k] W yQ
   generalize wr.iterAt w.heap.size s (k+1)=W1 at T6 O1 GW B1 OU
   have Xz:∀W:World,W.heap[w.heap.size]? =some (.stringIter s (k+1))→s.size - W.iterPos w.heap.size<s.size - wr.iterPos w.heap.size:=fun W h=>by rw[hmu];simp[World.iterPos,h];omega
   have kx:(k:Int)<0→False:=fun h=>by omega
   clear OT hit BB PI aa7 Xh hmu
   go_wp2_with fail
   with_reducible refine(HW W1).mono ?_
   rintro e W2 ⟨rfl,rfl⟩;clear HW T6;obtain⟨nT,Je⟩:∃nT,nT=(dU s k).2.length:=⟨_,rfl⟩;obtain⟨LT,DR⟩:∃LT,LT=(dU s k).2:=⟨_,rfl⟩
   have CB:nT≤k:=by rw[Je];exact(vN s k).2.2
   rw[←Je,←DR] at O1;have SU:=Lib.hid Je;have xU:=Lib.hid DR;obtain⟨X,y,rfl,_,_⟩:=aj O1;clear Je DR;obtain⟨Eg,hp2,_⟩:=hle
   by_cases hc:s[k]=32
   ·have I1:(s[k]==32)=true:=beq_iff_eq.2 hc
    have tq:((s[k]).toNat:Int)=32:=by rw[hc];rfl
    rw[I1,tq]
    by_cases LX:0≤p
    ·obtain⟨q,rfl⟩:∃q:Nat,p=q:=⟨p.toNat,by omega⟩
     have hqk:(q:Int)≤(k:Int):=by omega
     have xj:(k:Int)≤(s.size:Int):=by omega
     have wS:Hid (dU s (k+1)=(-1,LT++ [⟨6,q,s.extract q k⟩])):=by
      unfold Hid;rw[zH.out,if_pos hc,if_pos (by rw[←hp.out];exact LX),←hp.out,←xU.out];rfl
     go_wp2_with (first|((refine cv (by rfl) (.tmp 26) (.tmp 33) 110 (by rfl) (w.heap.size+1) 117 _ 3 32 underlying110 Dd rfl (by decide) (.slice X nT y) nT _ (some ⟨W2.heap.size,0,none⟩) 1 1 [.int .i64 6,.int .i64 (q:Int),.string (s.extract q k)] (by rfl) (by rfl) (bN O1 (.cells #[.int .i64 6,.int .i64 (q:Int),.string (s.extract q k)] 117)) ⟨rfl,fun _=>⟨_,_,rfl,(Row.new W2 117 [.int .i64 6,.int .i64 (q:Int),.string (s.extract q k)]).cl⟩⟩ (rU ⟨_,_,_⟩) (by unfold maxLen;omega) (by omega) (by simp;omega) ?_);intro v2 w2 gM gy))
     have OA:=bN O1 (.cells #[.int .i64 6,.int .i64 (q:Int),.string (s.extract q k)] 117);have hl:=ai W2 (.cells #[.int .i64 6,.int .i64 (q:Int),.string (s.extract q k)] 117);have e_:=bG OA gy (Nat.le_refl _) (Nat.le_trans (Nat.succ_le_of_lt OU) hl.size);have abu:w2.heap[w.heap.size]? =some (.stringIter s (k+1)):=((e_.block _ (Nat.lt_succ_self _)).trans (hl.block _ OU)).trans GW
     go_roundw
     case rel=>exact⟨k+1,by omega,rfl,⟨-1,rfl,by unfold Hid;rw[wS.out]⟩,by rw[wS.out];simpa[SU.out,xU.out,oE] using gM,abu,(az B1 hl).trans (e_.mono (Nat.le_succ _))⟩
     case measure=>exact Xz _ abu
    ·have hpn:p<0:=by omega
     have wS:Hid (dU s (k+1)=dU s k):=by unfold Hid;rw[zH.out,if_pos hc,if_neg (by rw[←hp.out];exact LX)]
     exact Q'
   ·have I1:(s[k]==32)=false:=beq_eq_false_iff_ne.2 hc;rw[I1]
    by_cases LX:p<0
    ·have wS:Hid (dU s (k+1)=((k:Int),LT)):=by unfold Hid;rw[zH.out,if_neg hc,if_pos (by rw[←hp.out];exact LX),←xU.out]
     go_wp2_with fail
     go_roundw
     case rel=>exact⟨k+1,by omega,rfl,⟨k,rfl,by unfold Hid;rw[wS.out]⟩,by rw[wS.out];simpa[SU.out,xU.out] using O1,GW,B1⟩
     case measure=>exact Xz _ GW
    ·have wS:Hid (dU s (k+1)=dU s k):=by unfold Hid;rw[zH.out,if_neg hc,if_neg (by rw[←hp.out];exact LX)]
     exact Q'
  ·have xj:k=s.size:=by omega
   have T6:∀ty,(Instr.next (.pointer (some ⟨w.heap.size,0,none⟩)) true ty).run prog wr=_:=fun ty=>Lib.run_next_end_at wr w.heap.size s k ty hit aS
   obtain⟨nT,Je⟩:∃nT,nT=(dU s k).2.length:=⟨_,rfl⟩;obtain⟨LT,DR⟩:∃LT,LT=(dU s k).2:=⟨_,rfl⟩
   have CB:nT≤k:=by rw[Je];exact(vN s k).2.2
   rw[←Je,←DR] at OT;have SU:=Lib.hid Je;have xU:=Lib.hid DR;have Vm:=Lib.hid xj;obtain⟨X,y,rfl,_,_⟩:=aj OT
   have hkz:k≤1000:=by omega
   clear Je DR hmu aS hk xj;obtain⟨Eg,hp2,_⟩:=hle
   by_cases LX:0≤p
   ·obtain⟨q,rfl⟩:∃q:Nat,p=q:=⟨p.toNat,by omega⟩
    have hqk:(q:Int)≤(s.size:Int):=by have:=Vm.out;omega
    have HE:Hid (lz s=(LT++ [⟨6,q,s.extract q s.size⟩])++ [⟨0,s.size,ByteArray.empty⟩]):=by
     unfold Hid lz;rw[←Vm.out,if_pos (by rw[←hp.out];exact LX),←hp.out,←xU.out];rfl
    have aL:=trivial
    go_wp2_with (first
     |(clear aJ;(refine cv (by rfl) (.tmp 68) (.tmp 72) 110 (by rfl) (w.heap.size+1) 117 _ 3 32 underlying110 Dd rfl (by decide) v2 (nT+1) _ (some ⟨w2.heap.size,0,none⟩) 1 1 [.int .i64 0,.int .i64 (s.size:Int),.string ⟨#[]⟩] (by rfl) (by rfl) (bN gM (.cells #[.int .i64 0,.int .i64 (s.size:Int),.string ⟨#[]⟩] 117)) ⟨rfl,fun _=>⟨_,_,rfl,(Row.new w2 117 [.int .i64 0,.int .i64 (s.size:Int),.string ⟨#[]⟩]).cl⟩⟩ (rU ⟨_,_,_⟩) (by unfold maxLen;omega) (by omega) (by simp;omega) ?_);intro v3 w3 ho3 mg;have bC:=trivial)
     |(clear aL;(refine cv (by rfl) (.tmp 60) (.tmp 66) 110 (by rfl) (w.heap.size+1) 117 _ 3 32 underlying110 Dd rfl (by decide) (.slice X nT y) nT _ (some ⟨wr.heap.size,0,none⟩) 1 1 [.int .i64 6,.int .i64 (q:Int),.string (s.extract q s.size)] (by rfl) (by rfl) (bN OT (.cells #[.int .i64 6,.int .i64 (q:Int),.string (s.extract q s.size)] 117)) ⟨rfl,fun _=>⟨_,_,rfl,(Row.new wr 117 [.int .i64 6,.int .i64 (q:Int),.string (s.extract q s.size)]).cl⟩⟩ (rU ⟨_,_,_⟩) (by unfold maxLen;omega) (by omega) (by simp;omega) ?_);intro v2 w2 gM gy;have OA:=bN OT (.cells #[.int .i64 6,.int .i64 (q:Int),.string (s.extract q s.size)] 117);have hl:=ai wr (.cells #[.int .i64 6,.int .i64 (q:Int),.string (s.extract q s.size)] 117);have e_:=bG OA gy (Nat.le_refl _) (Nat.le_trans (Nat.succ_le_of_lt Xh) hl.size);have adh:=Nat.lt_of_lt_of_le (Nat.lt_of_lt_of_le Xh hl.size) e_.size;have B2:=(az BB hl).trans (e_.mono (Nat.le_succ _));clear OA hl e_ gy;have aJ:=trivial))
    have OA:=bN gM (.cells #[.int .i64 0,.int .i64 (s.size:Int),.string ⟨#[]⟩] 117);have hl:=ai w2 (.cells #[.int .i64 0,.int .i64 (s.size:Int),.string ⟨#[]⟩] 117);have e_:=bG OA mg (Nat.le_refl _) (Nat.le_trans (Nat.succ_le_of_lt adh) hl.size)
    go_ret
    exact⟨v3,rfl,aX (by rw[HE.out];simpa[SU.out,xU.out,List.append_assoc,oE,GU] using ho3) (Nat.le_succ _),(az B2 hl).trans (e_.mono (Nat.le_succ _))⟩
   ·have hpn:p<0:=by omega
    have HE:Hid (lz s=LT++ [⟨0,s.size,ByteArray.empty⟩]):=by
     unfold Hid lz;rw[←Vm.out,if_neg (by rw[←hp.out];exact LX),←xU.out]
    go_wp2_with (first|((refine cv (by rfl) (.tmp 68) (.tmp 72) 110 (by rfl) (w.heap.size+1) 117 _ 3 32 underlying110 Dd rfl (by decide) (.slice X nT y) nT _ (some ⟨wr.heap.size,0,none⟩) 1 1 [.int .i64 0,.int .i64 (s.size:Int),.string ⟨#[]⟩] (by rfl) (by rfl) (bN OT (.cells #[.int .i64 0,.int .i64 (s.size:Int),.string ⟨#[]⟩] 117)) ⟨rfl,fun _=>⟨_,_,rfl,(Row.new wr 117 [.int .i64 0,.int .i64 (s.size:Int),.string ⟨#[]⟩]).cl⟩⟩ (rU ⟨_,_,_⟩) (by unfold maxLen;omega) (by omega) (by simp;omega) ?_);intro v3 w3 ho3 mg))
    have OA:=bN OT (.cells #[.int .i64 0,.int .i64 (s.size:Int),.string ⟨#[]⟩] 117);have hl:=ai wr (.cells #[.int .i64 0,.int .i64 (s.size:Int),.string ⟨#[]⟩] 117);have e_:=bG OA mg (Nat.le_refl _) (Nat.le_trans (Nat.succ_le_of_lt Xh) hl.size)
    go_ret
    exact⟨v3,rfl,aX (by rw[HE.out];simpa[SU.out,xU.out,oE,GU] using ho3) (Nat.le_succ _),(az BB hl).trans (e_.mono (Nat.le_succ _))⟩
end
end Go.Proofs.YtdnpopjabpklnaaGreatDoor
