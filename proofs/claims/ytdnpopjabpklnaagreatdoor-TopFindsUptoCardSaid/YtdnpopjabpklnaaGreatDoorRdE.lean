/- Contracts and plain laws that the proof of the top laws uses (RdE). No condition beyond those stated. -/
import Derived.Test.YtdnpopjabpklnaaGreatDoorG19
import Derived.BigRegion
set_option maxRecDepth 100000
set_option maxHeartbeats 64000000
set_option linter.all false
namespace Go.Proofs.YtdnpopjabpklnaaGreatDoor
section
open Go.RowKit
open Tryz
theorem Sg (c:UInt8):∀l:List UInt8,c∉l→Lib.indexByte l c= -1
 |[],_=>rfl
 |b::l,h=>by
  have hb:b≠c:=by rintro rfl;exact h (by simp)
  have ih:=Sg c l (fun hh=>h (by simp[hh]))
  simp[Lib.indexByte,hb,ih]
theorem U_ {C:List Value} {k:Nat} {v:Value} (h:C[k]? =some v):C.set k v=C:=by
 obtain⟨hk,rfl⟩:=List.getElem?_eq_some_iff.1 h;exact List.set_getElem_self hk
def ni (v:List UInt8) (z:Int):List (List UInt8):=if z=0 then [] else [aV [v,Lib.itoa z]]
theorem MQ (B:Nat) (w:World) (g gi k:Nat) (T:ByteArray) (done rem:List (List UInt8)) (wd:ByteArray) (v:List UInt8) (z:Int) (t:Nat) (C:List Value) (uJ:wd=ag v) (yT:v.length≤100) (uk:32∉v) (hz:0≤z∧z≤9999999) (hR:Row w gi t C) (h0:C[k]? =some (.int .i64 0)) (gJ:gi≠g) (kO:B≤gi) (xn:k_ v rem)
  (h:Rd B w g T done (ni v z++rem)):
  Calls prog 186 #[.pointer (some ⟨g,0,none⟩),.string wd,.pointer (some ⟨gi,k,none⟩)] w fun e w'=>e=.returned (.int .i64 0)∧Rd B w' g T (done++ni v z) rem∧Row w' gi t (C.set k (.int .i64 z))∧Kp [g,gi] w w':=by
 unfold ni at h ⊢
 by_cases cD:z=0
 ·subst cD;rw[if_pos rfl,List.nil_append] at h;rw[if_pos rfl,List.append_nil];refine(JT B w g T done rem wd v _ uJ yT xn h).mono ?_;rintro e w' ⟨rfl,rfl⟩;rw[U_ h0];exact⟨rfl,h,hR,Kp.refl _ _⟩
 ·rw[if_neg cD] at h ⊢;rw[oR hz.1] at h ⊢;have hk:=(List.getElem?_eq_some_iff.1 h0).1;have:=F' B w g gi k T done rem wd v z.toNat t C uJ yT uk (by omega) hR hk gJ kO ⟨_,h0,rfl⟩ h;rw[Int.toNat_of_nonneg hz.1] at this;exact this
def pw (id bj kind:Int) (aW:ByteArray) (vo:Value) (aP:Int) (code:ByteArray) (bz bB words ay:Int) (va:Value):List Value:=
 [.int .i64 id,.int .i64 bj,.int .i64 kind,.string aW,vo,.slice none 0 0,.int .i64 0,.int .i64 0,.slice none 0 0,.int .i64 aP,.string code,.int .i64 bz,.int .i64 bB,.int .i64 words,.int .i64 ay,va,.int .i64 0]
theorem Ba (it:aA) (rem:List (List UInt8)):iz it++rem=aV [cC,it.code.data.toList]::aV [dw,Lib.itoa it.aP]::aV [fW,Lib.itoa it.words,Lib.itoa it.ay]::(ni fV it.bz++(ni ma it.bB++(jL it++(iP it::(dS eh it.opts++rem))))):=by
 unfold iz Ak rA AH ni dS n0
 simp
theorem Good.acF {it:aA} (h:Good it):∀a∈it.af,0≤a∧a≤9999999:=by
 intro a ha;obtain⟨i,hi,rfl⟩:=List.mem_iff_getElem.1 ha;have:=(uQ h.BQ i hi).1;rw[List.getD,List.getElem?_eq_getElem hi] at this;have e:((some it.af[i]).getD 0)=it.af[i]:=rfl;rw[e] at this;omega
def sU (l:List Int):List (List UInt8):=l.map (fun a=>aV [fc,Lib.itoa a])
theorem NZ {l:List Int} {k:Nat} (h:k<l.length):sU (l.take (k+1))=sU (l.take k)++ [aV [fc,Lib.itoa l[k]]]:=by
 unfold sU;rw[List.take_succ_eq_append_getElem h,List.map_append];rfl
theorem NY {l:List Int} {k:Nat} (h:k<l.length):sU (l.drop k)=aV [fc,Lib.itoa l[k]]::sU (l.drop (k+1)):=by
 unfold sU;rw[List.drop_eq_getElem_cons h];rfl
theorem Zs {l:List Int} {k:Nat} (h:k<l.length):(l.take (k+1)).map (Value.int .i64)=(l.take k).map (Value.int .i64)++ [.int .i64 l[k]]:=by
 rw[List.take_succ_eq_append_getElem h,List.map_append];rfl
theorem Te (B:Nat) (w:World) (g gi:Nat) (T:ByteArray) (done rem:List (List UInt8)) (it:aA) (hG:Good it) (hR:Row w gi 47 (pw it.id it.bj it.kind ⟨#[]⟩ (.slice none 0 0) 0 ⟨#[]⟩ 0 0 0 0 (.slice none 0 0))) (gJ:gi≠g) (kO:B≤gi) (xn:k_ eh rem)
  (h:Rd B w g T done (iz it++rem)):
  Calls prog 126 #[.pointer (some ⟨g,0,none⟩),.pointer (some ⟨gi,0,none⟩)] w fun e w'=>e=.returned (.int .i64 0)∧Rd B w' g T (done++iz it) rem∧
   (∃vo va,Row w' gi 47 (pw it.id it.bj it.kind it.aW vo it.aP it.code it.bz it.bB it.words it.ay va)∧iD w.heap.size w' vo it.opts∧db w.heap.size w' va it.af)∧Kp [g,gi] w w':=by
 have xi:=h.lt;have LR:=hR.lt
 have gG:∀W,Rd B W g T (done++ [aV [cC,it.code.data.toList]]++ [aV [dw,Lib.itoa it.aP]]++ [aV [fW,Lib.itoa it.words,Lib.itoa it.ay]]++ni fV it.bz++ni ma it.bB++jL it++ [iP it]++dS eh it.opts) rem→Rd B W g T (done++iz it) rem:=fun W hW=>by
  have e:=Ba it [];rw[List.append_nil] at e;rw[e,List.append_nil]
  simpa using hW
 rw[Ba] at h
 have p1:0≤it.aP:=by have:=hG.aP;omega
 have p2:0≤it.words:=hG.words.1
 have p3:0≤it.ay:=by have:=hG.ay;omega
 rw[oR p1,Ha p2 p3] at h
 have HF:Hid (∀W,Rd B W g T (done++ [aV [cC,it.code.data.toList]]++ [iU dw [it.aP.toNat]]++ [iU fW [it.words.toNat,it.ay.toNat]]++ni fV it.bz++ni ma it.bB++jL it++ [iP it]++dS eh it.opts) rem→Rd B W g T (done++iz it) rem):=fun W hW=>gG W (by rw[oR p1,Ha p2 p3];exact hW)
 have eP:Hid ((⟨#[112,111,105,110,116,115]⟩:ByteArray)=ag dw):=rfl;have eT:Hid ((⟨#[116,105,109,101]⟩:ByteArray)=ag fW):=rfl;have eF:Hid ((⟨#[102,97,109,105,108,121]⟩:ByteArray)=ag fV):=rfl;have eS:Hid ((⟨#[115,101,116]⟩:ByteArray)=ag ma):=rfl;have eA:Hid ((⟨#[97,115,115,101,116]⟩:ByteArray)=ag fc):=rfl;have eM:Hid ((⟨#[115,116,101,109]⟩:ByteArray)=ag lh):=rfl;have eO:Hid ((⟨#[111,112,116,105,111,110]⟩:ByteArray)=ag eh):=rfl;have HG:=Lib.hid hG;have SS:=Lib.hid xn;have Ap:=Ae hG.code;have fE:=h.line
 have tf:Calls prog 70 #[.string (ag (aV [cC,it.code.data.toList])),.string ⟨#[99,111,110,116,101,110,116,32]⟩] w fun e w'=>e=.returned (.tuple #[.string it.code,.bool true])∧w'=w:=by
  have:=strings_CutPrefix (ag (aV [cC,it.code.data.toList])) ⟨#[99,111,110,116,101,110,116,32]⟩ w;rw[bM,show(ByteArray.mk #[99,111,110,116,101,110,116,32]).data.toList=cC++ [32] from rfl,(jE cC it.code.data.toList).1,(jE cC it.code.data.toList).2] at this;exact this
 have HCT:Calls prog 108 #[.string it.code,.string ⟨#[32]⟩] w fun e w'=>e=.returned (.bool false)∧w'=w:=by
  have:=strings_Contains_one it.code 32 w;rw[Sg 32 _ (fun hc=>(Ap.2.2 32 hc).1 rfl)] at this;exact this
 have cu:it.code.toList.isEmpty=false:=by
  rw[Lib.toList_data]
  cases hq:it.code.data.toList with
  |nil=>exact absurd hq Ap.1
  |cons a t=>rfl
 have cM:it.code.size≤24:=by have:=Ap.2.1;rwa [bS] at this
 have Vv:=Lib.hid h;have adm:=U (hR.cell 10);have adf:=hR.frozen 10;clear h hG xn Ap gG
 go_enter func126,ntmps126
 go_wp2_with fail
 with_reducible refine tf.mono ?_
 rintro e w ⟨rfl,rfl⟩;clear tf fE
 go_wp2_with fail
 with_reducible refine HCT.mono ?_
 rintro e w ⟨rfl,rfl⟩;clear HCT
 go_wp2_with fail
 have P:=cH.set w gi 10 (.string it.code);have KP:Kp [gi] w (w.setCell ⟨gi,10,none⟩ (.string it.code)):=Kp.dr P (List.mem_singleton.2 rfl);have HR:=Vv.out.kp KP (by rw[List.mem_singleton];exact Ne.symm gJ) (fun x hx=>by rw[List.mem_singleton] at hx;subst hx;exact kO);have RI:Row (w.setCell ⟨gi,10,none⟩ (.string it.code)) gi 47 (pw it.id it.bj it.kind ⟨#[]⟩ (.slice none 0 0) 0 it.code 0 0 0 0 (.slice none 0 0)):=hR.cE 10 (.string it.code);have KK:Kp [g,gi] w (w.setCell ⟨gi,10,none⟩ (.string it.code)):=KP.mono (by simp);clear P KP adm adf Vv hR cu cM;generalize (w.setCell ⟨gi,10,none⟩ (.string it.code))=w1 at*
 with_reducible refine(oZ HR).mono ?_
 clear HR;rintro e w2 ⟨rfl,HR,K⟩;replace RI:=RI.kp K (by rw[List.mem_singleton];exact gJ);replace KK:=KK.trans (K.mono (M:=[g,gi]) (by simp));clear K
 go_wp2_with fail
 have HN:Hid (∀n∈ [it.aP.toNat],(0:Int)≤(n:Int)∧n≤9999999):=fun n hn=>by rw[List.mem_singleton] at hn;have:=HG.out.aP;omega
 with_reducible refine(oS B _ g T _ _ ⟨#[112,111,105,110,116,115]⟩ dw [it.aP.toNat] 1 0 eP.out (by decide) (List.cons_ne_nil _ _) (Nat.le_of_ble_eq_true rfl) (Or.inr rfl) HN.out HR).mono ?_
 have jW:=HR.lt;clear HR HN;rintro e w3 ⟨b7,rfl,HR,S',Am,K⟩;replace RI:=RI.kp K (by rw[List.mem_singleton];exact gJ);replace KK:=KK.trans (K.mono (M:=[g,gi]) (by simp))
 have n7:b7≠g:=by omega
 clear K Am jW
 go_wp2_with fail
 have HN:Hid (∀n∈ [it.words.toNat,it.ay.toNat],(0:Int)≤(n:Int)∧n≤9999999):=fun n hn=>by
  have:=HG.out.words;have:=HG.out.ay;simp only[List.mem_cons,List.not_mem_nil,or_false] at hn;omega
 with_reducible refine(oS B _ g T _ _ ⟨#[116,105,109,101]⟩ fW [it.words.toNat,it.ay.toNat] 2 0 eT.out (by decide) (List.cons_ne_nil _ _) (Nat.le_of_ble_eq_true rfl) (Or.inr rfl) HN.out HR).mono ?_
 have jW:=HR.lt;clear HR HN;rintro e w4 ⟨b9,rfl,HR,RN9,eU,K⟩;replace RI:=RI.kp K (by rw[List.mem_singleton];exact gJ);replace S':=S'.kp K (by rw[List.mem_singleton];exact n7);replace KK:=KK.trans (K.mono (M:=[g,gi]) (by simp))
 have d7:w4.cell? ⟨b7,0,none⟩=some (.int .i64 it.aP):=by rw[S'.cell 0,←Int.toNat_of_nonneg p1];rfl
 have d90:w4.cell? ⟨b9,0,none⟩=some (.int .i64 it.words):=by rw[RN9.cell 0,←Int.toNat_of_nonneg p2];rfl
 have d91:w4.cell? ⟨b9,1,none⟩=some (.int .i64 it.ay):=by rw[RN9.cell 1,←Int.toNat_of_nonneg p3];rfl
 have k9:=U (RI.cell 9);have k13:=U (RI.cell 13);have k14:=U (RI.cell 14);have f9:=RI.frozen 9;have f13:=RI.frozen 13;have f14:=RI.frozen 14;clear K eU jW S' RN9 n7
 go_wp2_with fail
 go_region
 have K9:=((Kp.dr (L:=[gi]) (cH.set w4 gi 9 (.int .i64 it.aP)) (List.mem_singleton.2 rfl)).trans (Kp.dr (cH.set _ gi 13 (.int .i64 it.words)) (List.mem_singleton.2 rfl))).trans (Kp.dr (cH.set _ gi 14 (.int .i64 it.ay)) (List.mem_singleton.2 rfl));replace K9:=K9.drew;replace HR:=HR.kp K9 (by rw[List.mem_singleton];exact Ne.symm gJ) (fun x hx=>by rw[List.mem_singleton] at hx;subst hx;exact kO);replace RI:Row ((((w4.setCell ⟨gi,9,none⟩ (.int .i64 it.aP)).setCell ⟨gi,13,none⟩ (.int .i64 it.words)).setCell ⟨gi,14,none⟩ (.int .i64 it.ay))).drew gi 47 (pw it.id it.bj it.kind ⟨#[]⟩ (.slice none 0 0) it.aP it.code 0 0 it.words it.ay (.slice none 0 0)):=(((RI.cE 9 (.int .i64 it.aP)).cE 13 (.int .i64 it.words)).cE 14 (.int .i64 it.ay)).drew;replace KK:=KK.trans (K9.mono (M:=[g,gi]) (by simp));clear K9 d7 d90 d91 k9 k13 k14 f9 f13 f14;generalize ((((w4.setCell ⟨gi,9,none⟩ (.int .i64 it.aP)).setCell ⟨gi,13,none⟩ (.int .i64 it.words)).setCell ⟨gi,14,none⟩ (.int .i64 it.ay))).drew=w5 at*
 go_wp2_with fail
 have NL:Hid (k_ fV (ni ma it.bB++(jL it++(iP it::(dS eh it.opts++rem))))):=aaD it _;have hk:(pw it.id it.bj it.kind ⟨#[]⟩ (.slice none 0 0) it.aP it.code 0 0 it.words it.ay (.slice none 0 0))[11]? =some (.int .i64 0):=rfl
 with_reducible refine(MQ B _ g gi 11 T _ _ ⟨#[102,97,109,105,108,121]⟩ fV it.bz 47 _ eF.out (by decide) (by decide) HG.out.bz RI hk gJ kO NL.out HR).mono ?_
 clear HR RI NL hk;rintro e w6 ⟨rfl,HR,RI,K⟩;replace RI:Row w6 gi 47 (pw it.id it.bj it.kind ⟨#[]⟩ (.slice none 0 0) it.aP it.code it.bz 0 it.words it.ay (.slice none 0 0)):=RI;replace KK:=KK.trans K;clear K
 go_wp2_with fail
 have NL:Hid (k_ ma (jL it++(iP it::(dS eh it.opts++rem)))):=aaF it _;have hk:(pw it.id it.bj it.kind ⟨#[]⟩ (.slice none 0 0) it.aP it.code it.bz 0 it.words it.ay (.slice none 0 0))[12]? =some (.int .i64 0):=rfl
 with_reducible refine(MQ B _ g gi 12 T _ _ ⟨#[115,101,116]⟩ ma it.bB 47 _ eS.out (by decide) (by decide) HG.out.bB RI hk gJ kO NL.out HR).mono ?_
 clear HR RI NL hk;rintro e w7 ⟨rfl,HR,RI,K⟩;replace RI:Row w7 gi 47 (pw it.id it.bj it.kind ⟨#[]⟩ (.slice none 0 0) it.aP it.code it.bz it.bB it.words it.ay (.slice none 0 0)):=RI;replace KK:=KK.trans K;clear K
 go_wp2_with fail
 obtain⟨n,hn⟩:∃n,it.af.length=n:=⟨_,rfl⟩
 have yN:n≤1000:=by have:=HG.out.rn;omega
 have HN:=Lib.hid hn;obtain⟨D,hD⟩:∃D,D=done++ [aV [cC,it.code.data.toList]]++ [iU dw [it.aP.toNat]]++ [iU fW [it.words.toNat,it.ay.toNat]]++ni fV it.bz++ni ma it.bB:=⟨_,rfl⟩;rw[←hD] at HR HF;obtain⟨R,hR⟩:∃R,R=iP it::(dS eh it.opts++rem):=⟨_,rfl⟩;rw[←hR] at HR;have SX:=Lib.hid hR
 have Vp:Hid (k_ fc R):=by unfold Hid;rw[hR];exact aaC it _
 replace HR:Rd B w7 g T D (sU it.af++R):=HR;clear hn hD hR
 go_loopw [13] (fun _ wr=>∃(k:Nat) (A:Option Addr) (c:Nat),k≤n∧Row wr gi 47 (pw it.id it.bj it.kind ⟨#[]⟩ (.slice none 0 0) it.aP it.code it.bz it.bB it.words it.ay (.slice A k c))∧wr.ownsRow w.heap.size 3 1 (.slice A k c) k ((it.af.take k).map (Value.int .i64))∧Rd B wr g T (D++sU (it.af.take k)) (sU (it.af.drop k)++R)∧Kp [g,gi] w wr)
  (fun _ wr=>n - uW ((wr.cell? ⟨gi,15,none⟩).getD undef))
 case atStart=>exact⟨0,none,0,Nat.zero_le _,RI,World.ownsRow_nil _ _ _ _,by simpa[sU] using HR,KK⟩
 case round=>
  clear RI HR KK;obtain⟨k,A,c,hk,RI,own,HR,KK⟩:=hrel
  by_cases aS:k<n
  ·have gA:k<it.af.length:=by rw[HN.out];exact aS
   have HT:=Lib.hid (NZ gA);have HS:=Lib.hid (Zs gA);rw[NY gA,List.cons_append] at HR;have iy:=HG.out.acF it.af[k] (List.getElem_mem gA);obtain⟨z,hz⟩:∃z,z=it.af[k]:=⟨_,rfl⟩;rw[←hz] at HR HT HS iy;clear hz gA;have fE:=HR.line
   have oU:Calls prog 68 #[.string (ag (aV [fc,Lib.itoa z])),.string ⟨#[97,115,115,101,116,32]⟩] wr fun e w'=>e=.returned (.bool true)∧w'=wr:=by
    have:=strings_HasPrefix (ag (aV [fc,Lib.itoa z])) ⟨#[97,115,115,101,116,32]⟩ wr;rw[bM,show(ByteArray.mk #[97,115,115,101,116,32]).data.toList=fc++ [32] from rfl,(jE fc (Lib.itoa z)).1] at this;exact this
   go_wp2_with fail
   with_reducible refine oU.mono ?_
   rintro e wr ⟨rfl,rfl⟩;clear oU
   go_wp2_with fail
   have Zw:Hid (∀n∈ [z.toNat],(0:Int)≤(n:Int)∧n≤9999999):=fun n hn=>by rw[List.mem_singleton] at hn;omega
   have cD:0≤z:=by omega
   rw[oR cD] at HR
   have HT2:Hid (sU (it.af.take (k+1))=sU (it.af.take k)++ [iU fc [z.toNat]]):=by unfold Hid;rw[HT.out,oR cD]
   with_reducible refine(oS B _ g T _ _ ⟨#[97,115,115,101,116]⟩ fc [z.toNat] 1 0 eA.out (by decide) (List.cons_ne_nil _ _) (Nat.le_of_ble_eq_true rfl) (Or.inr rfl) Zw.out HR).mono ?_
   have jW:=HR.lt;clear HR Zw fE;rintro e wb ⟨b7,rfl,HR,S',Am,K⟩;have ZK:=RI.kp K (by rw[List.mem_singleton];exact gJ);have abO:=Kp.own own K (fun x hx=>by rw[List.mem_singleton] at hx;subst hx;exact xi);replace KK:=KK.trans (K.mono (M:=[g,gi]) (by simp))
   have d7:wb.cell? ⟨b7,0,none⟩=some (.int .i64 z):=by rw[S'.cell 0,←Int.toNat_of_nonneg cD];rfl
   have k15:=U (ZK.cell 15);have DU:w.heap.size≤wb.heap.size:=KK.size
   go_wp2_with fail
   have ph:=ai wb (.cells #[.int .i64 z] 3);have d_:(wb.alloc (.cells #[.int .i64 z] 3)).drew.ownsRow w.heap.size 3 1 (.slice A k c) k ((it.af.take k).map (Value.int .i64)):=jO (I abO ph);have uH:dF (wb.alloc (.cells #[.int .i64 z] 3)).drew (some ⟨wb.heap.size,0,none⟩) 1 1 [.int .i64 z]:=(Row.new wb 3 [.int .i64 z]).drew.sl.jZ;have WT:w.heap.size≤(wb.alloc (.cells #[.int .i64 z] 3)).drew.heap.size:=Nat.le_trans DU ph.size;have adV:(wb.alloc (.cells #[.int .i64 z] 3)).cell? ⟨gi,15,none⟩=some (.slice A k c):=(ZK.keep ph).cell 15
   go_region_law (refine lF (by rfl) (.tmp 105) (.tmp 109) 22 (by rfl) w.heap.size 3 (.int .i64 0) 1 8 underlying22 abI rfl (by decide) (.slice A k c) k _ (some ⟨wb.heap.size,0,none⟩) 1 1 [.int .i64 z] (by rfl) (by rfl) d_ uH (by decide) (by simp[Value.oneCell']) (by unfold maxLen;omega) (by omega) WT ?_;intro v2 w2 gM gy;obtain⟨X2,y2,rfl,_,_⟩:=aj gM;have ax:=bG d_ gy (Nat.le_refl _) WT;have ZH:=(ZK.keep ph).drew.e_ ax LR;have q15:=U (ZH.cell 15);have qf:=ZH.frozen 15)
   all_goals
    have P:=cH.set w2 gi 15 (.slice X2 (k+1) y2);have KP:=Kp.dr (L:=[gi]) P (List.mem_singleton.2 rfl);have NT:Row (w2.setCell ⟨gi,15,none⟩ (.slice X2 (k+1) y2)) gi 47 (pw it.id it.bj it.kind ⟨#[]⟩ (.slice none 0 0) it.aP it.code it.bz it.bB it.words it.ay (.slice X2 (k+1) y2)):=ZH.cE 15 _;have YW:=uO gM (p:=⟨gi,15,none⟩) LR (.slice X2 (k+1) y2);have ey:Below w.heap.size wb w2:=((ph.drew).mono DU).trans ax;have HR3:=(HR.e_ ey xi).kp KP (by rw[List.mem_singleton];exact Ne.symm gJ) (fun x hx=>by rw[List.mem_singleton] at hx;subst hx;exact kO);have KK3:=(KK.e_ ey).trans (KP.mono (M:=[g,gi]) (by simp))
    have HC:Hid (n - uW (((w2.setCell ⟨gi,15,none⟩ (.slice X2 (k+1) y2)).cell? ⟨gi,15,none⟩).getD undef)<n - uW ((wr.cell? ⟨gi,15,none⟩).getD undef)):=by
     unfold Hid;rw[NT.cell 15,RI.cell 15]
     show n - (k+1)<n - k
     omega
    clear q15 qf adV ZH ax gM gy d_ uH WT d7 k15 P KP ey ZK abO HR KK;generalize w2.setCell ⟨gi,15,none⟩ (.slice X2 (k+1) y2)=w3 at*
    go_wp2_with fail
    go_roundw
    case rel=>exact⟨k+1,_,_,by omega,NT,by rw[HS.out];exact YW,by rw[HT2.out,←List.append_assoc];exact HR3,KK3⟩
    case measure=>exact HC.out
  ·obtain rfl:k=n:=by omega
   have hd:it.af.drop k=[]:=List.drop_of_length_le (by rw[HN.out];exact Nat.le_refl _);have ht:it.af.take k=it.af:=List.take_of_length_le (by rw[HN.out];exact Nat.le_refl _);rw[hd,ht] at HR;rw[ht] at own;replace HR:Rd B wr g T (D++jL it) R:=HR;obtain⟨l,t,qA,hp⟩:=Vp.out;rw[qA] at HR;have fE:=HR.line
   have oU:Calls prog 68 #[.string (ag l),.string ⟨#[97,115,115,101,116,32]⟩] wr fun e w'=>e=.returned (.bool false)∧w'=wr:=by
    have:=strings_HasPrefix (ag l) ⟨#[97,115,115,101,116,32]⟩ wr;rw[bM,show(ByteArray.mk #[97,115,115,101,116,32]).data.toList=fc++ [32] from rfl,hp] at this;exact this
   rw[←qA,SX.out] at HR;clear hd ht hp aS qA
   go_wp2_with fail
   with_reducible refine oU.mono ?_
   rintro e wr ⟨rfl,rfl⟩;clear oU fE
   go_wp2_with fail
   have bQ:=HG.out.AO;have HSC:Hid (∀c∈it.aW.data.toList,CQ c=true):=bQ.1;have ZB:Hid (it.aW.data.toList.length≤100000):=Nat.le_trans bQ.2 (Nat.le_of_ble_eq_true rfl);clear bQ;unfold iP at HR
   with_reducible refine(BM B _ g T _ _ ⟨#[115,116,101,109]⟩ lh it.aW.data.toList eM.out (by decide) HSC.out ZB.out HR).mono ?_
   clear HR;rintro e wc ⟨rfl,HR,K⟩;replace RI:=RI.kp K (by rw[List.mem_singleton];exact gJ);replace own:=Kp.own own K (fun x hx=>by rw[List.mem_singleton] at hx;subst hx;exact xi);replace KK:=KK.trans (K.mono (M:=[g,gi]) (by simp));have k3:=U (RI.cell 3);have f3:=RI.frozen 3;have XR:w.heap.size≤wc.heap.size:=KK.size;clear K;rw[Bv]
   go_wp2_with fail
   have P:=cH.set wc gi 3 (.string it.aW);have KP:=Kp.dr (L:=[gi]) P (List.mem_singleton.2 rfl);replace RI:Row (wc.setCell ⟨gi,3,none⟩ (.string it.aW)) gi 47 (pw it.id it.bj it.kind it.aW (.slice none 0 0) it.aP it.code it.bz it.bB it.words it.ay (.slice A k c)):=RI.cE 3 _;replace own:=uO own (p:=⟨gi,3,none⟩) LR (.string it.aW);replace HR:=HR.kp KP (by rw[List.mem_singleton];exact Ne.symm gJ) (fun x hx=>by rw[List.mem_singleton] at hx;subst hx;exact kO);replace KK:=KK.trans (KP.mono (M:=[g,gi]) (by simp));clear P KP k3 f3 XR;generalize wc.setCell ⟨gi,3,none⟩ (.string it.aW)=wd at*
   have HOL:Hid (∀s∈it.opts,(∀c∈s.data.toList,CQ c=true)∧s.data.toList.length≤100000):=fun s hs=>by
    have:=kG (HG.out.opts s hs);exact⟨this.1,by omega⟩
   have HON:Hid (it.opts.length≤1000):=by unfold Hid;have:=HG.out.xM;omega
   with_reducible refine(G7 B _ g T _ _ ⟨#[111,112,116,105,111,110]⟩ eh it.opts eO.out (by decide) HOL.out HON.out SS.out HR).mono ?_
   clear HR;rintro e we ⟨V,rfl,OV,HR,K⟩;replace RI:=RI.kp K (by rw[List.mem_singleton];exact gJ);replace own:=Kp.own own K (fun x hx=>by rw[List.mem_singleton] at hx;subst hx;exact xi);replace OV:=aX OV KK.size;replace KK:=KK.trans (K.mono (M:=[g,gi]) (by simp));have k4:=U (RI.cell 4);have f4:=RI.frozen 4;clear K;obtain⟨XV,yV,rfl,_,_⟩:=aj OV
   go_wp2_with fail
   go_ret
   have P:=cH.set we gi 4 (.slice XV it.opts.length yV);have KP:=Kp.dr (L:=[gi]) P (List.mem_singleton.2 rfl)
   exact⟨rfl,HF.out _ (HR.kp KP (by rw[List.mem_singleton];exact Ne.symm gJ) (fun x hx=>by rw[List.mem_singleton] at hx;subst hx;exact kO)),
    ⟨_,_,RI.cE 4 _,uO OV LR _,uO (fF own HN.out) LR _⟩,KK.trans (KP.mono (by simp))⟩
end
end Go.Proofs.YtdnpopjabpklnaaGreatDoor
