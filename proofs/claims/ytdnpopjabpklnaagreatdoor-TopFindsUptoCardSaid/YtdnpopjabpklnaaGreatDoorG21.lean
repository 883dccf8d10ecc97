/- Contracts and plain laws that the proof of the top laws uses (G21). No condition beyond those stated. -/
import Derived.Test.YtdnpopjabpklnaaGreatDoorRdE
set_option maxRecDepth 100000
set_option maxHeartbeats 64000000
set_option linter.all false
namespace Go.Proofs.YtdnpopjabpklnaaGreatDoor
section
open Go.RowKit
open Tryz
def wB (zs:List Int) (k:Nat):List Value:=(zs.take k).map (Value.int .i64)++(zs.drop k).map (fun z=>Value.int .i64 (z+1))
theorem Wh {zs:List Int} {k:Nat} (h:k<zs.length):(wB zs k)[k]? =some (.int .i64 (zs[k]+1)):=by
 unfold wB;rw[List.getElem?_append_right (by simp;omega),List.length_map,List.length_take,Nat.min_eq_left (by omega),Nat.sub_self,List.drop_eq_getElem_cons h];rfl
theorem To {zs:List Int} {k:Nat} (h:k<zs.length):(wB zs k).set k (.int .i64 zs[k])=wB zs (k+1):=by
 unfold wB
 rw[List.set_append_right _ _ (by simp;omega),List.length_map,List.length_take,Nat.min_eq_left (by omega),Nat.sub_self,List.drop_eq_getElem_cons h,List.map_cons,List.set_cons_zero,
  List.take_succ_eq_append_getElem h,List.map_append,List.map_cons,List.map_nil,List.append_assoc];rfl
theorem Oc (zs:List Int) (h:∀z∈zs,0≤z):sX (zs.map fun c=>(c+1).toNat)=wB zs 0:=by
 unfold sX wB;rw[List.map_map,List.take_zero,List.drop_zero,List.map_nil,List.nil_append]
 apply List.map_congr_left
 intro z hz;have:=h z hz;simp only[Function.comp];rw[Int.toNat_of_nonneg (by omega)]
theorem Tn {zs:List Int} {k:Nat} (h:zs.length≤k):wB zs k=zs.map (Value.int .i64):=by
 unfold wB;rw[List.take_of_length_le h,List.drop_of_length_le h,List.map_nil,List.append_nil]
theorem adW (B:Nat) (w:World) (g gi:Nat) (T:ByteArray) (done rem:List (List UInt8)) (kind:Int) (id bj:Int) (aW:ByteArray) (vo:Value) (aP:Int) (code:ByteArray) (bz bB words ay:Int) (va:Value) (zs:List Int) (hk:kind=1∨kind=2∨kind=3) (hz:∀z∈zs,0≤z∧z≤9) (cu:zs≠ []) (hn:zs.length≤10)
  (hR:Row w gi 47 (pw id bj kind aW vo aP code bz bB words ay va)) (gJ:gi≠g) (kO:B≤gi) (h:Rd B w g T done (iU ia (zs.map fun c=>(c+1).toNat)::rem)):
  Calls prog 127 #[.pointer (some ⟨g,0,none⟩),.pointer (some ⟨gi,0,none⟩)] w fun e w'=>e=.returned (.int .i64 0)∧Rd B w' g T (done++ [iU ia (zs.map fun c=>(c+1).toNat)]) rem∧(∃vc,Row w' gi 47 ((pw id bj kind aW vo aP code bz bB words ay va).set 5 vc)∧db w.heap.size w' vc zs)∧Kp [g,gi] w w':=by
 have xi:=h.lt;have LR:=hR.lt;obtain⟨n,hN⟩:∃n,zs.length=n:=⟨_,rfl⟩;rw[hN] at hn;have HN:=Lib.hid hN;have SM:=Lib.hid (Oc zs (fun z CK=>(hz z CK).1));have HZ:=Lib.hid hz
 obtain⟨ns,T5⟩:∃ns,ns=zs.map fun c=>(c+1).toNat:=⟨_,rfl⟩
 rw[←T5] at h SM ⊢
 have hnl:ns.length=n:=by rw[T5,List.length_map,hN]
 have adC:ns≠ []:=by rw[T5];simpa using cu
 have Hu:Hid (∀m∈ns,(1:Int)≤(m:Int)∧m≤9999999):=fun m hm=>by
  rw[T5,List.mem_map] at hm;obtain⟨z,CK,rfl⟩:=hm;have:=hz z CK;omega
 have adz:ns.length≤1000000:=by omega
 have Hw:=Lib.hid hnl;have eC:Hid ((⟨#[99,104,111,105,99,101]⟩:ByteArray)=ag ia):=rfl;have hc:Hid ((-1:Int)<0∨(-1:Int)=(ns.length:Int)):=Or.inl (by decide);have c2:=U (hR.cell 2);have c5:=U (hR.cell 5);clear T5 hnl hN hz cu
 rcases hk with rfl|rfl|rfl
 all_goals
  go_enter func127,ntmps127
  go_wp2_with fail
  with_reducible refine(oS B _ g T _ _ ⟨#[99,104,111,105,99,101]⟩ ia ns (-1) 1 eC.out (by decide) adC adz hc.out Hu.out h).mono ?_
  rintro e w2 ⟨r,rfl,HR,RN,hr,K⟩;have RI:=hR.kp K (by rw[List.mem_singleton];exact gJ);have KK:=K.mono (M:=[g,gi]) (by simp);rw[Hw.out];rw[SM.out] at RN;have d5:=U (RI.cell 5);have f5:=RI.frozen 5
  have hri:r≠gi:=by omega
  have hrg:r≠g:=by omega
  have yR:=RN.lt;clear c2 c5 hR h K
  go_wp2_with fail
  have P:=cH.set w2 gi 5 (.slice (some ⟨r,0,none⟩) n n);have KP:=Kp.dr (L:=[gi]) P (List.mem_singleton.2 rfl);replace RI:=RI.cE 5 (.slice (some ⟨r,0,none⟩) n n);replace HR:=HR.kp KP (by rw[List.mem_singleton];exact Ne.symm gJ) (fun x hx=>by rw[List.mem_singleton] at hx;subst hx;exact kO);replace RN:=RN.kp KP (by rw[List.mem_singleton];exact hri);replace KK:=KK.trans (KP.mono (M:=[g,gi]) (by simp));clear P KP d5 f5;generalize w2.setCell ⟨gi,5,none⟩ (.slice (some ⟨r,0,none⟩) n n)=w3 at*
  go_loopw [29] (fun i wr=>∃k:Nat,k≤n∧i=.int .i64 (k:Int)∧Row wr gi 47 (List.set _ 5 (.slice (some ⟨r,0,none⟩) n n))∧Row wr r 3 (wB zs k)∧Rd B wr g T (done++ [iU ia ns]) rem∧Kp [g,gi] w wr) (fun i _=>n - (intOf i).toNat)
  case atStart=>exact⟨0,Nat.zero_le _,rfl,RI,RN,HR,KK⟩
  case round=>
   clear RI RN HR KK;obtain⟨k,hk,rfl,RI,RN,HR,KK⟩:=hrel
   by_cases aS:k<n
   ·have gA:k<zs.length:=by rw[HN.out];exact aS
    have HDS:=Lib.hid (To gA);have Yb:=HZ.out zs[k] (List.getElem_mem gA);have ck:=(RN.cell k).trans (Wh gA);obtain⟨z,hz⟩:∃z,z=zs[k]:=⟨_,rfl⟩;rw[←hz] at ck HDS Yb;clear hz gA;have fk:=RN.frozen k;have c5:=U (RI.cell 5)
    go_wp2_with fail
    have P:=cH.set wr r k (.int .i64 z);have KP:=Kp.dr (L:=[r]) P (List.mem_singleton.2 rfl);have NT:=RI.kp KP (by rw[List.mem_singleton];exact Ne.symm hri);have HR3:=HR.kp KP (by rw[List.mem_singleton];exact Ne.symm hrg) (fun x hx=>by rw[List.mem_singleton] at hx;subst hx;have:=HR.env.size;omega);have VJ:=RN.cE k (.int .i64 z);have KK3:Kp [g,gi] w (wr.setCell ⟨r,k,none⟩ (.int .i64 z)):=(((KK.mono (M:=[g,gi,r]) (by simp)).trans (KP.mono (by simp))).less (M:=[g,gi]) (fun x hx=>by simp only[List.mem_cons,List.not_mem_nil,or_false] at hx ⊢;omega));clear P KP ck fk c5 RI RN HR KK;generalize wr.setCell ⟨r,k,none⟩ (.int .i64 z)=w4 at*
    go_roundw
    case rel=>exact⟨k+1,by omega,by go_num,NT,by rw[←HDS.out];exact VJ,HR3,KK3⟩
    case measure=>simp[intOf];omega
   ·obtain rfl:k=n:=by omega
    have dq:=Tn (Nat.le_of_eq HN.out);rw[dq] at RN;clear dq
    go_wp2_with fail
    go_ret
    exact⟨rfl,HR,⟨_,RI,fF (uT RN (by rw[List.length_map];exact HN.out) (by unfold maxLen;omega) hr) HN.out⟩,KK⟩
theorem adX (B:Nat) (w:World) (g gi:Nat) (T:ByteArray) (done rem:List (List UInt8)) (id bj:Int) (aW:ByteArray) (vo:Value) (aP:Int) (code:ByteArray) (bz bB words ay:Int) (va:Value) (x y:Int) (hx: -9999999≤x∧x≤9999999) (hy: -9999999≤y∧y≤9999999)
  (hR:Row w gi 47 (pw id bj 4 aW vo aP code bz bB words ay va)) (gJ:gi≠g) (kO:B≤gi) (h:Rd B w g T done (aV [kV,dd x,rV,dd y]::rem)):
  Calls prog 127 #[.pointer (some ⟨g,0,none⟩),.pointer (some ⟨gi,0,none⟩)] w fun e w'=>e=.returned (.int .i64 0)∧Rd B w' g T (done++ [aV [kV,dd x,rV,dd y]]) rem∧Row w' gi 47 (((pw id bj 4 aW vo aP code bz bB words ay va).set 6 (.int .i64 x)).set 7 (.int .i64 y))∧Kp [g,gi] w w':=by
 have c2:=U (hR.cell 2);have h6:(pw id bj 4 aW vo aP code bz bB words ay va)[6]? =some (.int .i64 0):=rfl;have h7:(pw id bj 4 aW vo aP code bz bB words ay va)[7]? =some (.int .i64 0):=rfl
 go_enter func127,ntmps127
 go_wp2_with fail
 with_reducible refine(Qw B _ g gi T _ _ x y 0 _ _ _ hx hy hR h6 h7 gJ kO h).mono ?_
 rintro e w2 ⟨rfl,HR,RI,K⟩;clear c2 hR h
 go_wp2_with fail
 go_ret
 exact⟨rfl,HR,RI,K⟩
theorem adY (B:Nat) (w:World) (g gi:Nat) (T:ByteArray) (done rem:List (List UInt8)) (id bj:Int) (aW:ByteArray) (vo:Value) (aP:Int) (code:ByteArray) (bz bB words ay:Int) (va:Value) (Ls:List ByteArray) (hL:∀s∈Ls,(∀c∈s.data.toList,CQ c=true)∧s.data.toList.length≤100000) (hn:Ls.length≤1000) (xn:k_ jF rem)
  (hR:Row w gi 47 (pw id bj 5 aW vo aP code bz bB words ay va)) (gJ:gi≠g) (kO:B≤gi) (h:Rd B w g T done (dS jF Ls++rem)):
  Calls prog 127 #[.pointer (some ⟨g,0,none⟩),.pointer (some ⟨gi,0,none⟩)] w fun e w'=>e=.returned (.int .i64 0)∧Rd B w' g T (done++dS jF Ls) rem∧(∃vt,Row w' gi 47 ((pw id bj 5 aW vo aP code bz bB words ay va).set 8 vt)∧iD w.heap.size w' vt Ls)∧Kp [g,gi] w w':=by
 have c2:=U (hR.cell 2);have LR:=hR.lt;have eX:Hid ((⟨#[116,101,120,116]⟩:ByteArray)=ag jF):=rfl
 go_enter func127,ntmps127
 go_wp2_with fail
 with_reducible refine(G7 B _ g T _ _ ⟨#[116,101,120,116]⟩ jF Ls eX.out (by decide) hL hn xn h).mono ?_
 rintro e w2 ⟨V,rfl,OV,HR,K⟩;have RI:=hR.kp K (by rw[List.mem_singleton];exact gJ);have KK:=K.mono (M:=[g,gi]) (by simp);have k8:=U (RI.cell 8);have f8:=RI.frozen 8;clear c2 hR h K;obtain⟨XV,yV,rfl,_,_⟩:=aj OV
 go_wp2_with fail
 go_ret
 have KP:=Kp.dr (L:=[gi]) (cH.set w2 gi 8 (.slice XV Ls.length yV)) (List.mem_singleton.2 rfl);exact⟨rfl,HR.kp KP (by rw[List.mem_singleton];exact Ne.symm gJ) (fun x hx=>by rw[List.mem_singleton] at hx;subst hx;exact kO),⟨_,RI.cE 8 _,uO OV LR _⟩,KK.trans (KP.mono (by simp))⟩
theorem adZ (B:Nat) (w:World) (g gi:Nat) (T:ByteArray) (done rem:List (List UInt8)) (id bj:Int) (aW:ByteArray) (vo:Value) (aP:Int) (code:ByteArray) (bz bB words ay:Int) (va:Value) (z:Int) (hz:0≤z∧z≤9999999)
  (hR:Row w gi 47 (pw id bj 6 aW vo aP code bz bB words ay va)) (gJ:gi≠g) (kO:B≤gi) (h:Rd B w g T done (iU lB [z.toNat]::rem)):
  Calls prog 127 #[.pointer (some ⟨g,0,none⟩),.pointer (some ⟨gi,0,none⟩)] w fun e w'=>e=.returned (.int .i64 0)∧Rd B w' g T (done++ [iU lB [z.toNat]]) rem∧Row w' gi 47 ((pw id bj 6 aW vo aP code bz bB words ay va).set 16 (.int .i64 z))∧Kp [g,gi] w w':=by
 have c2:=U (hR.cell 2);have cD:=hz.1;have eX:Hid ((⟨#[114,117,98,114,105,99]⟩:ByteArray)=ag lB):=rfl
 have Zw:Hid (∀n∈ [z.toNat],(0:Int)≤(n:Int)∧n≤9999999):=fun n hn=>by rw[List.mem_singleton] at hn;omega
 go_enter func127,ntmps127
 go_wp2_with fail
 with_reducible refine(oS B _ g T _ _ ⟨#[114,117,98,114,105,99]⟩ lB [z.toNat] 1 0 eX.out (by decide) (List.cons_ne_nil _ _) (Nat.le_of_ble_eq_true rfl) (Or.inr rfl) Zw.out h).mono ?_
 rintro e w2 ⟨r,rfl,HR,RN,hr,K⟩;have RI:=hR.kp K (by rw[List.mem_singleton];exact gJ);have KK:=K.mono (M:=[g,gi]) (by simp)
 have d0:w2.cell? ⟨r,0,none⟩=some (.int .i64 z):=by rw[RN.cell 0,←Int.toNat_of_nonneg cD];rfl
 have k16:=U (RI.cell 16);have f16:=RI.frozen 16;clear c2 hR h K RN
 go_wp2_with fail
 go_ret
 have KP:=Kp.dr (L:=[gi]) (cH.set w2 gi 16 (.int .i64 z)) (List.mem_singleton.2 rfl);exact⟨rfl,HR.kp KP (by rw[List.mem_singleton];exact Ne.symm gJ) (fun x hx=>by rw[List.mem_singleton] at hx;subst hx;exact kO),RI.cE 16 _,KK.trans (KP.mono (by simp))⟩
theorem Um (B:Nat) (w:World) (g gi:Nat) (T:ByteArray) (done rem:List (List UInt8)) (it:aA) (vo va:Value) (hG:Good it) (hR:Row w gi 47 (pw it.id it.bj it.kind it.aW vo it.aP it.code it.bz it.bB it.words it.ay va)) (gJ:gi≠g) (kO:B≤gi)
  (h:Rd B w g T done (cF it++(ki::rem))):
  Calls prog 127 #[.pointer (some ⟨g,0,none⟩),.pointer (some ⟨gi,0,none⟩)] w fun e w'=>e=.returned (.int .i64 0)∧Rd B w' g T (done++cF it) (ki::rem)∧(∃vc vt,Row w' gi 47 (fS it vo vc vt va)∧db w.heap.size w' vc it.cA∧iD w.heap.size w' vt it.texts)∧Kp [g,gi] w w':=by
 have hk:=hG.kind
 by_cases h3:it.kind≤3
 ·obtain⟨a1,a2,a3,a4⟩:=hG.acf h3;obtain⟨b1,b2,b3⟩:=hG.Ad h3
  have e:cF it=[iU ia (it.cA.map fun c=>(c+1).toNat)]:=by
   unfold cF;rw[if_pos h3,UE (fun z hz=>(b3 z hz).1)]
  rw[e] at h ⊢;refine(adW B w g gi T done (ki::rem) it.kind _ _ _ _ _ _ _ _ _ _ _ it.cA (by omega) b3 (fun e=>by rw[e] at b1;cases b1) b2 hR gJ kO h).mono ?_;rintro e w' ⟨rfl,HR,⟨vc,RI,OC⟩,K⟩;refine⟨rfl,HR,⟨vc,.slice none 0 0,?_,OC,by rw[a3];exact iD.nil _ _⟩,K⟩;unfold fS;rw[a1,a2,a4];exact RI
 ·by_cases h4:it.kind=4
  ·obtain⟨a1,a2,a3,a4⟩:=hG.YT h4;obtain⟨b1,b2⟩:=hG.J' h4
   have e:cF it=[aV [kV,dd it.value,rV,dd it.de]]:=by
    unfold cF;rw[if_neg h3,if_pos h4]
   rw[e] at h ⊢;rw[h4] at hR;refine(adX B w g gi T done (ki::rem) _ _ _ _ _ _ _ _ _ _ _ it.value it.de b1 (by omega) hR gJ kO h).mono ?_;rintro e w' ⟨rfl,HR,RI,K⟩;refine⟨rfl,HR,⟨.slice none 0 0,.slice none 0 0,?_,by rw[a2];exact db.nil _ _,by rw[a3];exact iD.nil _ _⟩,K⟩;unfold fS;rw[a4,h4];exact RI
  ·by_cases h5:it.kind=5
   ·obtain⟨a1,a2,a3,a4,a5,a6⟩:=hG.PK (by omega)
    have e:cF it=dS jF it.texts:=by
     unfold cF dS n0;rw[if_neg h3,if_neg h4,if_pos h5]
    rw[e] at h ⊢;rw[h5] at hR;refine(adY B w g gi T done (ki::rem) _ _ _ _ _ _ _ _ _ _ _ it.texts (fun s hs=>by have:=kG (hG.texts s hs);exact⟨this.1,by omega⟩) (by have:=hG.Dh;omega) (k_.end_ _ _) hR gJ kO h).mono ?_;rintro e w' ⟨rfl,HR,⟨vt,RI,OT⟩,K⟩;refine⟨rfl,HR,⟨.slice none 0 0,vt,?_,by rw[a2];exact db.nil _ _,OT⟩,K⟩;unfold fS;rw[a3,a4,a5 h5,h5];exact RI
   ·have h6:it.kind=6:=by omega
    obtain⟨a1,a2,a3,a4,a5,a6⟩:=hG.PK (by omega)
    have e:cF it=[iU lB [it.aH.toNat]]:=by
     unfold cF;rw[if_neg h3,if_neg h4,if_neg h5,oR hG.U4.1]
    rw[e] at h ⊢;rw[h6] at hR;refine(adZ B w g gi T done (ki::rem) _ _ _ _ _ _ _ _ _ _ _ it.aH hG.U4 hR gJ kO h).mono ?_;rintro e w' ⟨rfl,HR,RI,K⟩;refine⟨rfl,HR,⟨.slice none 0 0,.slice none 0 0,?_,by rw[a2];exact db.nil _ _,by rw[a6 h6];exact iD.nil _ _⟩,K⟩;unfold fS;rw[a3,a4,h6];exact RI
theorem Pn (C:List Value) (x:aA) (g:Nat) (z:Int) (w:World) (hR:dO w C x) (hc:w.cell? ⟨g,0,none⟩=some (.int .i64 z)) (cu:x.id≠z):
  Calls prog 129 #[.agg C.toArray,.pointer (some ⟨g,0,none⟩)] w fun e w'=>e=.returned (.bool false)∧Below w.heap.size w w':=by
 obtain⟨vo,vc,vt,va,rfl,_⟩:=hR;have BB:=al (Below.refl w.heap.size w) (.cells (fS x vo vc vt va).toArray 47);have hg:=block_lt_of_cell hc;have R1:=Row.new w 47 (fS x vo vc vt va);have c0:=R1.cell 0;have c1:=((ai w (.cells (fS x vo vc vt va).toArray 47)).cell (p:=⟨g,0,none⟩) hg).trans hc;have hb:(x.id==z)=false:=beq_eq_false_iff_ne.2 cu;unfold fS at c0 c1 BB ⊢;simp only[List.getElem?_cons_zero] at c0;clear hc R1 cu
 go_enter func129,ntmps129
 go_wp2_with fail
 go_ret
 exact⟨rfl,BB⟩
theorem Jm (A:Option Addr) (n c:Nat) (l:List aA) (g:Nat) (z:Int) (w:World) (h:ib w A n l) (ix:n≤1000) (hc:w.cell? ⟨g,0,none⟩=some (.int .i64 z)) (cu:∀x∈l,x.id≠z):
  Calls prog 190 #[.slice A n c,.func (.func 129) #[] #[.pointer (some ⟨g,0,none⟩)]] w fun e w'=>e=.returned (.int .i64 (-1))∧Below w.heap.size w w':=by
 have Vl:=Lib.hid h;have HN:=Lib.hid h.len;have SR:=Lib.hid cu;have hg:=block_lt_of_cell hc;clear h cu
 go_enter func190,ntmps190
 go_wp2_with fail
 go_loopw [8] (fun i wr=>∃k:Nat,k≤n∧i=.int .i64 k∧Below w.heap.size w wr) (fun i _=>n - (intOf i).toNat)
 case atStart=>exact⟨0,Nat.zero_le _,rfl,Below.refl _ _⟩
 case round=>
  obtain⟨k,hk,rfl,BC⟩:=hrel
  have kx:(k:Int)<(n:Int)∨¬((k:Int)<(n:Int)):=by omega
  rcases kx with aS|aS
  ·obtain⟨x,hx⟩:∃x,l[k]? =some x:=⟨_,List.getElem?_eq_getElem (by have:=HN.out;omega)⟩;obtain⟨b,o,D,hA,_,aO,sV,oI⟩:=Vl.out.at_ hx;subst hA;have lX:=aO.below BC (aO.lt (by omega));have WW:=(BC.cell (p:=⟨g,0,none⟩) hg).trans hc;have hf:=Pn D x g z wr (oI.below BC) WW (SR.out x (List.mem_of_getElem? hx));clear aO oI hx WW;have aL:=trivial
   go_wp2_with (first
    |(clear aL;(with_reducible refine cJ ?_ aU lX sV ?_);rfl;have aJ:=trivial)
    |(go_at_call 129;(with_reducible refine hf.mono ?_);rintro e w2 ⟨rfl,ax⟩;have BD:=az BC ax)
    |fail)
   go_roundw
   case rel=>exact⟨k+1,by omega,by go_num,BD⟩
   case measure=>simp[intOf];omega
  ·go_wp2_with fail
   go_ret
   exact⟨rfl,BC⟩
theorem FH (A:Option Addr) (n c:Nat) (l:List aA) (g:Nat) (z:Int) (w:World) (h:ib w A n l) (ix:n≤1000) (hc:w.cell? ⟨g,0,none⟩=some (.int .i64 z)) (cu:∀x∈l,x.id≠z):
  Calls prog 128 #[.slice A n c,.func (.func 129) #[] #[.pointer (some ⟨g,0,none⟩)]] w fun e w'=>e=.returned (.bool false)∧Below w.heap.size w w':=by
 have hi:=Jm A n c l g z w h ix hc cu;clear h
 go_enter func128,ntmps128
 go_wp2_with fail
 refine hi.mono ?_;rintro e w' ⟨rfl,hb⟩
 go_wp2_with fail
 go_ret
 exact⟨rfl,hb⟩
def Pm:List Value:=[.int .i64 0,.int .i64 0,.int .i64 0,.string cw,.slice none 0 0,.slice none 0 0,.int .i64 0,.int .i64 0,.slice none 0 0,.int .i64 0,.string cw,.int .i64 0,.int .i64 0,.int .i64 0,.int .i64 0,.slice none 0 0,.int .i64 0]
theorem vT:gQ prog 47 Pm:=by unfold gQ;kernel_rfl
theorem Uj (id bj kind:Int):((Pm.set 0 (.int .i64 id)).set 1 (.int .i64 bj)).set 2 (.int .i64 kind)=pw id bj kind ⟨#[]⟩ (.slice none 0 0) 0 ⟨#[]⟩ 0 0 0 0 (.slice none 0 0):=rfl
theorem ib.kp {L:List Nat} {w w':World} {A:Option Addr} {n B0:Nat} {l:List aA} (h:ib w A n l) (hb:Below w.heap.size w w'):ib w' A n l:=by
 obtain⟨Ds,h1,h2,h3,h4⟩:=h;exact⟨Ds,h1,h2,h3.below (by decide) hb,fun i D it a b=>(h4 i D it a b).below hb⟩
theorem Uk (B:Nat) (w:World) (g:Nat) (T:ByteArray) (done rem:List (List UInt8)) (A:Option Addr) (n c:Nat) (bs:List aA) (it:aA) (sj:fb it=0) (HI:∀W,Kp [g] w W→ib W A n bs) (hn:n≤50) (cu:∀x∈bs,x.id≠it.id)
  (h:Rd B w g T done (eu it++rem)):
  Calls prog 69 #[.pointer (some ⟨g,0,none⟩),.slice A n c] w fun e w'=>∃CC,e=.returned (.tuple #[.agg CC.toArray,.int .i64 0])∧cy w.heap.size w' CC it∧Rd B w' g T (done++eu it) rem∧Kp [g] w w':=by
 have xi:=h.lt;have Z_:=h.env.size
 have gG:∀W,Rd B W g T (done++ [jN it]++iz it++cF it++ [ki]) rem→Rd B W g T (done++eu it) rem:=fun W hW=>by
  rw[py];simpa using hW
 have HF:=Lib.hid gG
 have e0:eu it++rem=jN it::(iz it++(cF it++(ki::rem))):=by rw[py];simp
 rw[e0] at h;have hG:=jH sj;have HG:=Lib.hid hG;have HE0:=Lib.hid sj;have HII:=Lib.hid HI;have SR:=Lib.hid cu;have HR:=h;have BB:=Below.refl w.heap.size w;clear gG e0 hG sj h HI cu
 go_enter func69,ntmps69
 have aL:=trivial
 go_wp2_with (first
  |(clear aJ;(with_reducible refine bu (Z:=Pm) fY vT ?_);intro x2 gi cW R4 aF;have nR2:=h_ R2 cW;replace R2:=R2.keep aF;replace HR:=HR.keep aF;have ogi:=jq BB cW;replace BB:=az BB aF;clear aF cW;have bC:=trivial)
  |(clear aL;(with_reducible refine bu (Z:=Pm) fY vT ?_);intro x1 gr aR R2 aw;replace HR:=HR.keep aw;have ogr:=jq BB aR;replace BB:=az BB aw;clear aw aR;have aJ:=trivial))
 try clear bC
 have KK:Kp [g] w x2:=Kp.ab BB
 have gJ:gi≠g:=by omega
 have kO:B≤gi:=by omega
 have base:w.heap.size≤x2.heap.size:=BB.size
 have gy:g<x2.heap.size:=by omega
 have I9:=R4.lt;have hr2:=R2.lt
 have hL2:∀x∈ [g,gi],x<x2.heap.size:=fun x hx=>by simp only[List.mem_cons,List.not_mem_nil,or_false] at hx;omega
 have lI:gr∉ [g,gi]:=by simp only[List.mem_cons,List.not_mem_nil,or_false];omega
 obtain⟨Tf,WU⟩:∃b,b=x2.heap.size:=⟨_,rfl⟩;rw[←WU] at base gy I9 hr2 hL2;have ax:Tf≤x2.heap.size:=Nat.le_of_eq WU;clear BB WU
 have wI:1≤it.bj∧it.bj≤9999999:=by have:=HG.out.bj;omega
 with_reducible refine(TP B _ g gi n T _ _ it Pm (.int .i64 0) (.int .i64 0) (.int .i64 0) HG.out.id wI HG.out.kind hn R4 rfl rfl rfl gJ kO HR).mono ?_
 clear R4 HR wI;rintro e x3 ⟨rfl,HR,R4,K⟩;replace R2:=R2.kp K lI;replace KK:=((KK.mono (M:=[g,gi]) (by simp)).trans K).less (M:=[g]) (fun x hx=>by simp only[List.mem_cons,List.not_mem_nil,or_false] at hx ⊢;omega);have eE:=Nat.le_trans ax K.size;clear K ax;rw[Uj] at R4
 go_wp2_with fail
 have SS:Hid (k_ eh (cF it++(ki::rem))):=aaE it rem
 with_reducible refine(Te B _ g gi T _ _ it HG.out R4 gJ kO SS.out HR).mono ?_
 clear R4 HR SS;rintro e x4 ⟨rfl,HR,⟨vo,va,R4,OV,OA⟩,K⟩;replace R2:=R2.kp K lI;replace KK:=((KK.mono (M:=[g,gi]) (by simp)).trans K).less (M:=[g]) (fun x hx=>by simp only[List.mem_cons,List.not_mem_nil,or_false] at hx ⊢;omega);replace OV:=aX OV eE;replace OA:=aX OA eE;have gn:=Nat.le_trans eE K.size;clear K eE
 go_wp2_with fail
 with_reducible refine(Um B _ g gi T _ _ it vo va HG.out R4 gJ kO HR).mono ?_
 clear R4 HR;rintro e x5 ⟨rfl,HR,⟨vc,vt,R4,OC,OT⟩,K⟩;replace R2:=R2.kp K lI;replace KK:=((KK.mono (M:=[g,gi]) (by simp)).trans K).less (M:=[g]) (fun x hx=>by simp only[List.mem_cons,List.not_mem_nil,or_false] at hx ⊢;omega);replace OV:=Kp.own OV K hL2;replace OA:=Kp.own OA K hL2;replace OC:=aX OC gn;replace OT:=aX OT gn;have iB:=Nat.le_trans gn K.size;have aft:cy Tf x5 (fS it vo vc vt va) it:=⟨vo,vc,vt,va,rfl,OV,OC,OT,OA⟩;clear K gn OV OA OC OT;have fE:x5.cell? ⟨g,3,none⟩=some (.string ⟨#[101,110,100]⟩):=HR.line;obtain⟨CC,hCC⟩:∃CC,CC=fS it vo vc vt va:=⟨_,rfl⟩
 have jn:CC[0]? =some (.int .i64 it.id):=by rw[hCC];rfl
 rw[←hCC] at aft R4;clear hCC;have lV:=aft.len;have nb:=aft.s_.one;have aL:=trivial
 go_wp2_with (first
  |(clear aL;(with_reducible refine ak ?_ aU R4 lV ?_);rfl;have aJ:=trivial))
 try clear aJ
 have SZ:=sP CC it _ aft.s_ HG.out.short HG.out.Qj HR.env.mx;rw[HE0.out] at SZ
 with_reducible refine SZ.mono ?_
 clear fE SZ;rintro e x6 ⟨rfl,hb⟩;replace R2:=R2.keep hb;replace R4:=R4.keep hb;replace HR:=HR.keep hb;replace aft:=cy.aa (t:=95) aft (ah.ab hb);replace KK:=KK.trans (Kp.ab hb);clear hb
 go_wp2_with fail
 have c0:=(R4.cell 0).trans jn
 with_reducible refine(FH A n c bs gi it.id _ (HII.out _ KK) (by omega) c0 SR.out).mono ?_
 clear c0;rintro e x7 ⟨rfl,hb⟩;replace R2:=R2.keep hb;replace R4:=R4.keep hb;replace HR:=HR.keep hb;replace aft:=cy.aa (t:=95) aft (ah.ab hb);replace KK:=KK.trans (Kp.ab hb);clear hb
 go_wp2_with fail
 with_reducible refine(oZ HR).mono ?_
 clear HR;rintro e x8 ⟨rfl,HR,K⟩;replace R2:=R2.kp K (by rw[List.mem_singleton];omega);replace R4:=R4.kp K (by rw[List.mem_singleton];exact gJ);replace KK:=KK.trans K
 have IO8:cy Tf x8 CC it:=by
  obtain⟨vo,vc,vt,va,e,a1,a2,a3,a4⟩:=aft
  have hK:∀x∈ [g],x<Tf:=fun x hx=>by rw[List.mem_singleton] at hx;omega
  exact⟨vo,vc,vt,va,e,Kp.own a1 K hK,Kp.own a2 K hK,Kp.own a3 K hK,Kp.own a4 K hK⟩
 clear K aft;have aL:=trivial
 go_wp2_with (first
  |(clear aJ;(with_reducible refine av (C:=CC) ?_ ?_ aU R2 lV rfl nb ?_);rfl;rfl;clear R2;intro x9 R2 P9;have bC:=trivial)
  |(clear aL;(with_reducible refine ak ?_ aU R4 lV ?_);rfl;have aJ:=trivial))
 refine bodyPost_ret (bH rfl _ rfl aU R2 lV) rfl ?_;have KP:=Kp.dr (L:=[gr]) P9 (List.mem_singleton.2 rfl)
 have IO9:cy Tf x9 CC it:=by
  obtain⟨vo,vc,vt,va,e,a1,a2,a3,a4⟩:=IO8
  have hK:∀x∈ [gr],x<Tf:=fun x hx=>by rw[List.mem_singleton] at hx;omega
  exact⟨vo,vc,vt,va,e,Kp.own a1 KP hK,Kp.own a2 KP hK,Kp.own a3 KP hK,Kp.own a4 KP hK⟩
 exact⟨CC,rfl,IO9.lower base,HF.out _ (HR.kp KP (by rw[List.mem_singleton];omega) (fun x hx=>by rw[List.mem_singleton] at hx;omega)),
  ((KK.mono (M:=[g,gr]) (by simp)).trans (KP.mono (by simp))).less (M:=[g]) (fun x hx=>by simp only[List.mem_cons,List.not_mem_nil,or_false] at hx ⊢;omega)⟩
end
end Go.Proofs.YtdnpopjabpklnaaGreatDoor
