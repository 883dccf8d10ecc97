/- For every grid and commands and day of bulk at most 1048576 the law TopFinds returns true, the listed tables and variables being as the program's text lays them; no other condition. -/
import Derived.Test.YtdnpopjabpklnaaGreatDoorF02
import Derived.Test.YtdnpopjabpklnaaGreatDoorG20
import Derived.Test.YtdnpopjabpklnaaGreatDoorLdX
import Derived.Test.YtdnpopjabpklnaaGreatDoorJfF
import Derived.Test.YtdnpopjabpklnaaGreatDoorTie
set_option maxRecDepth 100000
set_option maxHeartbeats 64000000
set_option linter.all false
namespace Go.Proofs.YtdnpopjabpklnaaGreatDoor
section
open Go.ChangeMaps (setBlock shut_map_nil open_string shut_string keptBut_setBlock frozen?_setBlock heap_setBlock_same)
open Go.ChangeShapes Go.WideShapes Go.ChangeAt Go.RowKit Go.Joins
namespace TopFinds
theorem own:ownKnob Tryz.prog.godebug=none:=by kernel_rfl
theorem laidOut:laidOutB Tryz.prog=true:=by kernel_rfl
theorem readable:∀t∈Tryz.f4.params.toList,Tryz.prog.readableRec t=true∧t<Tryz.prog.types.size:=by
 intro t ht;rw[Tryz.params4] at ht
 have L8:t=24∨t=25∨t=3:=by simp at ht;(try rcases ht with h|h|h);all_goals (subst_vars;simp)
 rcases L8 with rfl|rfl|rfl
 ·exact⟨by kernel_rfl,of_decide_eq_true (by kernel_rfl)⟩
 ·exact⟨by kernel_rfl,of_decide_eq_true (by kernel_rfl)⟩
 ·exact⟨by kernel_rfl,of_decide_eq_true (by kernel_rfl)⟩
theorem Ag (H:Type) (enc:TypeId × Value→H) (W:World) (base:Nat) (args:Array Value) (ds gs:List (DataW H)) (before:List MemPlace)
  (oC:∀(j:Nat) t v,Tryz.f4.params[j]? =some t→args[j]? =some v→Value.okWide Tryz.prog W .any base t v)
  (hW:DataW.Whole enc Tryz.prog Tryz.f4.params.toList Rows.topFindsSpec.vars false W args.toList ds gs before) (hk:Rows.uptoSmall H (ds++gs)=true) (hL:laidMetH Tryz.prog Rows.topFindsUptoRow.laid W) (Av:W.ShapedOpen Tryz.prog):
  Calls Tryz.prog 4 args W fun e W'=>∃v,e=.returned v∧Rows.topFindsSpec.post enc Tryz.prog Tryz.f4 false true false false W args v W':=by
 have Ly:=hW;obtain⟨p,q,hA0,hV,rfl,hfz,po⟩:=hW;have hA:DataW.TrodAll enc Tryz.prog W 0 (fun _=>true) true Tryz.f4.params.toList args.toList ds p:=hA0;rw[Tryz.params4] at hA oC;obtain⟨v0,vs0,d0,ds0,p0,q0,IY,rfl,rfl,h0,r0⟩:=trodAll_cons hA;obtain⟨v1,vs1,d1,ds1,p1,q1,rfl,rfl,rfl,h1,r1⟩:=trodAll_cons r0;obtain⟨v2,vs2,d2,ds2,p2,q2,rfl,rfl,rfl,h2,r2⟩:=trodAll_cons r1;obtain⟨rfl,rfl,rfl⟩:=trodAll_nil r2
 obtain rfl:args=#[v0,v1,v2]:=by cases args;simp_all
 obtain⟨rfl,rfl⟩:=trodVars_none hV;obtain⟨Ox,rfl,gsz⟩:=okWide_struct Tryz.underlying24 (oC 0 24 v0 rfl rfl);have Wv:Ox.size=2:=gsz.trans (by kernel_rfl)
 obtain⟨c0,c1,rfl⟩:∃c0 c1,Ox=#[c0,c1]:=by
  obtain⟨l⟩:=Ox
  match l,Wv with
  |[c0,c1],_=>exact⟨c0,c1,rfl⟩
 obtain⟨gf,om⟩:=h0
 have Xg:DataW.trod enc Tryz.prog W 0 (fun _=>true) true gf 24 [c0,c1]=some (d0,p0):=by simpa[Value.cells] using om
 obtain⟨_,gm,jW⟩:=DN Tryz.underlying24 Xg;obtain⟨y0,g0,b0⟩:=jW 0 _ 1 rfl (by kernel_rfl);obtain⟨y1,g1,b1⟩:=jW 1 _ 1 rfl (by kernel_rfl);obtain⟨ps,jk,_,lps⟩:=kF (v:=c0) Tryz.underlying22 Tryz.underlying3 (by kernel_rfl) g0;obtain⟨rs,Jg,_,lrs⟩:=kF (v:=c1) Tryz.underlying22 Tryz.underlying3 (by kernel_rfl) g1;obtain⟨lcA,lcl,lcc,rfl⟩:=okWide_slice Tryz.underlying25 (oC 1 25 v1 rfl rfl);obtain⟨cf,hcf⟩:=h1;have mN:=of_decide_eq_true hk;simp only[List.append_nil,Rows.uptoBulkAll] at mN;obtain⟨A3,n3,c3,cs,e3,gu,tq,m3,m4⟩:=ES (v:=.slice lcA lcl lcc) (by simpa[Value.cells] using hcf) (by show Rows.uptoBulk d1≤1100000;omega);rw[e3];obtain⟨A1,k1,rfl,a1,a2,s1⟩:=id jk;obtain⟨A2,k2,rfl,a3,a4,s2⟩:=id Jg;obtain⟨dy,rfl,rfl,rfl,dwf⟩:=open_int Tryz.underlying3 (oC 2 3 v2 rfl rfl) h2
 have q0:ps.length≤1100000:=by have:Rows.uptoBulk y0.1≤Rows.uptoBulk d0:=b0;omega
 have q1:rs.length≤1100000:=by have:Rows.uptoBulk y1.1≤Rows.uptoBulk d0:=b1;omega
 refine(On A1 A2 A3 ps.length k1 rs.length k2 n3 c3 ps rs cs dy W jk Jg s1.jZ s2.jZ rfl rfl q0 q1 gu tq m3 m4 (Laid.Sm Av) (Laid.RM hL) (Laid.SF hL) (Laid.MW hL)).mono fun e W' ⟨he,hb⟩=>⟨_,he,?_⟩
 rw[e3] at Ly;exact G4 laidOut readable rfl rfl Tryz.underlying4 (ok_one (by kernel_rfl) rfl (okWide_bool_mk Tryz.underlying4 _)) ⟨rfl,rfl,rfl⟩ Ly hb
theorem reads (os:Os) {H:Type} (enc:TypeId × Value→H):∃places,DataW.whole enc Tryz.prog ((Laid.nf os).forCall (fun _ _=>0) ⟨#[],#[.agg #[.slice none 0 0,.slice none 0 0],.slice none 0 0,.int .i64 0],[]⟩).memory Tryz.f4.params.toList Rows.topFindsSpec.vars false #[Value.agg #[.slice none 0 0,.slice none 0 0],Value.slice none 0 0,Value.int .i64 0].toList 8=some ([.agg [.nil,.nil],.nil,.lit (.int .i64 0)],[],places):=
 ⟨[],by kernel_rfl⟩
theorem lifted (os:Os) (started:os.Started) (H:Type) (enc:TypeId × Value→H) (F:Stop.Interp):
  ReturnsInHanded {} Tryz.checked os 4 .any ((Rows.OpenSpec.upto Rows.topFindsSpec).preRow enc Tryz.prog Tryz.f4 Rows.topFindsUptoRow.domain false Rows.topFindsUptoRow.laid) (((Rows.OpenSpec.upto Rows.topFindsSpec).at F).post enc Tryz.prog Tryz.f4 false true false false):=by
 obtain⟨places,hx⟩:=reads os enc
 refine returnsInHanded_of_row (C:=Tryz.checked) (s:=Rows.OpenSpec.upto Rows.topFindsSpec) own started (by kernel_rfl) Tryz.func4
  (witness_row_at (enc:=enc) (C:=Tryz.checked) false (Laid.nf os) #[.agg #[.slice none 0 0,.slice none 0 0],.slice none 0 0,.int .i64 0] rfl (by kernel_rfl) (by kernel_rfl) (by kernel_rfl)
   (OpenSpec.preRow_of_cond 8 hx (by kernel_rfl) (fun k hk=>by cases hk;kernel_rfl) (by kernel_rfl) (Laid.Pr os))) ?_
 intro W base args ds gs before oC hW _ hk _ hL Av _;exact Ag H enc W base args ds gs before oC hW (hk _ rfl) hL Av
open JfF (closed) in
theorem said:Rows.TopFindsUptoSaid:=
 OpenClaim.holds_of_cond 4 Tryz.f4 rfl rfl rfl rfl rfl rfl rfl ⟨rfl,rfl,rfl,rfl,rfl⟩ rfl rfl rfl rfl rfl (by kernel_rfl) Tryz.func4 closed
  (of_decide_eq_true (by kernel_rfl)) (by unfold Func.isWrapper;first|(rw[if_pos (by decide+kernel)];kernel_rfl)|(rw[if_neg (by decide+kernel)];exact⟨rfl,rfl⟩))
  (fun os started H enc _ F=>by rw[OpenClaim.pre_eq_preRow];exact lifted os started H enc F)
theorem plain (f:FuncId) (fn:Func) (hf:Tryz.pinned.checked.prog.funcNamed "examboard/examboardtop.TopFinds"=some f) (I6:Tryz.pinned.checked.prog.funcs[f]? =some fn):
  true=Tryz.pinned.checked.prog.looks []∧∀(j:Nat) t,fn.params[j]? =some t→Tryz.pinned.checked.prog.wantsStandIn t=false:=by
 obtain rfl:f=4:=Option.some.inj ((show Tryz.prog.funcNamed "examboard/examboardtop.TopFinds"=some 4 by kernel_rfl).symm.trans hf)|>.symm;obtain rfl:fn=Tryz.f4:=(Option.some.inj (Tryz.func4.symm.trans I6)).symm;refine⟨by kernel_rfl,fun j t ht=>?_⟩;rw[Tryz.params4] at ht;have h:=Array.mem_of_getElem? ht
 have h':t=24∨t=25∨t=3:=by simp at h;(try rcases h with h|h|h);all_goals (subst_vars;simp)
 rcases h' with rfl|rfl|rfl
 ·exact(show Tryz.prog.wantsStandIn 24=false by kernel_rfl)
 ·exact(show Tryz.prog.wantsStandIn 25=false by kernel_rfl)
 ·exact(show Tryz.prog.wantsStandIn 3=false by kernel_rfl)
theorem card:Rows.TopFindsUptoCardSaid:=
 Claim7.holds_tied_plain_at .later [] _ _ _ _ said (fun _ h=>by cases h) (by kernel_rfl) (fun _ h=>by cases h) topFindsUpto_row_tie rfl ⟨rfl,rfl⟩ (by kernel_rfl) rfl plain (by kernel_rfl)
end TopFinds
end
end Go.Proofs.YtdnpopjabpklnaaGreatDoor
