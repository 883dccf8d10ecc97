/- Contracts and plain laws that the proof of the top laws uses (LdX). No condition beyond those stated. -/
import Derived.Test.YtdnpopjabpklnaaGreatDoorAwA
import Derived.Test.YtdnpopjabpklnaaGreatDoorRows
import Derived.Lib.LaidTab
import Derived.Shelf.Vars
import Derived.Deep.DeepHandedRow
set_option maxRecDepth 100000
set_option maxHeartbeats 64000000
set_option linter.all false
namespace Go.Proofs.YtdnpopjabpklnaaGreatDoor
section
open Go.ChangeShapes Go.WideShapes Go.ChangeAt Go.RowKit
namespace Laid
theorem gC {P:Program} {x:String × DataW Unit} {l:List (String × DataW Unit)} {W:World} (h:laidMet P (x::l) W):laidMet P l W:=by
 obtain⟨ps,⟨g',t',cs,fuel,p,q,oi,L8,Se,hd,hr,rfl⟩,hn,hz⟩:=h;exact⟨q,hr,(List.nodup_append.1 hn).2.1,fun b off hm=>hz b off (by simp[hm])⟩
abbrev EF:List (String × DataW Unit):=[("math/bits.deBruijn32tab",Rows.laid_math_bits_deBruijn32tab),("math/bits.deBruijn64tab",Rows.laid_math_bits_deBruijn64tab),("internal/strconv.uint64pow10",Rows.laid_internal_strconv_uint64pow10),("unicode/utf8.acceptRanges",Rows.laid_unicode_utf8_acceptRanges),("strconv.ErrRange",Rows.laid_strconv_ErrRange),("strconv.ErrSyntax",Rows.laid_strconv_ErrSyntax),("examboard/ident.prefixes",Rows.laid_examboard_ident_prefixes),("examboard/item.fields",Rows.laid_examboard_item_fields),("unicode/utf8.first",Rows.laid_unicode_utf8_first)]
theorem US:(Rows.laid_internal_strconv_uint64pow10:DataW Unit)=Lib.tabData .u64 Lib.pow10Tab:=by kernel_rfl
theorem ac0:Tryz.prog.globalNamed "internal/strconv.uint64pow10"=some 3:=by kernel_rfl
theorem TD:(Tryz.prog.globals[3]?).map (·.type)=some 316:=by kernel_rfl
theorem SF {W:World} (h:laidMet Tryz.prog EF W):Id.lk W:=by
 have h1:=gC (gC h);rw[US] at h1;exact Lib.tabIs_of_head ac0 TD Tryz.underlying316 Tryz.underlying89 (by kernel_rfl) (by kernel_rfl) h1
theorem aa6:Tryz.prog.globalNamed "examboard/ident.prefixes"=some 0:=by kernel_rfl
theorem TE:(Tryz.prog.globals[0]?).map (·.type)=some 202:=by kernel_rfl
theorem aa5:Tryz.prog.globalNamed "examboard/item.fields"=some 1:=by kernel_rfl
theorem TC:(Tryz.prog.globals[1]?).map (·.type)=some 272:=by kernel_rfl
theorem ZS:Tryz.prog.cellsOf 202=6:=by kernel_rfl
theorem V8:Tryz.prog.cellsOf 272=17:=by kernel_rfl
theorem RG:Tryz.prog.cellsOf 9=1:=by kernel_rfl
theorem Ns {H:Type} {enc:TypeId × Value→H} {P:Program} {w:World} {base:Nat} {sp:Nat→Bool} {held:Bool} {fuel:Nat} {t e:TypeId} {n:Nat} {cs:List Value} {zs:List (List UInt8)} {p:List MemPlace}
  (ht:P.underlying t=some (.array n e)) (he:P.underlying e=some .string) (LC:P.cellsOf e=1) (hct:P.cellsOf t=n)
  (h:DataW.trod enc P w base sp held fuel t cs=some (.agg (zs.map fun z=>.lit (.string z)),p)) (i:Nat) (z:List UInt8) (hz:zs[i]? =some z) (hi:i<n):cs[i]? =some (.string ⟨z.toArray⟩):=by
 cases fuel with
 |zero=>simp[DataW.trod] at h
 |succ fuel=>
  simp only[DataW.trod,ht,LC,hct,Nat.mul_one] at h
  split at h
  ·rename_i hl
   obtain⟨xs,hm,hx⟩:=Option.map_eq_some_iff.1 h
   have hxs:xs.map (·.1)=zs.map fun z=>(DataW.lit (.string z):DataW H):=by
    have:=congrArg Prod.fst hx
    simpa using this
   obtain⟨b,hb,hf⟩:=Lib.mapM_at hm i i (by simp[hi]);obtain⟨s,hc,rfl,_⟩:=DataW.trod_string he hf
   have h1:cs[i]? =some (.string s):=by
    have:=congrArg (·[0]?) hc
    simpa[List.getElem?_take,List.getElem?_drop] using this
   have h2:(xs.map (·.1))[i]? =some (DataW.lit (.string s.data.toList):DataW H):=by simp[hb]
   rw[hxs] at h2;simp only[List.getElem?_map,hz,Option.map_some,Option.some.injEq,DataW.lit.injEq,Lit.string.injEq] at h2;rw[h1,h2]
  ·cases h
theorem Gb {rest:List (String × DataW Unit)} {W:World} (h:laidMet Tryz.prog (("examboard/ident.prefixes",Rows.laid_examboard_ident_prefixes)::rest) W):Id.lS W:=by
 obtain⟨ps,⟨g',t',cs,fuel,p,q,oi,L8,Se,hd,_,_⟩,_⟩:=h;obtain rfl:=Option.some.inj (aa6.symm.trans oi);obtain rfl:=Option.some.inj (TE.symm.trans L8);have Cu:=Ns (zs:=[[73,84,77],[70,82,77],[67,65,78],[83,69,83],[82,65,84],[65,83,84]]) Tryz.underlying202 Tryz.underlying9 RG ZS hd
 have hc:∀(i:Nat) (z:List UInt8),([[73,84,77],[70,82,77],[67,65,78],[83,69,83],[82,65,84],[65,83,84]]:List (List UInt8))[i]? =some z→i<6→W.cell? ⟨0,i,none⟩=some (.string ⟨z.toArray⟩):=by
  intro i z hz hi;rw[World.var?_cell aa6 Se i,←Array.getElem?_toList];exact Cu i z hz hi
 exact⟨hc 0 _ rfl (by omega),hc 1 _ rfl (by omega),hc 2 _ rfl (by omega),hc 3 _ rfl (by omega),hc 4 _ rfl (by omega),hc 5 _ rfl (by omega)⟩
theorem MW {W:World} (h:laidMet Tryz.prog EF W):Id.lS W:=Gb (gC (gC (gC (gC (gC (gC h))))))
abbrev Wu:List (List UInt8):=[[73,100],[86,101,114,115,105,111,110],[75,105,110,100],[83,116,101,109],[79,112,116,105,111,110,115],[67,104,111,105,99,101,115],[86,97,108,117,101],[84,111,108],[84,101,120,116,115],[80,111,105,110,116,115],[67,111,110,116,101,110,116],[70,97,109,105,108,121],[83,101,116],[87,111,114,100,115],[83,101,99,111,110,100,115],[65,115,115,101,116,115],[82,117,98,114,105,99]]
theorem IN {rest:List (String × DataW Unit)} {W:World} (h:laidMet Tryz.prog (("examboard/item.fields",Rows.laid_examboard_item_fields)::rest) W):rh W:=by
 obtain⟨ps,⟨g',t',cs,fuel,p,q,oi,L8,Se,hd,_,_⟩,_⟩:=h;obtain rfl:=Option.some.inj (aa5.symm.trans oi);obtain rfl:=Option.some.inj (TC.symm.trans L8);have Cu:=Ns (zs:=Wu) Tryz.underlying272 Tryz.underlying9 RG V8 hd;refine⟨Wu.map fun z=>⟨z.toArray⟩,rfl,fun j u hu=>?_⟩;rw[List.map_map,List.getElem?_map] at hu
 cases hz:Wu[j]? with
 |none=>rw[hz] at hu;cases hu
 |some z=>
  rw[hz] at hu;simp only[Option.map_some,Function.comp,Option.some.injEq] at hu;subst hu;have hj:j<17:=(List.getElem?_eq_some_iff.1 hz).1;rw[Nat.zero_add,World.var?_cell aa5 Se j,←Array.getElem?_toList];exact Cu j z hz hj
theorem RM {W:World} (h:laidMet Tryz.prog EF W):rh W:=IN (gC (gC (gC (gC (gC (gC (gC h)))))))
theorem Sm {W:World} (h:W.ShapedOpen Tryz.prog):jl W:=
 cell_of_shapedOpen_int (P:=Tryz.prog) (g:=2) (t:=3) (zero:=#[.int .i64 0]) h (of_decide_eq_true (by kernel_rfl)) (by kernel_rfl) rfl (by kernel_rfl) (by kernel_rfl) Tryz.underlying3
def ad0:DataW Unit→List Value
 |.lit (.int k z)=>[.int k z]
 |.lit (.string b)=>[.string ⟨b.toArray⟩]
 |.agg l=>l.flatMap fun|.lit (.int k z)=>[Value.int k z]|_=>[]
 |_=>[]
def cellsOf:DataW Unit→Array Value
 |.agg l=>(l.flatMap ad0).toArray
 |_=>#[]
def put (cs:Array Value):Obj→Obj
 |.cells _ t frozen=>.cells cs t frozen
 |o=>o
abbrev aei:ByteArray:=⟨#[105,110,118,97,108,105,100,32,115,121,110,116,97,120]⟩
abbrev aeg:ByteArray:=⟨#[118,97,108,117,101,32,111,117,116,32,111,102,32,114,97,110,103,101]⟩
noncomputable def low:Nat:=(World.holding Tryz.prog default ⟨#[],#[],[]⟩).heap.size
noncomputable def nf (os:Os):World:=
 let w0:=World.holding Tryz.prog os ⟨#[.cells #[.string aei] 363,.cells #[.string aeg] 363],#[],[]⟩
 {w0 with heap:=((((((((w0.heap.modify 0 (put (cellsOf Rows.laid_examboard_ident_prefixes))).modify 1 (put (cellsOf Rows.laid_examboard_item_fields))).modify 3 (put (cellsOf Rows.laid_internal_strconv_uint64pow10))).modify 4 (put (cellsOf Rows.laid_unicode_utf8_first))).modify 5 (put (cellsOf Rows.laid_unicode_utf8_acceptRanges))).modify 6 (put (cellsOf Rows.laid_math_bits_deBruijn32tab))).modify 7 (put (cellsOf Rows.laid_math_bits_deBruijn64tab))).modify 8 (put #[.iface 361 (.pointer (some ⟨low,0,none⟩))])).modify 9 (put #[.iface 361 (.pointer (some ⟨low+1,0,none⟩))])}
theorem Up (os:Os):laidMet Tryz.prog EF ((nf os).forCall (fun _ _=>0) ⟨#[],#[.agg #[.slice none 0 0,.slice none 0 0],.slice none 0 0],[]⟩).memory:=
 laidMet_of_run' 8 (by kernel_rfl) (by kernel_rfl)
theorem Pr (os:Os):laidMet Tryz.prog EF ((nf os).forCall (fun _ _=>0) ⟨#[],#[.agg #[.slice none 0 0,.slice none 0 0],.slice none 0 0,.int .i64 0],[]⟩).memory:=
 laidMet_of_run' 8 (by kernel_rfl) (by kernel_rfl)
end Laid
end
end Go.Proofs.YtdnpopjabpklnaaGreatDoor
