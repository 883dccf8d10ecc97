/- Contracts and plain laws that the proof of the top laws uses (G04). No condition beyond those stated. -/
import Derived.Test.YtdnpopjabpklnaaGreatDoorG02
import Derived.Test.YtdnpopjabpklnaaGreatDoorShelf
import Derived.Shelf.Strings.BuilderK
import Derived.Shelf.Strings.BuilderF
set_option maxRecDepth 100000
set_option maxHeartbeats 64000000
set_option linter.all false
namespace Go.Proofs.YtdnpopjabpklnaaGreatDoor
section
open Go.RowKit Go.Shelf
open Tryz
def Iw:Go.Shelf.Ren:=⟨fun|166=>58|167=>60|169=>25|170=>26|240=>117|276=>174|n=>n,fun|31=>45|9=>9|3=>3|4=>4|0=>0|20=>20|72=>85|76=>129|70=>82|37=>83|75=>128|127=>139|164=>245|5=>5|80=>91|n=>n,fun|n=>n⟩
theorem KS:Go.Proofs.Lays.n166 prog Iw:= {
 mixed:=by kernel_rfl
 f166:=func58.trans (congrArg some (by kernel_rfl))
 f240:=func117.trans (congrArg some (by kernel_rfl))
 f276:=func174.trans (congrArg some (by kernel_rfl))
 t0:=underlying0
 a0:=isAgg0
 z0:=sizeOf0
 v0:=zeroValue0
 t3:=underlying3
 a3:=isAgg3
 z3:=sizeOf3
 v3:=zeroValue3
 t4:=underlying4
 a4:=isAgg4
 z4:=sizeOf4
 v4:=zeroValue4
 t9:=underlying9
 a9:=isAgg9
 z9:=sizeOf9
 v9:=zeroValue9
 t20:=underlying20
 a20:=isAgg20
 z20:=sizeOf20
 v20:=zeroValue20
 t37:=underlying83
 a37:=isAgg83
 z37:=sizeOf83
 v37:=zeroValue83
 t70:=underlying82
 a70:=isAgg82
 z70:=sizeOf82
 v70:=zeroValue82
 t72:=underlying85
 a72:=isAgg85
 z72:=sizeOf85
 v72:=zeroValue85
 t75:=underlying128
 a75:=isAgg128
 z75:=sizeOf128
 v75:=zeroValue128
 t164:=underlying245
 a164:=isAgg245
 z164:=sizeOf245
 v164:=zeroValue245}
theorem KT:Go.Proofs.Lays.n167 prog Iw:= {
 mixed:=by kernel_rfl
 f167:=func60.trans (congrArg some (by kernel_rfl))
 f240:=func117.trans (congrArg some (by kernel_rfl))
 f276:=func174.trans (congrArg some (by kernel_rfl))
 t0:=underlying0
 a0:=isAgg0
 z0:=sizeOf0
 v0:=zeroValue0
 t4:=underlying4
 a4:=isAgg4
 z4:=sizeOf4
 v4:=zeroValue4
 t5:=underlying5
 a5:=isAgg5
 z5:=sizeOf5
 v5:=zeroValue5
 t9:=underlying9
 a9:=isAgg9
 z9:=sizeOf9
 v9:=zeroValue9
 t20:=underlying20
 a20:=isAgg20
 z20:=sizeOf20
 v20:=zeroValue20
 t37:=underlying83
 a37:=isAgg83
 z37:=sizeOf83
 v37:=zeroValue83
 t70:=underlying82
 a70:=isAgg82
 z70:=sizeOf82
 v70:=zeroValue82
 t72:=underlying85
 a72:=isAgg85
 z72:=sizeOf85
 v72:=zeroValue85
 t75:=underlying128
 a75:=isAgg128
 z75:=sizeOf128
 v75:=zeroValue128
 t164:=underlying245
 a164:=isAgg245
 z164:=sizeOf245
 v164:=zeroValue245}
theorem GM:Builder.Extra prog Iw:= {
 sizeBuilder:=by kernel_rfl
 liesBuilder:=by kernel_rfl
 t5:=underlying5
 a5:=isAgg5
 z5:=sizeOf5
 v5:=zeroValue5
 infoByte:=by kernel_rfl
 cellsByte:=by kernel_rfl
 sizeByte:=by kernel_rfl
 neB5:=by decide}
def iL (B:Nat) (w:World) (b:Nat) (l:List UInt8):Prop:=Lib.IsBuilderF 85 5 B b (Lib.byteCells l) w
def cL (b:Nat) (w w':World):Prop:=Lib.OthersKept 5 (some b) w w'
theorem Fm (s:ByteArray):Lib.strCells s=Lib.byteCells s.data.toList:=by
 simp[Lib.strCells,Lib.byteCells]
theorem ZR (B b:Nat) (l:List UInt8) (c:UInt8) (w:World) (h:iL B w b l) (hl:l.length≤100000000) (hB:B≤w.heap.size):
  Calls prog 60 #[.pointer (some ⟨b,0,none⟩),.int .u8 (c.toNat:Int)] w fun e w'=>e=.returned .nilIface∧iL B w' b (l++ [c])∧Below B w w'∧cL b w w':=by
 refine(Any.Builder_WriteByte_k KT GM B b _ (c.toNat:Int) w h (by rw[Lib.byteCells_length];omega) hB).mono ?_;rintro e w' ⟨rfl,h1,h2,h3⟩;refine⟨rfl,?_,h2,h3⟩;unfold iL;rw[Lib.byteCells_append];exact Or.inr h1
theorem o7 (B b:Nat) (l:List UInt8) (s:ByteArray) (w:World) (h:iL B w b l) (hl:l.length≤100000000) (hs:s.size≤100000000) (hB:B≤w.heap.size):
  Calls prog 58 #[.pointer (some ⟨b,0,none⟩),.string s] w fun e w'=>(∃n:Int,e=.returned (.tuple #[.int .i64 n,.nilIface]))∧iL B w' b (l++s.data.toList)∧Below B w w'∧cL b w w':=by
 refine(Any.Builder_WriteString_k KS GM B b _ s w h (by rw[Lib.byteCells_length];omega) hB).mono ?_;rintro e w' ⟨rfl,h1,h2,h3⟩;refine⟨⟨_,rfl⟩,?_,h2,h3⟩;unfold iL;rw[Lib.byteCells_append,←Fm];exact Or.inr h1
theorem yb (B b:Nat) (l:List UInt8) (w:World) (h:iL B w b l) (hB:B≤w.heap.size):
  Calls prog 25 #[.pointer (some ⟨b,0,none⟩)] w fun e w'=>e=.returned (.string ⟨l.toArray⟩)∧iL B w' b l∧Below B w w'∧cL b w w':=
 Builder_String_any_k B b l w h hB
theorem KO (B b:Nat) (l:List UInt8) (w:World) (h:iL B w b l):
  Calls prog 26 #[.pointer (some ⟨b,0,none⟩)] w fun e w'=>e=.returned (.int .i64 (l.length:Int))∧w'=w:=by
 refine(Builder_Len_f B b _ w h).mono ?_;rintro e w' ⟨rfl,h⟩;exact⟨by rw[Lib.byteCells_length],h⟩
theorem iL.fresh (w:World):iL w.heap.size (w.alloc (.cells #[.pointer none,.slice none 0 0] 85)) w.heap.size []:=Lib.IsBuilderF.of (Lib.fresh_isBuilder 85 5 w)
theorem cL.row {b g t:Nat} {w w':World} {xs:List Value} (h:cL b w w') (hr:Row w g t xs) (hg:g≠b) (ht:t≠5):Row w' g t xs:=by
 refine h g _ hr (fun e=>hg (Option.some.inj e)) (fun c fz e=>?_)
 injection e with _ e2 _
 exact ht e2
theorem cL.aa {b:Nat} {w w':World} (h:cL b w w') (hs:w.heap.size≤w'.heap.size) (hb:dE w b 85) {b':Nat} {cs:Array Value} {e:TypeId} {fr:Nat × Nat} (hr:w.heap[b']? =some (Obj.cells cs e fr)) (h1:e≠5) (h2:e≠85):w'.heap[b']? =some (Obj.cells cs e fr):=by
 refine h b' _ hr (fun he=>?_) (fun c fz e=>?_)
 ·injection he with he
  subst he;exact dE.ne ⟨cs,fr,hr⟩ hb h2 rfl
 ·injection e with _ e2 _
  exact h1 e2
end
end Go.Proofs.YtdnpopjabpklnaaGreatDoor
