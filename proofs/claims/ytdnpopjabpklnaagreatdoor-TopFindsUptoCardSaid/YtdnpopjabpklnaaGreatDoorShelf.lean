/- Contracts of the library's functions at this program, each one application of a proved contract. No condition beyond those stated. -/
import Derived.Shelf.Strings.Builder1
import Derived.Shelf.Strings.Builder2
import Derived.Shelf.Strings.OnBuilder
import Derived.Shelf.Small.Bits
import Derived.Shelf.Small.Strs
import Derived.Shelf.Small.Wraps
import Derived.Shelf.Strings.BuilderF
import Derived.Shelf.Strings.BuilderK
import Derived.Shelf.Utf8.RuneCount
import Derived.Shelf.Strings.Builder2Cap
import Derived.Shelf.Strconv.Atoi
import Derived.Shelf.Strconv.Itoa0
import Derived.Shelf.Strconv.Itoa1
import Derived.Shelf.LaysM
import Derived.Shelf.Strconv.Itoa2
import Derived.Shelf.Strconv.Itoa3
import Derived.Shelf.Strconv.AtoiErrFast
import Derived.Shelf.Strconv.ParseIntEmpty
import Derived.Shelf.Strconv.AtoiFail
import Derived.Shelf.Strconv.Clone
import Derived.Shelf.Strconv.SyntaxError
import Derived.Shelf.LaysC
import Derived.Shelf.Strconv.ToError
import Derived.Shelf.Strconv.AtoiErr
import Derived.Shelf.Strconv.ErrVar
import Derived.Shelf.Strconv.Lower
import Derived.Shelf.Strconv.ParseUint10
import Derived.Shelf.Strconv.ParseUint10Empty
import Derived.Shelf.Strconv.ParseUint10Any
import Derived.Shelf.Strconv.ParseInt10
import Derived.Shelf.Strconv.AtoiLong
import Derived.Shelf.Strconv.AtoiInnerAll
import Derived.Shelf.Strconv.RangeError
import Derived.Shelf.Strconv.ToErrorRange
import Derived.Shelf.Strconv.AtoiAll
import Derived.Shelf.Strconv.ErrVarAll
import Derived.Shelf.Strconv.ParseUintEmpty
import Derived.Shelf.Strconv.ParseUint10b64
import Derived.Shelf.Strconv.ParseUint10b32
import Derived.Shelf.Strconv.ParseUint10b16
import Derived.Shelf.Strconv.ParseUint10b8
import Derived.Shelf.Strconv.ParseUint10At
import Derived.Shelf.Strconv.ParseInt10At64
import Derived.Shelf.Strconv.ParseInt10At32
import Derived.Shelf.Strconv.ParseInt10At16
import Derived.Shelf.Strconv.ParseInt10At8
import Derived.Shelf.Strconv.ParseInt10All
import Derived.Shelf.Strings.Search1
import Derived.Shelf.Strings.Search2
import Derived.Shelf.Strings.Search3
import Derived.Shelf.Strings.Cut
import Derived.Shelf.Strings.Count
import Derived.Shelf.Strings.Shaped
import Derived.Shelf.Sort.Plain
import Derived.Shelf.Strings.LastIndex
import Derived.Shelf.Strconv.AppendUint10
import Derived.Shelf.Strconv.AppendInt10
import Derived.Shelf.Strings.Prefix
import Derived.Shelf.Strings.Split
import Derived.Shelf.Strings.Replace
import Derived.Shelf.Strings.SplitShaped
import Derived.Shelf.Unicode.Decode
import Derived.Shelf.Strings.RuneCount
import Derived.Shelf.Strings.Explode
import Derived.Shelf.Bits.Mul64
import Derived.Shelf.Strings.Repeat
import Derived.Shelf.Unicode.DecodeSlow
import Derived.Shelf.Unicode.DecodeAny
import Derived.Shelf.Strings.BuilderCap
import Derived.Shelf.Slices.Turned
import Derived.Shelf.Slices.Equal
import Derived.Ground.Names2Prog
import Derived.Shelf.Slices.Clone
import Derived.Shelf.Slices.CompactI
import Derived.Shelf.Slices.SearchI
import Derived.Shelf.Slices.Cells
import Derived.Shelf.Slices.In.SortNone
import Derived.Shelf.Slices.Empties2
import Derived.Ground.PaProg
import Derived.Shelf.Path.Small
import Derived.Test.YtdnpopjabpklnaaGreatDoorProg
namespace Go.Proofs
open Tryz
theorem mQ {P:Prop} (h:P:=by repeat' first|kernel_rfl|(intro;kernel_rfl)|decide|constructor):P:=h
open Go.Shelf Go.RowKit Go.Lib
def Tryz.JH:Go.Shelf.Ren:=⟨fun|170=>26|n=>n,fun|70=>82|3=>3|0=>0|72=>85|37=>83|5=>5|n=>n,fun|n=>n⟩
theorem Tryz.YF:Go.Proofs.Lays.n170 prog JH:=mQ
def Tryz.zi:Go.Shelf.Ren:=⟨fun|169=>25|n=>n,fun|70=>82|9=>9|0=>0|72=>85|37=>83|127=>139|3=>3|5=>5|n=>n,fun|n=>n⟩
theorem Tryz.YE:Go.Proofs.Lays.n169 prog zi:=mQ
theorem Tryz.wQ:Builder.Extra prog zi:=mQ
def Tryz.zh:Go.Shelf.Ren:=⟨fun|156=>59|165=>118|166=>58|169=>25|240=>117|241=>175|276=>174|277=>221|n=>n,fun|31=>45|9=>9|3=>3|4=>4|0=>0|20=>20|72=>85|76=>129|70=>82|37=>83|75=>128|127=>139|164=>245|5=>5|80=>91|n=>n,fun|n=>n⟩
theorem Tryz.YD:Go.Proofs.Lays.n156 prog zh:=mQ
theorem Tryz.wP:Builder.Extra prog zh:=mQ
theorem Tryz.strings_Join (bk o c:Nat) (xs:List ByteArray) (sep:ByteArray) (w:World) (qy:∀(j:Nat) x,xs[j]? =some x→w.cell? ⟨bk,o+j,none⟩=some (.string x)) (hbk:bk<w.heap.size) (hN:xs.length≤140737488355328) (DW:xs.length≤c) (hlen:(Lib.join (xs.map (·.data.toList)) sep.data.toList).length≤140737488355328):
  Calls prog 59 #[.slice (some ⟨bk,o,none⟩) xs.length c,.string sep] w fun e w'=>e=.returned (.string ⟨(Lib.join (xs.map (·.data.toList)) sep.data.toList).toArray⟩)∧Below w.heap.size w w':=Any.strings_Join YD wP bk o c xs sep w qy hbk hN DW hlen
def Tryz.JC:Go.Shelf.Ren:=⟨fun|137=>123|217=>181|266=>232|n=>n,fun|9=>9|5=>5|3=>3|n=>n,fun|n=>n⟩
theorem Tryz.Yy:Go.Proofs.Lays.n137 prog JC:=mQ
theorem Tryz.strings_IndexByte (s:ByteArray) (c:Int) (w:World):
  Calls prog 123 #[.string s,.int .u8 c] w fun e w'=>e=.returned (.int .i64 (Lib.indexByte s.data.toList c.toNat.toUInt8))∧w'=w:=Any.strings_IndexByte Yy s c w
def Tryz.Jw:Go.Shelf.Ren:=⟨fun|103=>70|210=>130|206=>124|n=>n,fun|9=>9|4=>4|24=>143|3=>3|n=>n,fun|n=>n⟩
theorem Tryz.Yt:Go.Proofs.Lays.n103 prog Jw:=mQ
theorem Tryz.strings_CutPrefix (s p:ByteArray) (w:World):
  Calls prog 70 #[.string s,.string p] w fun e w'=>e=.returned (.tuple #[.string ⟨(Lib.trimPrefix s.data.toList p.data.toList).toArray⟩,.bool (Lib.hasPrefix s.data.toList p.data.toList)])∧w'=w:=Any.strings_CutPrefix Yt s p w
def Tryz.JB:Go.Shelf.Ren:=⟨fun|122=>203|215=>215|n=>n,fun|3=>3|4=>4|n=>n,fun|n=>n⟩
theorem Tryz.Yx:Go.Proofs.Lays.n122 prog JB:=mQ
theorem Tryz.cmp_Compare_int (x y:Int) (w:World):
  Calls prog 203 #[.int .i64 x,.int .i64 y] w fun e w'=>e=.returned (.int .i64 (Lib.compareInt x y))∧w'=w:=Any.cmp_Compare_int Yx x y w
theorem Tryz.Builder_Len_f (B b:Nat) (bs:List Value) (w:World) (h:Lib.IsBuilderF 85 5 B b bs w):
  Calls prog 26 #[.pointer (some ⟨b,0,none⟩)] w fun e w'=>e=.returned (.int .i64 bs.length)∧w'=w:=Any.Builder_Len_f YF B b bs w h
theorem Tryz.Builder_String_any_k (B b:Nat) (l:List UInt8) (w:World) (h:Lib.IsBuilderF 85 5 B b (Lib.byteCells l) w) (Z_:B≤w.heap.size):
  Calls prog 25 #[.pointer (some ⟨b,0,none⟩)] w fun e w'=>e=.returned (.string ⟨l.toArray⟩)∧(Lib.IsBuilderF 85 5 B b (Lib.byteCells l) w'∧Below B w w'∧Lib.OthersKept 5 (some b) w w'):=Any.Builder_String_any_k YE wQ B b l w h Z_
def Tryz.JI:Go.Shelf.Ren:=⟨fun|172=>236|244=>268|245=>269|247=>289|279=>290|280=>291|281=>292|282=>293|287=>299|316=>300|171=>62|205=>301|321=>305|322=>306|243=>121|246=>178|283=>223|284=>224|285=>225|286=>226|129=>167|317=>257|318=>258|319=>259|320=>260|337=>285|338=>286|n=>n,fun|9=>9|3=>3|75=>128|76=>129|4=>4|5=>5|167=>339|37=>83|0=>0|85=>340|2=>2|168=>342|53=>89|175=>353|46=>191|210=>356|127=>139|145=>363|143=>361|21=>21|171=>293|173=>295|212=>316|51=>238|20=>20|213=>317|232=>351|233=>352|80=>91|n=>n,fun|15=>8|16=>9|17=>3|18=>6|19=>7|n=>n⟩
theorem Tryz.YG:Go.Proofs.Lays.n172 prog JI:=mQ
theorem Tryz.strconv_Atoi (s:ByteArray) (n:Int) (hl:s.size≤18) (h:Lib.atoi s.data.toList=some n) (w:World):
  Calls prog 236 #[.string s] w fun e w'=>e=.returned (.tuple #[.int .i64 n,.nilIface])∧∃t,w'=Lib.bytesWorld w 5 t:=Any.strconv_Atoi YG s n hl h w
def Tryz.F6:Go.Shelf.Ren:=⟨fun|171=>62|243=>121|246=>178|283=>223|284=>224|285=>225|286=>226|129=>167|317=>257|318=>258|319=>259|320=>260|337=>285|338=>286|n=>n,fun|3=>3|9=>9|2=>2|4=>4|171=>293|0=>0|53=>89|37=>83|5=>5|173=>295|212=>316|51=>238|20=>20|213=>317|46=>191|232=>351|233=>352|n=>n,fun|17=>3|18=>6|19=>7|n=>n⟩
theorem Tryz.Ur:Go.Proofs.LaysM.n171 prog F6:=mQ
open Go.RowKit Go.Sort Go.Lib in
theorem Tryz.strconv_Itoa (n:Int) (h0: -9223372036854775808≤n) (h1:n≤9223372036854775807) (w:World) (lY:Lib.TabIs prog w "internal/strconv.uint64pow10" .u64 Lib.pow10Tab):
  Calls prog 62 #[.int .i64 n] w fun e w'=>e=.returned (.string ⟨(Lib.itoa n).toArray⟩)∧∃k os,w'=grow (w.drewN k) os:=Any.strconv_Itoa Ur n h0 h1 w lY
def Tryz.JD:Go.Shelf.Ren:=⟨fun|144=>108|143=>156|219=>209|217=>181|225=>247|224=>248|267=>249|266=>232|314=>284|n=>n,fun|9=>9|4=>4|3=>3|5=>5|46=>191|146=>311|51=>238|n=>n,fun|1=>2|n=>n⟩
theorem Tryz.Ms:Go.Proofs.Lays.n144 prog JD:=mQ
theorem Tryz.strings_Contains_one (s:ByteArray) (c:UInt8) (w:World):
  Calls prog 108 #[.string s,.string ⟨#[c]⟩] w fun e w'=>e=.returned (.bool (decide (0≤Lib.indexByte s.data.toList c)))∧w'=w:=Any.strings_Contains_one Ms s c w
theorem Tryz.strings_Contains (s sub:ByteArray) (m:Int) (w:World) (hs:s.size<4294967281) (hm:w.cell? ⟨2,0,none⟩=some (.int .i64 m)):
  Calls prog 108 #[.string s,.string sub] w fun e w'=>e=.returned (.bool (Lib.contains s.data.toList sub.data.toList))∧w'=w:=Any.strings_Contains Ms s sub m w hs hm
def Tryz.JE:Go.Shelf.Ren:=⟨fun|145=>218|220=>254|219=>209|217=>181|225=>247|224=>248|267=>249|266=>232|314=>284|n=>n,fun|9=>9|4=>4|59=>287|3=>3|5=>5|46=>191|146=>311|51=>238|n=>n,fun|1=>2|n=>n⟩
theorem Tryz.Yz:Go.Proofs.Lays.n145 prog JE:=mQ
theorem Tryz.strings_Cut (s sep:ByteArray) (m:Int) (w:World) (hs:s.size<4294967281) (hm:w.cell? ⟨2,0,none⟩=some (.int .i64 m)):
  Calls prog 218 #[.string s,.string sep] w fun e w'=>e=.returned (.tuple #[.string ⟨(Lib.cut s.data.toList sep.data.toList).1.toArray⟩,.string ⟨(Lib.cut s.data.toList sep.data.toList).2.1.toArray⟩,.bool (Lib.cut s.data.toList sep.data.toList).2.2])∧∃n,w'=w.drewN n:=Any.strings_Cut Yz s sep m w hs hm
def Tryz.JJ:Go.Shelf.Ren:=⟨fun|189=>50|125=>110|257=>109|128=>166|129=>167|294=>157|295=>158|296=>159|297=>160|298=>161|299=>162|216=>163|300=>164|301=>165|328=>210|329=>211|330=>212|331=>213|332=>214|215=>215|343=>250|n=>n,fun|28=>22|3=>3|46=>191|0=>0|51=>238|53=>89|4=>4|183=>232|182=>231|131=>184|5=>5|9=>9|218=>280|222=>265|228=>307|229=>308|n=>n,fun|n=>n⟩
theorem Tryz.Mt:Go.Proofs.Lays.n189 prog JJ:=mQ
open Go.Sort Go.RowKit in
theorem Tryz.slices_Sort_int (N1 off cap:Nat) (zs:List Int) (w:World) (hH:Holds (Value.int .i64) w N1 off zs.toArray) (hblk:N1<w.heap.size) (cM:zs.length<4611686018427387904):
  Calls prog 50 #[.slice (some ⟨N1,off,none⟩) zs.length cap] w fun e w'=>
   e=.returned (.tuple #[])∧∃n os,w'=grow (putRow (Value.int .i64) (Sort.ahead w n) N1 off (zs.mergeSort fun x y=>decide (x≤y)).toArray) os:=Any.slices_Sort_int Mt N1 off cap zs w hH hblk cM
def Tryz.JG:Go.Shelf.Ren:=⟨fun|149=>193|222=>240|n=>n,fun|9=>9|5=>5|3=>3|4=>4|n=>n,fun|n=>n⟩
theorem Tryz.YB:Go.Proofs.Lays.n149 prog JG:=mQ
theorem Tryz.strings_LastIndexByte (s:ByteArray) (c:Int) (hs:s.size<4611686018427387904) (w:World):
  Calls prog 193 #[.string s,.int .u8 c] w fun e w'=>e=.returned (.int .i64 (Lib.lastIndexByte s c))∧w'=w:=Any.strings_LastIndexByte YB s c hs w
def Tryz.F7:Go.Shelf.Ren:=⟨fun|288=>287|283=>223|284=>224|285=>225|286=>226|129=>167|317=>257|318=>258|319=>259|320=>260|337=>285|338=>286|n=>n,fun|37=>83|53=>89|3=>3|4=>4|9=>9|171=>293|0=>0|173=>295|212=>316|51=>238|5=>5|20=>20|213=>317|46=>191|232=>351|233=>352|n=>n,fun|17=>3|18=>6|19=>7|n=>n⟩
theorem Tryz.Us:Go.Proofs.LaysM.n288 prog F7:=mQ
open Go.RowKit Go.Sort Go.Lib in
theorem Tryz.internal_strconv_AppendUint_10 (B n u:Nat) (adN:u<18446744073709551616) (sv:Value) (xs:List Value) (w:World) (a_:w.ownsRow B 5 1 sv n xs) (Z_:B≤w.heap.size) (adq:n+20≤140737488355328) (lY:Lib.TabIs prog w "internal/strconv.uint64pow10" .u64 Lib.pow10Tab):
  Calls prog 287 #[sv,.int .u64 u,.int .i64 10] w fun e w'=>∃v',e=.returned v'∧w'.ownsRow B 5 1 v' (n+(Lib.decDigits u).length) (xs++Lib.byteCells (Lib.decDigits u))∧Below B w w'∧Lib.OthersKept 5 none w w':=Any.internal_strconv_AppendUint_10 Us B n u adN sv xs w a_ Z_ adq lY
def Tryz.Mu:Go.Shelf.Ren:=⟨fun|99=>68|206=>124|n=>n,fun|9=>9|4=>4|3=>3|n=>n,fun|n=>n⟩
theorem Tryz.aaq:Go.Proofs.Lays.n99 prog Mu:=mQ
theorem Tryz.strings_HasPrefix (s p:ByteArray) (w:World):
  Calls prog 68 #[.string s,.string p] w fun e w'=>e=.returned (.bool (Lib.hasPrefix s.data.toList p.data.toList))∧w'=w:=Any.strings_HasPrefix aaq s p w
def Tryz.Jv:Go.Shelf.Ren:=⟨fun|100=>173|207=>220|n=>n,fun|9=>9|4=>4|3=>3|n=>n,fun|n=>n⟩
theorem Tryz.Ys:Go.Proofs.Lays.n100 prog Jv:=mQ
theorem Tryz.strings_HasSuffix (s p:ByteArray) (w:World) (hs:s.size≤9223372036854775807):
  Calls prog 173 #[.string s,.string p] w fun e w'=>e=.returned (.bool (Lib.hasSuffix s.data.toList p.data.toList))∧w'=w:=Any.strings_HasSuffix Ys s p w hs
def Tryz.JF:Go.Shelf.Ren:=⟨fun|146=>182|221=>233|268=>267|138=>216|143=>156|195=>251|197=>217|218=>252|219=>209|260=>253|217=>181|225=>247|224=>248|267=>249|266=>232|314=>284|n=>n,fun|9=>9|31=>45|3=>3|4=>4|0=>0|105=>285|21=>21|5=>5|46=>191|119=>335|139=>338|138=>337|146=>311|51=>238|n=>n,fun|1=>2|3=>4|4=>5|n=>n⟩
theorem Tryz.YA:Go.Proofs.Lays.n146 prog JF:=mQ
theorem Tryz.strings_Split (s sep:ByteArray) (m:Int) (w:World) (hs:s.size<4294967281) (hm:w.cell? ⟨2,0,none⟩=some (.int .i64 m)) (h1:1≤sep.size):
  Calls prog 182 #[.string s,.string sep] w fun e w'=>
   e=.returned (.slice (some ⟨w.heap.size,0,none⟩) (Lib.countB s sep+1) (Lib.countB s sep+1))∧w'=w.alloc (.cells ((Lib.splitB sep 0 (Lib.countB s sep) s).map Value.string).toArray 9):=Any.strings_Split YA (by kernel_rfl) s sep m w hs hm h1
def Tryz.zf:Go.Shelf.Ren:=⟨fun|155=>112|154=>168|138=>216|165=>118|143=>156|166=>58|197=>217|169=>25|195=>251|218=>252|240=>117|241=>175|219=>209|260=>253|276=>174|277=>221|217=>181|225=>247|224=>248|267=>249|266=>232|314=>284|n=>n,fun|9=>9|3=>3|4=>4|72=>85|0=>0|76=>129|105=>285|21=>21|5=>5|70=>82|20=>20|37=>83|75=>128|127=>139|164=>245|46=>191|119=>335|139=>338|138=>337|146=>311|51=>238|80=>91|n=>n,fun|1=>2|3=>4|4=>5|n=>n⟩
theorem Tryz.YC:Go.Proofs.Lays.n155 prog zf:=mQ
theorem Tryz.wO:Builder.Extra prog zf:=mQ
theorem Tryz.strings_ReplaceAll (s rP new:ByteArray) (m:Int) (w:World) (hs:s.size<4294967281) (hm:w.cell? ⟨2,0,none⟩=some (.int .i64 m)) (h1:1≤rP.size) (hlen:s.size+Lib.countB s rP*new.size≤140737488355328):
  Calls prog 112 #[.string s,.string rP,.string new] w fun e w'=>
   e=.returned (.string ⟨(Lib.replaceAll s.data.toList rP.data.toList new.data.toList).toArray⟩)∧Below w.heap.size w w':=Any.strings_ReplaceAll YC wO s rP new m w hs hm h1 hlen
def Tryz.ze:Go.Shelf.Ren:=⟨fun|105=>177|212=>222|99=>68|165=>118|166=>58|170=>26|169=>25|263=>255|264=>256|206=>124|240=>117|241=>175|276=>174|277=>221|n=>n,fun|9=>9|3=>3|4=>4|20=>20|0=>0|46=>191|109=>291|5=>5|72=>85|76=>129|51=>238|146=>311|53=>89|148=>313|70=>82|37=>83|75=>128|127=>139|164=>245|80=>91|n=>n,fun|n=>n⟩
theorem Tryz.Yu:Go.Proofs.Lays.n105 prog ze:=mQ
theorem Tryz.wN:Builder.Extra prog ze:=mQ
theorem Tryz.strings_Repeat (s:ByteArray) (c:Nat) (w:World) (hc:c≤9223372036854775807) (hlen:s.size*c≤140737488355328):
  Calls prog 177 #[.string s,.int .i64 c] w fun e w'=>e=.returned (.string ⟨(Lib.repeatL s.data.toList c).toArray⟩)∧Below w.heap.size w w':=Any.strings_Repeat Yu wN s c w hc hlen
def Tryz.Jx:Go.Shelf.Ren:=⟨fun|107=>243|108=>270|n=>n,fun|28=>22|3=>3|4=>4|0=>0|n=>n,fun|n=>n⟩
theorem Tryz.Mr:Go.Proofs.Lays.n107 prog Jx:=mQ
open Go.Lib in
theorem Tryz.slices_Contains_int (b off n c:Nat) (zs:List Int) (x:Int) (w:World) (hz:n≤zs.length) (qx:n≤9223372036854775807) (hc:∀j,j<zs.length→w.cell? ⟨b,off+j,none⟩=some (.int .i64 (zs.getD j 0))):
  Calls prog 243 #[.slice (some ⟨b,off,none⟩) n c,.int .i64 x] w fun e w'=>e=.returned (.bool ((zs.take n).contains x))∧w'=w:=Any.slices_Contains_int Mr b off n c zs x w hz qx hc
open Go.Lib in
theorem Tryz.slices_Contains_int_empty (a:Option Addr) (c:Nat) (x:Int) (w:World):
  Calls prog 243 #[.slice a 0 c,.int .i64 x] w fun e w'=>e=.returned (.bool false)∧w'=w:=Any.slices_Contains_int_empty Mr a c x w
def Tryz.Jy:Go.Shelf.Ren:=⟨fun|109=>105|n=>n,fun|31=>45|9=>9|3=>3|0=>0|4=>4|n=>n,fun|n=>n⟩
theorem Tryz.Yv:Go.Proofs.Lays.n109 prog Jy:=mQ
open Go.Lib in
theorem Tryz.slices_Index_string (b off n c:Nat) (zs:List ByteArray) (x:ByteArray) (w:World) (hz:n≤zs.length) (qx:n≤9223372036854775807) (hc:∀j,j<zs.length→w.cell? ⟨b,off+j,none⟩=some (.string (zs.getD j ByteArray.empty))):
  Calls prog 105 #[.slice (some ⟨b,off,none⟩) n c,.string x] w fun e w'=>e=.returned (.int .i64 (Lib.idxOfS (zs.take n) x))∧w'=w:=Any.slices_Index_string Yv b off n c zs x w hz qx hc
open Go.Lib in
def Tryz.Jz:Go.Shelf.Ren:=⟨fun|110=>151|109=>105|n=>n,fun|31=>45|9=>9|4=>4|3=>3|0=>0|n=>n,fun|n=>n⟩
theorem Tryz.Yw:Go.Proofs.Lays.n110 prog Jz:=mQ
open Go.Lib in
theorem Tryz.slices_Contains_string (b off n c:Nat) (zs:List ByteArray) (x:ByteArray) (w:World) (hz:n≤zs.length) (qx:n≤9223372036854775807) (hc:∀j,j<zs.length→w.cell? ⟨b,off+j,none⟩=some (.string (zs.getD j ByteArray.empty))):
  Calls prog 151 #[.slice (some ⟨b,off,none⟩) n c,.string x] w fun e w'=>e=.returned (.bool (Lib.containsS (zs.take n) x))∧w'=w:=Any.slices_Contains_string Yw b off n c zs x w hz qx hc
open Go.Lib in
def Tryz.JA:Go.Shelf.Ren:=⟨fun|111=>197|n=>n,fun|28=>22|3=>3|4=>4|0=>0|n=>n,fun|n=>n⟩
theorem Tryz.EA:Go.Proofs.Lays.n111 prog JA:=mQ
theorem Tryz.slices_Equal_int (b1 o1 n c b2 o2 m d:Nat) (xs ys:List Int) (w:World) (hx:n≤xs.length) (hy:m≤ys.length) (qx:n≤9223372036854775807) (xf:m≤9223372036854775807) (pg:∀j,j<xs.length→w.cell? ⟨b1,o1+j,none⟩=some (.int .i64 (xs.getD j 0))) (vZ:∀j,j<ys.length→w.cell? ⟨b2,o2+j,none⟩=some (.int .i64 (ys.getD j 0))):
  Calls prog 197 #[.slice (some ⟨b1,o1,none⟩) n c,.slice (some ⟨b2,o2,none⟩) m d] w fun e w'=>e=.returned (.bool (xs.take n==ys.take m))∧∃q,w'=w.drewN q:=Any.slices_Equal_int EA b1 o1 n c b2 o2 m d xs ys w hx hy qx xf pg vZ
theorem Tryz.slices_Equal_int_empty (a1 a2:Option Addr) (c m d:Nat) (w:World) (xf:m≤9223372036854775807):
  Calls prog 197 #[.slice a1 0 c,.slice a2 m d] w fun e w'=>e=.returned (.bool (decide (m=0)))∧w'=w:=Any.slices_Equal_int_empty EA a1 a2 c m d w xf
def Tryz.JK:Go.Shelf.Ren:=⟨fun|193=>196|n=>n,fun|31=>45|9=>9|4=>4|3=>3|0=>0|n=>n,fun|n=>n⟩
theorem Tryz.EB:Go.Proofs.Lays.n193 prog JK:=mQ
theorem Tryz.slices_Equal_string (b1 o1 n c b2 o2 m d:Nat) (xs ys:List ByteArray) (w:World) (hx:n≤xs.length) (hy:m≤ys.length) (qx:n≤9223372036854775807) (xf:m≤9223372036854775807) (pg:∀j,j<xs.length→w.cell? ⟨b1,o1+j,none⟩=some (.string (xs.getD j ByteArray.empty))) (vZ:∀j,j<ys.length→w.cell? ⟨b2,o2+j,none⟩=some (.string (ys.getD j ByteArray.empty))):
  Calls prog 196 #[.slice (some ⟨b1,o1,none⟩) n c,.slice (some ⟨b2,o2,none⟩) m d] w fun e w'=>e=.returned (.bool (decide (xs.take n=ys.take m)))∧∃q,w'=w.drewN q:=Any.slices_Equal_string EB b1 o1 n c b2 o2 m d xs ys w hx hy qx xf pg vZ
theorem Tryz.slices_Equal_string_empty (a1 a2:Option Addr) (c m d:Nat) (w:World) (xf:m≤9223372036854775807):
  Calls prog 196 #[.slice a1 0 c,.slice a2 m d] w fun e w'=>e=.returned (.bool (decide (m=0)))∧w'=w:=Any.slices_Equal_string_empty EB a1 a2 c m d w xf
def Tryz.EE:Go.Shelf.Ren:=⟨fun|20=>51|n=>n,fun|22=>22|3=>3|4=>4|0=>0|n=>n,fun|n=>n⟩
theorem Tryz.ED:Go.Proofs.Lays2.n20 prog EE:=mQ
open Go.RowKit Go.Lib Go.Sort in
theorem Tryz.slices_Compact_int_empty (a:Option Addr) (cap:Nat) (w:World):
  Calls prog 51 #[.slice a 0 cap] w fun e w'=>e=.returned (.slice a 0 cap)∧w'=w:=Any.slices_Compact_int_empty ED a cap w
theorem Tryz.slices_Compact_int_cells (b off n c:Nat) (zs:List Int) (w:World) (hz:n≤zs.length) (qx:n≤9223372036854775807) (DW:n≤c) (hc:∀j,j<zs.length→w.cell? ⟨b,off+j,none⟩=some (.int .i64 (zs.getD j 0))) (hf:∀j,j<n→w.frozen? ⟨b,off+j,none⟩=false):
  Calls prog 51 #[.slice (some ⟨b,off,none⟩) n c] w fun e w'=>e=.returned (.slice (some ⟨b,off,none⟩) (Lib.compact (zs.take n)).length c)∧∃q,w'=(w.drewN q).setCells b off ((Lib.compact (zs.take n)++List.replicate (n - (Lib.compact (zs.take n)).length) 0).map (Value.int .i64)):=Any.slices_Compact_int_cells ED b off n c zs w hz qx DW hc hf
open Go.RowKit Go.Sort in
theorem Tryz.slices_Sort_int_none (p:Option Addr) (cap:Nat) (w:World):
  Calls prog 50 #[.slice p 0 cap] w fun e w'=>e=.returned (.tuple #[])∧w'=w:=Any.slices_Sort_int_none Mt p cap w
theorem Tryz.slices_Equal_int_lens (a1 a2:Option Addr) (n c m d:Nat) (w:World) (Ee:n≠m):
  Calls prog 197 #[.slice a1 n c,.slice a2 m d] w fun e w'=>e=.returned (.bool false)∧w'=w:=Any.slices_Equal_int_lens EA a1 a2 n c m d w Ee
theorem Tryz.slices_Equal_string_lens (a1 a2:Option Addr) (n c m d:Nat) (w:World) (Ee:n≠m):
  Calls prog 196 #[.slice a1 n c,.slice a2 m d] w fun e w'=>e=.returned (.bool false)∧w'=w:=Any.slices_Equal_string_lens EB a1 a2 n c m d w Ee
end Go.Proofs
