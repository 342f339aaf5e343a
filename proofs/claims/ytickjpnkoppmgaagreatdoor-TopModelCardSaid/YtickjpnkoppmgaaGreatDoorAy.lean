import Derived.Shelf.Strings.Builder1
import Derived.Shelf.Strings.Builder2
import Derived.Shelf.Strings.OnBuilder
import Derived.Shelf.Small.Strs
import Derived.Shelf.Strings.BuilderF
import Derived.Shelf.Strings.BuilderK
import Derived.Shelf.Strings.Builder2Cap
import Derived.Shelf.Strconv.Itoa0
import Derived.Shelf.Strconv.Itoa1
import Derived.Shelf.LaysM
import Derived.Shelf.Strconv.Itoa2
import Derived.Shelf.Strconv.Itoa3
import Derived.Shelf.Strings.Search1
import Derived.Shelf.Strings.Search2
import Derived.Shelf.Strings.Search3
import Derived.Shelf.Strings.Cut
import Derived.Shelf.Strings.Count
import Derived.Shelf.Strings.Shaped
import Derived.Shelf.Strings.Prefix
import Derived.Shelf.Strings.Split
import Derived.Shelf.Strings.SplitShaped
import Derived.Shelf.Unicode.Decode
import Derived.Shelf.Strings.Repeat
import Derived.Shelf.Strings.BuilderCap
import Derived.Ground.NamesProg
import Derived.Test.YtickjpnkoppmgaaGreatDoorProg
import Derived.Test.YtickjpnkoppmgaaGreatDoorAa
set_option linter.all false
namespace Go.Proofs
open Tryz Go.Shelf Go.Lib
def Tryz.lren:Go.Shelf.Ren:=⟨fun|169=>60|156=>85|165=>126|166=>58|240=>92|241=>173|276=>128|277=>216|106=>106|213=>148|265=>190|137=>192|217=>242|266=>276|171=>198|243=>244|246=>277|283=>290|284=>291|285=>292|286=>293|129=>146|317=>307|318=>308|319=>309|320=>310|337=>322|338=>323|144=>155|143=>197|219=>218|225=>261|224=>262|267=>263|314=>286|145=>130|220=>178|138=>233|195=>270|218=>272|99=>96|206=>135|146=>147|221=>189|268=>232|197=>271|260=>288|105=>124|212=>172|170=>62|263=>214|264=>215|n=>n,fun|70=>113|9=>9|0=>0|72=>115|37=>88|127=>176|3=>3|5=>5|31=>60|4=>4|20=>20|76=>119|75=>118|164=>220|80=>56|2=>2|171=>376|53=>214|173=>378|212=>394|51=>67|213=>395|46=>179|232=>406|233=>407|146=>306|59=>199|105=>353|21=>21|119=>389|139=>392|138=>391|109=>267|148=>308|n=>n,fun|17=>3|18=>4|19=>5|1=>0|3=>1|4=>2|n=>n⟩
theorem Tryz.lays105:Go.Proofs.Lays.n105 prog Tryz.lren:={
 mixed:=by kernel_rfl
 f99:=tq func96
 f105:=tq func124
 f165:=tq func126
 f166:=tq func58
 f169:=tq func60
 f170:=tq func62
 f206:=tq func135
 f212:=tq func172
 f240:=tq func92
 f241:=tq func173
 f263:=tq func214
 f264:=tq func215
 f276:=tq func128
 f277:=tq func216
 t0:=underlying0
 a0:=isAgg0
 z0:=sizeOf0
 v0:=zeroValue0
 t3:=underlying3
 a3:=isAgg3
 z3:=sizeOf3
 v3:=zeroValue3
 t4:=underlying4
 a4:=isAgg4
 z4:=sizeOf4
 v4:=zeroValue4
 t5:=underlying5
 a5:=isAgg5
 z5:=sizeOf5
 v5:=zeroValue5
 t9:=underlying9
 a9:=isAgg9
 z9:=sizeOf9
 v9:=zeroValue9
 t20:=underlying20
 a20:=isAgg20
 z20:=sizeOf20
 v20:=zeroValue20
 t37:=underlying88
 a37:=isAgg88
 z37:=sizeOf88
 v37:=zeroValue88
 t46:=underlying179
 a46:=isAgg179
 z46:=sizeOf179
 v46:=zeroValue179
 t51:=underlying67
 a51:=isAgg67
 z51:=sizeOf67
 v51:=zeroValue67
 t53:=underlying214
 a53:=isAgg214
 z53:=sizeOf214
 v53:=zeroValue214
 t70:=underlying113
 a70:=isAgg113
 z70:=sizeOf113
 v70:=zeroValue113
 t72:=underlying115
 a72:=isAgg115
 z72:=sizeOf115
 v72:=zeroValue115
 t75:=underlying118
 a75:=isAgg118
 z75:=sizeOf118
 v75:=zeroValue118
 t76:=underlying119
 a76:=isAgg119
 z76:=sizeOf119
 v76:=zeroValue119
 t109:=underlying267
 a109:=isAgg267
 z109:=sizeOf267
 v109:=zeroValue267
 t127:=underlying176
 a127:=isAgg176
 z127:=sizeOf176
 v127:=zeroValue176
 t146:=underlying306
 a146:=isAgg306
 z146:=sizeOf306
 v146:=zeroValue306
 t148:=underlying308
 a148:=isAgg308
 z148:=sizeOf308
 v148:=zeroValue308
 t164:=underlying220
 a164:=isAgg220
 z164:=sizeOf220
 v164:=zeroValue220}
theorem Tryz.lays171:Go.Proofs.Lays.n171 prog Tryz.lren:={Tryz.lays105 with
 f129:=tq func146
 f171:=tq func198
 f243:=tq func244
 f246:=tq func277
 f283:=tq func290
 f284:=tq func291
 f285:=tq func292
 f286:=tq func293
 f317:=tq func307
 f318:=tq func308
 f319:=tq func309
 f320:=tq func310
 f337:=tq func322
 f338:=tq func323
 t2:=underlying2
 a2:=isAgg2
 z2:=sizeOf2
 v2:=zeroValue2
 t171:=underlying376
 a171:=isAgg376
 z171:=sizeOf376
 v171:=zeroValue376
 t173:=underlying378
 a173:=isAgg378
 z173:=sizeOf378
 v173:=zeroValue378
 t212:=underlying394
 a212:=isAgg394
 z212:=sizeOf394
 v212:=zeroValue394
 t213:=underlying395
 a213:=isAgg395
 z213:=sizeOf395
 t232:=underlying406
 a232:=isAgg406
 z232:=sizeOf406
 v232:=zeroValue406
 t233:=underlying407
 a233:=isAgg407
 z233:=sizeOf407
 v233:=zeroValue407
 g17:=by kernel_rfl
 g18:=by kernel_rfl
 g19:=by kernel_rfl}
theorem Tryz.lays146:Go.Proofs.Lays.n146 prog Tryz.lren:={Tryz.lays105 with
 f138:=tq func233
 f143:=tq func197
 f146:=tq func147
 f195:=tq func270
 f197:=tq func271
 f217:=tq func242
 f218:=tq func272
 f219:=tq func218
 f221:=tq func189
 f224:=tq func262
 f225:=tq func261
 f260:=tq func288
 f266:=tq func276
 f267:=tq func263
 f268:=tq func232
 f314:=tq func286
 t21:=underlying21
 a21:=isAgg21
 z21:=sizeOf21
 v21:=zeroValue21
 t31:=underlying60
 a31:=isAgg60
 z31:=sizeOf60
 v31:=zeroValue60
 t105:=underlying353
 a105:=isAgg353
 z105:=sizeOf353
 v105:=zeroValue353
 t119:=underlying389
 a119:=isAgg389
 z119:=sizeOf389
 t138:=underlying391
 a138:=isAgg391
 z138:=sizeOf391
 v138:=zeroValue391
 t139:=underlying392
 a139:=isAgg392
 z139:=sizeOf392
 v139:=zeroValue392
 g1:=by kernel_rfl
 g3:=by kernel_rfl
 g4:=by kernel_rfl}
theorem Tryz.lays156:Go.Proofs.Lays.n156 prog Tryz.lren:={Tryz.lays105,Tryz.lays146 with
 f156:=tq func85}
theorem Tryz.lays145:Go.Proofs.Lays.n145 prog Tryz.lren:={Tryz.lays146 with
 f145:=tq func130
 f220:=tq func178
 t59:=underlying199
 a59:=isAgg199
 z59:=sizeOf199
 v59:=zeroValue199}
theorem Tryz.lays144:Go.Proofs.Lays.n144 prog Tryz.lren:={Tryz.lays146 with
 f144:=tq func155}
theorem Tryz.lays169:Go.Proofs.Lays.n169 prog Tryz.lren:={Tryz.lays105 with}
theorem Tryz.lays137:Go.Proofs.Lays.n137 prog Tryz.lren:={Tryz.lays146 with
 f137:=tq func192}
theorem Tryz.lays99:Go.Proofs.Lays.n99 prog Tryz.lren:={Tryz.lays105 with}
theorem Tryz.lays106:Go.Proofs.Lays.n106 prog Tryz.lren:={Tryz.lays105 with
 f106:=tq func106
 f213:=tq func148
 f265:=tq func190}
theorem Tryz.laysM171:Go.Proofs.LaysM.n171 prog Tryz.lren:={Tryz.lays171 with
 i0:=by kernel_rfl
 i2:=by kernel_rfl
 i3:=by kernel_rfl
 i4:=by kernel_rfl
 i5:=by kernel_rfl
 i9:=by kernel_rfl
 i20:=by kernel_rfl
 i37:=by kernel_rfl
 i46:=by kernel_rfl
 i51:=by kernel_rfl
 i53:=by kernel_rfl
 i171:=by kernel_rfl
 i173:=by kernel_rfl
 i212:=by kernel_rfl
 i232:=by kernel_rfl
 i233:=by kernel_rfl
 m17:=by kernel_rfl
 m18:=by kernel_rfl
 m19:=by kernel_rfl}
theorem Tryz.lays166:Go.Proofs.Lays.n166 prog Tryz.lren:={Tryz.lays105 with}
theorem Tryz.lext:Builder.Extra prog Tryz.lren:={
 sizeBuilder:=by kernel_rfl
 liesBuilder:=by kernel_rfl
 t5:=underlying5
 a5:=isAgg5
 z5:=sizeOf5
 v5:=zeroValue5
 infoByte:=by kernel_rfl
 cellsByte:=by kernel_rfl
 sizeByte:=by kernel_rfl
 neB5:=by decide}
open Go.RowKit in
theorem Tryz.strCompare (a b:ByteArray)(w):Calls prog 106 #[a,b] w fun e w'=>e=.returned (.int .i64 (Lib.compareBytes a.data.toList b.data.toList))∧w'=w:=Any.strings_Compare Tryz.lays106 a b w
open Go.RowKit Go.Lib in
theorem Tryz.strSplit (s c:ByteArray)(m w)(hs:s.size<4294967281)(g:w.cell? ⟨0,0,none⟩=some (.int .i64 m))(d:1≤c.size):
 Calls prog 147 #[s,c] w fun e w'=>
  e=.returned (.slice w.heap.size (Lib.countB s c+1) (Lib.countB s c+1))∧w'=w.alloc (.cells ((Lib.splitB c 0 (Lib.countB s c) s).map Value.string).toArray 9):=Any.strings_Split Tryz.lays146 (by kernel_rfl) s c m w hs g d
open Go.RowKit in
theorem Tryz.strJoin0 (a c)(d:ByteArray)(w):Calls prog 85 #[.slice a 0 c,d] w fun e w'=>e=.returned (.string ⟨#[]⟩)∧w'=w:=Any.strings_Join_none Tryz.lays156 Tryz.lext a c d w
open Go.RowKit in
theorem Tryz.strJoin (d h c:Nat)(xs:List ByteArray)(g:ByteArray)(w:World)(n:∀(j:Nat) x,xs[j]?=some x→w.cell? ⟨d,h+j,none⟩=some (.string x))(l:d<w.heap.size)(i:xs.length≤140737488355328)(m:xs.length≤c)(o:(Lib.join (xs.map (·.data.toList)) g.data.toList).length≤140737488355328):
 Calls prog 85 #[.slice (some ⟨d,h,none⟩) xs.length c,g] w fun e w'=>e=.returned (.string ⟨(Lib.join (xs.map (·.data.toList)) g.data.toList).toArray⟩)∧Below w.heap.size w w':=Any.strings_Join Tryz.lays156 Tryz.lext d h c xs g w n l i m o
open Go.RowKit in
theorem Tryz.strWrite (c b:Nat)(bs:List Value)(s:ByteArray)(w:World)(h:Lib.IsBuilder 115 5 c b bs w)(g:bs.length+s.size≤140737488355328)(d:c≤w.heap.size):
 Calls prog 58 #[.pointer b,s] w fun e w'=>e=.returned (.tuple #[s.size,.nilIface])∧(Lib.BuilderAt 115 5 c b (.pointer b) (bs++Lib.strCells s) w'∧Below c w w'):=Any.Builder_WriteString Tryz.lays166 Tryz.lext c b bs s w h g d
open Go.RowKit in
theorem Tryz.strBuilt (c b l w)(h:Lib.IsBuilder 115 5 c b (Lib.byteCells l) w)(d:c≤w.heap.size):
 Calls prog 60 #[.pointer b] w fun e w'=>e=.returned (.string ⟨l.toArray⟩)∧Below c w w':=Any.Builder_String_any Tryz.lays169 Tryz.lext c b l w h d
open Go.RowKit in
theorem Tryz.strByte (s:ByteArray)(c:Int)(w:World):Calls prog 192 #[s,.int .u8 c] w fun e w'=>e=.returned (.int .i64 (Lib.indexByte s.data.toList c.toNat.toUInt8))∧w'=w:=Any.strings_IndexByte Tryz.lays137 s c w
open Go.RowKit in
theorem Tryz.strHas1 (s:ByteArray)(c:UInt8)(w:World):Calls prog 155 #[s,.string ⟨#[c]⟩] w fun e w'=>e=.returned (.bool (decide (0≤Lib.indexByte s.data.toList c)))∧w'=w:=Any.strings_Contains_one Tryz.lays144 s c w
open Go.RowKit in
theorem Tryz.strCut (s c:ByteArray)(m:Int)(w:World)(hs:s.size<4294967281)(d:w.cell? ⟨0,0,none⟩=some (.int .i64 m)):Calls prog 130 #[s,c] w fun e w'=>e=.returned (.tuple #[.string ⟨(Lib.cut s.data.toList c.data.toList).1.toArray⟩,.string ⟨(Lib.cut s.data.toList c.data.toList).2.1.toArray⟩,.bool (Lib.cut s.data.toList c.data.toList).2.2])∧∃n,w'=w.drewN n:=Any.strings_Cut Tryz.lays145 s c m w hs d
open Go.RowKit in
theorem Tryz.strPre (s p:ByteArray)(w:World):Calls prog 96 #[s,p] w fun e w'=>e=.returned (.bool (Lib.hasPrefix s.data.toList p.data.toList))∧w'=w:=Any.strings_HasPrefix Tryz.lays99 s p w
open Go.RowKit in
theorem Tryz.strRep (s:ByteArray)(c:Nat)(w:World)(d:c≤9223372036854775807)(g:s.size*c≤140737488355328):Calls prog 124 #[s,c] w fun e w'=>e=.returned (.string ⟨(Lib.repeatL s.data.toList c).toArray⟩)∧Below w.heap.size w w':=Any.strings_Repeat Tryz.lays105 Tryz.lext s c w d g
open Go.RowKit Go.Sort Go.Lib in
theorem Tryz.itoa (n:Int)(h0: -9223372036854775808≤n)(c:n≤9223372036854775807)(w:World)(d:Lib.TabIs prog w "internal/strconv.uint64pow10" .u64 Lib.pow10Tab):Calls prog 198 #[n] w fun e w'=>e=.returned (.string ⟨(Lib.itoa n).toArray⟩)∧∃k os,w'=grow (w.drewN k) os:=Any.strconv_Itoa Tryz.laysM171 n h0 c w d
