import Derived.Test.YtbbicpheoakeeaaGreatDoorX9
import Derived.Shelf.Strings.Builder1
import Derived.Shelf.Strings.Builder2
import Derived.Shelf.Strings.OnBuilder
import Derived.Shelf.Small.Utf8
import Derived.Shelf.Small.Wraps
import Derived.Shelf.Strings.BuilderF
import Derived.Shelf.Strings.BuilderK
import Derived.Shelf.Utf8.RuneCount
import Derived.Shelf.Strings.Builder2Cap
import Derived.Shelf.Strconv.Itoa0
import Derived.Shelf.Strconv.Itoa1
import Derived.Shelf.LaysM
import Derived.Shelf.Strconv.Itoa2
import Derived.Shelf.Strconv.Itoa3
import Derived.Shelf.Strconv.Clone
import Derived.Shelf.Strings.Search1
import Derived.Shelf.Strings.Search2
import Derived.Shelf.Strings.Search3
import Derived.Shelf.Strings.Cut
import Derived.Shelf.Strings.Count
import Derived.Shelf.Strings.Shaped
import Derived.Shelf.Strings.Prefix
import Derived.Shelf.Strings.Split
import Derived.Shelf.Strings.Fields
import Derived.Shelf.Strings.SplitShaped
import Derived.Shelf.Unicode.Latin
import Derived.Shelf.Unicode.Decode
import Derived.Shelf.Strings.RuneCount
import Derived.Shelf.Bits.Mul64
import Derived.Shelf.Strings.Repeat
import Derived.Shelf.Unicode.DecodeSlow
import Derived.Shelf.Unicode.DecodeAny
import Derived.Shelf.Unicode.Is16White
import Derived.Shelf.Unicode.IsSpaceAny
import Derived.Shelf.Unicode.CaseLookup
import Derived.Shelf.Unicode.CaseConvert
import Derived.Shelf.Unicode.CaseTo
import Derived.Shelf.Unicode.CaseLaid
import Derived.Shelf.Unicode.Is16Any
import Derived.Shelf.Unicode.Is32Any
import Derived.Shelf.Unicode.ExclAny
import Derived.Shelf.Strings.BuilderCap
import Derived.Shelf.Slices.Turned
import Derived.Test.YtbbicpheoakeeaaGreatDoorProg
set_option linter.all false
set_option maxRecDepth 100000
set_option maxHeartbeats 4000000
namespace Go.Proofs
open Go.Shelf
def Tryz.lays158_ren:Go.Shelf.Ren:=⟨fun|158=>107|165=>72|166=>57|167=>123|169=>59|230=>124|203=>125|240=>92|241=>104|197=>119|118=>139|168=>140|270=>141|262=>142|276=>112|277=>122|260=>138|242=>150|313=>151|278=>154|274=>155|275=>156|n=>n,fun|9=>9|4=>4|3=>3|5=>5|72=>103|0=>0|76=>106|75=>105|107=>173|70=>101|20=>20|37=>26|127=>137|21=>21|105=>158|164=>155|162=>203|203=>201|119=>116|46=>119|139=>199|138=>198|51=>22|160=>208|208=>216|206=>214|80=>109|n=>n,fun|13=>9|3=>7|4=>8|n=>n⟩
def Tryz.lays158:Go.Proofs.Lays.n158 Tryz.prog Tryz.lays158_ren:={
 mixed:=C6
 f118:=K6 Tryz.func139
 f158:=K6 Tryz.func107
 f165:=K6 Tryz.func72
 f166:=K6 Tryz.func57
 f167:=K6 Tryz.func123
 f168:=K6 Tryz.func140
 f169:=K6 Tryz.func59
 f197:=K6 Tryz.func119
 f203:=K6 Tryz.func125
 f230:=K6 Tryz.func124
 f240:=K6 Tryz.func92
 f241:=K6 Tryz.func104
 f242:=K6 Tryz.func150
 f260:=K6 Tryz.func138
 f262:=K6 Tryz.func142
 f270:=K6 Tryz.func141
 f274:=K6 Tryz.func155
 f275:=K6 Tryz.func156
 f276:=K6 Tryz.func112
 f277:=K6 Tryz.func122
 f278:=K6 Tryz.func154
 f313:=K6 Tryz.func151
 t0:=Tryz.underlying0
 a0:=Tryz.isAgg0
 z0:=Tryz.sizeOf0
 v0:=Tryz.zeroValue0
 t3:=Tryz.underlying3
 a3:=Tryz.isAgg3
 z3:=Tryz.sizeOf3
 v3:=Tryz.zeroValue3
 t4:=Tryz.underlying4
 a4:=Tryz.isAgg4
 z4:=Tryz.sizeOf4
 v4:=Tryz.zeroValue4
 t5:=Tryz.underlying5
 a5:=Tryz.isAgg5
 z5:=Tryz.sizeOf5
 v5:=Tryz.zeroValue5
 t9:=Tryz.underlying9
 a9:=Tryz.isAgg9
 z9:=Tryz.sizeOf9
 v9:=Tryz.zeroValue9
 t20:=Tryz.underlying20
 a20:=Tryz.isAgg20
 z20:=Tryz.sizeOf20
 v20:=Tryz.zeroValue20
 t21:=Tryz.underlying21
 a21:=Tryz.isAgg21
 z21:=Tryz.sizeOf21
 v21:=Tryz.zeroValue21
 t37:=Tryz.underlying26
 a37:=Tryz.isAgg26
 z37:=Tryz.sizeOf26
 v37:=Tryz.zeroValue26
 t46:=Tryz.underlying119
 a46:=Tryz.isAgg119
 z46:=Tryz.sizeOf119
 v46:=Tryz.zeroValue119
 t51:=Tryz.underlying22
 a51:=Tryz.isAgg22
 z51:=Tryz.sizeOf22
 v51:=Tryz.zeroValue22
 t70:=Tryz.underlying101
 a70:=Tryz.isAgg101
 z70:=Tryz.sizeOf101
 v70:=Tryz.zeroValue101
 t72:=Tryz.underlying103
 a72:=Tryz.isAgg103
 z72:=Tryz.sizeOf103
 v72:=Tryz.zeroValue103
 t75:=Tryz.underlying105
 a75:=Tryz.isAgg105
 z75:=Tryz.sizeOf105
 v75:=Tryz.zeroValue105
 t76:=Tryz.underlying106
 a76:=Tryz.isAgg106
 z76:=Tryz.sizeOf106
 v76:=Tryz.zeroValue106
 t105:=Tryz.underlying158
 a105:=Tryz.isAgg158
 z105:=Tryz.sizeOf158
 v105:=Tryz.zeroValue158
 t107:=Tryz.underlying173
 a107:=Tryz.isAgg173
 z107:=Tryz.sizeOf173
 v107:=Tryz.zeroValue173
 t119:=Tryz.underlying116
 a119:=Tryz.isAgg116
 z119:=Tryz.sizeOf116
 t127:=Tryz.underlying137
 a127:=Tryz.isAgg137
 z127:=Tryz.sizeOf137
 v127:=Tryz.zeroValue137
 t138:=Tryz.underlying198
 a138:=Tryz.isAgg198
 z138:=Tryz.sizeOf198
 v138:=Tryz.zeroValue198
 t139:=Tryz.underlying199
 a139:=Tryz.isAgg199
 z139:=Tryz.sizeOf199
 v139:=Tryz.zeroValue199
 t160:=Tryz.underlying208
 a160:=Tryz.isAgg208
 z160:=Tryz.sizeOf208
 v160:=Tryz.zeroValue208
 t162:=Tryz.underlying203
 a162:=Tryz.isAgg203
 z162:=Tryz.sizeOf203
 v162:=Tryz.zeroValue203
 t164:=Tryz.underlying155
 a164:=Tryz.isAgg155
 z164:=Tryz.sizeOf155
 v164:=Tryz.zeroValue155
 t203:=Tryz.underlying201
 a203:=Tryz.isAgg201
 z203:=Tryz.sizeOf201
 v203:=Tryz.zeroValue201
 t206:=Tryz.underlying214
 a206:=Tryz.isAgg214
 z206:=Tryz.sizeOf214
 v206:=Tryz.zeroValue214
 t208:=Tryz.underlying216
 a208:=Tryz.isAgg216
 z208:=Tryz.sizeOf216
 v208:=Tryz.zeroValue216
 g3:=C6
 g4:=C6
 g13:=by kernel_rfl }
def Tryz.Builder_Extra_158:Builder.Extra Tryz.prog Tryz.lays158_ren:={
 sizeBuilder:=C6
 liesBuilder:=C6
 t5:=Tryz.underlying5
 a5:=Tryz.isAgg5
 z5:=Tryz.sizeOf5
 v5:=Tryz.zeroValue5
 infoByte:=C6
 cellsByte:=C6
 sizeByte:=C6
 neB5:=by decide }
open Go.RowKit in
def Tryz.strings_ToUpper_ascii(s:ByteArray)(w:World)(d:s.size<=140737488355328)(c:∀ (j:Nat) (b:UInt8),s.data.toList[j]? = some b->b.toNat<128) :
  Calls Tryz.prog 107 #[.string s] w fun e w'=>e=.returned (.string ⟨(Lib.toUpperA s.data.toList).toArray⟩)/\Below w.heap.size w w':=Any.strings_ToUpper_ascii Tryz.lays158 Tryz.Builder_Extra_158 s w d c
def Tryz.lays156_ren:Go.Shelf.Ren:=⟨fun|156=>93|165=>72|166=>57|169=>59|240=>92|241=>104|276=>112|277=>122|n=>n,fun|31=>68|9=>9|3=>3|4=>4|0=>0|20=>20|72=>103|76=>106|70=>101|37=>26|75=>105|127=>137|164=>155|5=>5|80=>109|n=>n,fun|n=>n⟩
def Tryz.lays156:Go.Proofs.Lays.n156 Tryz.prog Tryz.lays156_ren:={
 mixed:=C6
 f156:=K6 Tryz.func93
 f165:=K6 Tryz.func72
 f166:=K6 Tryz.func57
 f169:=K6 Tryz.func59
 f240:=K6 Tryz.func92
 f241:=K6 Tryz.func104
 f276:=K6 Tryz.func112
 f277:=K6 Tryz.func122
 t0:=Tryz.underlying0
 a0:=Tryz.isAgg0
 z0:=Tryz.sizeOf0
 v0:=Tryz.zeroValue0
 t3:=Tryz.underlying3
 a3:=Tryz.isAgg3
 z3:=Tryz.sizeOf3
 v3:=Tryz.zeroValue3
 t4:=Tryz.underlying4
 a4:=Tryz.isAgg4
 z4:=Tryz.sizeOf4
 v4:=Tryz.zeroValue4
 t9:=Tryz.underlying9
 a9:=Tryz.isAgg9
 z9:=Tryz.sizeOf9
 v9:=Tryz.zeroValue9
 t20:=Tryz.underlying20
 a20:=Tryz.isAgg20
 z20:=Tryz.sizeOf20
 v20:=Tryz.zeroValue20
 t31:=Tryz.underlying68
 a31:=Tryz.isAgg68
 z31:=Tryz.sizeOf68
 v31:=Tryz.zeroValue68
 t37:=Tryz.underlying26
 a37:=Tryz.isAgg26
 z37:=Tryz.sizeOf26
 v37:=Tryz.zeroValue26
 t70:=Tryz.underlying101
 a70:=Tryz.isAgg101
 z70:=Tryz.sizeOf101
 v70:=Tryz.zeroValue101
 t72:=Tryz.underlying103
 a72:=Tryz.isAgg103
 z72:=Tryz.sizeOf103
 v72:=Tryz.zeroValue103
 t75:=Tryz.underlying105
 a75:=Tryz.isAgg105
 z75:=Tryz.sizeOf105
 v75:=Tryz.zeroValue105
 t76:=Tryz.underlying106
 a76:=Tryz.isAgg106
 z76:=Tryz.sizeOf106
 v76:=Tryz.zeroValue106
 t127:=Tryz.underlying137
 a127:=Tryz.isAgg137
 z127:=Tryz.sizeOf137
 v127:=Tryz.zeroValue137
 t164:=Tryz.underlying155
 a164:=Tryz.isAgg155
 z164:=Tryz.sizeOf155
 v164:=Tryz.zeroValue155 }
def Tryz.Builder_Extra_156:Builder.Extra Tryz.prog Tryz.lays156_ren:={
 sizeBuilder:=C6
 liesBuilder:=C6
 t5:=Tryz.underlying5
 a5:=Tryz.isAgg5
 z5:=Tryz.sizeOf5
 v5:=Tryz.zeroValue5
 infoByte:=C6
 cellsByte:=C6
 sizeByte:=C6
 neB5:=by decide }
open Go.RowKit in
def Tryz.strings_Join_none(a:Option Addr)(c:Nat)(sep:ByteArray)(w:World) :
  Calls Tryz.prog 93 #[.slice a 0 c,.string sep] w fun e w'=>e=.returned (.string ⟨#[]⟩)/\w'=w:=Any.strings_Join_none Tryz.lays156 Tryz.Builder_Extra_156 a c sep w
open Go.RowKit in
def Tryz.strings_Join(f o c:Nat)(xs:List ByteArray)(sep:ByteArray)(w:World)(b:∀ (j:Nat) x,xs[j]? = some x->w.cell? ⟨f,o+j,none⟩=some (.string x))(g:f<w.heap.size)(k:xs.length<=140737488355328)(d:xs.length<=c)(hlen:(Lib.join (xs.map (·.data.toList)) sep.data.toList).length<=140737488355328) :
  Calls Tryz.prog 93 #[.slice (some ⟨f,o,none⟩) xs.length c,.string sep] w fun e w'=>e=.returned (.string ⟨(Lib.join (xs.map (·.data.toList)) sep.data.toList).toArray⟩)/\Below w.heap.size w w':=Any.strings_Join Tryz.lays156 Tryz.Builder_Extra_156 f o c xs sep w b g k d hlen
def Tryz.laysM316_ren:Go.Shelf.Ren:=⟨fun|316=>143|n=>n,fun|9=>9|3=>3|4=>4|37=>26|0=>0|127=>137|5=>5|n=>n,fun|n=>n⟩
def Tryz.laysM316:Go.Proofs.LaysM.n316 Tryz.prog Tryz.laysM316_ren:={
 mixed:=C6
 f316:=K6 Tryz.func143
 t0:=Tryz.underlying0
 a0:=Tryz.isAgg0
 z0:=Tryz.sizeOf0
 v0:=Tryz.zeroValue0
 t3:=Tryz.underlying3
 a3:=Tryz.isAgg3
 z3:=Tryz.sizeOf3
 v3:=Tryz.zeroValue3
 t4:=Tryz.underlying4
 a4:=Tryz.isAgg4
 z4:=Tryz.sizeOf4
 v4:=Tryz.zeroValue4
 t9:=Tryz.underlying9
 a9:=Tryz.isAgg9
 z9:=Tryz.sizeOf9
 v9:=Tryz.zeroValue9
 t37:=Tryz.underlying26
 a37:=Tryz.isAgg26
 z37:=Tryz.sizeOf26
 v37:=Tryz.zeroValue26
 t127:=Tryz.underlying137
 a127:=Tryz.isAgg137
 z127:=Tryz.sizeOf137
 v127:=Tryz.zeroValue137
 t5:=Tryz.underlying5
 a5:=Tryz.isAgg5
 z5:=Tryz.sizeOf5
 v5:=Tryz.zeroValue5
 i0:=C6
 i3:=C6
 i4:=C6
 i5:=C6
 i9:=C6
 i37:=C6
 i127:=by kernel_rfl }
open Go.RowKit in
def Tryz.stringslite_Clone(s:ByteArray)(w:World)(b:s.size<=281474976710656) :
  Calls Tryz.prog 143 #[.string s] w fun e w'=>e=.returned (.string s)/\Below w.heap.size w w':=Any.stringslite_Clone Tryz.laysM316 s w b
def Tryz.lays143_ren:Go.Shelf.Ren:=⟨fun|143=>65|219=>97|217=>114|225=>115|224=>116|267=>117|266=>132|314=>133|n=>n,fun|9=>9|3=>3|4=>4|5=>5|46=>119|146=>146|51=>22|n=>n,fun|1=>2|n=>n⟩
def Tryz.lays143:Go.Proofs.Lays.n143 Tryz.prog Tryz.lays143_ren:={
 mixed:=C6
 f143:=K6 Tryz.func65
 f217:=K6 Tryz.func114
 f219:=K6 Tryz.func97
 f224:=K6 Tryz.func116
 f225:=K6 Tryz.func115
 f266:=K6 Tryz.func132
 f267:=K6 Tryz.func117
 f314:=K6 Tryz.func133
 t3:=Tryz.underlying3
 a3:=Tryz.isAgg3
 z3:=Tryz.sizeOf3
 v3:=Tryz.zeroValue3
 t4:=Tryz.underlying4
 a4:=Tryz.isAgg4
 z4:=Tryz.sizeOf4
 v4:=Tryz.zeroValue4
 t5:=Tryz.underlying5
 a5:=Tryz.isAgg5
 z5:=Tryz.sizeOf5
 v5:=Tryz.zeroValue5
 t9:=Tryz.underlying9
 a9:=Tryz.isAgg9
 z9:=Tryz.sizeOf9
 v9:=Tryz.zeroValue9
 t46:=Tryz.underlying119
 a46:=Tryz.isAgg119
 z46:=Tryz.sizeOf119
 v46:=Tryz.zeroValue119
 t51:=Tryz.underlying22
 a51:=Tryz.isAgg22
 z51:=Tryz.sizeOf22
 v51:=Tryz.zeroValue22
 t146:=Tryz.underlying146
 a146:=Tryz.isAgg146
 z146:=Tryz.sizeOf146
 v146:=Tryz.zeroValue146
 g1:=by kernel_rfl }
open Go.RowKit Go.Lib in
def Tryz.strings_Index_one(s:ByteArray)(c:UInt8)(w:World) :
  Calls Tryz.prog 65 #[.string s,.string ⟨#[c]⟩] w fun e w'=>e=.returned (.int .i64 (Lib.indexByte s.data.toList c))/\w'=w:=Any.strings_Index_one Tryz.lays143 s c w
def Tryz.lays144_ren:Go.Shelf.Ren:=⟨fun|144=>78|143=>65|219=>97|217=>114|225=>115|224=>116|267=>117|266=>132|314=>133|n=>n,fun|9=>9|4=>4|3=>3|5=>5|46=>119|146=>146|51=>22|n=>n,fun|1=>2|n=>n⟩
def Tryz.lays144:Go.Proofs.Lays.n144 Tryz.prog Tryz.lays144_ren:={
 mixed:=C6
 f143:=K6 Tryz.func65
 f144:=K6 Tryz.func78
 f217:=K6 Tryz.func114
 f219:=K6 Tryz.func97
 f224:=K6 Tryz.func116
 f225:=K6 Tryz.func115
 f266:=K6 Tryz.func132
 f267:=K6 Tryz.func117
 f314:=K6 Tryz.func133
 t3:=Tryz.underlying3
 a3:=Tryz.isAgg3
 z3:=Tryz.sizeOf3
 v3:=Tryz.zeroValue3
 t4:=Tryz.underlying4
 a4:=Tryz.isAgg4
 z4:=Tryz.sizeOf4
 v4:=Tryz.zeroValue4
 t5:=Tryz.underlying5
 a5:=Tryz.isAgg5
 z5:=Tryz.sizeOf5
 v5:=Tryz.zeroValue5
 t9:=Tryz.underlying9
 a9:=Tryz.isAgg9
 z9:=Tryz.sizeOf9
 v9:=Tryz.zeroValue9
 t46:=Tryz.underlying119
 a46:=Tryz.isAgg119
 z46:=Tryz.sizeOf119
 v46:=Tryz.zeroValue119
 t51:=Tryz.underlying22
 a51:=Tryz.isAgg22
 z51:=Tryz.sizeOf22
 v51:=Tryz.zeroValue22
 t146:=Tryz.underlying146
 a146:=Tryz.isAgg146
 z146:=Tryz.sizeOf146
 v146:=Tryz.zeroValue146
 g1:=by kernel_rfl }
open Go.RowKit Go.Lib in
def Tryz.strings_Contains_one(s:ByteArray)(c:UInt8)(w:World) :
  Calls Tryz.prog 78 #[.string s,.string ⟨#[c]⟩] w fun e w'=>e=.returned (.bool (decide (0<=Lib.indexByte s.data.toList c)))/\w'=w:=Any.strings_Contains_one Tryz.lays144 s c w
def Tryz.lays138_ren:Go.Shelf.Ren:=⟨fun|138=>29|195=>63|218=>64|143=>65|219=>97|217=>114|225=>115|224=>116|267=>117|266=>132|314=>133|n=>n,fun|9=>9|3=>3|4=>4|5=>5|0=>0|46=>119|146=>146|51=>22|n=>n,fun|1=>2|n=>n⟩
def Tryz.lays138:Go.Proofs.Lays.n138 Tryz.prog Tryz.lays138_ren:={
 mixed:=C6
 f138:=K6 Tryz.func29
 f143:=K6 Tryz.func65
 f195:=K6 Tryz.func63
 f217:=K6 Tryz.func114
 f218:=K6 Tryz.func64
 f219:=K6 Tryz.func97
 f224:=K6 Tryz.func116
 f225:=K6 Tryz.func115
 f266:=K6 Tryz.func132
 f267:=K6 Tryz.func117
 f314:=K6 Tryz.func133
 t0:=Tryz.underlying0
 a0:=Tryz.isAgg0
 z0:=Tryz.sizeOf0
 v0:=Tryz.zeroValue0
 t3:=Tryz.underlying3
 a3:=Tryz.isAgg3
 z3:=Tryz.sizeOf3
 v3:=Tryz.zeroValue3
 t4:=Tryz.underlying4
 a4:=Tryz.isAgg4
 z4:=Tryz.sizeOf4
 v4:=Tryz.zeroValue4
 t5:=Tryz.underlying5
 a5:=Tryz.isAgg5
 z5:=Tryz.sizeOf5
 v5:=Tryz.zeroValue5
 t9:=Tryz.underlying9
 a9:=Tryz.isAgg9
 z9:=Tryz.sizeOf9
 v9:=Tryz.zeroValue9
 t46:=Tryz.underlying119
 a46:=Tryz.isAgg119
 z46:=Tryz.sizeOf119
 v46:=Tryz.zeroValue119
 t51:=Tryz.underlying22
 a51:=Tryz.isAgg22
 z51:=Tryz.sizeOf22
 v51:=Tryz.zeroValue22
 t146:=Tryz.underlying146
 a146:=Tryz.isAgg146
 z146:=Tryz.sizeOf146
 v146:=Tryz.zeroValue146
 g1:=by kernel_rfl }
open Go.RowKit Go.Lib in
def Tryz.strings_Count_one(s:ByteArray)(c:UInt8)(w:World) :
  Calls Tryz.prog 29 #[.string s,.string ⟨#[c]⟩] w fun e w'=>e=.returned (.int .i64 (Lib.countByte s.data.toList c))/\w'=w:=Any.strings_Count_one Tryz.lays138 s c w
def Tryz.laysM145_ren:Go.Shelf.Ren:=⟨fun|145=>91|220=>111|219=>97|217=>114|225=>115|224=>116|267=>117|266=>132|314=>133|n=>n,fun|9=>9|4=>4|59=>99|3=>3|5=>5|46=>119|146=>146|51=>22|n=>n,fun|1=>2|n=>n⟩
def Tryz.laysM145:Go.Proofs.LaysM.n145 Tryz.prog Tryz.laysM145_ren:={
 mixed:=C6
 f145:=K6 Tryz.func91
 f217:=K6 Tryz.func114
 f219:=K6 Tryz.func97
 f220:=K6 Tryz.func111
 f224:=K6 Tryz.func116
 f225:=K6 Tryz.func115
 f266:=K6 Tryz.func132
 f267:=K6 Tryz.func117
 f314:=K6 Tryz.func133
 t3:=Tryz.underlying3
 a3:=Tryz.isAgg3
 z3:=Tryz.sizeOf3
 v3:=Tryz.zeroValue3
 t4:=Tryz.underlying4
 a4:=Tryz.isAgg4
 z4:=Tryz.sizeOf4
 v4:=Tryz.zeroValue4
 t5:=Tryz.underlying5
 a5:=Tryz.isAgg5
 z5:=Tryz.sizeOf5
 v5:=Tryz.zeroValue5
 t9:=Tryz.underlying9
 a9:=Tryz.isAgg9
 z9:=Tryz.sizeOf9
 v9:=Tryz.zeroValue9
 t46:=Tryz.underlying119
 a46:=Tryz.isAgg119
 z46:=Tryz.sizeOf119
 v46:=Tryz.zeroValue119
 t51:=Tryz.underlying22
 a51:=Tryz.isAgg22
 z51:=Tryz.sizeOf22
 v51:=Tryz.zeroValue22
 t59:=Tryz.underlying99
 a59:=Tryz.isAgg99
 z59:=Tryz.sizeOf99
 v59:=Tryz.zeroValue99
 t146:=Tryz.underlying146
 a146:=Tryz.isAgg146
 z146:=Tryz.sizeOf146
 v146:=Tryz.zeroValue146
 g1:=C6
 i3:=C6
 i4:=C6
 i5:=C6
 i9:=C6
 i46:=C6
 i51:=C6
 i59:=C6
 i146:=C6
 m1:=C6
 s1_3:=fun w h=>Go.Proofs.cell_of_shapedOpen_int (zero:=#[.int .i64 0]) (t:=3) h (G7 C6) C6 rfl C6 C6 Tryz.underlying3 }
open Go.RowKit Go.Lib in
def Tryz.strings_Cut_shaped(s sep:ByteArray)(w:World)(h:w.ShapedOpen Tryz.prog)(b:s.size<4294967281) :
  Calls Tryz.prog 91 #[.string s,.string sep] w fun e w'=>e=.returned (.tuple #[.string ⟨(Lib.cut s.data.toList sep.data.toList).1.toArray⟩,.string ⟨(Lib.cut s.data.toList sep.data.toList).2.1.toArray⟩,.bool (Lib.cut s.data.toList sep.data.toList).2.2])/\∃ n,w'=w.drewN n:=Any.strings_Cut_shaped Tryz.laysM145 s sep w h b
def Tryz.lays105_ren:Go.Shelf.Ren:=⟨fun|105=>34|212=>70|99=>71|165=>72|166=>57|170=>73|169=>59|263=>101|264=>102|206=>103|240=>92|241=>104|276=>112|277=>122|n=>n,fun|9=>9|3=>3|4=>4|20=>20|0=>0|46=>119|109=>120|5=>5|72=>103|76=>106|51=>22|146=>146|53=>132|148=>148|70=>101|37=>26|75=>105|127=>137|164=>155|80=>109|n=>n,fun|n=>n⟩
def Tryz.lays105:Go.Proofs.Lays.n105 Tryz.prog Tryz.lays105_ren:={
 mixed:=C6
 f99:=K6 Tryz.func71
 f105:=K6 Tryz.func34
 f165:=K6 Tryz.func72
 f166:=K6 Tryz.func57
 f169:=K6 Tryz.func59
 f170:=K6 Tryz.func73
 f206:=K6 Tryz.func103
 f212:=K6 Tryz.func70
 f240:=K6 Tryz.func92
 f241:=K6 Tryz.func104
 f263:=K6 Tryz.func101
 f264:=K6 Tryz.func102
 f276:=K6 Tryz.func112
 f277:=K6 Tryz.func122
 t0:=Tryz.underlying0
 a0:=Tryz.isAgg0
 z0:=Tryz.sizeOf0
 v0:=Tryz.zeroValue0
 t3:=Tryz.underlying3
 a3:=Tryz.isAgg3
 z3:=Tryz.sizeOf3
 v3:=Tryz.zeroValue3
 t4:=Tryz.underlying4
 a4:=Tryz.isAgg4
 z4:=Tryz.sizeOf4
 v4:=Tryz.zeroValue4
 t5:=Tryz.underlying5
 a5:=Tryz.isAgg5
 z5:=Tryz.sizeOf5
 v5:=Tryz.zeroValue5
 t9:=Tryz.underlying9
 a9:=Tryz.isAgg9
 z9:=Tryz.sizeOf9
 v9:=Tryz.zeroValue9
 t20:=Tryz.underlying20
 a20:=Tryz.isAgg20
 z20:=Tryz.sizeOf20
 v20:=Tryz.zeroValue20
 t37:=Tryz.underlying26
 a37:=Tryz.isAgg26
 z37:=Tryz.sizeOf26
 v37:=Tryz.zeroValue26
 t46:=Tryz.underlying119
 a46:=Tryz.isAgg119
 z46:=Tryz.sizeOf119
 v46:=Tryz.zeroValue119
 t51:=Tryz.underlying22
 a51:=Tryz.isAgg22
 z51:=Tryz.sizeOf22
 v51:=Tryz.zeroValue22
 t53:=Tryz.underlying132
 a53:=Tryz.isAgg132
 z53:=Tryz.sizeOf132
 v53:=Tryz.zeroValue132
 t70:=Tryz.underlying101
 a70:=Tryz.isAgg101
 z70:=Tryz.sizeOf101
 v70:=Tryz.zeroValue101
 t72:=Tryz.underlying103
 a72:=Tryz.isAgg103
 z72:=Tryz.sizeOf103
 v72:=Tryz.zeroValue103
 t75:=Tryz.underlying105
 a75:=Tryz.isAgg105
 z75:=Tryz.sizeOf105
 v75:=Tryz.zeroValue105
 t76:=Tryz.underlying106
 a76:=Tryz.isAgg106
 z76:=Tryz.sizeOf106
 v76:=Tryz.zeroValue106
 t109:=Tryz.underlying120
 a109:=Tryz.isAgg120
 z109:=Tryz.sizeOf120
 v109:=Tryz.zeroValue120
 t127:=Tryz.underlying137
 a127:=Tryz.isAgg137
 z127:=Tryz.sizeOf137
 v127:=Tryz.zeroValue137
 t146:=Tryz.underlying146
 a146:=Tryz.isAgg146
 z146:=Tryz.sizeOf146
 v146:=Tryz.zeroValue146
 t148:=Tryz.underlying148
 a148:=Tryz.isAgg148
 z148:=Tryz.sizeOf148
 v148:=Tryz.zeroValue148
 t164:=Tryz.underlying155
 a164:=Tryz.isAgg155
 z164:=Tryz.sizeOf155
 v164:=Tryz.zeroValue155 }
def Tryz.Builder_Extra_105:Builder.Extra Tryz.prog Tryz.lays105_ren:={
 sizeBuilder:=C6
 liesBuilder:=C6
 t5:=Tryz.underlying5
 a5:=Tryz.isAgg5
 z5:=Tryz.sizeOf5
 v5:=Tryz.zeroValue5
 infoByte:=C6
 cellsByte:=C6
 sizeByte:=C6
 neB5:=by decide }
open Go.RowKit Go.Lib in
def Tryz.strings_Repeat(s:ByteArray)(c:Nat)(w:World)(b:c<=9223372036854775807)(hlen:s.size*c<=140737488355328) :
  Calls Tryz.prog 34 #[.string s,.int .i64 c] w fun e w'=>e=.returned (.string ⟨(Lib.repeatL s.data.toList c).toArray⟩)/\Below w.heap.size w w':=Any.strings_Repeat Tryz.lays105 Tryz.Builder_Extra_105 s c w b hlen
end Go.Proofs
namespace Go.Proofs.YtbbicpheoakeeaaGreatDoor
open Go Go.Sx Go.Proofs.Tryz
variable {a d4 dc i j:Int}
def gl:Nat:=13
def n0:Nat:=16
def jW:List (Nat×List Value):=[(10,[.int .u8 (0),.int .u8 (1),.int .u8 (28),.int .u8 (2),.int .u8 (29),.int .u8 (14),.int .u8 (24),.int .u8 (3),.int .u8 (30),.int .u8 (22),.int .u8 (20),.int .u8 (15),.int .u8 (25),.int .u8 (17),.int .u8 (4),.int .u8 (8),.int .u8 (31),.int .u8 (27),.int .u8 (13),.int .u8 (23),.int .u8 (21),.int .u8 (19),.int .u8 (16),.int .u8 (7),.int .u8 (26),.int .u8 (12),.int .u8 (18),.int .u8 (6),.int .u8 (11),.int .u8 (5),.int .u8 (10),.int .u8 (9)]),
 (11,[.int .u8 (0),.int .u8 (1),.int .u8 (56),.int .u8 (2),.int .u8 (57),.int .u8 (49),.int .u8 (28),.int .u8 (3),.int .u8 (61),.int .u8 (58),.int .u8 (42),.int .u8 (50),.int .u8 (38),.int .u8 (29),.int .u8 (17),.int .u8 (4),.int .u8 (62),.int .u8 (47),.int .u8 (59),.int .u8 (36),.int .u8 (45),.int .u8 (43),.int .u8 (51),.int .u8 (22),.int .u8 (53),.int .u8 (39),.int .u8 (33),.int .u8 (30),.int .u8 (24),.int .u8 (18),.int .u8 (12),.int .u8 (5),.int .u8 (63),.int .u8 (55),.int .u8 (48),.int .u8 (27),.int .u8 (60),.int .u8 (41),.int .u8 (37),.int .u8 (16),.int .u8 (46),.int .u8 (35),.int .u8 (44),.int .u8 (21),.int .u8 (52),.int .u8 (32),.int .u8 (23),.int .u8 (11),.int .u8 (54),.int .u8 (26),.int .u8 (40),.int .u8 (15),.int .u8 (34),.int .u8 (20),.int .u8 (31),.int .u8 (10),.int .u8 (25),.int .u8 (14),.int .u8 (19),.int .u8 (9),.int .u8 (13),.int .u8 (8),.int .u8 (7),.int .u8 (6)]),
 (6,[.int .u64 (1),.int .u64 (10),.int .u64 (100),.int .u64 (1000),.int .u64 (10000),.int .u64 (100000),.int .u64 (1000000),.int .u64 (10000000),.int .u64 (100000000),.int .u64 (1000000000),.int .u64 (10000000000),.int .u64 (100000000000),.int .u64 (1000000000000),.int .u64 (10000000000000),.int .u64 (100000000000000),.int .u64 (1000000000000000),.int .u64 (10000000000000000),.int .u64 (100000000000000000),.int .u64 (1000000000000000000),.int .u64 (10000000000000000000)]),
 (8,[.int .u8 (128),.int .u8 (191),.int .u8 (160),.int .u8 (191),.int .u8 (128),.int .u8 (159),.int .u8 (144),.int .u8 (191),.int .u8 (128),.int .u8 (143),.int .u8 (0),.int .u8 (0),.int .u8 (0),.int .u8 (0),.int .u8 (0),.int .u8 (0),.int .u8 (0),.int .u8 (0),.int .u8 (0),.int .u8 (0),.int .u8 (0),.int .u8 (0),.int .u8 (0),.int .u8 (0),.int .u8 (0),.int .u8 (0),.int .u8 (0),.int .u8 (0),.int .u8 (0),.int .u8 (0),.int .u8 (0),.int .u8 (0)]),
 (5,[one]),
 (4,[one]),
 (1,[.int .u8 (0),.int .u8 (0),.int .u8 (0),.int .u8 (0),.int .u8 (0),.int .u8 (0),.int .u8 (0),.int .u8 (0),.int .u8 (0),.int .u8 (1),.int .u8 (1),.int .u8 (1),.int .u8 (1),.int .u8 (1),.int .u8 (0),.int .u8 (0),.int .u8 (0),.int .u8 (0),.int .u8 (0),.int .u8 (0),.int .u8 (0),.int .u8 (0),.int .u8 (0),.int .u8 (0),.int .u8 (0),.int .u8 (0),.int .u8 (0),.int .u8 (0),.int .u8 (0),.int .u8 (0),.int .u8 (0),.int .u8 (0),.int .u8 (1),.int .u8 (0),.int .u8 (0),.int .u8 (0),.int .u8 (0),.int .u8 (0),.int .u8 (0),.int .u8 (0),.int .u8 (0),.int .u8 (0),.int .u8 (0),.int .u8 (0),.int .u8 (0),.int .u8 (0),.int .u8 (0),.int .u8 (0),.int .u8 (0),.int .u8 (0),.int .u8 (0),.int .u8 (0),.int .u8 (0),.int .u8 (0),.int .u8 (0),.int .u8 (0),.int .u8 (0),.int .u8 (0),.int .u8 (0),.int .u8 (0),.int .u8 (0),.int .u8 (0),.int .u8 (0),.int .u8 (0),.int .u8 (0),.int .u8 (0),.int .u8 (0),.int .u8 (0),.int .u8 (0),.int .u8 (0),.int .u8 (0),.int .u8 (0),.int .u8 (0),.int .u8 (0),.int .u8 (0),.int .u8 (0),.int .u8 (0),.int .u8 (0),.int .u8 (0),.int .u8 (0),.int .u8 (0),.int .u8 (0),.int .u8 (0),.int .u8 (0),.int .u8 (0),.int .u8 (0),.int .u8 (0),.int .u8 (0),.int .u8 (0),.int .u8 (0),.int .u8 (0),.int .u8 (0),.int .u8 (0),.int .u8 (0),.int .u8 (0),.int .u8 (0),.int .u8 (0),.int .u8 (0),.int .u8 (0),.int .u8 (0),.int .u8 (0),.int .u8 (0),.int .u8 (0),.int .u8 (0),.int .u8 (0),.int .u8 (0),.int .u8 (0),.int .u8 (0),.int .u8 (0),.int .u8 (0),.int .u8 (0),.int .u8 (0),.int .u8 (0),.int .u8 (0),.int .u8 (0),.int .u8 (0),.int .u8 (0),.int .u8 (0),.int .u8 (0),.int .u8 (0),.int .u8 (0),.int .u8 (0),.int .u8 (0),.int .u8 (0),.int .u8 (0),.int .u8 (0),.int .u8 (0),.int .u8 (0),.int .u8 (0),.int .u8 (0),.int .u8 (0),.int .u8 (0),.int .u8 (0),.int .u8 (0),.int .u8 (0),.int .u8 (0),.int .u8 (0),.int .u8 (0),.int .u8 (0),.int .u8 (0),.int .u8 (0),.int .u8 (0),.int .u8 (0),.int .u8 (0),.int .u8 (0),.int .u8 (0),.int .u8 (0),.int .u8 (0),.int .u8 (0),.int .u8 (0),.int .u8 (0),.int .u8 (0),.int .u8 (0),.int .u8 (0),.int .u8 (0),.int .u8 (0),.int .u8 (0),.int .u8 (0),.int .u8 (0),.int .u8 (0),.int .u8 (0),.int .u8 (0),.int .u8 (0),.int .u8 (0),.int .u8 (0),.int .u8 (0),.int .u8 (0),.int .u8 (0),.int .u8 (0),.int .u8 (0),.int .u8 (0),.int .u8 (0),.int .u8 (0),.int .u8 (0),.int .u8 (0),.int .u8 (0),.int .u8 (0),.int .u8 (0),.int .u8 (0),.int .u8 (0),.int .u8 (0),.int .u8 (0),.int .u8 (0),.int .u8 (0),.int .u8 (0),.int .u8 (0),.int .u8 (0),.int .u8 (0),.int .u8 (0),.int .u8 (0),.int .u8 (0),.int .u8 (0),.int .u8 (0),.int .u8 (0),.int .u8 (0),.int .u8 (0),.int .u8 (0),.int .u8 (0),.int .u8 (0),.int .u8 (0),.int .u8 (0),.int .u8 (0),.int .u8 (0),.int .u8 (0),.int .u8 (0),.int .u8 (0),.int .u8 (0),.int .u8 (0),.int .u8 (0),.int .u8 (0),.int .u8 (0),.int .u8 (0),.int .u8 (0),.int .u8 (0),.int .u8 (0),.int .u8 (0),.int .u8 (0),.int .u8 (0),.int .u8 (0),.int .u8 (0),.int .u8 (0),.int .u8 (0),.int .u8 (0),.int .u8 (0),.int .u8 (0),.int .u8 (0),.int .u8 (0),.int .u8 (0),.int .u8 (0),.int .u8 (0),.int .u8 (0),.int .u8 (0),.int .u8 (0),.int .u8 (0),.int .u8 (0),.int .u8 (0),.int .u8 (0),.int .u8 (0),.int .u8 (0),.int .u8 (0),.int .u8 (0),.int .u8 (0),.int .u8 (0),.int .u8 (0),.int .u8 (0),.int .u8 (0),.int .u8 (0),.int .u8 (0),.int .u8 (0),.int .u8 (0),.int .u8 (0),.int .u8 (0),.int .u8 (0),.int .u8 (0),.int .u8 (0),.int .u8 (0)]),
 (0,[.int .i64 (4),.string ⟨⟨[67,45]⟩⟩,.int .i64 (2),.string ⟨⟨[77,45]⟩⟩,.int .i64 (1),.string ⟨⟨[83,45]⟩⟩]),
 (7,[.int .u8 (240),.int .u8 (240),.int .u8 (240),.int .u8 (240),.int .u8 (240),.int .u8 (240),.int .u8 (240),.int .u8 (240),.int .u8 (240),.int .u8 (240),.int .u8 (240),.int .u8 (240),.int .u8 (240),.int .u8 (240),.int .u8 (240),.int .u8 (240),.int .u8 (240),.int .u8 (240),.int .u8 (240),.int .u8 (240),.int .u8 (240),.int .u8 (240),.int .u8 (240),.int .u8 (240),.int .u8 (240),.int .u8 (240),.int .u8 (240),.int .u8 (240),.int .u8 (240),.int .u8 (240),.int .u8 (240),.int .u8 (240),.int .u8 (240),.int .u8 (240),.int .u8 (240),.int .u8 (240),.int .u8 (240),.int .u8 (240),.int .u8 (240),.int .u8 (240),.int .u8 (240),.int .u8 (240),.int .u8 (240),.int .u8 (240),.int .u8 (240),.int .u8 (240),.int .u8 (240),.int .u8 (240),.int .u8 (240),.int .u8 (240),.int .u8 (240),.int .u8 (240),.int .u8 (240),.int .u8 (240),.int .u8 (240),.int .u8 (240),.int .u8 (240),.int .u8 (240),.int .u8 (240),.int .u8 (240),.int .u8 (240),.int .u8 (240),.int .u8 (240),.int .u8 (240),.int .u8 (240),.int .u8 (240),.int .u8 (240),.int .u8 (240),.int .u8 (240),.int .u8 (240),.int .u8 (240),.int .u8 (240),.int .u8 (240),.int .u8 (240),.int .u8 (240),.int .u8 (240),.int .u8 (240),.int .u8 (240),.int .u8 (240),.int .u8 (240),.int .u8 (240),.int .u8 (240),.int .u8 (240),.int .u8 (240),.int .u8 (240),.int .u8 (240),.int .u8 (240),.int .u8 (240),.int .u8 (240),.int .u8 (240),.int .u8 (240),.int .u8 (240),.int .u8 (240),.int .u8 (240),.int .u8 (240),.int .u8 (240),.int .u8 (240),.int .u8 (240),.int .u8 (240),.int .u8 (240),.int .u8 (240),.int .u8 (240),.int .u8 (240),.int .u8 (240),.int .u8 (240),.int .u8 (240),.int .u8 (240),.int .u8 (240),.int .u8 (240),.int .u8 (240),.int .u8 (240),.int .u8 (240),.int .u8 (240),.int .u8 (240),.int .u8 (240),.int .u8 (240),.int .u8 (240),.int .u8 (240),.int .u8 (240),.int .u8 (240),.int .u8 (240),.int .u8 (240),.int .u8 (240),.int .u8 (240),.int .u8 (240),.int .u8 (240),.int .u8 (240),.int .u8 (240),.int .u8 (241),.int .u8 (241),.int .u8 (241),.int .u8 (241),.int .u8 (241),.int .u8 (241),.int .u8 (241),.int .u8 (241),.int .u8 (241),.int .u8 (241),.int .u8 (241),.int .u8 (241),.int .u8 (241),.int .u8 (241),.int .u8 (241),.int .u8 (241),.int .u8 (241),.int .u8 (241),.int .u8 (241),.int .u8 (241),.int .u8 (241),.int .u8 (241),.int .u8 (241),.int .u8 (241),.int .u8 (241),.int .u8 (241),.int .u8 (241),.int .u8 (241),.int .u8 (241),.int .u8 (241),.int .u8 (241),.int .u8 (241),.int .u8 (241),.int .u8 (241),.int .u8 (241),.int .u8 (241),.int .u8 (241),.int .u8 (241),.int .u8 (241),.int .u8 (241),.int .u8 (241),.int .u8 (241),.int .u8 (241),.int .u8 (241),.int .u8 (241),.int .u8 (241),.int .u8 (241),.int .u8 (241),.int .u8 (241),.int .u8 (241),.int .u8 (241),.int .u8 (241),.int .u8 (241),.int .u8 (241),.int .u8 (241),.int .u8 (241),.int .u8 (241),.int .u8 (241),.int .u8 (241),.int .u8 (241),.int .u8 (241),.int .u8 (241),.int .u8 (241),.int .u8 (241),.int .u8 (241),.int .u8 (241),.int .u8 (2),.int .u8 (2),.int .u8 (2),.int .u8 (2),.int .u8 (2),.int .u8 (2),.int .u8 (2),.int .u8 (2),.int .u8 (2),.int .u8 (2),.int .u8 (2),.int .u8 (2),.int .u8 (2),.int .u8 (2),.int .u8 (2),.int .u8 (2),.int .u8 (2),.int .u8 (2),.int .u8 (2),.int .u8 (2),.int .u8 (2),.int .u8 (2),.int .u8 (2),.int .u8 (2),.int .u8 (2),.int .u8 (2),.int .u8 (2),.int .u8 (2),.int .u8 (2),.int .u8 (2),.int .u8 (19),.int .u8 (3),.int .u8 (3),.int .u8 (3),.int .u8 (3),.int .u8 (3),.int .u8 (3),.int .u8 (3),.int .u8 (3),.int .u8 (3),.int .u8 (3),.int .u8 (3),.int .u8 (3),.int .u8 (35),.int .u8 (3),.int .u8 (3),.int .u8 (52),.int .u8 (4),.int .u8 (4),.int .u8 (4),.int .u8 (68),.int .u8 (241),.int .u8 (241),.int .u8 (241),.int .u8 (241),.int .u8 (241),.int .u8 (241),.int .u8 (241),.int .u8 (241),.int .u8 (241),.int .u8 (241),.int .u8 (241)])]
def H0:Hp AB:=mkH jW
def A3D:prog.follows .mixedOrders=true:=C6
def A3C:HF prog:=by
 have h:(prog.funcs.toList.all fun fn=>!(fn.name == "runtime.NumGoroutine"))=true:=C6;intro f fn b;have h1:=D4.1 h fn (Array.mem_def.1 (Array.mem_of_getElem? b))
 simpa using h1
def A7w:List (FuncId×EK):=[(132,.indexByteString),(64,.countString),(112,.noEscape),(122,.makeNoZero 5)]
def A9D:∀ p ∈ A7w,AK prog p.1 p.2:=by
 intro p hp;unfold A7w at hp;rcases B5.1 hp with rfl|hp
 .exact⟨⟨_,rfl,by kernel_rfl,by kernel_rfl,by kernel_rfl,.inr (.inl ⟨rfl,by kernel_rfl⟩)⟩⟩
 rcases B5.1 hp with rfl|hp
 .exact⟨⟨_,rfl,by kernel_rfl,by kernel_rfl,by kernel_rfl,.inr (.inr (.inl ⟨rfl,by kernel_rfl⟩))⟩⟩
 rcases B5.1 hp with rfl|hp
 .exact⟨⟨_,rfl,by kernel_rfl,by kernel_rfl,by kernel_rfl,.inl ⟨rfl,by kernel_rfl⟩⟩⟩
 rcases B5.1 hp with rfl|hp
 .exact⟨⟨_,rfl,by kernel_rfl,by kernel_rfl,by kernel_rfl,.inr (.inr (.inr ⟨_,_,_,rfl,rfl,by kernel_rfl,by kernel_rfl⟩))⟩⟩
 cases hp
noncomputable abbrev cx(l:List (FuncId×FnC))(b:List LpE):Cx:=⟨prog,A7w,gl,VL l,lpT b⟩
def cxg{G:Nat->Option Obj}{l:List (FuncId×FnC)}{b:List LpE}(h:jM prog G gl l)(k:Y1 prog G gl b):CxG (cx l b) G:=A30 A3D A3C A9D h k
abbrev B2u:=Int×Int×Int×Int×Int×Int×Int×List UInt8
abbrev pF:=Option (List Int)
abbrev B2:=List UInt8
abbrev L1(G:Nat->Option Obj):Prop:=aZ Tryz.prog G gl H0 n0
abbrev R3:={L:List (FuncId×FnC) // ∀ {G:Nat->Option Obj},L1 G->jM Tryz.prog G gl L}
def L0:List (FuncId×FnC):=[]
def A6q{G:Nat->Option Obj}(b:aZ prog G gl H0 n0):jM prog G gl L0:=.nil
def rB:Rw Int:=r1 (Q2 .u8)
def okU(c:Int):Prop:=0<=c/\c<=1114111/\¬(55296<=c/\c<=57343)
instance(c:Int):Decidable (okU c):=by unfold okU;infer_instance
def jJ(c:Int):Int:=if c=32 then 0 else if c=105∨c=109 then -1 else if 97<=c/\c<=122 then c-96 else if 92<=c/\c<=95 then c-64 else -1
def chP(c:Int):Prop:=okU c/\32<=c/\¬(127<=c/\c<=159)
instance(c:Int):Decidable (chP c):=by unfold chP;infer_instance
def q9(c m:Int):Prop:=(chP c/\(m=0∨(m=2/\c≠91/\c≠79)∨(0<=jJ c/\(m=4∨m=6))))∨(1114113<=c/\c<=1114134/\0<=m/\m<=7)∨((c=1114135∨c=1114137)/\(m=0∨m=2))∨(c=1114136/\(m=0∨m=1∨m=2))∨(c=1114138/\m=0)
instance(c m:Int):Decidable (q9 c m):=by unfold q9;infer_instance
def l2{b:Int}{c d:Bool}(h:a=b)(k:c=d):[U.int .u8 a,U.bool c]=[U.int .u8 b,U.bool d]:=by rw[h,k]
def l1{c d:Bool}(k:c=d):[U.bool c]=[U.bool d]:=by rw[k]
def l0{c d:Int}(k:c=d):[U.int .i64 c]=[U.int .i64 d]:=by rw[k]
def LN:List U->Option (Nat×List U)
 | [.int .i64 c]=>some (0,[.int .u8 (if 0<=jJ c then jJ c else 0),.bool (decide (0<=jJ c))])
 | _=>none
def A33(c:Int):LN [.int .i64 c]=some (0,[.int .u8 (if 0<=jJ c then jJ c else 0),.bool (decide (0<=jJ c))]):=rfl
def A1s(n:Nat):Tr:=.lt 3 (.bin .and) [h3 0,jI 31]<|.lt 4 (.conv .u8) [h3 n]<|.ret [h (n+1) 4,.bool true]
def R5(a0:Nat)(b:Nat)(a2:Int)(d c:Tr):Tr:=aQ [h3 a0,jI a2]<|.br b d c
def K7(a0:Nat)(b:Nat)(a2:Int)(d c:Tr):Tr:=aH [h3 a0,jI a2]<|.br b d c
def A1r(n:Nat):Tr:=K7 0 n 92 (R5 0 (n+1) 95 (A1s (n+2)) (.ret [.int .u8 (0),.bool false])) (.ret [.int .u8 (0),.bool false])
def K3(a0:Nat)(b:Nat)(a2:Int)(d c:Tr):Tr:=aE [h3 a0,jI a2]<|.br b d c
def A6U:Tr:=K3 0 1 32 (.ret [.int .u8 (0),.bool true]) (K3 0 2 105 (.ret [.int .u8 (0),.bool false]) (K3 0 3 109 (.ret [.int .u8 (0),.bool false]) (K7 0 4 97 (R5 0 5 122 (A1s 6) (A1r 6)) (A1r 5))))
def A6V{G}(b:L1 G):M3 prog G 106 [.s 3] LN [.s 4,.s 8]:=by
 refine G3 (C:=cx L0 []) (d:=60) A6U (cxg (A6q b) .nil) b ⟨f106,_,func106,rfl⟩ C6 C6 ?_;intro us outs f;unfold LN at f;split at f
 .skip;rename_i c;cases f;unfold A6U;refine w0 (.cons 0 _ (.nil)) ?_;repeat (first|(refine w7 [.int .u8 _,.bool _] ?_;rotate_left)|refine w4 (fun g=>?_) fun g=>?_|refine BM ?_|refine sU ?_|refine fM ?_|refine kW ?_|refine pZ ?_|refine w1 (.bin .and) (e:=SX 5 32 E7 E7 E7) (k':=?_))
  all_goals
   refine l2 ?_ ?_
   ·(unfold jJ;(repeat' split)<;>omega)
   .symm;first|exact J6 (by(unfold jJ;(repeat' split)<;>omega))|exact E0 (by(unfold jJ;(repeat' split)<;>omega))
 .cases f
noncomputable def B1V:R3:=⟨_,fun b=>.cons (A6V b) (A6q b)⟩
def JB:List U->Option (Nat×List U)
 | [.int .i64 c]=>some (0,[.int .i64 (jJ c)])
 | _=>none
def A23(c:Int):JB [.int .i64 c]=some (0,[.int .i64 (jJ c)]):=rfl
def I2(a0:Int):Tr:=.ret [jI a0]
def FB(n:Nat):Tr:=K7 0 n 92 (R5 0 (n+1) 95 (aS [h3 0,jI 92]<|aA [h3 (n+2),jI 28]<|.ret [h3 (n+3)]) (I2 (-1))) (I2 (-1))
def S4(a0:Nat)(b:Nat)(a2:Int)(d c:Tr):Tr:=aN [h3 a0,jI a2]<|.br b d c
def A43:Tr:=K3 0 1 32 (I2 0) (K7 0 2 97 (R5 0 3 122 (S4 0 4 105 (S4 0 5 109 (aS [h3 0,jI 97]<|aA [h3 6,jI 1]<|.ret [h3 7]) (FB 6)) (FB 5)) (FB 4)) (FB 3))
def A8w{G}(b:L1 G):M3 prog G 83 [.s 3] JB [.s 3]:=by
 refine G3 (d:=60) A43 (cxg (B1V.2 b) .nil) b ⟨f83,_,func83,rfl⟩ C6 C6 ?_;intro us outs e;unfold JB at e;split at e
 .skip;rename_i c;cases e;unfold A43;refine w0 (.cons 0 _ (.nil)) ?_;repeat (first|(refine w7 [.int .i64 _] ?_;rotate_left)|refine w4 (fun g=>?_) fun g=>?_|refine WI ?_|refine HY ?_|refine dU ?_|refine Y5 ?_|refine kW ?_|refine pZ ?_|refine AO ?_|refine fM ?_)
  all_goals
   refine l0 ?_
   (unfold jJ;(repeat' split)<;>omega)
 .cases e
def A6W(c:Int):(c=32/\jJ c=0)∨((c=105∨c=109)/\jJ c = -1)∨(97<=c/\c<=122/\c≠105/\c≠109/\jJ c=c-96)∨(92<=c/\c<=95/\jJ c=c-64)∨(c≠32/\¬(97<=c/\c<=122)/\¬(92<=c/\c<=95)/\jJ c = -1):=by
 unfold jJ
 (repeat' split)<;>omega
noncomputable def B0b:R3:=⟨_,fun b=>(.cons (A6V b) .nil)⟩
def HO:List U->Option (Nat×List U)
 | [.int .i64 c,.int .i64 m]=>if -9223372036854775808<=m/\m<=9223372036854775807 then some (0,[.bool (decide (q9 c m))])else none
 | _=>none
def A2e(c:Int)(m:Int)(b : -9223372036854775808<=m/\m<=9223372036854775807):HO [.int .i64 c,.int .i64 m]=some (0,[.bool (decide (q9 c m))]):=A9 b
def H3:Tr:=.ret [.bool false]
def bN:Tr:=.ret [.bool true]
def kV(a0:Nat)(b:Int)(a2:Nat)(d c:Tr):Tr:=.lt 3 (.bin .and) [h3 a0,jI b]<|aN [h3 a2,jI 0]<|.br (a2+1) d c
def WD(n:Nat):Tr:=kV 1 4 n (.fn LN [h3 0] 2<|.br (n+3) (.lt 3 (.bin .andNot) [h3 1,jI 6]<|aE [h3 (n+4),jI 0]<|.ret [h (n+5) 8]) (H3)) (K3 1 (n+2) 0 bN (K3 1 (n+3) 2 (S4 0 (n+4) 91 (aN [h3 0,jI 79]<|.ret [h (n+5) 8]) H3) H3))
def MR(n:Nat):Tr:=K3 1 n 2 bN (aE [h3 1,jI 0]<|.ret [h (n+1) 8])
def wT(n:Nat):Tr:=K3 0 n 1114136 (K3 1 (n+1) 1 bN (MR (n+2))) (K3 0 (n+1) 1114135 (MR (n+2)) (K3 0 (n+2) 1114137 (MR (n+3)) (K3 0 (n+3) 1114138 (aE [h3 1,jI 0]<|.ret [h (n+4) 8]) (K7 0 (n+4) 1114113 (R5 0 (n+5) 1114134 (K7 1 (n+6) 0 (aQ [h3 1,jI 7]<|.ret [h (n+7) 8]) H3) H3) H3))))
def M5(a0:Nat)(d:Nat)(c b:Tr):Tr:=aX [h a0 8]<|.br d c b
def A4R:Tr:=K7 0 2 0 (R5 0 3 1114111 (.lt 3 (.bin .shr) [h3 0,.int .u64 (11)]<|S4 4 5 27 (K7 0 6 32 (K7 0 7 127 (aQ [h3 0,jI 159]<|M5 8 9 (WD 10) (wT 10)) (WD 8)) (wT 7)) (wT 6)) (wT 4)) (wT 3)
def A8e{G}(f:L1 G):M3 prog G 76 [.s 3,.s 3] HO [.s 8]:=by
 refine G3 (d:=60) A4R (cxg (B0b.2 f) .nil) f ⟨f76,_,func76,rfl⟩ C6 C6 ?_;intro us outs b;unfold HO at b;split at b
 .skip;rename_i c m;split at b
  .rename_i k;cases b;unfold A4R;refine w0 (.cons 1 _ (.cons 0 _ (.nil))) ?_;repeat (first|refine w4 (fun g=>?_) fun g=>?_|refine w4B (fun g=>?_) fun g=>?_|(refine w7 [.bool _] ?_;rotate_left)|refine fM ?_|refine kW ?_|refine pZ ?_|refine AO ?_|refine w1 (.bin .and) (e:=SW _) (k':=?_)|refine w32 LN (e:=A33 _) (k':=?_)|refine w1 (.bin .andNot) (e:=A8D _) (k':=?_)|refine w1 (.bin .shr) (e:=SS 2048 E7 E7) (k':=?_)|refine j9 ?_)
   all_goals
    have z0:=A2J m k.1 k.2;have l:=A6W c;refine l1 ?_;first|(refine decide_eq_decide.2 ?_;unfold q9 chP okU;omega)|(symm;first|exact J6 (by unfold q9 chP okU at *;omega)|exact E0 (by unfold q9 chP okU at *;omega))
  .cases b
 .cases b
noncomputable def B0j:R3:=⟨_,fun b=>(.cons (A8w b) .nil)⟩
def jX:List U->Option (Nat×List U)
 | [.int .i64 c,.int .i64 m]=>if -9223372036854775808<=m/\m<=9223372036854775807 then some (0,[.bool (decide (q9 c m))])else none
 | _=>none
def QN(c:Int)(m:Int)(b : -9223372036854775808<=m/\m<=9223372036854775807):jX [.int .i64 c,.int .i64 m]=some (0,[.bool (decide (q9 c m))]):=A9 b
def YQ(n:Nat):Tr:=K3 1 n 0 bN (K3 1 (n+1) 2 (S4 0 (n+2) 91 (aN [h3 0,jI 79]<|.ret [h (n+3) 8]) H3) (.fn JB [h3 0] 1<|K7 (n+2) (n+3) 0 (K3 1 (n+4) 4 bN (aE [h3 1,jI 6]<|.ret [h (n+5) 8])) H3))
def YP(n:Nat):Tr:=K3 1 n 0 bN (aE [h3 1,jI 2]<|.ret [h (n+1) 8])
def YO(n:Nat):Tr:=K3 0 n 1114135 (YP (n+1)) (K3 0 (n+1) 1114137 (YP (n+2)) (K3 0 (n+2) 1114136 (K3 1 (n+3) 0 bN (K3 1 (n+4) 1 bN (aE [h3 1,jI 2]<|.ret [h (n+5) 8]))) (K3 0 (n+3) 1114138 (aE [h3 1,jI 0]<|.ret [h (n+4) 8]) H3)))
def xM(n:Nat):Tr:=K7 0 n 1114113 (R5 0 (n+1) 1114134 (K7 1 (n+2) 0 (aQ [h3 1,jI 7]<|.ret [h (n+3) 8]) H3) (YO (n+2))) (YO (n+1))
def YN(n:Nat):Tr:=K7 0 n 32 (K7 0 (n+1) 127 (aQ [h3 0,jI 159]<|M5 (n+2) (n+3) (YQ (n+4)) (xM (n+4))) (YQ (n+2))) (xM (n+1))
def A4r:Tr:=K7 0 2 0 (R5 0 3 1114111 (aL [h3 0,jI 55296]<|.br 4 (YN 5) (aG [h3 0,jI 57343]<|.br 5 (YN 6) (xM 6))) (xM 4)) (xM 3)
def QO{G}(f:L1 G):M3 prog G 47 [.s 3,.s 3] jX [.s 8]:=by
 refine G3 (d:=60) A4r (cxg (B0j.2 f) .nil) f ⟨f47,_,func47,rfl⟩ C6 C6 ?_;intro us outs b;unfold jX at b;split at b
 .skip;rename_i c m;split at b
  .rename_i k;cases b;unfold A4r;refine w0 (.cons 1 _ (.cons 0 _ (.nil))) ?_;repeat (first|refine fM ?_|(refine w7 [.bool _] ?_;rotate_left)|refine w4 (fun g=>?_) fun g=>?_|refine kW ?_|refine pZ ?_|refine AO ?_|refine w31 JB (e:=A23 _) (k':=?_)|refine j9 ?_|refine dC ?_|refine wW ?_)
   all_goals
    have z0:=A2J m k.1 k.2;have l:=A6W c;refine l1 ?_;first|(refine decide_eq_decide.2 ?_;unfold q9 chP okU;omega)|(symm;first|exact J6 (by unfold q9 chP okU at *;omega)|exact E0 (by unfold q9 chP okU at *;omega))
  .cases b
 .cases b
def msP(m w b r cl:Int):Prop:=0<=w/\w<=3/\0<=b/\b<=3/\(w=0->b<=2)/\(w=3->b<=1)/\0<=m/\m<=7/\0<=r/\r<=39/\0<=cl/\cl<=79
instance(m w b r cl:Int):Decidable (msP m w b r cl):=by unfold msP;infer_instance
def A5Q(m w b r cl:Int):msP m w b r cl↔(0<=b/\0<=m/\m<=7/\0<=r/\r<=39/\0<=cl/\cl<=79)/\((w=0/\b<=2)∨(w=1/\b<=3)∨(w=2/\b<=3)∨(w=3/\b<=1)):=by
 unfold msP;omega
def A0I(w:Int):(w=0/\([2,3,3,1]:List Int).getD w.toNat 0=2)∨(w=1/\([2,3,3,1]:List Int).getD w.toNat 0=3)∨(w=2/\([2,3,3,1]:List Int).getD w.toNat 0=3)∨(w=3/\([2,3,3,1]:List Int).getD w.toNat 0=1)∨w<0∨3<w:=by
 by_cases h:0<=w/\w<=3
 .have:w=0∨w=1∨w=2∨w=3:=A2;rcases this with rfl|rfl|rfl|rfl<;>decide
 .omega
noncomputable def B0a:R3:=⟨_,fun b=>.nil⟩
def HN:List U->Option (Nat×List U)
 | [.int .i64 k,.int .i64 c,.int .i64 m,.int .i64 w,.int .i64 b,.int .i64 r,.int .i64 cl,.str t]=>some (0,[.bool (decide (msP m w b r cl))])
 | _=>none
def A2d(k:Int)(c:Int)(m:Int)(w:Int)(b:Int)(r:Int)(cl:Int)(t:B2):HN [.int .i64 k,.int .i64 c,.int .i64 m,.int .i64 w,.int .i64 b,.int .i64 r,.int .i64 cl,.str t]=some (0,[.bool (decide (msP m w b r cl))]):=rfl
def A4Q:Tr:=K7 3 8 0 (R5 3 9 3 (aI [h3 3,jI 4]<|.br 10 (.lt 3 (.sel) [h3 3,jI 2,jI 3,jI 3,jI 1]<|K7 4 12 0 (aQ [h3 4,h3 11]<|.br 13 (K7 2 14 0 (R5 2 15 7 (K7 5 16 0 (R5 5 17 39 (K7 6 18 0 (aQ [h3 6,jI 79]<|.ret [h 19 8]) H3) H3) H3) H3) H3) (H3)) H3) (.no)) H3) H3
def A8d{G}(f:L1 G):M3 prog G 77 [.a [3,3,3,3,3,3,3,9]] HN [.s 8]:=by
 refine G3 (d:=60) A4Q (cxg (B0a.2 f) .nil) f ⟨f77,_,func77,rfl⟩ C6 C6 ?_;intro us outs n;unfold HN at n;split at n
 .skip;rename_i k c m w b r cl t;cases n;unfold A4Q;refine w0 (.cons 7 _ (.cons 6 _ (.cons 5 _ (.cons 4 _ (.cons 3 _ (.cons 2 _ (.cons 1 _ (.cons 0 _ (.nil))))))))) ?_;repeat (first|refine w4 (fun g=>?_) fun g=>?_|(refine w7 [.bool _] ?_;rotate_left)|refine kW ?_|refine pZ ?_|refine A8h ?_|refine w1 (.sel) (e:=A3g [2,3,3,1] A2 (by show _<((4:Nat):Int);omega)) (k':=?_)|(refine w8 ?_;(have z0:=A0I w;omega)))
  all_goals
   have l:=A5Q m w b r cl;have z0:=A0I w;refine l1 ?_;first|(refine decide_eq_decide.2 ⟨fun h=>l.2 ?_,fun h=>?_⟩;omega;(have:=l.1 h;omega))|(symm;first|exact J6 (l.2 A2)|exact E0 (fun h=>by have:=l.1 h;omega)|(exfalso;omega))
 .cases n
noncomputable def B0i:R3:=⟨_,fun b=>.nil⟩
def IV:List U->Option (Nat×List U)
 | [.int .i64 k,.int .i64 c,.int .i64 m,.int .i64 w,.int .i64 b,.int .i64 r,.int .i64 cl,.str t]=>some (0,[.bool (decide (msP m w b r cl))])
 | _=>none
def A2z(k:Int)(c:Int)(m:Int)(w:Int)(b:Int)(r:Int)(cl:Int)(t:B2):IV [.int .i64 k,.int .i64 c,.int .i64 m,.int .i64 w,.int .i64 b,.int .i64 r,.int .i64 cl,.str t]=some (0,[.bool (decide (msP m w b r cl))]):=rfl
def YK(n:Nat):Tr:=K7 3 n 0 (R5 3 (n+1) 3 (K7 4 (n+2) 0 (R5 4 (n+3) 1 (K7 2 (n+4) 0 (R5 2 (n+5) 7 (K7 5 (n+6) 0 (R5 5 (n+7) 39 (K7 6 (n+8) 0 (aQ [h3 6,jI 79]<|.ret [h (n+9) 8]) H3) H3) H3) H3) H3) H3) H3) H3) H3
def YJ(n:Nat):Tr:=.br 13 (K7 2 n 0 (R5 2 (n+1) 7 (K7 5 (n+2) 0 (R5 5 (n+3) 39 (K7 6 (n+4) 0 (aQ [h3 6,jI 79]<|.ret [h (n+5) 8]) H3) H3) H3) H3) H3) (H3)
def A4p:Tr:=K3 3 8 0 (K3 3 9 3 (YK 10) (K7 3 10 0 (R5 3 11 3 (K7 4 12 0 (aQ [h3 4,jI 2]<|YJ 14) H3) H3) H3)) (K3 3 9 3 (YK 10) (K7 3 10 0 (R5 3 11 3 (K7 4 12 0 (aQ [h3 4,jI 3]<|YJ 14) H3) H3) H3))
def A4q{G}(e:L1 G):M3 prog G 80 [.a [3,3,3,3,3,3,3,9]] IV [.s 8]:=by
 refine G3 (d:=60) A4p (cxg (B0i.2 e) .nil) e ⟨f80,_,func80,rfl⟩ C6 C6 ?_;intro us outs l;unfold IV at l;split at l
 .skip;rename_i k c m w b r cl t;cases l;unfold A4p;refine w0 (.cons 7 _ (.cons 6 _ (.cons 5 _ (.cons 4 _ (.cons 3 _ (.cons 2 _ (.cons 1 _ (.cons 0 _ (.nil))))))))) ?_;repeat (first|(refine w7 [.bool _] ?_;rotate_left)|refine w4 (fun g=>?_) fun g=>?_|refine kW ?_|refine pZ ?_|refine fM ?_)
  all_goals
   have f:=A5Q m w b r cl;have z0:=A0I w;refine l1 ?_;first|(refine decide_eq_decide.2 ⟨fun h=>f.2 ?_,fun h=>?_⟩;omega;(have:=f.1 h;omega))|(symm;first|exact J6 (f.2 A2)|exact E0 (fun h=>by have:=f.1 h;omega)|(exfalso;omega))
 .cases l
def LM:List U->Option (Nat×List U)
 | [.str s,.str u]=>if u=[27]then some (0,[.bool (decide (0<=Lib.indexByte s 27))])else none
 | _=>none
def A32(s:B2)(u:B2)(b:u=[27]):LM [.str s,.str u]=some (0,[.bool (decide (0<=Lib.indexByte s 27))]):=A9 b
def B0B{G}(d:L1 G):M3 prog G 78 [.s 9,.s 9] LM [.s 8]:=by
 intro us outs w vs R c b k hR;unfold LM at b;split at b
 .skip;rename_i s u;split at b
  .rename_i g;cases b;have hv:=U9 (vs2:=[.string ⟨⟨s⟩⟩,.string ⟨⟨u⟩⟩]) c rfl;subst hv;refine gF (vr:=[.bool (decide (0<=Lib.indexByte s 27))]) func78 rfl C6 rfl ?_;subst g;exact(Tryz.strings_Contains_one ⟨⟨s⟩⟩ 27 w).mono fun e w' ⟨h1,f⟩=>⟨h1,by subst f;exact RowKit.Below.refl _ _⟩
  .cases b
 .cases b
def bU(b:Bool):Option Unit:=if b then some ()else none
def aW{b:Bool}{u:Unit}(h:bU b=some u):b=true:=by cases b<;>first|rfl|cases h
def aY{b:Bool}(h:bU b=none):b=false:=by cases b<;>first|rfl|cases h
def isE(x:UInt8):Bool:=decide (x=27)
def A3u{l:B2}(h:(l.length:Int)<=i):(l.drop i.toNat).any isE=false:=by rw[cV l h];rfl
def A6M{x:UInt8}(h:((x.toNat:Nat):Int)=27):x=27:=by
 apply UInt8.toNat_inj.1;show x.toNat=27;omega
def GC(l:B2)(n:Nat):l.getD n default=l.getD n 0:=rfl
def A9z{l:B2}(h0:0<=i)(h1:i<(l.length:Int))(b:(((l.getD i.toNat 0).toNat:Nat):Int)=27):(l.drop i.toNat).any isE=true:=by
 rw[U1 l h0 h1,P8,GC,A6M b];rfl
def A90{l:B2}(h0:0<=i)(h1:i<(l.length:Int))(b:¬(((l.getD i.toNat 0).toNat:Nat):Int)=27):(l.drop i.toNat).any isE=(l.drop (i+1).toNat).any isE:=by
 rw[U1 l h0 h1,P8,GC];have:isE (l.getD i.toNat 0)=false:=E0 fun h=>b (by rw[h];rfl)
 rw[this,Q0]
noncomputable def B0n:R3:=⟨_,fun b=>(.cons (QO b) (.cons (A4q b) .nil))⟩
def xO:List U->Option (Nat×List U)
 | [.int .i64 i,.int .i64 k,.int .i64 c,.int .i64 m,.int .i64 w,.int .i64 b,.int .i64 r,.int .i64 cl,.str t]=>if 0<=i/\i<=(t.length:Int)/\(t.length:Int)<=140737488351232 then X5 (bU ((t.drop i.toNat).any isE)) [.int .i64 k,.int .i64 c,.int .i64 m,.int .i64 w,.int .i64 b,.int .i64 r,.int .i64 cl,.str t] (fun _=>[])else none
 | _=>none
def qS(i:Int)(k:Int)(c:Int)(m:Int)(w:Int)(b:Int)(r:Int)(cl:Int)(t:B2)(d:0<=i/\i<=(t.length:Int)/\(t.length:Int)<=140737488351232):xO [.int .i64 i,.int .i64 k,.int .i64 c,.int .i64 m,.int .i64 w,.int .i64 b,.int .i64 r,.int .i64 cl,.str t]=X5 (bU ((t.drop i.toNat).any isE)) [.int .i64 k,.int .i64 c,.int .i64 m,.int .i64 w,.int .i64 b,.int .i64 r,.int .i64 cl,.str t] (fun _=>[]):=A9 d
def A41:S0:=⟨[(1,.pointer (some ⟨16,0,none⟩)),(3,h 0 3)],[(16,.cells 30 [h 1 3,h 2 3,h 3 3,h 4 3,h 5 3,h 6 3,h 7 3,h 8 9])],9,[⟨.exit 1,[(1,.pointer (some ⟨16,0,none⟩))],[(16,.cells 30 [h 0 3,h 1 3,h 2 3,h 3 3,h 4 3,h 5 3,h 6 3,h 7 9])],8⟩,⟨.ret,[(2,.bool false)],[],0⟩]⟩
noncomputable def YS:Code:=(f45.body).getD .skip
noncomputable def A4w:Code:=match G6 [true,false,true,false,true,true,true,true,true,false,false,true,false] YS with|some (.loop x)=>x|_=>.skip
def A40:f45.body=some YS:=rfl
def A4y:G6 [true,false,true,false,true,true,true,true,true,false,false,true,false] YS=some (.loop A4w):=C6
def W9(a0:Nat)(b:Nat)(a2:Nat)(d c:Tr):Tr:=aL [h3 a0,h3 b]<|.br a2 d c
def A4x:Tr:=aD [h 8 9]<|W9 0 9 10 (.lt 4 (.idx) [h 8 9,h3 0]<|aE [h 11 4,.int .u8 (27)]<|.br 12 (I2 1) (aA [h3 0,jI 1]<|.ret [jI (-1),h3 13,h3 1,h3 2,h3 3,h3 4,h3 5,h3 6,h3 7,h 8 9])) (.ret [jI 0,h3 1,h3 2,h3 3,h3 4,h3 5,h3 6,h3 7,h 8 9])
def A4z:List U->Nat
 | [.int .i64 i,.int .i64 k,.int .i64 c,.int .i64 m,.int .i64 w,.int .i64 b,.int .i64 r,.int .i64 cl,.str t]=>((t.length:Int)-i).toNat
 | _=>0
def YR(i:Int)(k:Int)(c:Int)(m:Int)(w:Int)(b:Int)(r:Int)(cl:Int)(t:B2):A4z [.int .i64 i,.int .i64 k,.int .i64 c,.int .i64 m,.int .i64 w,.int .i64 b,.int .i64 r,.int .i64 cl,.str t]=((t.length:Int)-i).toNat:=rfl
def A8t{G}(l:L1 G):∀ (E:Nat->U) (base:Nat),@R0 ⟨E,G⟩ prog base gl f45.ntmps A4w (N0 prog gl n0 17 A41 xO):=by
 refine U5 (dep:=60) (f:=45) (n0:=n0) (nB:=17) (H0:=H0) A4z A4x (cxg (B0n.2 l) .nil) l func45 A40 A4y C6 C6 C6 ?_;intro us d outs e;have o:=e;unfold xO at e;split at e
 .skip;rename_i i k c m w b r cl t;split at e
  .rename_i n;clear e o;refine⟨rfl,?_⟩;unfold A4x;refine w0 (.cons 8 _ (.cons 7 _ (.cons 6 _ (.cons 5 _ (.cons 4 _ (.cons 3 _ (.cons 2 _ (.cons 1 _ (.cons 0 _ (.nil)))))))))) ?_;repeat (first|refine w4 (fun g=>?_) fun g=>?_|refine dU ?_|refine Y5 ?_|refine nW ?_|refine dC ?_|refine A63 ?_|refine fM ?_|(refine w7 [.int .i64 _] ?_;rotate_left)|(refine w7 [.int .i64 _,.int .i64 _,.int .i64 _,.int .i64 _,.int .i64 _,.int .i64 _,.int .i64 _,.int .i64 _,.int .i64 _,.str _] ?_;rotate_left)|(refine w7 [.int .i64 _,.int .i64 _,.int .i64 _,.int .i64 _,.int .i64 _,.int .i64 _,.int .i64 _,.int .i64 _,.str _] ?_;rotate_left))
   all_goals first
    | refine N2 ?_ ?_
      .rw[qS i k c m w b r cl t n,A90 (i:=i) A2 A2 ‹_›];exact qS (i+1) k c m w b r cl t ⟨A2,A2,n.2.2⟩
      .rw[YR,YR];omega
    | refine I5 (d:=0) ?_
      rw[qS i k c m w b r cl t n,A3u A2];rfl
    | refine I5 (d:=1) ?_
      rw[qS i k c m w b r cl t n,A9z (i:=i) A2 A2 ‹_›];rfl
  .cases e
 .cases e
noncomputable def A6m:List LpE:=(45,([true,false,true,false,true,true,true,true,true,false,false,true,false],N0 prog gl n0 17 A41 xO))::[]
def mL{G}(b:L1 G):Y1 prog G gl A6m:=.cons func45 A40 A4y (A8t b) .nil
def A4J(t:B2):(0<=Lib.indexByte t 27)↔t.any isE=true:=by
 induction t with
 | nil=>simp[Lib.indexByte]
 | cons b l g =>
   have h:=Lib.indexByte_ge l 27;rw[Lib.indexByte,P8];by_cases e:b=27
   .subst e;simp[isE]
   .have d:(b == 27)=false:=by simp[e]
    have f:isE b=false:=E0 e;rw[d,f,Q0,<- g];by_cases c:Lib.indexByte l 27 = -1
    .simp[c]
    .simp[c];omega
def W3(k c m w b r cl:Int)(t:B2):Prop :=
 (k=1/\w=0/\b=0/\r=0/\cl=0/\t=[]/\q9 c m)∨(k=2/\c=0/\t=[]/\msP m w b r cl)∨(k=3/\c=0/\m=0/\w=0/\b=0/\r=0/\cl=0/\t.length<=1000/\t.any isE=false)∨(k=4/\c=0/\m=0/\b=0/\r=0/\cl=0/\t=[]/\0<=w/\w<=1)
instance(k c m w b r cl:Int)(t:B2):Decidable (W3 k c m w b r cl t):=by unfold W3;infer_instance
noncomputable def B0m:R3:=⟨_,fun b=>(.cons (QO b) (.cons (A4q b) .nil))⟩
def qR:List U->Option (Nat×List U)
 | [.int .i64 k,.int .i64 c,.int .i64 m,.int .i64 w,.int .i64 b,.int .i64 r,.int .i64 cl,.str t]=>if -9223372036854775808<=m/\m<=9223372036854775807/\(t.length:Int)<=140737488351232 then some (0,[.bool (decide (W3 k c m w b r cl t))])else none
 | _=>none
def EZ(k:Int)(c:Int)(m:Int)(w:Int)(b:Int)(r:Int)(cl:Int)(t:B2)(d : -9223372036854775808<=m/\m<=9223372036854775807/\(t.length:Int)<=140737488351232):qR [.int .i64 k,.int .i64 c,.int .i64 m,.int .i64 w,.int .i64 b,.int .i64 r,.int .i64 cl,.str t]=some (0,[.bool (decide (W3 k c m w b r cl t))]):=A9 d
def A4v:Tr:=K3 0 8 1 (.lt 8 (.eqs) [h3 0,h3 0,h3 1,h3 1,h3 2,h3 2,h3 3,jI 0,h3 4,jI 0,h3 5,jI 0,h3 6,jI 0,h 7 9,.string ⟨⟨[]⟩⟩]<|.br 9 (.fn jX [h3 1,h3 2] 1<|.ret [h 10 8]) (H3)) (K3 0 9 2 (.lt 8 (.eqs) [h3 0,h3 0,h3 1,jI 0,h3 2,h3 2,h3 3,h3 3,h3 4,h3 4,h3 5,h3 5,h3 6,h3 6,h 7 9,.string ⟨⟨[]⟩⟩]<|.br 10 (.fn IV [h3 0,h3 1,h3 2,h3 3,h3 4,h3 5,h3 6,h 7 9] 1<|.ret [h 11 8]) (H3)) (K3 0 10 3 (.lp xO [jI 0,h3 0,h3 1,h3 2,h3 3,h3 4,h3 5,h3 6,h 7 9] 0 8 (.lt 8 (.eqs) [h3 11,h3 11,h3 12,jI 0,h3 13,jI 0,h3 14,jI 0,h3 15,jI 0,h3 16,jI 0,h3 17,jI 0,h 18 9,h 18 9]<|.br 19 (aD [h 18 9]<|aQ [h3 20,jI 1000]<|.ret [h 21 8]) (H3)) (.lp xO [jI 0,h3 0,h3 1,h3 2,h3 3,h3 4,h3 5,h3 6,h 7 9] 1 0 (H3) (.no))) (K3 0 11 4 (.lt 8 (.eqs) [h3 0,h3 0,h3 1,jI 0,h3 2,jI 0,h3 3,h3 3,h3 4,jI 0,h3 5,jI 0,h3 6,jI 0,h 7 9,.string ⟨⟨[]⟩⟩]<|.br 12 (K7 3 13 0 (aQ [h3 3,jI 1]<|.ret [h 14 8]) H3) (H3)) H3)))
def QR{G}(f:L1 G):M3 prog G 45 [.a [3,3,3,3,3,3,3,9]] qR [.s 8]:=by
 refine G3 (d:=60) A4v (cxg (B0m.2 f) (mL f)) f ⟨f45,_,func45,rfl⟩ C6 C6 ?_;intro us outs g;unfold qR at g;split at g
 .skip;rename_i k c m w b r cl t;split at g
  .rename_i l;cases g;unfold A4v;refine w0 (.cons 7 _ (.cons 6 _ (.cons 5 _ (.cons 4 _ (.cons 3 _ (.cons 2 _ (.cons 1 _ (.cons 0 _ (.nil))))))))) ?_;refine fM ?_;refine w4 (fun g0=>?_) fun g0=>?_
   .refine w1 (.eqs) (e:=rfl) (k':=?_);first|refine w5 (fun g1=>?_) (fun g1=>?_)|refine w5B (fun g1=>?_) (fun g1=>?_)
    .refine w7 [.bool _] ?_;refine l1 ?_;unfold W3
     (try replace g3:=aW g3)
     (try replace g3:=aY g3)
     first|(simp_all;done)|(simp_all;omega)
    refine w31 jX (e:=QN _ _ A2) (k':=?_);refine w7 [.bool _] ?_;refine l1 ?_;unfold W3
    (try replace g3:=aW g3)
    (try replace g3:=aY g3)
    first|(simp_all;done)|(simp_all;omega)
   refine fM ?_;refine w4 (fun g1=>?_) fun g1=>?_
   .refine w1 (.eqs) (e:=rfl) (k':=?_);first|refine w5 (fun g2=>?_) (fun g2=>?_)|refine w5B (fun g2=>?_) (fun g2=>?_)
    .refine w7 [.bool _] ?_;refine l1 ?_;unfold W3
     (try replace g3:=aW g3)
     (try replace g3:=aY g3)
     first|(simp_all;done)|(simp_all;omega)
    refine w31 IV (e:=A2z _ _ _ _ _ _ _ _) (k':=?_);refine w7 [.bool _] ?_;refine l1 ?_;unfold W3
    (try replace g3:=aW g3)
    (try replace g3:=aY g3)
    first|(simp_all;done)|(simp_all;omega)
   refine fM ?_;refine w4 (fun g2=>?_) fun g2=>?_
   .refine w6 xO (qS _ _ _ _ _ _ _ _ _ A2) (h0:=fun g3=>?_) (h1:=fun v3 g3=>?_)
    .show Wk _ _ (.cons _ _ (.cons _ _ (.cons _ _ (.cons _ _ (.cons _ _ (.cons _ _ (.cons _ _ (.cons _ _ _))))))));refine w1 (.eqs) (e:=rfl) (k':=?_);first|refine w5 (fun g4=>?_) (fun g4=>?_)|refine w5B (fun g4=>?_) (fun g4=>?_)
     .refine w7 [.bool _] ?_;refine l1 ?_;unfold W3
      (try replace g3:=aW g3)
      (try replace g3:=aY g3)
      first|(simp_all;done)|(simp_all;omega)
     refine nW ?_;refine pZ ?_;refine w7 [.bool _] ?_;refine l1 ?_;unfold W3
     (try replace g3:=aW g3)
     (try replace g3:=aY g3)
     first|(simp_all;done)|(simp_all;omega)
    show Wk _ _ _;refine w7 [.bool _] ?_;refine l1 ?_;unfold W3
    (try replace g3:=aW g3)
    (try replace g3:=aY g3)
    first|(simp_all;done)|(simp_all;omega)
   refine fM ?_;refine w5 (fun g3=>?_) fun g3=>?_
   .refine w7 [.bool _] ?_;refine l1 ?_;unfold W3
    (try replace g3:=aW g3)
    (try replace g3:=aY g3)
    first|(simp_all;done)|(simp_all;omega)
   refine w1 (.eqs) (e:=rfl) (k':=?_);first|refine w5 (fun g4=>?_) (fun g4=>?_)|refine w5B (fun g4=>?_) (fun g4=>?_)
   .refine w7 [.bool _] ?_;refine l1 ?_;unfold W3
    (try replace g3:=aW g3)
    (try replace g3:=aY g3)
    first|(simp_all;done)|(simp_all;omega)
   refine kW ?_;refine w5 (fun g5=>?_) fun g5=>?_
   .refine w7 [.bool _] ?_;refine l1 ?_;unfold W3
    (try replace g3:=aW g3)
    (try replace g3:=aY g3)
    first|(simp_all;done)|(simp_all;omega)
   refine pZ ?_;refine w7 [.bool _] ?_;refine l1 ?_;unfold W3
   (try replace g3:=aW g3)
   (try replace g3:=aY g3)
   first|(simp_all;done)|(simp_all;omega)
  .cases g
 .cases g
noncomputable def B0o:R3:=⟨_,fun b=>(.cons (QR b) .nil)⟩
def A45:List U->Option (Nat×List U)
 | [.int .i64 k,.int .i64 c,.int .i64 m,.int .i64 w,.int .i64 b,.int .i64 r,.int .i64 cl,.str t]=>if -9223372036854775808<=m/\m<=9223372036854775807/\(t.length:Int)<=140737488351232 then some (0,[.int .i64 (if W3 k c m w b r cl t then 0 else 430)])else none
 | _=>none
def A44:Tr:=.fn qR [h3 0,h3 1,h3 2,h3 3,h3 4,h3 5,h3 6,h 7 9] 1<|M5 8 9 (I2 430) (I2 0)
def A8x{G}(f:L1 G):M3 prog G 43 [.a [3,3,3,3,3,3,3,9]] A45 [.s 3]:=by
 refine G3 (d:=60) A44 (cxg (B0o.2 f) (mL f)) f ⟨f43,_,func43,rfl⟩ C6 C6 ?_;intro us outs l;unfold A45 at l;split at l
 .skip;rename_i k c m w b r cl t;split at l
  .rename_i n;cases l;unfold A44;refine w0 (.cons 7 _ (.cons 6 _ (.cons 5 _ (.cons 4 _ (.cons 3 _ (.cons 2 _ (.cons 1 _ (.cons 0 _ (.nil))))))))) ?_;repeat (first|refine j9 ?_|refine oK ?_|refine w4 (fun g=>?_) fun g=>?_|refine w4B (fun g=>?_) fun g=>?_|(refine w7 [.int .i64 _] ?_;rotate_left)|refine w31 qR (e:=EZ _ _ _ _ _ _ _ _ n) (k':=?_))
   all_goals
    refine l0 ?_;first|(rw[A9 (G7 ‹_›)];done)|(rw[A7 (of_decide_eq_false ‹_›)];done)|(simp_all;done)
  .cases l
 .cases l
noncomputable def B03:R3:=⟨_,fun b=>(.cons (A8e b) (.cons (A8d b) (.cons (B0B b) .nil)))⟩
def rJ:List U->Option (Nat×List U)
 | [.int .i64 k,.int .i64 c,.int .i64 m,.int .i64 w,.int .i64 b,.int .i64 r,.int .i64 cl,.str t]=>if -9223372036854775808<=m/\m<=9223372036854775807/\(t.length:Int)<=140737488351232 then some (0,[.int .i64 (if W3 k c m w b r cl t then 0 else 430)])else none
 | _=>none
def FV(k:Int)(c:Int)(m:Int)(w:Int)(b:Int)(r:Int)(cl:Int)(t:B2)(d : -9223372036854775808<=m/\m<=9223372036854775807/\(t.length:Int)<=140737488351232):rJ [.int .i64 k,.int .i64 c,.int .i64 m,.int .i64 w,.int .i64 b,.int .i64 r,.int .i64 cl,.str t]=some (0,[.int .i64 (if W3 k c m w b r cl t then 0 else 430)]):=A9 d
def A5s:Tr:=K3 0 8 1 (.fn HO [h3 1,h3 2] 1<|M5 9 10 (I2 430) (.lt 8 (.eqs) [h3 0,jI 1,h3 1,h3 1,h3 2,h3 2,h3 3,jI 0,h3 4,jI 0,h3 5,jI 0,h3 6,jI 0,h 7 9,.string ⟨⟨[]⟩⟩]<|M5 11 12 (I2 430) (I2 0))) (K3 0 9 2 (.fn HN [h3 0,h3 1,h3 2,h3 3,h3 4,h3 5,h3 6,h 7 9] 1<|M5 10 11 (I2 430) (.lt 8 (.eqs) [h3 0,h3 0,h3 1,jI 0,h3 2,h3 2,h3 3,h3 3,h3 4,h3 4,h3 5,h3 5,h3 6,h3 6,h 7 9,.string ⟨⟨[]⟩⟩]<|M5 12 13 (I2 430) (I2 0))) (K3 0 10 3 (aD [h 7 9]<|R5 11 12 1000 (.fn LM [h 7 9,.string ⟨⟨[27]⟩⟩] 1<|aX [h 13 8]<|M5 14 15 (I2 430) (.lt 8 (.eqs) [h3 0,h3 0,h3 1,jI 0,h3 2,jI 0,h3 3,jI 0,h3 4,jI 0,h3 5,jI 0,h3 6,jI 0,h 7 9,h 7 9]<|M5 16 17 (I2 430) (I2 0))) (I2 430)) (K3 0 11 4 (K7 3 12 0 (aQ [h3 3,jI 1]<|M5 13 14 (I2 430) (.lt 8 (.eqs) [h3 0,h3 0,h3 1,jI 0,h3 2,jI 0,h3 3,h3 3,h3 4,jI 0,h3 5,jI 0,h3 6,jI 0,h 7 9,.string ⟨⟨[]⟩⟩]<|M5 15 16 (I2 430) (I2 0))) (I2 430)) (I2 430))))
def A0t{G}(f:L1 G):M3 prog G 40 [.a [3,3,3,3,3,3,3,9]] rJ [.s 3]:=by
 refine G3 (d:=60) A5s (cxg (B03.2 f) (mL f)) f ⟨f40,_,func40,rfl⟩ C6 C6 ?_;intro us outs l;unfold rJ at l;split at l
 .skip;rename_i k c m w b r cl t;split at l
  .rename_i o;cases l;have n:=A4J t;unfold A5s;refine w0 (.cons 7 _ (.cons 6 _ (.cons 5 _ (.cons 4 _ (.cons 3 _ (.cons 2 _ (.cons 1 _ (.cons 0 _ (.nil))))))))) ?_;repeat (first|refine w4 (fun g=>?_) fun g=>?_|refine w4B (fun g=>?_) fun g=>?_|refine j9 ?_|refine oK ?_|(refine w7 [.int .i64 _] ?_;rotate_left)|refine fM ?_|refine w1 (.eqs) (e:=rfl) (k':=?_)|refine pZ ?_|refine w31 HO (e:=A2e _ _ A2) (k':=?_)|refine w31 HN (e:=A2d _ _ _ _ _ _ _ _) (k':=?_)|refine nW ?_|refine w31 LM (e:=A32 _ _ rfl) (k':=?_)|refine kW ?_)
   all_goals
    refine l0 ?_;first
    | exact(A9 (by unfold W3;first|(simp_all;done)|(simp_all;omega))).symm
    | exact(A7 (fun h=>by
       unfold W3 at h;rcases h with h|h|h|h<;>first|(exfalso;omega)|(simp_all;done)|(simp_all;omega))).symm
  .cases l
 .cases l
def nE(l:B2):B2:=l.filter fun x=>!isE x
def PE{α:Type}(x:Option (List α)):w9 x (some [])=x:=by
 unfold w9;cases x<;>simp[el]
def DR{α:Type}(x:Option (List α))(u v:List α):w9 (w9 x (some u)) (some v)=w9 x (some (u++v)):=by
 cases u with
 | nil=>rw[PE];rfl
 | cons a u=>cases v with
   | nil=>simp[w9,el]
   | cons c v=>simp[w9,el]
def IA{l:B2}(h0:0<=i)(h1:i<1000):(l.take 1000).getD i.toNat default=l.getD i.toNat default:=by
 rw[B1,B1,E6 A2]
def A7a{l:B2}(h:(l.length:Int)<=i∨1000<=i):nE ((l.take 1000).drop i.toNat)=[]:=by
 rw[cV (l.take 1000) (by rw[I8];omega)];rfl
def B2B{l:B2}(h0:0<=i)(h1:i<(l.length:Int))(b:i<1000)(c:¬(((l.getD i.toNat 0).toNat:Nat):Int)≠27):nE ((l.take 1000).drop i.toNat)=nE ((l.take 1000).drop (i+1).toNat):=by
 rw[U1 (l.take 1000) h0 (by rw[I8];omega),IA h0 b,GC,show l.getD i.toNat 0=27 from A6M A2];rfl
def B2C{l:B2}(h0:0<=i)(h1:i<(l.length:Int))(b:i<1000)(c:(((l.getD i.toNat 0).toNat:Nat):Int)≠27):nE ((l.take 1000).drop i.toNat)=l.getD i.toNat 0::nE ((l.take 1000).drop (i+1).toNat):=by
 rw[U1 (l.take 1000) h0 (by rw[I8];omega),IA h0 b,GC];have:isE (l.getD i.toNat 0)=false:=E0 fun h=>c (by rw[h];rfl)
 unfold nE;rw[List.filter_cons,this];rfl
def A7Z(l:B2):(nE l).length<=l.length:=List.length_filter_le _ _
noncomputable def B1C:R3:=⟨_,fun b=>(.cons (QO b) (.cons (QR b) .nil))⟩
def sK:List U->Option (Nat×List U)
 | [u_out,.int .i64 i,.int .u8 d0,.int .u8 d1,.int .u8 d2,.int .u8 d3,.int .u8 d4,.int .u8 d5,.int .u8 d6,.int .u32 dc,.str t]=>(L4 rB u_out).bind fun out=>if 0<=i/\i<=1000/\((el out).length:Int)<=i/\(t.length:Int)<=140737488351232 then some (0,[D9 rB (w9 out (some (bI (nE ((t.take 1000).drop i.toNat)))))])else none
 | _=>none
def nS(out:pF)(i:Int)(d0:Int)(d1:Int)(d2:Int)(d3:Int)(d4:Int)(d5:Int)(d6:Int)(dc:Int)(t:B2)(b:0<=i/\i<=1000/\((el out).length:Int)<=i/\(t.length:Int)<=140737488351232):sK [D9 rB out,.int .i64 i,.int .u8 d0,.int .u8 d1,.int .u8 d2,.int .u8 d3,.int .u8 d4,.int .u8 d5,.int .u8 d6,.int .u32 dc,.str t]=some (0,[D9 rB (w9 out (some (bI (nE ((t.take 1000).drop i.toNat)))))]):=by
 simp only[sK,I0,F5];exact A9 b
def A6S:S0:=⟨[(1,.pointer (some ⟨16,0,none⟩)),(2,.pointer (some ⟨17,0,none⟩)),(4,own 18 0 11),(5,h 1 3)],[(16,.cells 24 [h 2 4,h 3 4,h 4 4,h 5 4,h 6 4,h 7 4,h 8 4,h 9 6,h 10 9]),(17,.cells 30 [.int .i64 (0),.int .i64 (0),.int .i64 (0),.int .i64 (0),.int .i64 (0),.int .i64 (0),.int .i64 (0),.string ⟨⟨[]⟩⟩]),(18,.sq 0 11 5 19),(19,.frz)],11,[⟨.exit 1,[(2,.pointer (some ⟨17,0,none⟩)),(4,own 20 0 11)],[(17,.cells 30 [.int .i64 (0),.int .i64 (0),.int .i64 (0),.int .i64 (0),.int .i64 (0),.int .i64 (0),.int .i64 (0),.string ⟨⟨[]⟩⟩]),(20,.sq 0 11 5 21),(21,.frz)],1⟩]⟩
noncomputable def A1n:Code:=(f17.body).getD .skip
noncomputable def A6O:Code:=match G6 [true,false,true,false,true,true,true,false,true,false,true,false] A1n with|some (.loop x)=>x|_=>.skip
def A6R:f17.body=some A1n:=rfl
def A6Q:G6 [true,false,true,false,true,true,true,false,true,false,true,false] A1n=some (.loop A6O):=C6
def A6P:Tr:=aD [h 10 9]<|W9 1 11 12 (aL [h3 1,jI 1000]<|.br 13 (.lt 4 (.idx) [h 10 9,h3 1]<|aN [h 14 4,.int .u8 (27)]<|.br 15 (.lt 4 (.idx) [h 10 9,h3 1]<|.dt 11 (.snoc 1) [h 0 11,h 16 4]<|aA [h3 1,jI 1]<|.ret [jI (-1),h 17 11,h3 18,h 2 4,h 3 4,h 4 4,h 5 4,h 6 4,h 7 4,h 8 4,h 9 6,h 10 9]) (aA [h3 1,jI 1]<|.ret [jI (-1),h 0 11,h3 16,h 2 4,h 3 4,h 4 4,h 5 4,h 6 4,h 7 4,h 8 4,h 9 6,h 10 9])) (.ret [jI 0,h 0 11])) (.ret [jI 0,h 0 11])
def A1m:List U->Nat
 | [u_out,.int .i64 i,.int .u8 d0,.int .u8 d1,.int .u8 d2,.int .u8 d3,.int .u8 d4,.int .u8 d5,.int .u8 d6,.int .u32 dc,.str t]=>(match L4 rB u_out with|some out=>(1000-i).toNat|none=>0)
 | _=>0
def A1l(out:pF)(i:Int)(d0:Int)(d1:Int)(d2:Int)(d3:Int)(d4:Int)(d5:Int)(d6:Int)(dc:Int)(t:B2):A1m [D9 rB out,.int .i64 i,.int .u8 d0,.int .u8 d1,.int .u8 d2,.int .u8 d3,.int .u8 d4,.int .u8 d5,.int .u8 d6,.int .u32 dc,.str t]=(1000-i).toNat:=by
 simp only[A1m,I0]
def A96{G}(l:L1 G):∀ (E:Nat->U) (base:Nat),@R0 ⟨E,G⟩ prog base gl f17.ntmps A6O (N0 prog gl n0 22 A6S sK):=by
 refine U5 (dep:=60) (f:=17) (n0:=n0) (nB:=22) (H0:=H0) A1m A6P (cxg (B1C.2 l) (mL l)) l func17 A6R A6Q C6 C6 C6 ?_;intro us d outs c;have o:=c;unfold sK at c;split at c
 .skip;rename_i n i d0 d1 d2 d3 d4 d5 d6 dc t;have k:=B3.1 c;clear c;obtain⟨out,b,c⟩:=k;replace b:=I6 b;subst b;split at c
  .rename_i m;clear c o;refine⟨rfl,?_⟩;unfold A6P;refine w0 (.cons 10 _ (.cons 9 _ (.cons 8 _ (.cons 7 _ (.cons 6 _ (.cons 5 _ (.cons 4 _ (.cons 3 _ (.cons 2 _ (.cons 1 _ (.cons 0 _ (.nil)))))))))))) ?_;repeat (first|refine dU ?_|refine Y5 ?_|refine w4 (fun g=>?_) fun g=>?_|refine dC ?_|refine A63 ?_|(refine w7 [.int .i64 _,D9 rB _,.int .i64 _,.int .u8 _,.int .u8 _,.int .u8 _,.int .u8 _,.int .u8 _,.int .u8 _,.int .u8 _,.int .u32 _,.str _] ?_;rotate_left)|(refine w7 [.int .i64 _,D9 rB _] ?_;rotate_left)|refine nW ?_|refine AO ?_|refine w2 (.snoc 1) (r:=rB) (e:=zH rfl rfl E7 (by simp[*]<;>omega)) (k':=?_))
   all_goals first
    | refine N2 ?_ ?_
      .first
       | (have hx:∀ X,X=w9 out (some (bI [t.getD i.toNat 0]))->sK [D9 rB X,.int .i64 (i+1),.int .u8 d0,.int .u8 d1,.int .u8 d2,.int .u8 d3,.int .u8 d4,.int .u8 d5,.int .u8 d6,.int .u32 dc,.str t]=sK [D9 rB out,.int .i64 i,.int .u8 d0,.int .u8 d1,.int .u8 d2,.int .u8 d3,.int .u8 d4,.int .u8 d5,.int .u8 d6,.int .u32 dc,.str t]:=fun X p=>by
           rw[nS X (i+1) d0 d1 d2 d3 d4 d5 d6 dc t ⟨A2,A2,by rw[p,sH,Q6,E1,PL,E4,Y2];omega,m.2.2.2⟩,nS out i d0 d1 d2 d3 d4 d5 d6 dc t m,p,DR,<- A8X,B2C (i:=i) A2 A2 A2 ‹_›];rfl
          exact hx _ rfl)
       | (rw[nS out (i+1) d0 d1 d2 d3 d4 d5 d6 dc t ⟨A2,A2,A2,m.2.2.2⟩,nS out i d0 d1 d2 d3 d4 d5 d6 dc t m,B2B (i:=i) A2 A2 A2 ‹_›];done)
      .rw[A1l,A1l];omega
    | refine I5 (d:=0) ?_
      rw[nS out i d0 d1 d2 d3 d4 d5 d6 dc t m,A7a (i:=i) A2];exact F3 (fun z=>some (0,[D9 rB z])) (PE out)
  .cases c
 .cases c
noncomputable def B1T:List LpE:=(17,([true,false,true,false,true,true,true,false,true,false,true,false],N0 prog gl n0 22 A6S sK))::A6m
def ML{G}(b:L1 G):Y1 prog G gl B1T:=.cons func17 A6R A6Q (A96 b) (mL b)
def A9w(h0:0<=a)(h1:a<256):evU (.bin .and) [.int .u8 a,.int .u8 6]=.int .u8 (a / 2%4*2):=by
 rw[tS];have k:∀ n:Nat,n<256->IntKind.u8.wrap (BitVec.ofInt IntKind.u8.bits (n:Int) &&& BitVec.ofInt IntKind.u8.bits 6).toNat=(n:Int) / 2%4*2:=E7;obtain⟨n,rfl⟩:∃ n:Nat,a=n:=⟨a.toNat,A2⟩;exact F3 _ (k n A2)
def A9x(h0:0<=a)(h1:a<256):evU (.bin .and) [.int .u8 a,.int .u8 2]=.int .u8 (a / 2%2*2):=by
 rw[tS];have k:∀ n:Nat,n<256->IntKind.u8.wrap (BitVec.ofInt IntKind.u8.bits (n:Int) &&& BitVec.ofInt IntKind.u8.bits 2).toNat=(n:Int) / 2%2*2:=E7;obtain⟨n,rfl⟩:∃ n:Nat,a=n:=⟨a.toNat,A2⟩;exact F3 _ (k n A2)
def el0(l:B2):el (w9 none (some (bI l)))=bI l:=by rw[sH];rfl
def B1q(l:B2):∀ n ∈ el (w9 none (some (bI l))),0<=n/\n<256:=fun n h=>by rw[el0]at h;exact A2F h
def iB0(l:B2):iB (el (w9 none (some (bI l))))=l:=by rw[el0,A59]
def dC1(d4 dc:Int):Int:=if d4%2=0 then 1114113+d4 / 2%26 else dc
def dC2(x:Int):Int:=if x<1114113/\¬chP x then 97+x%26 else x
def dM(c m:Int):Int:=if q9 c (m%8)then m%8 else if q9 c (m%8 / 2%4*2)then m%8 / 2%4*2 else if q9 c (m / 2%2*2)then m / 2%2*2 else 0
def dC3(c m:Int):Int:=if q9 c (m%8)∨q9 c (m%8 / 2%4*2)∨q9 c (m / 2%2*2)∨q9 c 0 then c else 97
def diK(q:Int):Int:=if q=1 then 2 else if q=2 then 3 else if q=3 then 4 else 1
def diC(q d3 d4 dc:Int):Int:=if q=0 then dC3 (dC2 (dC1 d4 dc)) d3 else 0
def diM(q d3 d4 dc:Int):Int:=if q=0 then dM (dC2 (dC1 d4 dc)) d3 else if q=1 then d3%8 else 0
def diW(q d1:Int):Int:=if q=1 then d1%4 else if q=3 then d1%2 else 0
def diB(q d1 d2 d3 d5 d6:Int):Int:=if q=1 then(if W3 2 0 (d3%8) (d1%4) (d2%4) (d5%40) (d6%80) []then d2%4 else d2%4%2)else 0
def diR(q d5:Int):Int:=if q=1 then d5%40 else 0
def diL(q d6:Int):Int:=if q=1 then d6%80 else 0
def diT(q:Int)(t:B2):B2:=if q=2 then nE (t.take 1000)else[]
def l8{f a2 a3 a4 a5 c m l b d e g k n:Int}{s t:B2}(h1:f=l)(o:a2=b)(h3:a3=d)(u:a4=e)(q:a5=g)(v:c=k)(r:m=n)(p:s=t):[U.int .i64 f,.int .i64 a2,.int .i64 a3,.int .i64 a4,.int .i64 a5,.int .i64 c,.int .i64 m,.str s]=[U.int .i64 l,.int .i64 b,.int .i64 d,.int .i64 e,.int .i64 g,.int .i64 k,.int .i64 n,.str t]:=by rw[h1,o,h3,u,q,v,r,p]
def A9_(h:d4%2=0):dC1 d4 dc=1114113+d4 / 2%26:=A9 h
def A99(h:¬d4%2=0):dC1 d4 dc=dc:=A7 h
noncomputable def B1F:R3:=⟨_,fun b=>.nil⟩
def DN:List U->Option (Nat×List U)
 | [.int .i64 c]=>some (0,[.bool (decide (chP c))])
 | _=>none
def A39(c:Int):DN [.int .i64 c]=some (0,[.bool (decide (chP c))]):=rfl
def A14(n:Nat):Tr:=K7 0 n 32 (K7 0 (n+1) 127 (aQ [h3 0,jI 159]<|aX [h (n+2) 8]<|.ret [h (n+3) 8]) bN) H3
def A6a:Tr:=K7 0 1 0 (R5 0 2 1114111 (aL [h3 0,jI 55296]<|.br 3 (A14 4) (aG [h3 0,jI 57343]<|.br 4 (A14 5) (H3))) H3) H3
def B0H{G}(b:L1 G):M3 prog G 46 [.s 3] DN [.s 8]:=by
 refine G3 (d:=60) A6a (cxg (B1F.2 b) (ML b)) b ⟨f46,_,func46,rfl⟩ C6 C6 ?_;intro us outs e;unfold DN at e;split at e
 .skip;rename_i c;cases e;unfold A6a;refine w0 (.cons 0 _ (.nil)) ?_;repeat (first|(refine w7 [.bool _] ?_;rotate_left)|refine w4 (fun g=>?_) fun g=>?_|refine kW ?_|refine pZ ?_|refine j9 ?_|refine dC ?_|refine wW ?_)
  all_goals
   refine l1 ?_;first|(refine decide_eq_decide.2 ?_;unfold chP okU;omega)|(symm;first|exact J6 (by unfold chP okU;omega)|exact E0 (by unfold chP okU;omega))
 .cases e
noncomputable def B1B:R3:=⟨_,fun b=>(.cons (QO b) (.cons (QR b) (.cons (B0H b) .nil)))⟩
def sJ:List U->Option (Nat×List U)
 | [.int .u8 d0,.int .u8 d1,.int .u8 d2,.int .u8 d3,.int .u8 d4,.int .u8 d5,.int .u8 d6,.int .u32 dc,.str t]=>if 0<=d0/\d0<256/\0<=d1/\d1<256/\0<=d2/\d2<256/\0<=d3/\d3<256/\0<=d4/\d4<256/\0<=d5/\d5<256/\0<=d6/\d6<256/\0<=dc/\dc<4294967296/\(t.length:Int)<=140737488351232 then some (0,[.int .i64 (diK (d0%4)),.int .i64 (diC (d0%4) d3 d4 dc),.int .i64 (diM (d0%4) d3 d4 dc),.int .i64 (diW (d0%4) d1),.int .i64 (diB (d0%4) d1 d2 d3 d5 d6),.int .i64 (diR (d0%4) d5),.int .i64 (diL (d0%4) d6),.str (diT (d0%4) t)])else none
 | _=>none
def GQ(d0:Int)(d1:Int)(d2:Int)(d3:Int)(d4:Int)(d5:Int)(d6:Int)(dc:Int)(t:B2)(b:0<=d0/\d0<256/\0<=d1/\d1<256/\0<=d2/\d2<256/\0<=d3/\d3<256/\0<=d4/\d4<256/\0<=d5/\d5<256/\0<=d6/\d6<256/\0<=dc/\dc<4294967296/\(t.length:Int)<=140737488351232):sJ [.int .u8 d0,.int .u8 d1,.int .u8 d2,.int .u8 d3,.int .u8 d4,.int .u8 d5,.int .u8 d6,.int .u32 dc,.str t]=some (0,[.int .i64 (diK (d0%4)),.int .i64 (diC (d0%4) d3 d4 dc),.int .i64 (diM (d0%4) d3 d4 dc),.int .i64 (diW (d0%4) d1),.int .i64 (diB (d0%4) d1 d2 d3 d5 d6),.int .i64 (diR (d0%4) d5),.int .i64 (diL (d0%4) d6),.str (diT (d0%4) t)]):=A9 b
def n9(a0:Nat)(b:Nat):Tr:=.ret [jI 1,h3 a0,h3 b,jI 0,jI 0,jI 0,jI 0,.string ⟨⟨[]⟩⟩]
def fS(a0:Nat)(b:Nat)(a2:Nat)(d c:Tr):Tr:=.fn jX [h3 a0,h3 b] 1<|.br a2 d c
def wB(a0:Nat)(b:Nat)(d c:Tr):Tr:=.lt 4 (.bin .rem) [h 3 4,.int .u8 (8)]<|.lt 3 (.conv .i64) [h b 4]<|.lt 4 (.bin .rem) [h 3 4,.int .u8 (8)]<|.lt 4 (.bin .and) [h (b+2) 4,.int .u8 (6)]<|.lt 3 (.conv .i64) [h (b+3) 4]<|.lt 4 (.bin .and) [h 3 4,.int .u8 (2)]<|.lt 3 (.conv .i64) [h (b+5) 4]<|.fn jX [h3 a0,h3 (b+1)] 1<|.br (b+7) d c
def A1j(n:Nat):Tr:=wB 19 n (n9 19 (n+1)) (fS 19 (n+4) (n+8) (n9 19 (n+4)) (fS 19 (n+6) (n+9) (n9 19 (n+6)) (.fn jX [h3 19,jI 0] 1<|.br (n+10) (.ret [jI 1,h3 19,jI 0,jI 0,jI 0,jI 0,jI 0,.string ⟨⟨[]⟩⟩]) (.ret [jI 1,jI 97,jI 0,jI 0,jI 0,jI 0,jI 0,.string ⟨⟨[]⟩⟩]))))
def A1i(n:Nat):Tr:=wB 13 n (n9 13 (n+1)) (fS 13 (n+4) (n+8) (n9 13 (n+4)) (fS 13 (n+6) (n+9) (n9 13 (n+6)) (.fn jX [h3 13,jI 0] 1<|.br (n+10) (.ret [jI 1,h3 13,jI 0,jI 0,jI 0,jI 0,jI 0,.string ⟨⟨[]⟩⟩]) (.ret [jI 1,jI 97,jI 0,jI 0,jI 0,jI 0,jI 0,.string ⟨⟨[]⟩⟩]))))
def A6N:Tr:=.lt 4 (.bin .rem) [h 0 4,.int .u8 (4)]<|aE [h 9 4,.int .u8 (1)]<|.br 10 (.lt 4 (.bin .rem) [h 1 4,.int .u8 (4)]<|.lt 3 (.conv .i64) [h 11 4]<|.lt 4 (.bin .rem) [h 2 4,.int .u8 (4)]<|.lt 3 (.conv .i64) [h 13 4]<|.lt 4 (.bin .rem) [h 3 4,.int .u8 (8)]<|.lt 3 (.conv .i64) [h 15 4]<|.lt 4 (.bin .rem) [h 5 4,.int .u8 (40)]<|.lt 3 (.conv .i64) [h 17 4]<|.lt 4 (.bin .rem) [h 6 4,.int .u8 (80)]<|.lt 3 (.conv .i64) [h 19 4]<|.fn qR [jI 2,jI 0,h3 16,h3 12,h3 14,h3 18,h3 20,.string ⟨⟨[]⟩⟩] 1<|M5 21 22 (.lt 3 (.bin .rem) [h3 14,jI 2]<|.ret [jI 2,jI 0,h3 16,h3 12,h3 23,h3 18,h3 20,.string ⟨⟨[]⟩⟩]) (.ret [jI 2,jI 0,h3 16,h3 12,h3 14,h3 18,h3 20,.string ⟨⟨[]⟩⟩])) (aE [h 9 4,.int .u8 (2)]<|.br 11 (.dt 11 (.nilw 1) []<|.fn sK [h 12 11,jI 0,h 0 4,h 1 4,h 2 4,h 3 4,h 4 4,h 5 4,h 6 4,h 7 6,h 8 9] 1<|.lt 9 (.str) [h 13 11]<|.ret [jI 3,jI 0,jI 0,jI 0,jI 0,jI 0,jI 0,h 14 9]) (aE [h 9 4,.int .u8 (3)]<|.br 12 (.lt 4 (.bin .rem) [h 1 4,.int .u8 (2)]<|.lt 3 (.conv .i64) [h 13 4]<|.ret [jI 4,jI 0,jI 0,h3 14,jI 0,jI 0,jI 0,.string ⟨⟨[]⟩⟩]) (.lt 3 (.conv .i64) [h 7 6]<|.lt 4 (.bin .rem) [h 4 4,.int .u8 (2)]<|aE [h 14 4,.int .u8 (0)]<|.br 15 (.lt 4 (.bin .quo) [h 4 4,.int .u8 (2)]<|.lt 3 (.conv .i64) [h 16 4]<|.lt 3 (.bin .rem) [h3 17,jI 26]<|aA [jI 1114113,h3 18]<|aL [h3 19,jI 1114113]<|.br 20 (.fn DN [h3 19] 1<|M5 21 22 (.lt 3 (.bin .rem) [h3 19,jI 26]<|aA [jI 97,h3 23]<|wB 24 25 (n9 24 26) (fS 24 29 33 (n9 24 29) (fS 24 31 34 (n9 24 31) (.fn jX [h3 24,jI 0] 1<|.br 35 (.ret [jI 1,h3 24,jI 0,jI 0,jI 0,jI 0,jI 0,.string ⟨⟨[]⟩⟩]) (.ret [jI 1,jI 97,jI 0,jI 0,jI 0,jI 0,jI 0,.string ⟨⟨[]⟩⟩]))))) (A1j 23)) (A1j 21)) (aL [h3 13,jI 1114113]<|.br 16 (.fn DN [h3 13] 1<|M5 17 18 (.lt 3 (.bin .rem) [h3 13,jI 26]<|aA [jI 97,h3 19]<|wB 20 21 (n9 20 22) (fS 20 25 29 (n9 20 25) (fS 20 27 30 (n9 20 27) (.fn jX [h3 20,jI 0] 1<|.br 31 (.ret [jI 1,h3 20,jI 0,jI 0,jI 0,jI 0,jI 0,.string ⟨⟨[]⟩⟩]) (.ret [jI 1,jI 97,jI 0,jI 0,jI 0,jI 0,jI 0,.string ⟨⟨[]⟩⟩]))))) (A1i 19)) (A1i 17)))))
def LI{G}(b:L1 G):M3 prog G 17 [.a [4,4,4,4,4,4,4,6,9]] sJ [.a [3,3,3,3,3,3,3,9]]:=by
 refine G3 (d:=60) A6N (cxg (B1B.2 b) (ML b)) b ⟨f17,_,func17,rfl⟩ C6 C6 ?_;intro us outs k;unfold sJ at k;split at k
 .skip;rename_i d0 d1 d2 d3 d4 d5 d6 dc t;split at k
  .rename_i o;cases k;have n:nE (t.take 1000)=nE ((t.take 1000).drop (0:Int).toNat):=rfl;have p:((el (none:pF)).length:Int)=0:=rfl;unfold A6N;refine w0 (.cons 8 _ (.cons 7 _ (.cons 6 _ (.cons 5 _ (.cons 4 _ (.cons 3 _ (.cons 2 _ (.cons 1 _ (.cons 0 _ (.nil)))))))))) ?_;repeat (first|refine w4 (fun g=>?_) fun g=>?_|refine w4B (fun g=>?_) fun g=>?_|refine BM ?_|refine sU ?_|refine A61 ?_|refine w1 (.bin .rem) (e:=GL _ _ _ A2) (k':=?_)|(refine w7 [.int .i64 _,.int .i64 _,.int .i64 _,.int .i64 _,.int .i64 _,.int .i64 _,.int .i64 _,.str _] ?_;rotate_left)|refine w31 jX (e:=QN _ _ A2) (k':=?_)|refine j9 ?_|refine oK ?_|refine dU ?_|refine Y5 ?_|refine w1 (.bin .and) (e:=A9w A2 A2) (k':=?_)|refine w1 (.bin .and) (e:=A9x A2 A2) (k':=?_)|refine fM ?_|refine A62 ?_|refine w1 (.bin .quo) (e:=GM _ _ _ A2) (k':=?_)|refine dC ?_|refine w31 DN (e:=A39 _) (k':=?_)|refine w31 qR (e:=EZ _ _ _ _ _ _ _ _ ⟨A2,A2,by show(0:Int)<=_;omega⟩) (k':=?_)|refine w2 (.nilw 1) (r:=rB) (e:=zI rfl) (k':=?_)|refine w31 sK (e:=nS _ _ _ _ _ _ _ _ _ _ _ ⟨A2,A2,A2,A2⟩) (k':=?_)|refine w1 (.str) (e:=A3e rfl (B1q _)) (k':=?_))
   all_goals
    first
    | (have c:d0%4=1:=A2
       rw[c];first
       | exact l8 rfl rfl rfl rfl (A9 (D7.1 ‹_›)).symm rfl rfl rfl
       | exact l8 rfl rfl rfl rfl (A7 ‹_›).symm rfl rfl rfl)
    | (have c:d0%4=2:=A2
       rw[c];exact l8 rfl rfl rfl rfl rfl rfl rfl (iB0 _))
    | (have c:d0%4=3:=A2
       rw[c];exact l8 rfl rfl rfl rfl rfl rfl rfl rfl)
    | (have c:d0%4=0:=A2
       rw[c];obtain⟨X,h1⟩:∃ X,X=dC1 d4 dc:=⟨_,rfl⟩;obtain⟨Y,l⟩:∃ Y,Y=dC2 X:=⟨_,rfl⟩;have m:=h1;have f:=l;first|rw[A9_ ‹_›]at m|rw[A99 ‹_›]at m
       rw[m]at f;unfold dC2 at f;first|rw[A9 ⟨by assumption,by assumption⟩]at f|rw[A7 (fun g=>absurd g.1 ‹_›)]at f|rw[A7 (fun g=>absurd g.2 ‹_›)]at f
       refine l8 rfl ?_ ?_ rfl rfl rfl rfl rfl
       .show _=dC3 (dC2 (dC1 d4 dc)) d3;rw[<- h1,<- l,f];unfold dC3;first
        | exact(A9 (.inl ‹_›)).symm
        | exact(A9 (.inr (.inl ‹_›))).symm
        | exact(A9 (.inr (.inr (.inl ‹_›)))).symm
        | exact(A9 (.inr (.inr (.inr ‹_›)))).symm
        | exact(A7 fun q=>q.elim ‹_› fun q=>q.elim ‹_› fun q=>q.elim ‹_› ‹_›).symm
       .show _=dM (dC2 (dC1 d4 dc)) d3;rw[<- h1,<- l,f];unfold dM
        (repeat (first|rw[A9 ‹_›]|rw[A7 ‹_›]));done)
  .cases k
 .cases k
def A6E(s:B2)(n:Nat):(ByteArray.mk ⟨s⟩).get! n=s.getD n 0:=by
 show(Array.mk s)[n]! = _;rw[getElem!_def];simp only[I9,B1];cases s[n]?<;>rfl
def A2u{s:B2}{k:Int}(h:((s.getD k.toNat 0).toNat:Int)<128):qH s k=((s.getD k.toNat 0).toNat:Int)/\QL s k=k+1:=by
 have e:Utf8.decode ⟨⟨s⟩⟩ k.toNat=((s.getD k.toNat 0).toNat,1):=by
  unfold Utf8.decode;simp only[jR,A6E];rw[A9 A2]
 unfold qH QL;rw[e];exact⟨rfl,rfl⟩
def A2v{s:B2}{k:Int}(h:¬((s.getD k.toNat 0).toNat:Int)<128):128<=qH s k:=by
 unfold qH Utf8.decode;simp only[jR,A6E];rw[A7 A2];have hr:128<=Utf8.runeError:=E7;split
 .split
  .omega
  .exact bE.2 hr
 .split
  .split
   .simp_all;omega
   .exact bE.2 hr
  .split
   .split
    .simp_all;omega
    .exact bE.2 hr
   .exact bE.2 hr
def oC(x:UInt8):Bool:=decide (x.toNat<32∨126<x.toNat)
def tY(s:B2):Prop:=s≠[]/\s.length<=100/\s.any oC=false
instance(s:B2):Decidable (tY s):=by unfold tY;infer_instance
def XP{s:B2}{k:Int}(h0:0<=k)(h1:k<s.length):(qH s k<32∨126<qH s k↔oC (s.getD k.toNat default)=true)/\(¬(qH s k<32∨126<qH s k)->QL s k=k+1):=by
 show(_↔oC (s.getD k.toNat 0)=true)/\_;unfold oC;rw[decide_eq_true_iff];by_cases h:((s.getD k.toNat 0).toNat:Int)<128
 .obtain⟨b,c⟩:=A2u h;rw[b,c];exact⟨A2,fun _=>rfl⟩
 .have:=A2v h;exact⟨A2,fun k=>by omega⟩
def iF{α:Type}{p:α->Bool}{l:List α}(h:J2 p l i=none):l.any p=false:=by
 induction l generalizing i with
 | nil=>rfl
 | cons a l b =>
   unfold J2 at h;cases hp:p a with
   | true=>rw[hp]at h;cases h
   | false=>rw[hp]at h;rw[P8,hp,b h];rfl
def fB{α:Type}{p:α->Bool}{l:List α}(h:J2 p l i=some j):l.any p=true/\i<=j:=by
 induction l generalizing i with
 | nil=>cases h
 | cons a l b =>
   unfold J2 at h;cases hp:p a with
   | true=>rw[hp]at h;cases h;rw[P8,hp];exact⟨rfl,Int.le_refl _⟩
   | false=>rw[hp]at h;rw[P8,(b h).1,Bool.or_true];exact⟨rfl,by have:=(b h).2;omega⟩
def A8A(b:Bool):evU (.bin .eql) [.bool b,.bool true]=.bool b:=by cases b<;>rfl
noncomputable def B08:R3:=⟨_,fun b=>(.cons (A0t b) .nil)⟩
def rR:List U->Option (Nat×List U)
 | [.int .i64 k,.int .i64 c,.int .i64 m,.int .i64 w,.int .i64 b,.int .i64 r,.int .i64 cl,.str t]=>if -9223372036854775808<=m/\m<=9223372036854775807/\(t.length:Int)<=140737488351232 then some (0,[.bool (decide (k=1/\W3 k c m w b r cl t))])else none
 | _=>none
def GB(k:Int)(c:Int)(m:Int)(w:Int)(b:Int)(r:Int)(cl:Int)(t:B2)(d : -9223372036854775808<=m/\m<=9223372036854775807/\(t.length:Int)<=140737488351232):rR [.int .i64 k,.int .i64 c,.int .i64 m,.int .i64 w,.int .i64 b,.int .i64 r,.int .i64 cl,.str t]=some (0,[.bool (decide (k=1/\W3 k c m w b r cl t))]):=A9 d
def A58:Tr:=K3 0 8 1 (.fn rJ [h3 0,h3 1,h3 2,h3 3,h3 4,h3 5,h3 6,h 7 9] 1<|aE [h3 9,jI 0]<|.ret [h 10 8]) H3
def A1H{G}(l:L1 G):M3 prog G 52 [.a [3,3,3,3,3,3,3,9]] rR [.s 8]:=by
 refine G3 (d:=60) A58 (cxg (B08.2 l) .nil) l ⟨f52,_,func52,rfl⟩ C6 C6 ?_;intro us outs f;unfold rR at f;split at f
 .skip;rename_i k c m w b r cl t;split at f
  .rename_i n;cases f;unfold A58;refine w0 (.cons 7 _ (.cons 6 _ (.cons 5 _ (.cons 4 _ (.cons 3 _ (.cons 2 _ (.cons 1 _ (.cons 0 _ (.nil))))))))) ?_;repeat (first|refine fM ?_|(refine w7 [.bool _] ?_;rotate_left)|refine w4 (fun g=>?_) fun g=>?_|refine w31 rJ (e:=FV _ _ _ _ _ _ _ _ n) (k':=?_))
   all_goals
    refine l1 ?_;first|(symm;exact E0 (by simp_all))|(refine decide_eq_decide.2 ?_;by_cases h:W3 k c m w b r cl t<;>simp_all;done)
  .cases f
 .cases f
noncomputable def B0l:R3:=⟨_,fun b=>(.cons (QR b) .nil)⟩
def xN:List U->Option (Nat×List U)
 | [.int .i64 k,.int .i64 c,.int .i64 m,.int .i64 w,.int .i64 b,.int .i64 r,.int .i64 cl,.str t]=>if -9223372036854775808<=m/\m<=9223372036854775807/\(t.length:Int)<=140737488351232 then some (0,[.bool (decide (k=1/\W3 k c m w b r cl t))])else none
 | _=>none
def QP(k:Int)(c:Int)(m:Int)(w:Int)(b:Int)(r:Int)(cl:Int)(t:B2)(d : -9223372036854775808<=m/\m<=9223372036854775807/\(t.length:Int)<=140737488351232):xN [.int .i64 k,.int .i64 c,.int .i64 m,.int .i64 w,.int .i64 b,.int .i64 r,.int .i64 cl,.str t]=some (0,[.bool (decide (k=1/\W3 k c m w b r cl t))]):=A9 d
def A4u:Tr:=K3 0 8 1 (.fn qR [h3 0,h3 1,h3 2,h3 3,h3 4,h3 5,h3 6,h 7 9] 1<|.ret [h 9 8]) H3
def QQ{G}(l:L1 G):M3 prog G 54 [.a [3,3,3,3,3,3,3,9]] xN [.s 8]:=by
 refine G3 (d:=60) A4u (cxg (B0l.2 l) .nil) l ⟨f54,_,func54,rfl⟩ C6 C6 ?_;intro us outs f;unfold xN at f;split at f
 .skip;rename_i k c m w b r cl t;split at f
  .rename_i n;cases f;unfold A4u;refine w0 (.cons 7 _ (.cons 6 _ (.cons 5 _ (.cons 4 _ (.cons 3 _ (.cons 2 _ (.cons 1 _ (.cons 0 _ (.nil))))))))) ?_;repeat (first|(refine w7 [.bool _] ?_;rotate_left)|refine fM ?_|refine w4 (fun g=>?_) fun g=>?_|refine w31 qR (e:=EZ _ _ _ _ _ _ _ _ n) (k':=?_))
   all_goals
    refine l1 ?_;first|(symm;exact E0 (by simp_all))|(refine decide_eq_decide.2 ?_;simp_all;done)
  .cases f
 .cases f
noncomputable def B07:R3:=⟨_,fun b=>.nil⟩
def yU:List U->Option (Nat×List U)
 | [.str s,.int .i64 p]=>if 0<=p/\p<=(s.length:Int)/\(s.length:Int)<=140737488351232 then X5 (J2 oC (s.drop p.toNat) p) [] (fun j=>[.int .i64 j])else none
 | _=>none
def rO(s:B2)(p:Int)(b:0<=p/\p<=(s.length:Int)/\(s.length:Int)<=140737488351232):yU [.str s,.int .i64 p]=X5 (J2 oC (s.drop p.toNat) p) [] (fun j=>[.int .i64 j]):=A9 b
def A57:S0:=⟨[(1,.func (.func 95) ⟨[]⟩ ⟨[]⟩),(2,.bool true),(10,.pointer (some ⟨16,0,none⟩))],[(16,.iter [h 0 9,h 1 3])],2,[⟨.exit 0,[],[],0⟩,⟨.ret,[(6,h 0 3)],[],1⟩]⟩
noncomputable def A1B:Code:=(f113.body).getD .skip
noncomputable def A52:Code:=match G6 [true,false,true,false] A1B with|some (.loop x)=>x|_=>.skip
def A56:f113.body=some A1B:=rfl
def A54:G6 [true,false,true,false] A1B=some (.loop A52):=C6
def A53:Tr:=aD [h 0 9]<|W9 1 2 3 (.lt 2 (.rune) [h 0 9,h3 1]<|.lt 3 (.rpos) [h 0 9,h3 1]<|aL [h 4 2,.int .i32 (32)]<|.br 6 (.ret [jI 1,h3 1]) (aG [h 4 2,.int .i32 (126)]<|aE [h 7 8,.bool true]<|.br 8 (.ret [jI 1,h3 1]) (.ret [jI (-1),h 0 9,h3 5]))) (I2 0)
def A55:List U->Nat
 | [.str s,.int .i64 p]=>((s.length:Int)-p).toNat
 | _=>0
def A1A(s:B2)(p:Int):A55 [.str s,.int .i64 p]=((s.length:Int)-p).toNat:=rfl
def A9e{G}(k:L1 G):∀ (E:Nat->U) (base:Nat),@R0 ⟨E,G⟩ prog base gl f113.ntmps A52 (N0 prog gl n0 17 A57 yU):=by
 refine U5 (dep:=60) (f:=113) (n0:=n0) (nB:=17) (H0:=H0) A55 A53 (cxg (B07.2 k) .nil) k func113 A56 A54 C6 C6 C6 ?_;intro us d outs c;have n:=c;unfold yU at c;split at c
 .skip;rename_i s p;split at c
  .rename_i b;clear c n;have zr:p<(s.length:Int)->_:=fun h=>XP b.1 h
   refine⟨rfl,?_⟩;unfold A53;refine w0 (.cons 1 _ (.cons 0 _ (.nil))) ?_;repeat (first|refine w4 (fun g=>?_) fun g=>?_|refine dC ?_|(refine w7 [.int .i64 _,.int .i64 _] ?_;rotate_left)|refine nW ?_|refine w1 (.rune) (e:=A3h A2) (k':=?_)|refine w1 (.rpos) (e:=A3i A2) (k':=?_)|refine wW ?_|refine w1 (.bin .eql) (e:=A8A _) (k':=?_)|(refine w7 [.int .i64 _,.str _,.int .i64 _] ?_;rotate_left)|(refine w7 [.int .i64 _] ?_;rotate_left))
   all_goals first
    | refine N2 ?_ ?_
      .have l:=zr ‹_›;have m:=l.2 A2;rw[m,rO s (p+1) ⟨A2,A2,b.2.2⟩,rO s p b,Z6 (i:=p) b.1 ‹_› (by cases q:oC (s.getD p.toNat default)with|false=>rfl|true=>exact absurd (l.1.2 q) A2)]
      .have l:=zr ‹_›;have m:=l.2 A2;rw[m,A1A,A1A];omega
    | refine I5 (d:=0) ?_
      rw[rO s p b,u9 A2];rfl
    | refine I5 (d:=1) ?_
      rw[rO s p b,u7 b.1 ‹_› ((zr ‹_›).1.1 A2)];rfl
  .cases c
 .cases c
noncomputable def B1Q:List LpE:=(113,([true,false,true,false],N0 prog gl n0 17 A57 yU))::[]
def A2X{G}(b:L1 G):Y1 prog G gl B1Q:=.cons func113 A56 A54 (A9e b) .nil
noncomputable def B0c:R3:=⟨_,fun b=>.nil⟩
def HP:List U->Option (Nat×List U)
 | [.str s]=>if(s.length:Int)<=140737488351232 then some (0,[.bool (decide (tY s))])else none
 | _=>none
def A2g(s:B2)(b:(s.length:Int)<=140737488351232):HP [.str s]=some (0,[.bool (decide (tY s))]):=A9 b
def A4S:Tr:=aN [h 0 9,.string ⟨⟨[]⟩⟩]<|.br 1 (aD [h 0 9]<|R5 2 3 100 (.lp yU [h 0 9,jI 0] 0 0 (bN) (.lp yU [h 0 9,jI 0] 1 1 (aL [h3 4,jI 0]<|.ret [h 5 8]) (.no))) H3) (H3)
def A4T{G}(c:L1 G):M3 prog G 61 [.s 9] HP [.s 8]:=by
 refine G3 (d:=60) A4S (cxg (B0c.2 c) (A2X c)) c ⟨f61,_,func61,rfl⟩ C6 C6 ?_;intro us outs b;unfold HP at b;split at b
 .skip;rename_i s;split at b
  .rename_i e;cases b;unfold A4S;refine w0 (.cons 0 _ (.nil)) ?_;repeat (first|(refine w7 [.bool _] ?_;rotate_left)|refine w4 (fun g=>?_) fun g=>?_|refine WJ ?_|refine nW ?_|refine pZ ?_|(refine w6 yU (rO _ _ ⟨A2,A2,e⟩) (h0:=fun g=>?_) (h1:=fun v g=>?_);skip;rotate_left;show Wk _ _ (.cons _ _ _);rotate_right)|refine dC ?_)
   all_goals
    refine l1 ?_;symm;first
    | (refine E0 (fun h=>?_);have:=h.1;simp_all;done)
    | exact E0 (fun h=>by have:=h.2.1;omega)
    | exact J6 ⟨by assumption,A2,iF (l:=s) ‹_›⟩
    | (have b:=fB (l:=s) ‹_›
       first
       | exact(E0 (fun h=>by rw[h.2.2]at b;cases b.1)).trans (E0 A2).symm
       | exact E0 (fun h=>by rw[h.2.2]at b;cases b.1))
  .cases b
 .cases b
def rG:Rw (Int×Int×Int×Int×Int×Int×Int×B2×B2×Bool):=rC (Q2 .i64) (rC (Q2 .i64) (rC (Q2 .i64) (rC (Q2 .i64) (rC (Q2 .i64) (rC (Q2 .i64) (rC (Q2 .i64) (rC zX (rC zX (r1 TI)))))))))
def rP:Rw (Int×Int×Int×Int×Int×Int×Int×B2×Int×Int×Int×Int×Int×Int×Int×B2×B2×Bool):=rC (Q2 .i64) (rC (Q2 .i64) (rC (Q2 .i64) (rC (Q2 .i64) (rC (Q2 .i64) (rC (Q2 .i64) (rC (Q2 .i64) (rC zX (rC (Q2 .i64) (rC (Q2 .i64) (rC (Q2 .i64) (rC (Q2 .i64) (rC (Q2 .i64) (rC (Q2 .i64) (rC (Q2 .i64) (rC zX (rC zX (r1 TI)))))))))))))))))
abbrev Xt:=B2u
abbrev Gt:=(Int×Int×Int×Int×Int×Int×Int×B2×B2×Bool)
abbrev Pt:=(Int×Int×Int×Int×Int×Int×Int×B2×Int×Int×Int×Int×Int×Int×Int×B2×B2×Bool)
def gK(g:Gt):Xt:=(g.1,g.2.1,g.2.2.1,g.2.2.2.1,g.2.2.2.2.1,g.2.2.2.2.2.1,g.2.2.2.2.2.2.1,g.2.2.2.2.2.2.2.1)
def gC(g:Gt):B2:=g.2.2.2.2.2.2.2.2.1
def gR(g:Gt):Bool:=g.2.2.2.2.2.2.2.2.2
def pOf(g:Gt):Pt:=(g.1,g.2.1,g.2.2.1,g.2.2.2.1,g.2.2.2.2.1,g.2.2.2.2.2.1,g.2.2.2.2.2.2.1,g.2.2.2.2.2.2.2.1,g)
def pK(a:Pt):Xt:=(a.1,a.2.1,a.2.2.1,a.2.2.2.1,a.2.2.2.2.1,a.2.2.2.2.2.1,a.2.2.2.2.2.2.1,a.2.2.2.2.2.2.2.1)
def pG(a:Pt):Gt:=a.2.2.2.2.2.2.2.2
def pQ(a b:Pt):Bool:=(a.1 == b.1 && (a.2.1 == b.2.1 && (a.2.2.1 == b.2.2.1 && (a.2.2.2.1 == b.2.2.2.1 && (a.2.2.2.2.1 == b.2.2.2.2.1 && (a.2.2.2.2.2.1 == b.2.2.2.2.2.1 && (a.2.2.2.2.2.2.1 == b.2.2.2.2.2.2.1 && (a.2.2.2.2.2.2.2.1 == b.2.2.2.2.2.2.2.1 && true))))))))
def ixS(M:Option (List Pt)):List Gt->Option (List Pt)
 | []=>M
 | g::l=>ixS (QG pQ M (pOf g)) l
def KK{M:Option (List Pt)}{l:List Gt}(h0:0<=i)(h1:i<(l.length:Int)):ixS M (l.drop i.toNat)=ixS (QG pQ M (pOf (l.getD i.toNat default))) (l.drop (i+1).toNat):=by
 rw[U1 l h0 h1];rfl
def QF{M:Option (List Pt)}{a:Pt}(h:M≠none):QG pQ M a≠none:=by
 cases M with
 | none=>exact absurd rfl h
 | some x=>intro h;cases h
noncomputable def B06:R3:=⟨_,fun b=>.nil⟩
def lW:List U->Option (Nat×List U)
 | [u_l,.int .i64 n,.int .i64 i,u_M]=>(L4 rG u_l).bind fun l=>(L4 rP u_M).bind fun M=>if n=((el l).length:Int)/\0<=i/\i<=n/\n<=140737488351232/\M≠none then some (0,[D9 rP (ixS M ((el l).drop i.toNat))])else none
 | _=>none
def rN(l:(Option (List (Int×Int×Int×Int×Int×Int×Int×B2×B2×Bool))))(n:Int)(i:Int)(M:(Option (List (Int×Int×Int×Int×Int×Int×Int×B2×Int×Int×Int×Int×Int×Int×Int×B2×B2×Bool))))(b:n=((el l).length:Int)/\0<=i/\i<=n/\n<=140737488351232/\M≠none):lW [D9 rG l,.int .i64 n,.int .i64 i,D9 rP M]=some (0,[D9 rP (ixS M ((el l).drop i.toNat))]):=by
 simp only[lW,I0,F5];exact A9 b
def SE:S0:=⟨[(3,.map (some 19)),(8,dat 20 0 20),(9,h 1 3),(10,h 2 3)],[(19,.mp 3 28 60),(20,.frz)],4,[⟨.exit 0,[(3,.map (some 19))],[(19,.mp 0 28 60)],1⟩]⟩
noncomputable def A0_:Code:=(f41.body).getD .skip
noncomputable def A50:Code:=match G6 [true,true,false,true,false] A0_ with|some (.loop x)=>x|_=>.skip
def SD:f41.body=some A0_:=rfl
def SC:G6 [true,true,false,true,false] A0_=some (.loop A50):=C6
def y9(a0:Nat)(c:Nat)(a2:Nat)(b:Tr):Tr:=.lt 8 (.inbs 10) [h3 c,h a0 20]<|.br a2 b .no
def A51:Tr:=W9 2 1 4 (y9 0 2 5 (.lt 3 (.get 10 0) [h 0 20,h3 2]<|.lt 3 (.get 10 1) [h 0 20,h3 2]<|.lt 3 (.get 10 2) [h 0 20,h3 2]<|.lt 3 (.get 10 3) [h 0 20,h3 2]<|.lt 3 (.get 10 4) [h 0 20,h3 2]<|.lt 3 (.get 10 5) [h 0 20,h3 2]<|.lt 3 (.get 10 6) [h 0 20,h3 2]<|.lt 9 (.get 10 7) [h 0 20,h3 2]<|.lt 9 (.get 10 8) [h 0 20,h3 2]<|.lt 8 (.get 10 9) [h 0 20,h3 2]<|.dt 28 (.mput 18 8) [h 3 28,h3 6,h3 7,h3 8,h3 9,h3 10,h3 11,h3 12,h 13 9,h3 6,h3 7,h3 8,h3 9,h3 10,h3 11,h3 12,h 13 9,h 14 9,h 15 8]<|aA [h3 2,jI 1]<|.ret [jI (-1),h 0 20,h3 1,h3 17,h 16 28])) (.ret [jI 0,h 3 28])
def A08:List U->Nat
 | [u_l,.int .i64 n,.int .i64 i,u_M]=>(match L4 rG u_l with|some l=>(match L4 rP u_M with|some M=>(n-i).toNat|none=>0)|none=>0)
 | _=>0
def A07(l:(Option (List (Int×Int×Int×Int×Int×Int×Int×B2×B2×Bool))))(n:Int)(i:Int)(M:(Option (List (Int×Int×Int×Int×Int×Int×Int×B2×Int×Int×Int×Int×Int×Int×Int×B2×B2×Bool)))):A08 [D9 rG l,.int .i64 n,.int .i64 i,D9 rP M]=(n-i).toNat:=by
 simp only[A08,I0]
def A09{G}(p:L1 G):∀ (E:Nat->U) (base:Nat),@R0 ⟨E,G⟩ prog base gl f41.ntmps A50 (N0 prog gl n0 21 SE lW):=by
 refine U5 (dep:=60) (f:=41) (n0:=n0) (nB:=21) (H0:=H0) A08 A51 (cxg (B06.2 p) .nil) p func41 SD SC C6 C6 C6 ?_;intro us d outs c;have t:=c;unfold lW at c;split at c
 .skip;rename_i v n i w;have q:=B3.1 c;clear c;obtain⟨l,k,c⟩:=q;replace k:=I6 k;subst k;have s:=B3.1 c;clear c;obtain⟨M,m,c⟩:=s;replace m:=I6 m;subst m;split at c
  .rename_i o;clear c t;refine⟨rfl,?_⟩;unfold A51;refine w0 (.cons 3 _ (.cons 2 _ (.cons 1 _ (.cons 0 _ (.nil))))) ?_;repeat (first|refine w4 (fun g=>?_) fun g=>?_|refine dU ?_|refine Y5 ?_|refine dC ?_|refine dI ?_|refine w1 (.get 10 0) (u:=.int .i64 _) (e:=D1 rfl A2 A2 rfl) (k':=?_)|refine w1 (.get 10 1) (u:=.int .i64 _) (e:=D1 rfl A2 A2 rfl) (k':=?_)|refine w1 (.get 10 2) (u:=.int .i64 _) (e:=D1 rfl A2 A2 rfl) (k':=?_)|refine w1 (.get 10 3) (u:=.int .i64 _) (e:=D1 rfl A2 A2 rfl) (k':=?_)|refine w1 (.get 10 4) (u:=.int .i64 _) (e:=D1 rfl A2 A2 rfl) (k':=?_)|refine w1 (.get 10 5) (u:=.int .i64 _) (e:=D1 rfl A2 A2 rfl) (k':=?_)|refine w1 (.get 10 6) (u:=.int .i64 _) (e:=D1 rfl A2 A2 rfl) (k':=?_)|refine w1 (.get 10 7) (u:=.str _) (e:=D1 rfl A2 A2 rfl) (k':=?_)|refine w1 (.get 10 8) (u:=.str _) (e:=D1 rfl A2 A2 rfl) (k':=?_)|refine w1 (.get 10 9) (u:=.bool _) (e:=D1 rfl A2 A2 rfl) (k':=?_)|refine w2 (.mput 18 8) (r:=rP) (e:=LH (fun a b=>(a.1 == b.1 && (a.2.1 == b.2.1 && (a.2.2.1 == b.2.2.1 && (a.2.2.2.1 == b.2.2.2.1 && (a.2.2.2.2.1 == b.2.2.2.2.1 && (a.2.2.2.2.2.1 == b.2.2.2.2.2.1 && (a.2.2.2.2.2.2.1 == b.2.2.2.2.2.2.1 && (a.2.2.2.2.2.2.2.1 == b.2.2.2.2.2.2.2.1 && true))))))))) (_,_,_,_,_,_,_,_,_,_,_,_,_,_,_,_,_,_) rfl rfl (fun _=>rfl) o.2.2.2.2) (k':=?_)|(refine w7 [.int .i64 _,D9 rG _,.int .i64 _,.int .i64 _,D9 rP _] ?_;rotate_left)|(refine w8 ?_;first|omega)|(refine w7 [.int .i64 _,D9 rP _] ?_;rotate_left))
   all_goals first
    | refine N2 ?_ ?_
      .rw[rN l n i M o,KK (l:=el l) o.2.1 A2];exact rN l n (i+1) _ ⟨o.1,A2,A2,o.2.2.2.1,QF o.2.2.2.2⟩
      .rw[A07,A07];omega
    | refine I5 (d:=0) ?_
      rw[rN l n i M o,cV (el l) A2];rfl
  .cases c
 .cases c
end Go.Proofs.YtbbicpheoakeeaaGreatDoor
