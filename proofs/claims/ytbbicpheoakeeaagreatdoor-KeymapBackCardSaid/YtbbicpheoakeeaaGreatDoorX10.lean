import Derived.Test.YtbbicpheoakeeaaGreatDoorX9
import Derived.Shelf.Strings.Builder1
import Derived.Shelf.Strings.Builder2
import Derived.Shelf.Strings.OnBuilder
import Derived.Shelf.Small.Utf8
import Derived.Shelf.Small.Wraps
import Derived.Shelf.Strings.BuilderF
import Derived.Shelf.Strings.BuilderK
import Derived.Shelf.Utf8.RuneCount
import Derived.Shelf.Strings.Builder2Cap
import Derived.Shelf.Strconv.Itoa0
import Derived.Shelf.Strconv.Itoa1
import Derived.Shelf.LaysM
import Derived.Shelf.Strconv.Itoa2
import Derived.Shelf.Strconv.Itoa3
import Derived.Shelf.Strconv.Clone
import Derived.Shelf.Strings.Search1
import Derived.Shelf.Strings.Search2
import Derived.Shelf.Strings.Search3
import Derived.Shelf.Strings.Cut
import Derived.Shelf.Strings.Count
import Derived.Shelf.Strings.Shaped
import Derived.Shelf.Strings.Prefix
import Derived.Shelf.Strings.Split
import Derived.Shelf.Strings.Fields
import Derived.Shelf.Strings.SplitShaped
import Derived.Shelf.Unicode.Latin
import Derived.Shelf.Unicode.Decode
import Derived.Shelf.Strings.RuneCount
import Derived.Shelf.Bits.Mul64
import Derived.Shelf.Strings.Repeat
import Derived.Shelf.Unicode.DecodeSlow
import Derived.Shelf.Unicode.DecodeAny
import Derived.Shelf.Unicode.Is16White
import Derived.Shelf.Unicode.IsSpaceAny
import Derived.Shelf.Unicode.CaseLookup
import Derived.Shelf.Unicode.CaseConvert
import Derived.Shelf.Unicode.CaseTo
import Derived.Shelf.Unicode.CaseLaid
import Derived.Shelf.Unicode.Is16Any
import Derived.Shelf.Unicode.Is32Any
import Derived.Shelf.Unicode.ExclAny
import Derived.Shelf.Strings.BuilderCap
import Derived.Shelf.Slices.Turned
import Derived.Test.YtbbicpheoakeeaaGreatDoorProg
set_option linter.all false
set_option maxRecDepth 100000
set_option maxHeartbeats 4000000
namespace Go.Proofs
open Go.Shelf
def Tryz.lays158_ren:Go.Shelf.Ren:=⟨fun|158=>107|165=>72|166=>57|167=>123|169=>59|230=>124|203=>125|240=>92|241=>104|197=>119|118=>139|168=>140|270=>141|262=>142|276=>112|277=>122|260=>138|242=>150|313=>151|278=>154|274=>155|275=>156|n=>n,fun|9=>9|4=>4|3=>3|5=>5|72=>103|0=>0|76=>106|75=>105|107=>173|70=>101|20=>20|37=>26|127=>137|21=>21|105=>158|164=>155|162=>203|203=>201|119=>116|46=>119|139=>199|138=>198|51=>22|160=>208|208=>216|206=>214|80=>109|n=>n,fun|13=>9|3=>7|4=>8|n=>n⟩
def Tryz.lays158:Go.Proofs.Lays.n158 Tryz.prog Tryz.lays158_ren:={
 mixed:=C8
 f118:=K6 Tryz.func139
 f158:=K6 Tryz.func107
 f165:=K6 Tryz.func72
 f166:=K6 Tryz.func57
 f167:=K6 Tryz.func123
 f168:=K6 Tryz.func140
 f169:=K6 Tryz.func59
 f197:=K6 Tryz.func119
 f203:=K6 Tryz.func125
 f230:=K6 Tryz.func124
 f240:=K6 Tryz.func92
 f241:=K6 Tryz.func104
 f242:=K6 Tryz.func150
 f260:=K6 Tryz.func138
 f262:=K6 Tryz.func142
 f270:=K6 Tryz.func141
 f274:=K6 Tryz.func155
 f275:=K6 Tryz.func156
 f276:=K6 Tryz.func112
 f277:=K6 Tryz.func122
 f278:=K6 Tryz.func154
 f313:=K6 Tryz.func151
 t0:=Tryz.underlying0
 a0:=Tryz.isAgg0
 z0:=Tryz.sizeOf0
 v0:=Tryz.zeroValue0
 t3:=Tryz.underlying3
 a3:=Tryz.isAgg3
 z3:=Tryz.sizeOf3
 v3:=Tryz.zeroValue3
 t4:=Tryz.underlying4
 a4:=Tryz.isAgg4
 z4:=Tryz.sizeOf4
 v4:=Tryz.zeroValue4
 t5:=Tryz.underlying5
 a5:=Tryz.isAgg5
 z5:=Tryz.sizeOf5
 v5:=Tryz.zeroValue5
 t9:=Tryz.underlying9
 a9:=Tryz.isAgg9
 z9:=Tryz.sizeOf9
 v9:=Tryz.zeroValue9
 t20:=Tryz.underlying20
 a20:=Tryz.isAgg20
 z20:=Tryz.sizeOf20
 v20:=Tryz.zeroValue20
 t21:=Tryz.underlying21
 a21:=Tryz.isAgg21
 z21:=Tryz.sizeOf21
 v21:=Tryz.zeroValue21
 t37:=Tryz.underlying26
 a37:=Tryz.isAgg26
 z37:=Tryz.sizeOf26
 v37:=Tryz.zeroValue26
 t46:=Tryz.underlying119
 a46:=Tryz.isAgg119
 z46:=Tryz.sizeOf119
 v46:=Tryz.zeroValue119
 t51:=Tryz.underlying22
 a51:=Tryz.isAgg22
 z51:=Tryz.sizeOf22
 v51:=Tryz.zeroValue22
 t70:=Tryz.underlying101
 a70:=Tryz.isAgg101
 z70:=Tryz.sizeOf101
 v70:=Tryz.zeroValue101
 t72:=Tryz.underlying103
 a72:=Tryz.isAgg103
 z72:=Tryz.sizeOf103
 v72:=Tryz.zeroValue103
 t75:=Tryz.underlying105
 a75:=Tryz.isAgg105
 z75:=Tryz.sizeOf105
 v75:=Tryz.zeroValue105
 t76:=Tryz.underlying106
 a76:=Tryz.isAgg106
 z76:=Tryz.sizeOf106
 v76:=Tryz.zeroValue106
 t105:=Tryz.underlying158
 a105:=Tryz.isAgg158
 z105:=Tryz.sizeOf158
 v105:=Tryz.zeroValue158
 t107:=Tryz.underlying173
 a107:=Tryz.isAgg173
 z107:=Tryz.sizeOf173
 v107:=Tryz.zeroValue173
 t119:=Tryz.underlying116
 a119:=Tryz.isAgg116
 z119:=Tryz.sizeOf116
 t127:=Tryz.underlying137
 a127:=Tryz.isAgg137
 z127:=Tryz.sizeOf137
 v127:=Tryz.zeroValue137
 t138:=Tryz.underlying198
 a138:=Tryz.isAgg198
 z138:=Tryz.sizeOf198
 v138:=Tryz.zeroValue198
 t139:=Tryz.underlying199
 a139:=Tryz.isAgg199
 z139:=Tryz.sizeOf199
 v139:=Tryz.zeroValue199
 t160:=Tryz.underlying208
 a160:=Tryz.isAgg208
 z160:=Tryz.sizeOf208
 v160:=Tryz.zeroValue208
 t162:=Tryz.underlying203
 a162:=Tryz.isAgg203
 z162:=Tryz.sizeOf203
 v162:=Tryz.zeroValue203
 t164:=Tryz.underlying155
 a164:=Tryz.isAgg155
 z164:=Tryz.sizeOf155
 v164:=Tryz.zeroValue155
 t203:=Tryz.underlying201
 a203:=Tryz.isAgg201
 z203:=Tryz.sizeOf201
 v203:=Tryz.zeroValue201
 t206:=Tryz.underlying214
 a206:=Tryz.isAgg214
 z206:=Tryz.sizeOf214
 v206:=Tryz.zeroValue214
 t208:=Tryz.underlying216
 a208:=Tryz.isAgg216
 z208:=Tryz.sizeOf216
 v208:=Tryz.zeroValue216
 g3:=C8
 g4:=C8
 g13:=by kernel_rfl }
def Tryz.Builder_Extra_158:Builder.Extra Tryz.prog Tryz.lays158_ren:={
 sizeBuilder:=C8
 liesBuilder:=C8
 t5:=Tryz.underlying5
 a5:=Tryz.isAgg5
 z5:=Tryz.sizeOf5
 v5:=Tryz.zeroValue5
 infoByte:=C8
 cellsByte:=C8
 sizeByte:=C8
 neB5:=by decide }
open Go.RowKit in
def Tryz.strings_ToUpper_ascii(s:ByteArray)(w:World)(d:s.size<=140737488355328)(c:∀ (j:Nat) (b:UInt8),s.data.toList[j]? = some b->b.toNat<128) :
  Calls Tryz.prog 107 #[.string s] w fun e w'=>e=.returned (.string ⟨(Lib.toUpperA s.data.toList).toArray⟩)/\Below w.heap.size w w':=Any.strings_ToUpper_ascii Tryz.lays158 Tryz.Builder_Extra_158 s w d c
def Tryz.lays156_ren:Go.Shelf.Ren:=⟨fun|156=>93|165=>72|166=>57|169=>59|240=>92|241=>104|276=>112|277=>122|n=>n,fun|31=>68|9=>9|3=>3|4=>4|0=>0|20=>20|72=>103|76=>106|70=>101|37=>26|75=>105|127=>137|164=>155|5=>5|80=>109|n=>n,fun|n=>n⟩
def Tryz.lays156:Go.Proofs.Lays.n156 Tryz.prog Tryz.lays156_ren:={
 mixed:=C8
 f156:=K6 Tryz.func93
 f165:=K6 Tryz.func72
 f166:=K6 Tryz.func57
 f169:=K6 Tryz.func59
 f240:=K6 Tryz.func92
 f241:=K6 Tryz.func104
 f276:=K6 Tryz.func112
 f277:=K6 Tryz.func122
 t0:=Tryz.underlying0
 a0:=Tryz.isAgg0
 z0:=Tryz.sizeOf0
 v0:=Tryz.zeroValue0
 t3:=Tryz.underlying3
 a3:=Tryz.isAgg3
 z3:=Tryz.sizeOf3
 v3:=Tryz.zeroValue3
 t4:=Tryz.underlying4
 a4:=Tryz.isAgg4
 z4:=Tryz.sizeOf4
 v4:=Tryz.zeroValue4
 t9:=Tryz.underlying9
 a9:=Tryz.isAgg9
 z9:=Tryz.sizeOf9
 v9:=Tryz.zeroValue9
 t20:=Tryz.underlying20
 a20:=Tryz.isAgg20
 z20:=Tryz.sizeOf20
 v20:=Tryz.zeroValue20
 t31:=Tryz.underlying68
 a31:=Tryz.isAgg68
 z31:=Tryz.sizeOf68
 v31:=Tryz.zeroValue68
 t37:=Tryz.underlying26
 a37:=Tryz.isAgg26
 z37:=Tryz.sizeOf26
 v37:=Tryz.zeroValue26
 t70:=Tryz.underlying101
 a70:=Tryz.isAgg101
 z70:=Tryz.sizeOf101
 v70:=Tryz.zeroValue101
 t72:=Tryz.underlying103
 a72:=Tryz.isAgg103
 z72:=Tryz.sizeOf103
 v72:=Tryz.zeroValue103
 t75:=Tryz.underlying105
 a75:=Tryz.isAgg105
 z75:=Tryz.sizeOf105
 v75:=Tryz.zeroValue105
 t76:=Tryz.underlying106
 a76:=Tryz.isAgg106
 z76:=Tryz.sizeOf106
 v76:=Tryz.zeroValue106
 t127:=Tryz.underlying137
 a127:=Tryz.isAgg137
 z127:=Tryz.sizeOf137
 v127:=Tryz.zeroValue137
 t164:=Tryz.underlying155
 a164:=Tryz.isAgg155
 z164:=Tryz.sizeOf155
 v164:=Tryz.zeroValue155 }
def Tryz.Builder_Extra_156:Builder.Extra Tryz.prog Tryz.lays156_ren:={
 sizeBuilder:=C8
 liesBuilder:=C8
 t5:=Tryz.underlying5
 a5:=Tryz.isAgg5
 z5:=Tryz.sizeOf5
 v5:=Tryz.zeroValue5
 infoByte:=C8
 cellsByte:=C8
 sizeByte:=C8
 neB5:=by decide }
open Go.RowKit in
def Tryz.strings_Join_none(a:Option Addr)(c:Nat)(sep:ByteArray)(w:World) :
  Calls Tryz.prog 93 #[.slice a 0 c,.string sep] w fun e w'=>e=.returned (.string ⟨#[]⟩)/\w'=w:=Any.strings_Join_none Tryz.lays156 Tryz.Builder_Extra_156 a c sep w
open Go.RowKit in
def Tryz.strings_Join(f o c:Nat)(xs:List ByteArray)(sep:ByteArray)(w:World)(b:∀ (j:Nat) x,xs[j]? = some x->w.cell? ⟨f,o+j,none⟩=some (.string x))(g:f<w.heap.size)(k:xs.length<=140737488355328)(d:xs.length<=c)(hlen:(Lib.join (xs.map (·.data.toList)) sep.data.toList).length<=140737488355328) :
  Calls Tryz.prog 93 #[.slice (some ⟨f,o,none⟩) xs.length c,.string sep] w fun e w'=>e=.returned (.string ⟨(Lib.join (xs.map (·.data.toList)) sep.data.toList).toArray⟩)/\Below w.heap.size w w':=Any.strings_Join Tryz.lays156 Tryz.Builder_Extra_156 f o c xs sep w b g k d hlen
def Tryz.laysM316_ren:Go.Shelf.Ren:=⟨fun|316=>143|n=>n,fun|9=>9|3=>3|4=>4|37=>26|0=>0|127=>137|5=>5|n=>n,fun|n=>n⟩
def Tryz.laysM316:Go.Proofs.LaysM.n316 Tryz.prog Tryz.laysM316_ren:={
 mixed:=C8
 f316:=K6 Tryz.func143
 t0:=Tryz.underlying0
 a0:=Tryz.isAgg0
 z0:=Tryz.sizeOf0
 v0:=Tryz.zeroValue0
 t3:=Tryz.underlying3
 a3:=Tryz.isAgg3
 z3:=Tryz.sizeOf3
 v3:=Tryz.zeroValue3
 t4:=Tryz.underlying4
 a4:=Tryz.isAgg4
 z4:=Tryz.sizeOf4
 v4:=Tryz.zeroValue4
 t9:=Tryz.underlying9
 a9:=Tryz.isAgg9
 z9:=Tryz.sizeOf9
 v9:=Tryz.zeroValue9
 t37:=Tryz.underlying26
 a37:=Tryz.isAgg26
 z37:=Tryz.sizeOf26
 v37:=Tryz.zeroValue26
 t127:=Tryz.underlying137
 a127:=Tryz.isAgg137
 z127:=Tryz.sizeOf137
 v127:=Tryz.zeroValue137
 t5:=Tryz.underlying5
 a5:=Tryz.isAgg5
 z5:=Tryz.sizeOf5
 v5:=Tryz.zeroValue5
 i0:=C8
 i3:=C8
 i4:=C8
 i5:=C8
 i9:=C8
 i37:=C8
 i127:=by kernel_rfl }
open Go.RowKit in
def Tryz.stringslite_Clone(s:ByteArray)(w:World)(b:s.size<=281474976710656) :
  Calls Tryz.prog 143 #[.string s] w fun e w'=>e=.returned (.string s)/\Below w.heap.size w w':=Any.stringslite_Clone Tryz.laysM316 s w b
def Tryz.lays143_ren:Go.Shelf.Ren:=⟨fun|143=>65|219=>97|217=>114|225=>115|224=>116|267=>117|266=>132|314=>133|n=>n,fun|9=>9|3=>3|4=>4|5=>5|46=>119|146=>146|51=>22|n=>n,fun|1=>2|n=>n⟩
def Tryz.lays143:Go.Proofs.Lays.n143 Tryz.prog Tryz.lays143_ren:={
 mixed:=C8
 f143:=K6 Tryz.func65
 f217:=K6 Tryz.func114
 f219:=K6 Tryz.func97
 f224:=K6 Tryz.func116
 f225:=K6 Tryz.func115
 f266:=K6 Tryz.func132
 f267:=K6 Tryz.func117
 f314:=K6 Tryz.func133
 t3:=Tryz.underlying3
 a3:=Tryz.isAgg3
 z3:=Tryz.sizeOf3
 v3:=Tryz.zeroValue3
 t4:=Tryz.underlying4
 a4:=Tryz.isAgg4
 z4:=Tryz.sizeOf4
 v4:=Tryz.zeroValue4
 t5:=Tryz.underlying5
 a5:=Tryz.isAgg5
 z5:=Tryz.sizeOf5
 v5:=Tryz.zeroValue5
 t9:=Tryz.underlying9
 a9:=Tryz.isAgg9
 z9:=Tryz.sizeOf9
 v9:=Tryz.zeroValue9
 t46:=Tryz.underlying119
 a46:=Tryz.isAgg119
 z46:=Tryz.sizeOf119
 v46:=Tryz.zeroValue119
 t51:=Tryz.underlying22
 a51:=Tryz.isAgg22
 z51:=Tryz.sizeOf22
 v51:=Tryz.zeroValue22
 t146:=Tryz.underlying146
 a146:=Tryz.isAgg146
 z146:=Tryz.sizeOf146
 v146:=Tryz.zeroValue146
 g1:=by kernel_rfl }
open Go.RowKit Go.Lib in
def Tryz.strings_Index_one(s:ByteArray)(c:UInt8)(w:World) :
  Calls Tryz.prog 65 #[.string s,.string ⟨#[c]⟩] w fun e w'=>e=.returned (.int .i64 (Lib.indexByte s.data.toList c))/\w'=w:=Any.strings_Index_one Tryz.lays143 s c w
def Tryz.lays144_ren:Go.Shelf.Ren:=⟨fun|144=>78|143=>65|219=>97|217=>114|225=>115|224=>116|267=>117|266=>132|314=>133|n=>n,fun|9=>9|4=>4|3=>3|5=>5|46=>119|146=>146|51=>22|n=>n,fun|1=>2|n=>n⟩
def Tryz.lays144:Go.Proofs.Lays.n144 Tryz.prog Tryz.lays144_ren:={
 mixed:=C8
 f143:=K6 Tryz.func65
 f144:=K6 Tryz.func78
 f217:=K6 Tryz.func114
 f219:=K6 Tryz.func97
 f224:=K6 Tryz.func116
 f225:=K6 Tryz.func115
 f266:=K6 Tryz.func132
 f267:=K6 Tryz.func117
 f314:=K6 Tryz.func133
 t3:=Tryz.underlying3
 a3:=Tryz.isAgg3
 z3:=Tryz.sizeOf3
 v3:=Tryz.zeroValue3
 t4:=Tryz.underlying4
 a4:=Tryz.isAgg4
 z4:=Tryz.sizeOf4
 v4:=Tryz.zeroValue4
 t5:=Tryz.underlying5
 a5:=Tryz.isAgg5
 z5:=Tryz.sizeOf5
 v5:=Tryz.zeroValue5
 t9:=Tryz.underlying9
 a9:=Tryz.isAgg9
 z9:=Tryz.sizeOf9
 v9:=Tryz.zeroValue9
 t46:=Tryz.underlying119
 a46:=Tryz.isAgg119
 z46:=Tryz.sizeOf119
 v46:=Tryz.zeroValue119
 t51:=Tryz.underlying22
 a51:=Tryz.isAgg22
 z51:=Tryz.sizeOf22
 v51:=Tryz.zeroValue22
 t146:=Tryz.underlying146
 a146:=Tryz.isAgg146
 z146:=Tryz.sizeOf146
 v146:=Tryz.zeroValue146
 g1:=by kernel_rfl }
open Go.RowKit Go.Lib in
def Tryz.strings_Contains_one(s:ByteArray)(c:UInt8)(w:World) :
  Calls Tryz.prog 78 #[.string s,.string ⟨#[c]⟩] w fun e w'=>e=.returned (.bool (decide (0<=Lib.indexByte s.data.toList c)))/\w'=w:=Any.strings_Contains_one Tryz.lays144 s c w
def Tryz.lays138_ren:Go.Shelf.Ren:=⟨fun|138=>29|195=>63|218=>64|143=>65|219=>97|217=>114|225=>115|224=>116|267=>117|266=>132|314=>133|n=>n,fun|9=>9|3=>3|4=>4|5=>5|0=>0|46=>119|146=>146|51=>22|n=>n,fun|1=>2|n=>n⟩
def Tryz.lays138:Go.Proofs.Lays.n138 Tryz.prog Tryz.lays138_ren:={
 mixed:=C8
 f138:=K6 Tryz.func29
 f143:=K6 Tryz.func65
 f195:=K6 Tryz.func63
 f217:=K6 Tryz.func114
 f218:=K6 Tryz.func64
 f219:=K6 Tryz.func97
 f224:=K6 Tryz.func116
 f225:=K6 Tryz.func115
 f266:=K6 Tryz.func132
 f267:=K6 Tryz.func117
 f314:=K6 Tryz.func133
 t0:=Tryz.underlying0
 a0:=Tryz.isAgg0
 z0:=Tryz.sizeOf0
 v0:=Tryz.zeroValue0
 t3:=Tryz.underlying3
 a3:=Tryz.isAgg3
 z3:=Tryz.sizeOf3
 v3:=Tryz.zeroValue3
 t4:=Tryz.underlying4
 a4:=Tryz.isAgg4
 z4:=Tryz.sizeOf4
 v4:=Tryz.zeroValue4
 t5:=Tryz.underlying5
 a5:=Tryz.isAgg5
 z5:=Tryz.sizeOf5
 v5:=Tryz.zeroValue5
 t9:=Tryz.underlying9
 a9:=Tryz.isAgg9
 z9:=Tryz.sizeOf9
 v9:=Tryz.zeroValue9
 t46:=Tryz.underlying119
 a46:=Tryz.isAgg119
 z46:=Tryz.sizeOf119
 v46:=Tryz.zeroValue119
 t51:=Tryz.underlying22
 a51:=Tryz.isAgg22
 z51:=Tryz.sizeOf22
 v51:=Tryz.zeroValue22
 t146:=Tryz.underlying146
 a146:=Tryz.isAgg146
 z146:=Tryz.sizeOf146
 v146:=Tryz.zeroValue146
 g1:=by kernel_rfl }
open Go.RowKit Go.Lib in
def Tryz.strings_Count_one(s:ByteArray)(c:UInt8)(w:World) :
  Calls Tryz.prog 29 #[.string s,.string ⟨#[c]⟩] w fun e w'=>e=.returned (.int .i64 (Lib.countByte s.data.toList c))/\w'=w:=Any.strings_Count_one Tryz.lays138 s c w
def Tryz.laysM145_ren:Go.Shelf.Ren:=⟨fun|145=>91|220=>111|219=>97|217=>114|225=>115|224=>116|267=>117|266=>132|314=>133|n=>n,fun|9=>9|4=>4|59=>99|3=>3|5=>5|46=>119|146=>146|51=>22|n=>n,fun|1=>2|n=>n⟩
def Tryz.laysM145:Go.Proofs.LaysM.n145 Tryz.prog Tryz.laysM145_ren:={
 mixed:=C8
 f145:=K6 Tryz.func91
 f217:=K6 Tryz.func114
 f219:=K6 Tryz.func97
 f220:=K6 Tryz.func111
 f224:=K6 Tryz.func116
 f225:=K6 Tryz.func115
 f266:=K6 Tryz.func132
 f267:=K6 Tryz.func117
 f314:=K6 Tryz.func133
 t3:=Tryz.underlying3
 a3:=Tryz.isAgg3
 z3:=Tryz.sizeOf3
 v3:=Tryz.zeroValue3
 t4:=Tryz.underlying4
 a4:=Tryz.isAgg4
 z4:=Tryz.sizeOf4
 v4:=Tryz.zeroValue4
 t5:=Tryz.underlying5
 a5:=Tryz.isAgg5
 z5:=Tryz.sizeOf5
 v5:=Tryz.zeroValue5
 t9:=Tryz.underlying9
 a9:=Tryz.isAgg9
 z9:=Tryz.sizeOf9
 v9:=Tryz.zeroValue9
 t46:=Tryz.underlying119
 a46:=Tryz.isAgg119
 z46:=Tryz.sizeOf119
 v46:=Tryz.zeroValue119
 t51:=Tryz.underlying22
 a51:=Tryz.isAgg22
 z51:=Tryz.sizeOf22
 v51:=Tryz.zeroValue22
 t59:=Tryz.underlying99
 a59:=Tryz.isAgg99
 z59:=Tryz.sizeOf99
 v59:=Tryz.zeroValue99
 t146:=Tryz.underlying146
 a146:=Tryz.isAgg146
 z146:=Tryz.sizeOf146
 v146:=Tryz.zeroValue146
 g1:=C8
 i3:=C8
 i4:=C8
 i5:=C8
 i9:=C8
 i46:=C8
 i51:=C8
 i59:=C8
 i146:=C8
 m1:=C8
 s1_3:=fun w h=>Go.Proofs.cell_of_shapedOpen_int (zero:=#[.int .i64 0]) (t:=3) h (J4 C8) C8 rfl C8 C8 Tryz.underlying3 }
open Go.RowKit Go.Lib in
def Tryz.strings_Cut_shaped(s sep:ByteArray)(w:World)(h:w.ShapedOpen Tryz.prog)(b:s.size<4294967281) :
  Calls Tryz.prog 91 #[.string s,.string sep] w fun e w'=>e=.returned (.tuple #[.string ⟨(Lib.cut s.data.toList sep.data.toList).1.toArray⟩,.string ⟨(Lib.cut s.data.toList sep.data.toList).2.1.toArray⟩,.bool (Lib.cut s.data.toList sep.data.toList).2.2])/\∃ n,w'=w.drewN n:=Any.strings_Cut_shaped Tryz.laysM145 s sep w h b
def Tryz.lays105_ren:Go.Shelf.Ren:=⟨fun|105=>34|212=>70|99=>71|165=>72|166=>57|170=>73|169=>59|263=>101|264=>102|206=>103|240=>92|241=>104|276=>112|277=>122|n=>n,fun|9=>9|3=>3|4=>4|20=>20|0=>0|46=>119|109=>120|5=>5|72=>103|76=>106|51=>22|146=>146|53=>132|148=>148|70=>101|37=>26|75=>105|127=>137|164=>155|80=>109|n=>n,fun|n=>n⟩
def Tryz.lays105:Go.Proofs.Lays.n105 Tryz.prog Tryz.lays105_ren:={
 mixed:=C8
 f99:=K6 Tryz.func71
 f105:=K6 Tryz.func34
 f165:=K6 Tryz.func72
 f166:=K6 Tryz.func57
 f169:=K6 Tryz.func59
 f170:=K6 Tryz.func73
 f206:=K6 Tryz.func103
 f212:=K6 Tryz.func70
 f240:=K6 Tryz.func92
 f241:=K6 Tryz.func104
 f263:=K6 Tryz.func101
 f264:=K6 Tryz.func102
 f276:=K6 Tryz.func112
 f277:=K6 Tryz.func122
 t0:=Tryz.underlying0
 a0:=Tryz.isAgg0
 z0:=Tryz.sizeOf0
 v0:=Tryz.zeroValue0
 t3:=Tryz.underlying3
 a3:=Tryz.isAgg3
 z3:=Tryz.sizeOf3
 v3:=Tryz.zeroValue3
 t4:=Tryz.underlying4
 a4:=Tryz.isAgg4
 z4:=Tryz.sizeOf4
 v4:=Tryz.zeroValue4
 t5:=Tryz.underlying5
 a5:=Tryz.isAgg5
 z5:=Tryz.sizeOf5
 v5:=Tryz.zeroValue5
 t9:=Tryz.underlying9
 a9:=Tryz.isAgg9
 z9:=Tryz.sizeOf9
 v9:=Tryz.zeroValue9
 t20:=Tryz.underlying20
 a20:=Tryz.isAgg20
 z20:=Tryz.sizeOf20
 v20:=Tryz.zeroValue20
 t37:=Tryz.underlying26
 a37:=Tryz.isAgg26
 z37:=Tryz.sizeOf26
 v37:=Tryz.zeroValue26
 t46:=Tryz.underlying119
 a46:=Tryz.isAgg119
 z46:=Tryz.sizeOf119
 v46:=Tryz.zeroValue119
 t51:=Tryz.underlying22
 a51:=Tryz.isAgg22
 z51:=Tryz.sizeOf22
 v51:=Tryz.zeroValue22
 t53:=Tryz.underlying132
 a53:=Tryz.isAgg132
 z53:=Tryz.sizeOf132
 v53:=Tryz.zeroValue132
 t70:=Tryz.underlying101
 a70:=Tryz.isAgg101
 z70:=Tryz.sizeOf101
 v70:=Tryz.zeroValue101
 t72:=Tryz.underlying103
 a72:=Tryz.isAgg103
 z72:=Tryz.sizeOf103
 v72:=Tryz.zeroValue103
 t75:=Tryz.underlying105
 a75:=Tryz.isAgg105
 z75:=Tryz.sizeOf105
 v75:=Tryz.zeroValue105
 t76:=Tryz.underlying106
 a76:=Tryz.isAgg106
 z76:=Tryz.sizeOf106
 v76:=Tryz.zeroValue106
 t109:=Tryz.underlying120
 a109:=Tryz.isAgg120
 z109:=Tryz.sizeOf120
 v109:=Tryz.zeroValue120
 t127:=Tryz.underlying137
 a127:=Tryz.isAgg137
 z127:=Tryz.sizeOf137
 v127:=Tryz.zeroValue137
 t146:=Tryz.underlying146
 a146:=Tryz.isAgg146
 z146:=Tryz.sizeOf146
 v146:=Tryz.zeroValue146
 t148:=Tryz.underlying148
 a148:=Tryz.isAgg148
 z148:=Tryz.sizeOf148
 v148:=Tryz.zeroValue148
 t164:=Tryz.underlying155
 a164:=Tryz.isAgg155
 z164:=Tryz.sizeOf155
 v164:=Tryz.zeroValue155 }
def Tryz.Builder_Extra_105:Builder.Extra Tryz.prog Tryz.lays105_ren:={
 sizeBuilder:=C8
 liesBuilder:=C8
 t5:=Tryz.underlying5
 a5:=Tryz.isAgg5
 z5:=Tryz.sizeOf5
 v5:=Tryz.zeroValue5
 infoByte:=C8
 cellsByte:=C8
 sizeByte:=C8
 neB5:=by decide }
open Go.RowKit Go.Lib in
def Tryz.strings_Repeat(s:ByteArray)(c:Nat)(w:World)(b:c<=9223372036854775807)(hlen:s.size*c<=140737488355328) :
  Calls Tryz.prog 34 #[.string s,.int .i64 c] w fun e w'=>e=.returned (.string ⟨(Lib.repeatL s.data.toList c).toArray⟩)/\Below w.heap.size w w':=Any.strings_Repeat Tryz.lays105 Tryz.Builder_Extra_105 s c w b hlen
end Go.Proofs
namespace Go.Proofs.YtbbicpheoakeeaaGreatDoor
open Go Go.Sx Go.Proofs.Tryz
variable {a d4 dc i j:Int}
def gl:Nat:=13
def n0:Nat:=16
def jN:List (Nat×List Value):=[(10,[.int .u8 (0),.int .u8 (1),.int .u8 (28),.int .u8 (2),.int .u8 (29),.int .u8 (14),.int .u8 (24),.int .u8 (3),.int .u8 (30),.int .u8 (22),.int .u8 (20),.int .u8 (15),.int .u8 (25),.int .u8 (17),.int .u8 (4),.int .u8 (8),.int .u8 (31),.int .u8 (27),.int .u8 (13),.int .u8 (23),.int .u8 (21),.int .u8 (19),.int .u8 (16),.int .u8 (7),.int .u8 (26),.int .u8 (12),.int .u8 (18),.int .u8 (6),.int .u8 (11),.int .u8 (5),.int .u8 (10),.int .u8 (9)]),
 (11,[.int .u8 (0),.int .u8 (1),.int .u8 (56),.int .u8 (2),.int .u8 (57),.int .u8 (49),.int .u8 (28),.int .u8 (3),.int .u8 (61),.int .u8 (58),.int .u8 (42),.int .u8 (50),.int .u8 (38),.int .u8 (29),.int .u8 (17),.int .u8 (4),.int .u8 (62),.int .u8 (47),.int .u8 (59),.int .u8 (36),.int .u8 (45),.int .u8 (43),.int .u8 (51),.int .u8 (22),.int .u8 (53),.int .u8 (39),.int .u8 (33),.int .u8 (30),.int .u8 (24),.int .u8 (18),.int .u8 (12),.int .u8 (5),.int .u8 (63),.int .u8 (55),.int .u8 (48),.int .u8 (27),.int .u8 (60),.int .u8 (41),.int .u8 (37),.int .u8 (16),.int .u8 (46),.int .u8 (35),.int .u8 (44),.int .u8 (21),.int .u8 (52),.int .u8 (32),.int .u8 (23),.int .u8 (11),.int .u8 (54),.int .u8 (26),.int .u8 (40),.int .u8 (15),.int .u8 (34),.int .u8 (20),.int .u8 (31),.int .u8 (10),.int .u8 (25),.int .u8 (14),.int .u8 (19),.int .u8 (9),.int .u8 (13),.int .u8 (8),.int .u8 (7),.int .u8 (6)]),
 (6,[.int .u64 (1),.int .u64 (10),.int .u64 (100),.int .u64 (1000),.int .u64 (10000),.int .u64 (100000),.int .u64 (1000000),.int .u64 (10000000),.int .u64 (100000000),.int .u64 (1000000000),.int .u64 (10000000000),.int .u64 (100000000000),.int .u64 (1000000000000),.int .u64 (10000000000000),.int .u64 (100000000000000),.int .u64 (1000000000000000),.int .u64 (10000000000000000),.int .u64 (100000000000000000),.int .u64 (1000000000000000000),.int .u64 (10000000000000000000)]),
 (8,[.int .u8 (128),.int .u8 (191),.int .u8 (160),.int .u8 (191),.int .u8 (128),.int .u8 (159),.int .u8 (144),.int .u8 (191),.int .u8 (128),.int .u8 (143),.int .u8 (0),.int .u8 (0),.int .u8 (0),.int .u8 (0),.int .u8 (0),.int .u8 (0),.int .u8 (0),.int .u8 (0),.int .u8 (0),.int .u8 (0),.int .u8 (0),.int .u8 (0),.int .u8 (0),.int .u8 (0),.int .u8 (0),.int .u8 (0),.int .u8 (0),.int .u8 (0),.int .u8 (0),.int .u8 (0),.int .u8 (0),.int .u8 (0)]),
 (5,[one]),
 (4,[one]),
 (1,[.int .u8 (0),.int .u8 (0),.int .u8 (0),.int .u8 (0),.int .u8 (0),.int .u8 (0),.int .u8 (0),.int .u8 (0),.int .u8 (0),.int .u8 (1),.int .u8 (1),.int .u8 (1),.int .u8 (1),.int .u8 (1),.int .u8 (0),.int .u8 (0),.int .u8 (0),.int .u8 (0),.int .u8 (0),.int .u8 (0),.int .u8 (0),.int .u8 (0),.int .u8 (0),.int .u8 (0),.int .u8 (0),.int .u8 (0),.int .u8 (0),.int .u8 (0),.int .u8 (0),.int .u8 (0),.int .u8 (0),.int .u8 (0),.int .u8 (1),.int .u8 (0),.int .u8 (0),.int .u8 (0),.int .u8 (0),.int .u8 (0),.int .u8 (0),.int .u8 (0),.int .u8 (0),.int .u8 (0),.int .u8 (0),.int .u8 (0),.int .u8 (0),.int .u8 (0),.int .u8 (0),.int .u8 (0),.int .u8 (0),.int .u8 (0),.int .u8 (0),.int .u8 (0),.int .u8 (0),.int .u8 (0),.int .u8 (0),.int .u8 (0),.int .u8 (0),.int .u8 (0),.int .u8 (0),.int .u8 (0),.int .u8 (0),.int .u8 (0),.int .u8 (0),.int .u8 (0),.int .u8 (0),.int .u8 (0),.int .u8 (0),.int .u8 (0),.int .u8 (0),.int .u8 (0),.int .u8 (0),.int .u8 (0),.int .u8 (0),.int .u8 (0),.int .u8 (0),.int .u8 (0),.int .u8 (0),.int .u8 (0),.int .u8 (0),.int .u8 (0),.int .u8 (0),.int .u8 (0),.int .u8 (0),.int .u8 (0),.int .u8 (0),.int .u8 (0),.int .u8 (0),.int .u8 (0),.int .u8 (0),.int .u8 (0),.int .u8 (0),.int .u8 (0),.int .u8 (0),.int .u8 (0),.int .u8 (0),.int .u8 (0),.int .u8 (0),.int .u8 (0),.int .u8 (0),.int .u8 (0),.int .u8 (0),.int .u8 (0),.int .u8 (0),.int .u8 (0),.int .u8 (0),.int .u8 (0),.int .u8 (0),.int .u8 (0),.int .u8 (0),.int .u8 (0),.int .u8 (0),.int .u8 (0),.int .u8 (0),.int .u8 (0),.int .u8 (0),.int .u8 (0),.int .u8 (0),.int .u8 (0),.int .u8 (0),.int .u8 (0),.int .u8 (0),.int .u8 (0),.int .u8 (0),.int .u8 (0),.int .u8 (0),.int .u8 (0),.int .u8 (0),.int .u8 (0),.int .u8 (0),.int .u8 (0),.int .u8 (0),.int .u8 (0),.int .u8 (0),.int .u8 (0),.int .u8 (0),.int .u8 (0),.int .u8 (0),.int .u8 (0),.int .u8 (0),.int .u8 (0),.int .u8 (0),.int .u8 (0),.int .u8 (0),.int .u8 (0),.int .u8 (0),.int .u8 (0),.int .u8 (0),.int .u8 (0),.int .u8 (0),.int .u8 (0),.int .u8 (0),.int .u8 (0),.int .u8 (0),.int .u8 (0),.int .u8 (0),.int .u8 (0),.int .u8 (0),.int .u8 (0),.int .u8 (0),.int .u8 (0),.int .u8 (0),.int .u8 (0),.int .u8 (0),.int .u8 (0),.int .u8 (0),.int .u8 (0),.int .u8 (0),.int .u8 (0),.int .u8 (0),.int .u8 (0),.int .u8 (0),.int .u8 (0),.int .u8 (0),.int .u8 (0),.int .u8 (0),.int .u8 (0),.int .u8 (0),.int .u8 (0),.int .u8 (0),.int .u8 (0),.int .u8 (0),.int .u8 (0),.int .u8 (0),.int .u8 (0),.int .u8 (0),.int .u8 (0),.int .u8 (0),.int .u8 (0),.int .u8 (0),.int .u8 (0),.int .u8 (0),.int .u8 (0),.int .u8 (0),.int .u8 (0),.int .u8 (0),.int .u8 (0),.int .u8 (0),.int .u8 (0),.int .u8 (0),.int .u8 (0),.int .u8 (0),.int .u8 (0),.int .u8 (0),.int .u8 (0),.int .u8 (0),.int .u8 (0),.int .u8 (0),.int .u8 (0),.int .u8 (0),.int .u8 (0),.int .u8 (0),.int .u8 (0),.int .u8 (0),.int .u8 (0),.int .u8 (0),.int .u8 (0),.int .u8 (0),.int .u8 (0),.int .u8 (0),.int .u8 (0),.int .u8 (0),.int .u8 (0),.int .u8 (0),.int .u8 (0),.int .u8 (0),.int .u8 (0),.int .u8 (0),.int .u8 (0),.int .u8 (0),.int .u8 (0),.int .u8 (0),.int .u8 (0),.int .u8 (0),.int .u8 (0),.int .u8 (0),.int .u8 (0),.int .u8 (0),.int .u8 (0),.int .u8 (0),.int .u8 (0),.int .u8 (0),.int .u8 (0),.int .u8 (0),.int .u8 (0),.int .u8 (0),.int .u8 (0),.int .u8 (0),.int .u8 (0),.int .u8 (0),.int .u8 (0),.int .u8 (0),.int .u8 (0),.int .u8 (0),.int .u8 (0),.int .u8 (0),.int .u8 (0)]),
 (0,[.int .i64 (4),.string ⟨⟨[67,45]⟩⟩,.int .i64 (2),.string ⟨⟨[77,45]⟩⟩,.int .i64 (1),.string ⟨⟨[83,45]⟩⟩]),
 (7,[.int .u8 (240),.int .u8 (240),.int .u8 (240),.int .u8 (240),.int .u8 (240),.int .u8 (240),.int .u8 (240),.int .u8 (240),.int .u8 (240),.int .u8 (240),.int .u8 (240),.int .u8 (240),.int .u8 (240),.int .u8 (240),.int .u8 (240),.int .u8 (240),.int .u8 (240),.int .u8 (240),.int .u8 (240),.int .u8 (240),.int .u8 (240),.int .u8 (240),.int .u8 (240),.int .u8 (240),.int .u8 (240),.int .u8 (240),.int .u8 (240),.int .u8 (240),.int .u8 (240),.int .u8 (240),.int .u8 (240),.int .u8 (240),.int .u8 (240),.int .u8 (240),.int .u8 (240),.int .u8 (240),.int .u8 (240),.int .u8 (240),.int .u8 (240),.int .u8 (240),.int .u8 (240),.int .u8 (240),.int .u8 (240),.int .u8 (240),.int .u8 (240),.int .u8 (240),.int .u8 (240),.int .u8 (240),.int .u8 (240),.int .u8 (240),.int .u8 (240),.int .u8 (240),.int .u8 (240),.int .u8 (240),.int .u8 (240),.int .u8 (240),.int .u8 (240),.int .u8 (240),.int .u8 (240),.int .u8 (240),.int .u8 (240),.int .u8 (240),.int .u8 (240),.int .u8 (240),.int .u8 (240),.int .u8 (240),.int .u8 (240),.int .u8 (240),.int .u8 (240),.int .u8 (240),.int .u8 (240),.int .u8 (240),.int .u8 (240),.int .u8 (240),.int .u8 (240),.int .u8 (240),.int .u8 (240),.int .u8 (240),.int .u8 (240),.int .u8 (240),.int .u8 (240),.int .u8 (240),.int .u8 (240),.int .u8 (240),.int .u8 (240),.int .u8 (240),.int .u8 (240),.int .u8 (240),.int .u8 (240),.int .u8 (240),.int .u8 (240),.int .u8 (240),.int .u8 (240),.int .u8 (240),.int .u8 (240),.int .u8 (240),.int .u8 (240),.int .u8 (240),.int .u8 (240),.int .u8 (240),.int .u8 (240),.int .u8 (240),.int .u8 (240),.int .u8 (240),.int .u8 (240),.int .u8 (240),.int .u8 (240),.int .u8 (240),.int .u8 (240),.int .u8 (240),.int .u8 (240),.int .u8 (240),.int .u8 (240),.int .u8 (240),.int .u8 (240),.int .u8 (240),.int .u8 (240),.int .u8 (240),.int .u8 (240),.int .u8 (240),.int .u8 (240),.int .u8 (240),.int .u8 (240),.int .u8 (240),.int .u8 (240),.int .u8 (240),.int .u8 (240),.int .u8 (240),.int .u8 (241),.int .u8 (241),.int .u8 (241),.int .u8 (241),.int .u8 (241),.int .u8 (241),.int .u8 (241),.int .u8 (241),.int .u8 (241),.int .u8 (241),.int .u8 (241),.int .u8 (241),.int .u8 (241),.int .u8 (241),.int .u8 (241),.int .u8 (241),.int .u8 (241),.int .u8 (241),.int .u8 (241),.int .u8 (241),.int .u8 (241),.int .u8 (241),.int .u8 (241),.int .u8 (241),.int .u8 (241),.int .u8 (241),.int .u8 (241),.int .u8 (241),.int .u8 (241),.int .u8 (241),.int .u8 (241),.int .u8 (241),.int .u8 (241),.int .u8 (241),.int .u8 (241),.int .u8 (241),.int .u8 (241),.int .u8 (241),.int .u8 (241),.int .u8 (241),.int .u8 (241),.int .u8 (241),.int .u8 (241),.int .u8 (241),.int .u8 (241),.int .u8 (241),.int .u8 (241),.int .u8 (241),.int .u8 (241),.int .u8 (241),.int .u8 (241),.int .u8 (241),.int .u8 (241),.int .u8 (241),.int .u8 (241),.int .u8 (241),.int .u8 (241),.int .u8 (241),.int .u8 (241),.int .u8 (241),.int .u8 (241),.int .u8 (241),.int .u8 (241),.int .u8 (241),.int .u8 (241),.int .u8 (241),.int .u8 (2),.int .u8 (2),.int .u8 (2),.int .u8 (2),.int .u8 (2),.int .u8 (2),.int .u8 (2),.int .u8 (2),.int .u8 (2),.int .u8 (2),.int .u8 (2),.int .u8 (2),.int .u8 (2),.int .u8 (2),.int .u8 (2),.int .u8 (2),.int .u8 (2),.int .u8 (2),.int .u8 (2),.int .u8 (2),.int .u8 (2),.int .u8 (2),.int .u8 (2),.int .u8 (2),.int .u8 (2),.int .u8 (2),.int .u8 (2),.int .u8 (2),.int .u8 (2),.int .u8 (2),.int .u8 (19),.int .u8 (3),.int .u8 (3),.int .u8 (3),.int .u8 (3),.int .u8 (3),.int .u8 (3),.int .u8 (3),.int .u8 (3),.int .u8 (3),.int .u8 (3),.int .u8 (3),.int .u8 (3),.int .u8 (35),.int .u8 (3),.int .u8 (3),.int .u8 (52),.int .u8 (4),.int .u8 (4),.int .u8 (4),.int .u8 (68),.int .u8 (241),.int .u8 (241),.int .u8 (241),.int .u8 (241),.int .u8 (241),.int .u8 (241),.int .u8 (241),.int .u8 (241),.int .u8 (241),.int .u8 (241),.int .u8 (241)])]
def H0:Hp AB:=mkH jN
def A3M:prog.follows .mixedOrders=true:=C8
def A3L:HB prog:=by
 have h:(prog.funcs.toList.all fun fn=>!(fn.name == "runtime.NumGoroutine"))=true:=C8;intro f fn b;have h1:=D4.1 h fn (Array.mem_def.1 (Array.mem_of_getElem? b))
 simpa using h1
def A70:List (FuncId×EK):=[(132,.indexByteString),(64,.countString),(112,.noEscape),(122,.makeNoZero 5)]
def A9E:∀ p ∈ A70,AL prog p.1 p.2:=by
 intro p hp;unfold A70 at hp;rcases B4.1 hp with rfl|hp
 .exact⟨⟨_,rfl,by kernel_rfl,by kernel_rfl,by kernel_rfl,.inr (.inl ⟨rfl,by kernel_rfl⟩)⟩⟩
 rcases B4.1 hp with rfl|hp
 .exact⟨⟨_,rfl,by kernel_rfl,by kernel_rfl,by kernel_rfl,.inr (.inr (.inl ⟨rfl,by kernel_rfl⟩))⟩⟩
 rcases B4.1 hp with rfl|hp
 .exact⟨⟨_,rfl,by kernel_rfl,by kernel_rfl,by kernel_rfl,.inl ⟨rfl,by kernel_rfl⟩⟩⟩
 rcases B4.1 hp with rfl|hp
 .exact⟨⟨_,rfl,by kernel_rfl,by kernel_rfl,by kernel_rfl,.inr (.inr (.inr ⟨_,_,_,rfl,rfl,by kernel_rfl,by kernel_rfl⟩))⟩⟩
 cases hp
noncomputable abbrev cx(l:List (FuncId×FnC))(b:List LpE):Cx:=⟨prog,A70,gl,VF l,lpT b⟩
def cxg{G:Nat->Option Obj}{l:List (FuncId×FnC)}{b:List LpE}(h:jD prog G gl l)(k:Y6 prog G gl b):CxG (cx l b) G:=A39 A3M A3L A9E h k
abbrev B25:=Int×Int×Int×Int×Int×Int×Int×List UInt8
abbrev sO:=Option (List Int)
abbrev B2:=List UInt8
abbrev L2(G:Nat->Option Obj):Prop:=aT Tryz.prog G gl H0 n0
abbrev R3:={L:List (FuncId×FnC) // ∀ {G:Nat->Option Obj},L2 G->jD Tryz.prog G gl L}
def L0:List (FuncId×FnC):=[]
def A6u{G:Nat->Option Obj}(b:aT prog G gl H0 n0):jD prog G gl L0:=.nil
def rB:Rw Int:=r1 (P7 .u8)
def okU(c:Int):Prop:=0<=c/\c<=1114111/\¬(55296<=c/\c<=57343)
instance(c:Int):Decidable (okU c):=by unfold okU;infer_instance
def jA(c:Int):Int:=if c=32 then 0 else if c=105∨c=109 then -1 else if 97<=c/\c<=122 then c-96 else if 92<=c/\c<=95 then c-64 else -1
def chP(c:Int):Prop:=okU c/\32<=c/\¬(127<=c/\c<=159)
instance(c:Int):Decidable (chP c):=by unfold chP;infer_instance
def t7(c m:Int):Prop:=(chP c/\(m=0∨(m=2/\c≠91/\c≠79)∨(0<=jA c/\(m=4∨m=6))))∨(1114113<=c/\c<=1114134/\0<=m/\m<=7)∨((c=1114135∨c=1114137)/\(m=0∨m=2))∨(c=1114136/\(m=0∨m=1∨m=2))∨(c=1114138/\m=0)
instance(c m:Int):Decidable (t7 c m):=by unfold t7;infer_instance
def l2{b:Int}{c d:Bool}(h:a=b)(k:c=d):[U.int .u8 a,U.bool c]=[U.int .u8 b,U.bool d]:=by rw[h,k]
def l1{c d:Bool}(k:c=d):[U.bool c]=[U.bool d]:=by rw[k]
def l0{c d:Int}(k:c=d):[U.int .i64 c]=[U.int .i64 d]:=by rw[k]
def LK:List U->Option (Nat×List U)
 | [.int .i64 c]=>some (0,[.int .u8 (if 0<=jA c then jA c else 0),.bool (decide (0<=jA c))])
 | _=>none
def A4B(c:Int):LK [.int .i64 c]=some (0,[.int .u8 (if 0<=jA c then jA c else 0),.bool (decide (0<=jA c))]):=rfl
def A1l(n:Nat):Tr:=.lt 3 (.bin .and) [h3 0,jI 31]<|.lt 4 (.conv .u8) [h3 n]<|.ret [h (n+1) 4,.bool true]
def R5(a0:Nat)(c:Nat)(a2:Int)(d b:Tr):Tr:=aQ [h3 a0,jI a2]<|.br c d b
def K8(a0:Nat)(c:Nat)(a2:Int)(d b:Tr):Tr:=aH [h3 a0,jI a2]<|.br c d b
def A1k(n:Nat):Tr:=K8 0 n 92 (R5 0 (n+1) 95 (A1l (n+2)) (.ret [.int .u8 (0),.bool false])) (.ret [.int .u8 (0),.bool false])
def J7(a0:Nat)(c:Nat)(a2:Int)(d b:Tr):Tr:=aE [h3 a0,jI a2]<|.br c d b
def A6a:Tr:=J7 0 1 32 (.ret [.int .u8 (0),.bool true]) (J7 0 2 105 (.ret [.int .u8 (0),.bool false]) (J7 0 3 109 (.ret [.int .u8 (0),.bool false]) (K8 0 4 97 (R5 0 5 122 (A1l 6) (A1k 6)) (A1k 5))))
def A6b{G}(b:L2 G):M1 prog G 106 [.s 3] LK [.s 4,.s 8]:=by
 refine G3 (C:=cx L0 []) (d:=60) A6a (cxg (A6u b) .nil) b ⟨f106,_,func106,rfl⟩ C8 C8 ?_;intro us outs f;unfold LK at f;split at f
 .skip;rename_i c;cases f;unfold A6a;refine w0 (.cons 0 _ (.nil)) ?_;repeat (first|(refine w7 [.int .u8 _,.bool _] ?_;rotate_left)|refine w4 (fun g=>?_) fun g=>?_|refine HW ?_|refine wX ?_|refine fE ?_|refine kO ?_|refine pS ?_|refine w1 (.bin .and) (e:=SQ 5 32 E6 E6 E6) (k':=?_))
  all_goals
   refine l2 ?_ ?_
   ·(unfold jA;(repeat' split)<;>omega)
   .symm;first|exact I3 (by(unfold jA;(repeat' split)<;>omega))|exact D8 (by(unfold jA;(repeat' split)<;>omega))
 .cases f
noncomputable def B1Z:R3:=⟨_,fun b=>.cons (A6b b) (A6u b)⟩
def IY:List U->Option (Nat×List U)
 | [.int .i64 c]=>some (0,[.int .i64 (jA c)])
 | _=>none
def A25(c:Int):IY [.int .i64 c]=some (0,[.int .i64 (jA c)]):=rfl
def I6(a0:Int):Tr:=.ret [jI a0]
def EV(n:Nat):Tr:=K8 0 n 92 (R5 0 (n+1) 95 (aS [h3 0,jI 92]<|aA [h3 (n+2),jI 28]<|.ret [h3 (n+3)]) (I6 (-1))) (I6 (-1))
def bD(a0:Nat)(c:Nat)(a2:Int)(d b:Tr):Tr:=aN [h3 a0,jI a2]<|.br c d b
def A5B:Tr:=J7 0 1 32 (I6 0) (K8 0 2 97 (R5 0 3 122 (bD 0 4 105 (bD 0 5 109 (aS [h3 0,jI 97]<|aA [h3 6,jI 1]<|.ret [h3 7]) (EV 6)) (EV 5)) (EV 4)) (EV 3))
def A8v{G}(b:L2 G):M1 prog G 83 [.s 3] IY [.s 3]:=by
 refine G3 (d:=60) A5B (cxg (B1Z.2 b) .nil) b ⟨f83,_,func83,rfl⟩ C8 C8 ?_;intro us outs e;unfold IY at e;split at e
 .skip;rename_i c;cases e;unfold A5B;refine w0 (.cons 0 _ (.nil)) ?_;repeat (first|(refine w7 [.int .i64 _] ?_;rotate_left)|refine w4 (fun g=>?_) fun g=>?_|refine WC ?_|refine HU ?_|refine dJ ?_|refine Y4 ?_|refine kO ?_|refine pS ?_|refine AP ?_|refine fE ?_)
  all_goals
   refine l0 ?_
   (unfold jA;(repeat' split)<;>omega)
 .cases e
def A6c(c:Int):(c=32/\jA c=0)∨((c=105∨c=109)/\jA c = -1)∨(97<=c/\c<=122/\c≠105/\c≠109/\jA c=c-96)∨(92<=c/\c<=95/\jA c=c-64)∨(c≠32/\¬(97<=c/\c<=122)/\¬(92<=c/\c<=95)/\jA c = -1):=by
 unfold jA
 (repeat' split)<;>omega
noncomputable def B0f:R3:=⟨_,fun b=>(.cons (A6b b) .nil)⟩
def HK:List U->Option (Nat×List U)
 | [.int .i64 c,.int .i64 m]=>if -9223372036854775808<=m/\m<=9223372036854775807 then some (0,[.bool (decide (t7 c m))])else none
 | _=>none
def A2d(c:Int)(m:Int)(b : -9223372036854775808<=m/\m<=9223372036854775807):HK [.int .i64 c,.int .i64 m]=some (0,[.bool (decide (t7 c m))]):=A9 b
def G7:Tr:=.ret [.bool false]
def cQ:Tr:=.ret [.bool true]
def kN(a0:Nat)(c:Int)(a2:Nat)(d b:Tr):Tr:=.lt 3 (.bin .and) [h3 a0,jI c]<|aN [h3 a2,jI 0]<|.br (a2+1) d b
def VW(n:Nat):Tr:=kN 1 4 n (.fn LK [h3 0] 2<|.br (n+3) (.lt 3 (.bin .andNot) [h3 1,jI 6]<|aE [h3 (n+4),jI 0]<|.ret [h (n+5) 8]) (G7)) (J7 1 (n+2) 0 cQ (J7 1 (n+3) 2 (bD 0 (n+4) 91 (aN [h3 0,jI 79]<|.ret [h (n+5) 8]) G7) G7))
def ML(n:Nat):Tr:=J7 1 n 2 cQ (aE [h3 1,jI 0]<|.ret [h (n+1) 8])
def wU(n:Nat):Tr:=J7 0 n 1114136 (J7 1 (n+1) 1 cQ (ML (n+2))) (J7 0 (n+1) 1114135 (ML (n+2)) (J7 0 (n+2) 1114137 (ML (n+3)) (J7 0 (n+3) 1114138 (aE [h3 1,jI 0]<|.ret [h (n+4) 8]) (K8 0 (n+4) 1114113 (R5 0 (n+5) 1114134 (K8 1 (n+6) 0 (aQ [h3 1,jI 7]<|.ret [h (n+7) 8]) G7) G7) G7))))
def M5(a0:Nat)(b:Nat)(d c:Tr):Tr:=aX [h a0 8]<|.br b d c
def A4Z:Tr:=K8 0 2 0 (R5 0 3 1114111 (.lt 3 (.bin .shr) [h3 0,.int .u64 (11)]<|bD 4 5 27 (K8 0 6 32 (K8 0 7 127 (aQ [h3 0,jI 159]<|M5 8 9 (VW 10) (wU 10)) (VW 8)) (wU 7)) (wU 6)) (wU 4)) (wU 3)
def A8c{G}(f:L2 G):M1 prog G 76 [.s 3,.s 3] HK [.s 8]:=by
 refine G3 (d:=60) A4Z (cxg (B0f.2 f) .nil) f ⟨f76,_,func76,rfl⟩ C8 C8 ?_;intro us outs b;unfold HK at b;split at b
 .skip;rename_i c m;split at b
  .rename_i k;cases b;unfold A4Z;refine w0 (.cons 1 _ (.cons 0 _ (.nil))) ?_;repeat (first|refine w4 (fun g=>?_) fun g=>?_|refine w4B (fun g=>?_) fun g=>?_|(refine w7 [.bool _] ?_;rotate_left)|refine fE ?_|refine kO ?_|refine pS ?_|refine AP ?_|refine w1 (.bin .and) (e:=SP _) (k':=?_)|refine w32 LK (e:=A4B _) (k':=?_)|refine w1 (.bin .andNot) (e:=A8F _) (k':=?_)|refine w1 (.bin .shr) (e:=SL 2048 E6 E6) (k':=?_)|refine o7 ?_)
   all_goals
    have z0:=A2I m k.1 k.2;have l:=A6c c;refine l1 ?_;first|(refine decide_eq_decide.2 ?_;unfold t7 chP okU;omega)|(symm;first|exact I3 (by unfold t7 chP okU at *;omega)|exact D8 (by unfold t7 chP okU at *;omega))
  .cases b
 .cases b
noncomputable def B0n:R3:=⟨_,fun b=>(.cons (A8v b) .nil)⟩
def jO:List U->Option (Nat×List U)
 | [.int .i64 c,.int .i64 m]=>if -9223372036854775808<=m/\m<=9223372036854775807 then some (0,[.bool (decide (t7 c m))])else none
 | _=>none
def QH(c:Int)(m:Int)(b : -9223372036854775808<=m/\m<=9223372036854775807):jO [.int .i64 c,.int .i64 m]=some (0,[.bool (decide (t7 c m))]):=A9 b
def YJ(n:Nat):Tr:=J7 1 n 0 cQ (J7 1 (n+1) 2 (bD 0 (n+2) 91 (aN [h3 0,jI 79]<|.ret [h (n+3) 8]) G7) (.fn IY [h3 0] 1<|K8 (n+2) (n+3) 0 (J7 1 (n+4) 4 cQ (aE [h3 1,jI 6]<|.ret [h (n+5) 8])) G7))
def YI(n:Nat):Tr:=J7 1 n 0 cQ (aE [h3 1,jI 2]<|.ret [h (n+1) 8])
def YH(n:Nat):Tr:=J7 0 n 1114135 (YI (n+1)) (J7 0 (n+1) 1114137 (YI (n+2)) (J7 0 (n+2) 1114136 (J7 1 (n+3) 0 cQ (J7 1 (n+4) 1 cQ (aE [h3 1,jI 2]<|.ret [h (n+5) 8]))) (J7 0 (n+3) 1114138 (aE [h3 1,jI 0]<|.ret [h (n+4) 8]) G7)))
def xO(n:Nat):Tr:=K8 0 n 1114113 (R5 0 (n+1) 1114134 (K8 1 (n+2) 0 (aQ [h3 1,jI 7]<|.ret [h (n+3) 8]) G7) (YH (n+2))) (YH (n+1))
def YG(n:Nat):Tr:=K8 0 n 32 (K8 0 (n+1) 127 (aQ [h3 0,jI 159]<|M5 (n+2) (n+3) (YJ (n+4)) (xO (n+4))) (YJ (n+2))) (xO (n+1))
def A40:Tr:=K8 0 2 0 (R5 0 3 1114111 (aL [h3 0,jI 55296]<|.br 4 (YG 5) (aG [h3 0,jI 57343]<|.br 5 (YG 6) (xO 6))) (xO 4)) (xO 3)
def QI{G}(f:L2 G):M1 prog G 47 [.s 3,.s 3] jO [.s 8]:=by
 refine G3 (d:=60) A40 (cxg (B0n.2 f) .nil) f ⟨f47,_,func47,rfl⟩ C8 C8 ?_;intro us outs b;unfold jO at b;split at b
 .skip;rename_i c m;split at b
  .rename_i k;cases b;unfold A40;refine w0 (.cons 1 _ (.cons 0 _ (.nil))) ?_;repeat (first|refine fE ?_|(refine w7 [.bool _] ?_;rotate_left)|refine w4 (fun g=>?_) fun g=>?_|refine kO ?_|refine pS ?_|refine AP ?_|refine w31 IY (e:=A25 _) (k':=?_)|refine o7 ?_|refine dI ?_|refine AQ ?_)
   all_goals
    have z0:=A2I m k.1 k.2;have l:=A6c c;refine l1 ?_;first|(refine decide_eq_decide.2 ?_;unfold t7 chP okU;omega)|(symm;first|exact I3 (by unfold t7 chP okU at *;omega)|exact D8 (by unfold t7 chP okU at *;omega))
  .cases b
 .cases b
def msP(m w b r cl:Int):Prop:=0<=w/\w<=3/\0<=b/\b<=3/\(w=0->b<=2)/\(w=3->b<=1)/\0<=m/\m<=7/\0<=r/\r<=39/\0<=cl/\cl<=79
instance(m w b r cl:Int):Decidable (msP m w b r cl):=by unfold msP;infer_instance
def A5c(m w b r cl:Int):msP m w b r cl↔(0<=b/\0<=m/\m<=7/\0<=r/\r<=39/\0<=cl/\cl<=79)/\((w=0/\b<=2)∨(w=1/\b<=3)∨(w=2/\b<=3)∨(w=3/\b<=1)):=by
 unfold msP;omega
def A0I(w:Int):(w=0/\([2,3,3,1]:List Int).getD w.toNat 0=2)∨(w=1/\([2,3,3,1]:List Int).getD w.toNat 0=3)∨(w=2/\([2,3,3,1]:List Int).getD w.toNat 0=3)∨(w=3/\([2,3,3,1]:List Int).getD w.toNat 0=1)∨w<0∨3<w:=by
 by_cases h:0<=w/\w<=3
 .have:w=0∨w=1∨w=2∨w=3:=A2;rcases this with rfl|rfl|rfl|rfl<;>decide
 .omega
noncomputable def B0e:R3:=⟨_,fun b=>.nil⟩
def HJ:List U->Option (Nat×List U)
 | [.int .i64 k,.int .i64 c,.int .i64 m,.int .i64 w,.int .i64 b,.int .i64 r,.int .i64 cl,.str t]=>some (0,[.bool (decide (msP m w b r cl))])
 | _=>none
def A2c(k:Int)(c:Int)(m:Int)(w:Int)(b:Int)(r:Int)(cl:Int)(t:B2):HJ [.int .i64 k,.int .i64 c,.int .i64 m,.int .i64 w,.int .i64 b,.int .i64 r,.int .i64 cl,.str t]=some (0,[.bool (decide (msP m w b r cl))]):=rfl
def A4Y:Tr:=K8 3 8 0 (R5 3 9 3 (aI [h3 3,jI 4]<|.br 10 (.lt 3 (.sel) [h3 3,jI 2,jI 3,jI 3,jI 1]<|K8 4 12 0 (aQ [h3 4,h3 11]<|.br 13 (K8 2 14 0 (R5 2 15 7 (K8 5 16 0 (R5 5 17 39 (K8 6 18 0 (aQ [h3 6,jI 79]<|.ret [h 19 8]) G7) G7) G7) G7) G7) (G7)) G7) (.no)) G7) G7
def A8b{G}(f:L2 G):M1 prog G 77 [.a [3,3,3,3,3,3,3,9]] HJ [.s 8]:=by
 refine G3 (d:=60) A4Y (cxg (B0e.2 f) .nil) f ⟨f77,_,func77,rfl⟩ C8 C8 ?_;intro us outs n;unfold HJ at n;split at n
 .skip;rename_i k c m w b r cl t;cases n;unfold A4Y;refine w0 (.cons 7 _ (.cons 6 _ (.cons 5 _ (.cons 4 _ (.cons 3 _ (.cons 2 _ (.cons 1 _ (.cons 0 _ (.nil))))))))) ?_;repeat (first|refine w4 (fun g=>?_) fun g=>?_|(refine w7 [.bool _] ?_;rotate_left)|refine kO ?_|refine pS ?_|refine A8h ?_|refine w1 (.sel) (e:=A3o [2,3,3,1] A2 (by show _<((4:Nat):Int);omega)) (k':=?_)|(refine w8 ?_;(have z0:=A0I w;omega)))
  all_goals
   have l:=A5c m w b r cl;have z0:=A0I w;refine l1 ?_;first|(refine decide_eq_decide.2 ⟨fun h=>l.2 ?_,fun h=>?_⟩;omega;(have:=l.1 h;omega))|(symm;first|exact I3 (l.2 A2)|exact D8 (fun h=>by have:=l.1 h;omega)|(exfalso;omega))
 .cases n
noncomputable def B0m:R3:=⟨_,fun b=>.nil⟩
def IS:List U->Option (Nat×List U)
 | [.int .i64 k,.int .i64 c,.int .i64 m,.int .i64 w,.int .i64 b,.int .i64 r,.int .i64 cl,.str t]=>some (0,[.bool (decide (msP m w b r cl))])
 | _=>none
def A21(k:Int)(c:Int)(m:Int)(w:Int)(b:Int)(r:Int)(cl:Int)(t:B2):IS [.int .i64 k,.int .i64 c,.int .i64 m,.int .i64 w,.int .i64 b,.int .i64 r,.int .i64 cl,.str t]=some (0,[.bool (decide (msP m w b r cl))]):=rfl
def YC(n:Nat):Tr:=K8 3 n 0 (R5 3 (n+1) 3 (K8 4 (n+2) 0 (R5 4 (n+3) 1 (K8 2 (n+4) 0 (R5 2 (n+5) 7 (K8 5 (n+6) 0 (R5 5 (n+7) 39 (K8 6 (n+8) 0 (aQ [h3 6,jI 79]<|.ret [h (n+9) 8]) G7) G7) G7) G7) G7) G7) G7) G7) G7
def YB(n:Nat):Tr:=.br 13 (K8 2 n 0 (R5 2 (n+1) 7 (K8 5 (n+2) 0 (R5 5 (n+3) 39 (K8 6 (n+4) 0 (aQ [h3 6,jI 79]<|.ret [h (n+5) 8]) G7) G7) G7) G7) G7) (G7)
def A4y:Tr:=J7 3 8 0 (J7 3 9 3 (YC 10) (K8 3 10 0 (R5 3 11 3 (K8 4 12 0 (aQ [h3 4,jI 2]<|YB 14) G7) G7) G7)) (J7 3 9 3 (YC 10) (K8 3 10 0 (R5 3 11 3 (K8 4 12 0 (aQ [h3 4,jI 3]<|YB 14) G7) G7) G7))
def A4z{G}(e:L2 G):M1 prog G 80 [.a [3,3,3,3,3,3,3,9]] IS [.s 8]:=by
 refine G3 (d:=60) A4y (cxg (B0m.2 e) .nil) e ⟨f80,_,func80,rfl⟩ C8 C8 ?_;intro us outs l;unfold IS at l;split at l
 .skip;rename_i k c m w b r cl t;cases l;unfold A4y;refine w0 (.cons 7 _ (.cons 6 _ (.cons 5 _ (.cons 4 _ (.cons 3 _ (.cons 2 _ (.cons 1 _ (.cons 0 _ (.nil))))))))) ?_;repeat (first|(refine w7 [.bool _] ?_;rotate_left)|refine w4 (fun g=>?_) fun g=>?_|refine kO ?_|refine pS ?_|refine fE ?_)
  all_goals
   have f:=A5c m w b r cl;have z0:=A0I w;refine l1 ?_;first|(refine decide_eq_decide.2 ⟨fun h=>f.2 ?_,fun h=>?_⟩;omega;(have:=f.1 h;omega))|(symm;first|exact I3 (f.2 A2)|exact D8 (fun h=>by have:=f.1 h;omega)|(exfalso;omega))
 .cases l
def LJ:List U->Option (Nat×List U)
 | [.str s,.str u]=>if u=[27]then some (0,[.bool (decide (0<=Lib.indexByte s 27))])else none
 | _=>none
def A4A(s:B2)(u:B2)(b:u=[27]):LJ [.str s,.str u]=some (0,[.bool (decide (0<=Lib.indexByte s 27))]):=A9 b
def B0E{G}(g:L2 G):M1 prog G 78 [.s 9,.s 9] LJ [.s 8]:=by
 intro us outs w vs R c b k hR;unfold LJ at b;split at b
 .skip;rename_i s u;split at b
  .rename_i f;cases b;have hv:=U9 (vs2:=[.string ⟨⟨s⟩⟩,.string ⟨⟨u⟩⟩]) c rfl;subst hv;refine fW (vr:=[.bool (decide (0<=Lib.indexByte s 27))]) func78 rfl C8 rfl ?_;subst f;exact(Tryz.strings_Contains_one ⟨⟨s⟩⟩ 27 w).mono fun e w' ⟨h1,d⟩=>⟨h1,by subst d;exact RowKit.Below.refl _ _⟩
  .cases b
 .cases b
def bU(b:Bool):Option Unit:=if b then some ()else none
def aP{b:Bool}{u:Unit}(h:bU b=some u):b=true:=by cases b<;>first|rfl|cases h
def aR{b:Bool}(h:bU b=none):b=false:=by cases b<;>first|rfl|cases h
def isE(x:UInt8):Bool:=decide (x=27)
def A33{l:B2}(h:(l.length:Int)<=i):(l.drop i.toNat).any isE=false:=by rw[cI l h];rfl
def A6P{x:UInt8}(h:((x.toNat:Nat):Int)=27):x=27:=by
 apply UInt8.toNat_inj.1;show x.toNat=27;omega
def FY(l:B2)(n:Nat):l.getD n default=l.getD n 0:=rfl
def A93{l:B2}(h0:0<=i)(h1:i<(l.length:Int))(b:(((l.getD i.toNat 0).toNat:Nat):Int)=27):(l.drop i.toNat).any isE=true:=by
 rw[S2 l h0 h1,Q2,FY,A6P b];rfl
def A94{l:B2}(h0:0<=i)(h1:i<(l.length:Int))(b:¬(((l.getD i.toNat 0).toNat:Nat):Int)=27):(l.drop i.toNat).any isE=(l.drop (i+1).toNat).any isE:=by
 rw[S2 l h0 h1,Q2,FY];have:isE (l.getD i.toNat 0)=false:=D8 fun h=>b (by rw[h];rfl)
 rw[this,Q4]
noncomputable def B0r:R3:=⟨_,fun b=>(.cons (QI b) (.cons (A4z b) .nil))⟩
def xR:List U->Option (Nat×List U)
 | [.int .i64 i,.int .i64 k,.int .i64 c,.int .i64 m,.int .i64 w,.int .i64 b,.int .i64 r,.int .i64 cl,.str t]=>if 0<=i/\i<=(t.length:Int)/\(t.length:Int)<=140737488351232 then X5 (bU ((t.drop i.toNat).any isE)) [.int .i64 k,.int .i64 c,.int .i64 m,.int .i64 w,.int .i64 b,.int .i64 r,.int .i64 cl,.str t] (fun _=>[])else none
 | _=>none
def qL(i:Int)(k:Int)(c:Int)(m:Int)(w:Int)(b:Int)(r:Int)(cl:Int)(t:B2)(d:0<=i/\i<=(t.length:Int)/\(t.length:Int)<=140737488351232):xR [.int .i64 i,.int .i64 k,.int .i64 c,.int .i64 m,.int .i64 w,.int .i64 b,.int .i64 r,.int .i64 cl,.str t]=X5 (bU ((t.drop i.toNat).any isE)) [.int .i64 k,.int .i64 c,.int .i64 m,.int .i64 w,.int .i64 b,.int .i64 r,.int .i64 cl,.str t] (fun _=>[]):=A9 d
def A4_:S7:=⟨[(1,.pointer (some ⟨16,0,none⟩)),(3,h 0 3)],[(16,.cells 30 [h 1 3,h 2 3,h 3 3,h 4 3,h 5 3,h 6 3,h 7 3,h 8 9])],9,[⟨.exit 1,[(1,.pointer (some ⟨16,0,none⟩))],[(16,.cells 30 [h 0 3,h 1 3,h 2 3,h 3 3,h 4 3,h 5 3,h 6 3,h 7 9])],8⟩,⟨.ret,[(2,.bool false)],[],0⟩]⟩
noncomputable def YL:Code:=(f45.body).getD .skip
noncomputable def A45:Code:=match G8 [true,false,true,false,true,true,true,true,true,false,false,true,false] YL with|some (.loop x)=>x|_=>.skip
def A49:f45.body=some YL:=rfl
def A47:G8 [true,false,true,false,true,true,true,true,true,false,false,true,false] YL=some (.loop A45):=C8
def Y1(a0:Nat)(c:Nat)(a2:Nat)(d b:Tr):Tr:=aL [h3 a0,h3 c]<|.br a2 d b
def A46:Tr:=aD [h 8 9]<|Y1 0 9 10 (.lt 4 (.idx) [h 8 9,h3 0]<|aE [h 11 4,.int .u8 (27)]<|.br 12 (I6 1) (aA [h3 0,jI 1]<|.ret [jI (-1),h3 13,h3 1,h3 2,h3 3,h3 4,h3 5,h3 6,h3 7,h 8 9])) (.ret [jI 0,h3 1,h3 2,h3 3,h3 4,h3 5,h3 6,h3 7,h 8 9])
def A48:List U->Nat
 | [.int .i64 i,.int .i64 k,.int .i64 c,.int .i64 m,.int .i64 w,.int .i64 b,.int .i64 r,.int .i64 cl,.str t]=>((t.length:Int)-i).toNat
 | _=>0
def YK(i:Int)(k:Int)(c:Int)(m:Int)(w:Int)(b:Int)(r:Int)(cl:Int)(t:B2):A48 [.int .i64 i,.int .i64 k,.int .i64 c,.int .i64 m,.int .i64 w,.int .i64 b,.int .i64 r,.int .i64 cl,.str t]=((t.length:Int)-i).toNat:=rfl
def A8s{G}(l:L2 G):∀ (E:Nat->U) (base:Nat),@R7 ⟨E,G⟩ prog base gl f45.ntmps A45 (O4 prog gl n0 17 A4_ xR):=by
 refine V5 (dep:=60) (f:=45) (n0:=n0) (nB:=17) (H0:=H0) A48 A46 (cxg (B0r.2 l) .nil) l func45 A49 A47 C8 C8 C8 ?_;intro us d outs e;have o:=e;unfold xR at e;split at e
 .skip;rename_i i k c m w b r cl t;split at e
  .rename_i n;clear e o;refine⟨rfl,?_⟩;unfold A46;refine w0 (.cons 8 _ (.cons 7 _ (.cons 6 _ (.cons 5 _ (.cons 4 _ (.cons 3 _ (.cons 2 _ (.cons 1 _ (.cons 0 _ (.nil)))))))))) ?_;repeat (first|refine w4 (fun g=>?_) fun g=>?_|refine dJ ?_|refine Y4 ?_|refine kE ?_|refine dI ?_|refine A65 ?_|refine fE ?_|(refine w7 [.int .i64 _] ?_;rotate_left)|(refine w7 [.int .i64 _,.int .i64 _,.int .i64 _,.int .i64 _,.int .i64 _,.int .i64 _,.int .i64 _,.int .i64 _,.int .i64 _,.str _] ?_;rotate_left)|(refine w7 [.int .i64 _,.int .i64 _,.int .i64 _,.int .i64 _,.int .i64 _,.int .i64 _,.int .i64 _,.int .i64 _,.str _] ?_;rotate_left))
   all_goals first
    | refine P3 ?_ ?_
      .rw[qL i k c m w b r cl t n,A94 (i:=i) A2 A2 ‹_›];exact qL (i+1) k c m w b r cl t ⟨A2,A2,n.2.2⟩
      .rw[YK,YK];omega
    | refine J0 (d:=0) ?_
      rw[qL i k c m w b r cl t n,A33 A2];rfl
    | refine J0 (d:=1) ?_
      rw[qL i k c m w b r cl t n,A93 (i:=i) A2 A2 ‹_›];rfl
  .cases e
 .cases e
noncomputable def A6q:List LpE:=(45,([true,false,true,false,true,true,true,true,true,false,false,true,false],O4 prog gl n0 17 A4_ xR))::[]
def mH{G}(b:L2 G):Y6 prog G gl A6q:=.cons func45 A49 A47 (A8s b) .nil
def A4R(t:B2):(0<=Lib.indexByte t 27)↔t.any isE=true:=by
 induction t with
 | nil=>simp[Lib.indexByte]
 | cons b l g =>
   have h:=Lib.indexByte_ge l 27;rw[Lib.indexByte,Q2];by_cases e:b=27
   .subst e;simp[isE]
   .have f:(b == 27)=false:=by simp[e]
    have d:isE b=false:=D8 e;rw[f,d,Q4,<- g];by_cases c:Lib.indexByte l 27 = -1
    .simp[c]
    .simp[c];omega
def X4(k c m w b r cl:Int)(t:B2):Prop :=
 (k=1/\w=0/\b=0/\r=0/\cl=0/\t=[]/\t7 c m)∨(k=2/\c=0/\t=[]/\msP m w b r cl)∨(k=3/\c=0/\m=0/\w=0/\b=0/\r=0/\cl=0/\t.length<=1000/\t.any isE=false)∨(k=4/\c=0/\m=0/\b=0/\r=0/\cl=0/\t=[]/\0<=w/\w<=1)
instance(k c m w b r cl:Int)(t:B2):Decidable (X4 k c m w b r cl t):=by unfold X4;infer_instance
noncomputable def B0q:R3:=⟨_,fun b=>(.cons (QI b) (.cons (A4z b) .nil))⟩
def qK:List U->Option (Nat×List U)
 | [.int .i64 k,.int .i64 c,.int .i64 m,.int .i64 w,.int .i64 b,.int .i64 r,.int .i64 cl,.str t]=>if -9223372036854775808<=m/\m<=9223372036854775807/\(t.length:Int)<=140737488351232 then some (0,[.bool (decide (X4 k c m w b r cl t))])else none
 | _=>none
def ET(k:Int)(c:Int)(m:Int)(w:Int)(b:Int)(r:Int)(cl:Int)(t:B2)(d : -9223372036854775808<=m/\m<=9223372036854775807/\(t.length:Int)<=140737488351232):qK [.int .i64 k,.int .i64 c,.int .i64 m,.int .i64 w,.int .i64 b,.int .i64 r,.int .i64 cl,.str t]=some (0,[.bool (decide (X4 k c m w b r cl t))]):=A9 d
def A44:Tr:=J7 0 8 1 (.lt 8 (.eqs) [h3 0,h3 0,h3 1,h3 1,h3 2,h3 2,h3 3,jI 0,h3 4,jI 0,h3 5,jI 0,h3 6,jI 0,h 7 9,.string ⟨⟨[]⟩⟩]<|.br 9 (.fn jO [h3 1,h3 2] 1<|.ret [h 10 8]) (G7)) (J7 0 9 2 (.lt 8 (.eqs) [h3 0,h3 0,h3 1,jI 0,h3 2,h3 2,h3 3,h3 3,h3 4,h3 4,h3 5,h3 5,h3 6,h3 6,h 7 9,.string ⟨⟨[]⟩⟩]<|.br 10 (.fn IS [h3 0,h3 1,h3 2,h3 3,h3 4,h3 5,h3 6,h 7 9] 1<|.ret [h 11 8]) (G7)) (J7 0 10 3 (.lp xR [jI 0,h3 0,h3 1,h3 2,h3 3,h3 4,h3 5,h3 6,h 7 9] 0 8 (.lt 8 (.eqs) [h3 11,h3 11,h3 12,jI 0,h3 13,jI 0,h3 14,jI 0,h3 15,jI 0,h3 16,jI 0,h3 17,jI 0,h 18 9,h 18 9]<|.br 19 (aD [h 18 9]<|aQ [h3 20,jI 1000]<|.ret [h 21 8]) (G7)) (.lp xR [jI 0,h3 0,h3 1,h3 2,h3 3,h3 4,h3 5,h3 6,h 7 9] 1 0 (G7) (.no))) (J7 0 11 4 (.lt 8 (.eqs) [h3 0,h3 0,h3 1,jI 0,h3 2,jI 0,h3 3,h3 3,h3 4,jI 0,h3 5,jI 0,h3 6,jI 0,h 7 9,.string ⟨⟨[]⟩⟩]<|.br 12 (K8 3 13 0 (aQ [h3 3,jI 1]<|.ret [h 14 8]) G7) (G7)) G7)))
def QL{G}(f:L2 G):M1 prog G 45 [.a [3,3,3,3,3,3,3,9]] qK [.s 8]:=by
 refine G3 (d:=60) A44 (cxg (B0q.2 f) (mH f)) f ⟨f45,_,func45,rfl⟩ C8 C8 ?_;intro us outs g;unfold qK at g;split at g
 .skip;rename_i k c m w b r cl t;split at g
  .rename_i l;cases g;unfold A44;refine w0 (.cons 7 _ (.cons 6 _ (.cons 5 _ (.cons 4 _ (.cons 3 _ (.cons 2 _ (.cons 1 _ (.cons 0 _ (.nil))))))))) ?_;refine fE ?_;refine w4 (fun g0=>?_) fun g0=>?_
   .refine w1 (.eqs) (e:=rfl) (k':=?_);first|refine w5 (fun g1=>?_) (fun g1=>?_)|refine w5B (fun g1=>?_) (fun g1=>?_)
    .refine w7 [.bool _] ?_;refine l1 ?_;unfold X4
     (try replace g3:=aP g3)
     (try replace g3:=aR g3)
     first|(simp_all;done)|(simp_all;omega)
    refine w31 jO (e:=QH _ _ A2) (k':=?_);refine w7 [.bool _] ?_;refine l1 ?_;unfold X4
    (try replace g3:=aP g3)
    (try replace g3:=aR g3)
    first|(simp_all;done)|(simp_all;omega)
   refine fE ?_;refine w4 (fun g1=>?_) fun g1=>?_
   .refine w1 (.eqs) (e:=rfl) (k':=?_);first|refine w5 (fun g2=>?_) (fun g2=>?_)|refine w5B (fun g2=>?_) (fun g2=>?_)
    .refine w7 [.bool _] ?_;refine l1 ?_;unfold X4
     (try replace g3:=aP g3)
     (try replace g3:=aR g3)
     first|(simp_all;done)|(simp_all;omega)
    refine w31 IS (e:=A21 _ _ _ _ _ _ _ _) (k':=?_);refine w7 [.bool _] ?_;refine l1 ?_;unfold X4
    (try replace g3:=aP g3)
    (try replace g3:=aR g3)
    first|(simp_all;done)|(simp_all;omega)
   refine fE ?_;refine w4 (fun g2=>?_) fun g2=>?_
   .refine w6 xR (qL _ _ _ _ _ _ _ _ _ A2) (h0:=fun g3=>?_) (h1:=fun v3 g3=>?_)
    .show Wk _ _ (.cons _ _ (.cons _ _ (.cons _ _ (.cons _ _ (.cons _ _ (.cons _ _ (.cons _ _ (.cons _ _ _))))))));refine w1 (.eqs) (e:=rfl) (k':=?_);first|refine w5 (fun g4=>?_) (fun g4=>?_)|refine w5B (fun g4=>?_) (fun g4=>?_)
     .refine w7 [.bool _] ?_;refine l1 ?_;unfold X4
      (try replace g3:=aP g3)
      (try replace g3:=aR g3)
      first|(simp_all;done)|(simp_all;omega)
     refine kE ?_;refine pS ?_;refine w7 [.bool _] ?_;refine l1 ?_;unfold X4
     (try replace g3:=aP g3)
     (try replace g3:=aR g3)
     first|(simp_all;done)|(simp_all;omega)
    show Wk _ _ _;refine w7 [.bool _] ?_;refine l1 ?_;unfold X4
    (try replace g3:=aP g3)
    (try replace g3:=aR g3)
    first|(simp_all;done)|(simp_all;omega)
   refine fE ?_;refine w5 (fun g3=>?_) fun g3=>?_
   .refine w7 [.bool _] ?_;refine l1 ?_;unfold X4
    (try replace g3:=aP g3)
    (try replace g3:=aR g3)
    first|(simp_all;done)|(simp_all;omega)
   refine w1 (.eqs) (e:=rfl) (k':=?_);first|refine w5 (fun g4=>?_) (fun g4=>?_)|refine w5B (fun g4=>?_) (fun g4=>?_)
   .refine w7 [.bool _] ?_;refine l1 ?_;unfold X4
    (try replace g3:=aP g3)
    (try replace g3:=aR g3)
    first|(simp_all;done)|(simp_all;omega)
   refine kO ?_;refine w5 (fun g5=>?_) fun g5=>?_
   .refine w7 [.bool _] ?_;refine l1 ?_;unfold X4
    (try replace g3:=aP g3)
    (try replace g3:=aR g3)
    first|(simp_all;done)|(simp_all;omega)
   refine pS ?_;refine w7 [.bool _] ?_;refine l1 ?_;unfold X4
   (try replace g3:=aP g3)
   (try replace g3:=aR g3)
   first|(simp_all;done)|(simp_all;omega)
  .cases g
 .cases g
noncomputable def B0s:R3:=⟨_,fun b=>(.cons (QL b) .nil)⟩
def A5D:List U->Option (Nat×List U)
 | [.int .i64 k,.int .i64 c,.int .i64 m,.int .i64 w,.int .i64 b,.int .i64 r,.int .i64 cl,.str t]=>if -9223372036854775808<=m/\m<=9223372036854775807/\(t.length:Int)<=140737488351232 then some (0,[.int .i64 (if X4 k c m w b r cl t then 0 else 430)])else none
 | _=>none
def A5C:Tr:=.fn qK [h3 0,h3 1,h3 2,h3 3,h3 4,h3 5,h3 6,h 7 9] 1<|M5 8 9 (I6 430) (I6 0)
def A8w{G}(f:L2 G):M1 prog G 43 [.a [3,3,3,3,3,3,3,9]] A5D [.s 3]:=by
 refine G3 (d:=60) A5C (cxg (B0s.2 f) (mH f)) f ⟨f43,_,func43,rfl⟩ C8 C8 ?_;intro us outs l;unfold A5D at l;split at l
 .skip;rename_i k c m w b r cl t;split at l
  .rename_i n;cases l;unfold A5C;refine w0 (.cons 7 _ (.cons 6 _ (.cons 5 _ (.cons 4 _ (.cons 3 _ (.cons 2 _ (.cons 1 _ (.cons 0 _ (.nil))))))))) ?_;repeat (first|refine o7 ?_|refine pM ?_|refine w4 (fun g=>?_) fun g=>?_|refine w4B (fun g=>?_) fun g=>?_|(refine w7 [.int .i64 _] ?_;rotate_left)|refine w31 qK (e:=ET _ _ _ _ _ _ _ _ n) (k':=?_))
   all_goals
    refine l0 ?_;first|(rw[A9 (J4 ‹_›)];done)|(rw[A7 (of_decide_eq_false ‹_›)];done)|(simp_all;done)
  .cases l
 .cases l
noncomputable def B06:R3:=⟨_,fun b=>(.cons (A8c b) (.cons (A8b b) (.cons (B0E b) .nil)))⟩
def rA:List U->Option (Nat×List U)
 | [.int .i64 k,.int .i64 c,.int .i64 m,.int .i64 w,.int .i64 b,.int .i64 r,.int .i64 cl,.str t]=>if -9223372036854775808<=m/\m<=9223372036854775807/\(t.length:Int)<=140737488351232 then some (0,[.int .i64 (if X4 k c m w b r cl t then 0 else 430)])else none
 | _=>none
def FP(k:Int)(c:Int)(m:Int)(w:Int)(b:Int)(r:Int)(cl:Int)(t:B2)(d : -9223372036854775808<=m/\m<=9223372036854775807/\(t.length:Int)<=140737488351232):rA [.int .i64 k,.int .i64 c,.int .i64 m,.int .i64 w,.int .i64 b,.int .i64 r,.int .i64 cl,.str t]=some (0,[.int .i64 (if X4 k c m w b r cl t then 0 else 430)]):=A9 d
def A5u:Tr:=J7 0 8 1 (.fn HK [h3 1,h3 2] 1<|M5 9 10 (I6 430) (.lt 8 (.eqs) [h3 0,jI 1,h3 1,h3 1,h3 2,h3 2,h3 3,jI 0,h3 4,jI 0,h3 5,jI 0,h3 6,jI 0,h 7 9,.string ⟨⟨[]⟩⟩]<|M5 11 12 (I6 430) (I6 0))) (J7 0 9 2 (.fn HJ [h3 0,h3 1,h3 2,h3 3,h3 4,h3 5,h3 6,h 7 9] 1<|M5 10 11 (I6 430) (.lt 8 (.eqs) [h3 0,h3 0,h3 1,jI 0,h3 2,h3 2,h3 3,h3 3,h3 4,h3 4,h3 5,h3 5,h3 6,h3 6,h 7 9,.string ⟨⟨[]⟩⟩]<|M5 12 13 (I6 430) (I6 0))) (J7 0 10 3 (aD [h 7 9]<|R5 11 12 1000 (.fn LJ [h 7 9,.string ⟨⟨[27]⟩⟩] 1<|aX [h 13 8]<|M5 14 15 (I6 430) (.lt 8 (.eqs) [h3 0,h3 0,h3 1,jI 0,h3 2,jI 0,h3 3,jI 0,h3 4,jI 0,h3 5,jI 0,h3 6,jI 0,h 7 9,h 7 9]<|M5 16 17 (I6 430) (I6 0))) (I6 430)) (J7 0 11 4 (K8 3 12 0 (aQ [h3 3,jI 1]<|M5 13 14 (I6 430) (.lt 8 (.eqs) [h3 0,h3 0,h3 1,jI 0,h3 2,jI 0,h3 3,h3 3,h3 4,jI 0,h3 5,jI 0,h3 6,jI 0,h 7 9,.string ⟨⟨[]⟩⟩]<|M5 15 16 (I6 430) (I6 0))) (I6 430)) (I6 430))))
def A0g{G}(f:L2 G):M1 prog G 40 [.a [3,3,3,3,3,3,3,9]] rA [.s 3]:=by
 refine G3 (d:=60) A5u (cxg (B06.2 f) (mH f)) f ⟨f40,_,func40,rfl⟩ C8 C8 ?_;intro us outs l;unfold rA at l;split at l
 .skip;rename_i k c m w b r cl t;split at l
  .rename_i n;cases l;have o:=A4R t;unfold A5u;refine w0 (.cons 7 _ (.cons 6 _ (.cons 5 _ (.cons 4 _ (.cons 3 _ (.cons 2 _ (.cons 1 _ (.cons 0 _ (.nil))))))))) ?_;repeat (first|refine w4 (fun g=>?_) fun g=>?_|refine w4B (fun g=>?_) fun g=>?_|refine o7 ?_|refine pM ?_|(refine w7 [.int .i64 _] ?_;rotate_left)|refine fE ?_|refine w1 (.eqs) (e:=rfl) (k':=?_)|refine pS ?_|refine w31 HK (e:=A2d _ _ A2) (k':=?_)|refine w31 HJ (e:=A2c _ _ _ _ _ _ _ _) (k':=?_)|refine kE ?_|refine w31 LJ (e:=A4A _ _ rfl) (k':=?_)|refine kO ?_)
   all_goals
    refine l0 ?_;first
    | exact(A9 (by unfold X4;first|(simp_all;done)|(simp_all;omega))).symm
    | exact(A7 (fun h=>by
       unfold X4 at h;rcases h with h|h|h|h<;>first|(exfalso;omega)|(simp_all;done)|(simp_all;omega))).symm
  .cases l
 .cases l
def nE(l:B2):B2:=l.filter fun x=>!isE x
def GP{α:Type}(x:Option (List α)):T9 x (some [])=x:=by
 unfold T9;cases x<;>simp[el]
def tU{α:Type}(x:Option (List α))(u v:List α):T9 (T9 x (some u)) (some v)=T9 x (some (u++v)):=by
 cases u with
 | nil=>rw[GP];rfl
 | cons a u=>cases v with
   | nil=>simp[T9,el]
   | cons c v=>simp[T9,el]
def HX{l:B2}(h0:0<=i)(h1:i<1000):(l.take 1000).getD i.toNat default=l.getD i.toNat default:=by
 rw[B1,B1,E8 A2]
def A7f{l:B2}(h:(l.length:Int)<=i∨1000<=i):nE ((l.take 1000).drop i.toNat)=[]:=by
 rw[cI (l.take 1000) (by rw[I7];omega)];rfl
def B2G{l:B2}(h0:0<=i)(h1:i<(l.length:Int))(b:i<1000)(c:¬(((l.getD i.toNat 0).toNat:Nat):Int)≠27):nE ((l.take 1000).drop i.toNat)=nE ((l.take 1000).drop (i+1).toNat):=by
 rw[S2 (l.take 1000) h0 (by rw[I7];omega),HX h0 b,FY,show l.getD i.toNat 0=27 from A6P A2];rfl
def B2H{l:B2}(h0:0<=i)(h1:i<(l.length:Int))(b:i<1000)(c:(((l.getD i.toNat 0).toNat:Nat):Int)≠27):nE ((l.take 1000).drop i.toNat)=l.getD i.toNat 0::nE ((l.take 1000).drop (i+1).toNat):=by
 rw[S2 (l.take 1000) h0 (by rw[I7];omega),HX h0 b,FY];have:isE (l.getD i.toNat 0)=false:=D8 fun h=>c (by rw[h];rfl)
 unfold nE;rw[List.filter_cons,this];rfl
def A7e(l:B2):(nE l).length<=l.length:=List.length_filter_le _ _
noncomputable def B1G:R3:=⟨_,fun b=>(.cons (QI b) (.cons (QL b) .nil))⟩
def sD:List U->Option (Nat×List U)
 | [u_out,.int .i64 i,.int .u8 d0,.int .u8 d1,.int .u8 d2,.int .u8 d3,.int .u8 d4,.int .u8 d5,.int .u8 d6,.int .u32 dc,.str t]=>(P0 rB u_out).bind fun out=>if 0<=i/\i<=1000/\((el out).length:Int)<=i/\(t.length:Int)<=140737488351232 then some (0,[E4 rB (T9 out (some (bI (nE ((t.take 1000).drop i.toNat)))))])else none
 | _=>none
def nN(out:sO)(i:Int)(d0:Int)(d1:Int)(d2:Int)(d3:Int)(d4:Int)(d5:Int)(d6:Int)(dc:Int)(t:B2)(b:0<=i/\i<=1000/\((el out).length:Int)<=i/\(t.length:Int)<=140737488351232):sD [E4 rB out,.int .i64 i,.int .u8 d0,.int .u8 d1,.int .u8 d2,.int .u8 d3,.int .u8 d4,.int .u8 d5,.int .u8 d6,.int .u32 dc,.str t]=some (0,[E4 rB (T9 out (some (bI (nE ((t.take 1000).drop i.toNat)))))]):=by
 simp only[sD,I0,F5];exact A9 b
def A6Y:S7:=⟨[(1,.pointer (some ⟨16,0,none⟩)),(2,.pointer (some ⟨17,0,none⟩)),(4,own 18 0 11),(5,h 1 3)],[(16,.cells 24 [h 2 4,h 3 4,h 4 4,h 5 4,h 6 4,h 7 4,h 8 4,h 9 6,h 10 9]),(17,.cells 30 [.int .i64 (0),.int .i64 (0),.int .i64 (0),.int .i64 (0),.int .i64 (0),.int .i64 (0),.int .i64 (0),.string ⟨⟨[]⟩⟩]),(18,.sq 0 11 5 19),(19,.frz)],11,[⟨.exit 1,[(2,.pointer (some ⟨17,0,none⟩)),(4,own 20 0 11)],[(17,.cells 30 [.int .i64 (0),.int .i64 (0),.int .i64 (0),.int .i64 (0),.int .i64 (0),.int .i64 (0),.int .i64 (0),.string ⟨⟨[]⟩⟩]),(20,.sq 0 11 5 21),(21,.frz)],1⟩]⟩
noncomputable def A1g:Code:=(f17.body).getD .skip
noncomputable def A6U:Code:=match G8 [true,false,true,false,true,true,true,false,true,false,true,false] A1g with|some (.loop x)=>x|_=>.skip
def A6X:f17.body=some A1g:=rfl
def A6W:G8 [true,false,true,false,true,true,true,false,true,false,true,false] A1g=some (.loop A6U):=C8
def A6V:Tr:=aD [h 10 9]<|Y1 1 11 12 (aL [h3 1,jI 1000]<|.br 13 (.lt 4 (.idx) [h 10 9,h3 1]<|aN [h 14 4,.int .u8 (27)]<|.br 15 (.lt 4 (.idx) [h 10 9,h3 1]<|.dt 11 (.snoc 1) [h 0 11,h 16 4]<|aA [h3 1,jI 1]<|.ret [jI (-1),h 17 11,h3 18,h 2 4,h 3 4,h 4 4,h 5 4,h 6 4,h 7 4,h 8 4,h 9 6,h 10 9]) (aA [h3 1,jI 1]<|.ret [jI (-1),h 0 11,h3 16,h 2 4,h 3 4,h 4 4,h 5 4,h 6 4,h 7 4,h 8 4,h 9 6,h 10 9])) (.ret [jI 0,h 0 11])) (.ret [jI 0,h 0 11])
def A1f:List U->Nat
 | [u_out,.int .i64 i,.int .u8 d0,.int .u8 d1,.int .u8 d2,.int .u8 d3,.int .u8 d4,.int .u8 d5,.int .u8 d6,.int .u32 dc,.str t]=>(match P0 rB u_out with|some out=>(1000-i).toNat|none=>0)
 | _=>0
def A1e(out:sO)(i:Int)(d0:Int)(d1:Int)(d2:Int)(d3:Int)(d4:Int)(d5:Int)(d6:Int)(dc:Int)(t:B2):A1f [E4 rB out,.int .i64 i,.int .u8 d0,.int .u8 d1,.int .u8 d2,.int .u8 d3,.int .u8 d4,.int .u8 d5,.int .u8 d6,.int .u32 dc,.str t]=(1000-i).toNat:=by
 simp only[A1f,I0]
def A98{G}(l:L2 G):∀ (E:Nat->U) (base:Nat),@R7 ⟨E,G⟩ prog base gl f17.ntmps A6U (O4 prog gl n0 22 A6Y sD):=by
 refine V5 (dep:=60) (f:=17) (n0:=n0) (nB:=22) (H0:=H0) A1f A6V (cxg (B1G.2 l) (mH l)) l func17 A6X A6W C8 C8 C8 ?_;intro us d outs c;have n:=c;unfold sD at c;split at c
 .skip;rename_i o i d0 d1 d2 d3 d4 d5 d6 dc t;have k:=B9.1 c;clear c;obtain⟨out,b,c⟩:=k;replace b:=K4 b;subst b;split at c
  .rename_i m;clear c n;refine⟨rfl,?_⟩;unfold A6V;refine w0 (.cons 10 _ (.cons 9 _ (.cons 8 _ (.cons 7 _ (.cons 6 _ (.cons 5 _ (.cons 4 _ (.cons 3 _ (.cons 2 _ (.cons 1 _ (.cons 0 _ (.nil)))))))))))) ?_;repeat (first|refine dJ ?_|refine Y4 ?_|refine w4 (fun g=>?_) fun g=>?_|refine dI ?_|refine A65 ?_|(refine w7 [.int .i64 _,E4 rB _,.int .i64 _,.int .u8 _,.int .u8 _,.int .u8 _,.int .u8 _,.int .u8 _,.int .u8 _,.int .u8 _,.int .u32 _,.str _] ?_;rotate_left)|(refine w7 [.int .i64 _,E4 rB _] ?_;rotate_left)|refine kE ?_|refine AP ?_|refine w2 (.snoc 1) (r:=rB) (e:=zH rfl rfl E6 (by simp[*]<;>omega)) (k':=?_))
   all_goals first
    | refine P3 ?_ ?_
      .first
       | (have hx:∀ X,X=T9 out (some (bI [t.getD i.toNat 0]))->sD [E4 rB X,.int .i64 (i+1),.int .u8 d0,.int .u8 d1,.int .u8 d2,.int .u8 d3,.int .u8 d4,.int .u8 d5,.int .u8 d6,.int .u32 dc,.str t]=sD [E4 rB out,.int .i64 i,.int .u8 d0,.int .u8 d1,.int .u8 d2,.int .u8 d3,.int .u8 d4,.int .u8 d5,.int .u8 d6,.int .u32 dc,.str t]:=fun X p=>by
           rw[nN X (i+1) d0 d1 d2 d3 d4 d5 d6 dc t ⟨A2,A2,by rw[p,aM,K3,B8,oV,C7,N1];omega,m.2.2.2⟩,nN out i d0 d1 d2 d3 d4 d5 d6 dc t m,p,tU,<- GX,B2H (i:=i) A2 A2 A2 ‹_›];rfl
          exact hx _ rfl)
       | (rw[nN out (i+1) d0 d1 d2 d3 d4 d5 d6 dc t ⟨A2,A2,A2,m.2.2.2⟩,nN out i d0 d1 d2 d3 d4 d5 d6 dc t m,B2G (i:=i) A2 A2 A2 ‹_›];done)
      .rw[A1e,A1e];omega
    | refine J0 (d:=0) ?_
      rw[nN out i d0 d1 d2 d3 d4 d5 d6 dc t m,A7f (i:=i) A2];exact F1 (fun z=>some (0,[E4 rB z])) (GP out)
  .cases c
 .cases c
noncomputable def B1X:List LpE:=(17,([true,false,true,false,true,true,true,false,true,false,true,false],O4 prog gl n0 22 A6Y sD))::A6q
def MF{G}(b:L2 G):Y6 prog G gl B1X:=.cons func17 A6X A6W (A98 b) (mH b)
def A90(h0:0<=a)(h1:a<256):evU (.bin .and) [.int .u8 a,.int .u8 6]=.int .u8 (a / 2%4*2):=by
 rw[tP];have k:∀ n:Nat,n<256->IntKind.u8.wrap (BitVec.ofInt IntKind.u8.bits (n:Int) &&& BitVec.ofInt IntKind.u8.bits 6).toNat=(n:Int) / 2%4*2:=E6;obtain⟨n,rfl⟩:∃ n:Nat,a=n:=⟨a.toNat,A2⟩;exact F1 _ (k n A2)
def A91(h0:0<=a)(h1:a<256):evU (.bin .and) [.int .u8 a,.int .u8 2]=.int .u8 (a / 2%2*2):=by
 rw[tP];have k:∀ n:Nat,n<256->IntKind.u8.wrap (BitVec.ofInt IntKind.u8.bits (n:Int) &&& BitVec.ofInt IntKind.u8.bits 2).toNat=(n:Int) / 2%2*2:=E6;obtain⟨n,rfl⟩:∃ n:Nat,a=n:=⟨a.toNat,A2⟩;exact F1 _ (k n A2)
def el0(l:B2):el (T9 none (some (bI l)))=bI l:=by rw[aM];rfl
def B1r(l:B2):∀ n ∈ el (T9 none (some (bI l))),0<=n/\n<256:=fun n h=>by rw[el0]at h;exact A2E h
def iB0(l:B2):iB (el (T9 none (some (bI l))))=l:=by rw[el0,A09]
def dC1(d4 dc:Int):Int:=if d4%2=0 then 1114113+d4 / 2%26 else dc
def dC2(x:Int):Int:=if x<1114113/\¬chP x then 97+x%26 else x
def dM(c m:Int):Int:=if t7 c (m%8)then m%8 else if t7 c (m%8 / 2%4*2)then m%8 / 2%4*2 else if t7 c (m / 2%2*2)then m / 2%2*2 else 0
def dC3(c m:Int):Int:=if t7 c (m%8)∨t7 c (m%8 / 2%4*2)∨t7 c (m / 2%2*2)∨t7 c 0 then c else 97
def diK(q:Int):Int:=if q=1 then 2 else if q=2 then 3 else if q=3 then 4 else 1
def diC(q d3 d4 dc:Int):Int:=if q=0 then dC3 (dC2 (dC1 d4 dc)) d3 else 0
def diM(q d3 d4 dc:Int):Int:=if q=0 then dM (dC2 (dC1 d4 dc)) d3 else if q=1 then d3%8 else 0
def diW(q d1:Int):Int:=if q=1 then d1%4 else if q=3 then d1%2 else 0
def diB(q d1 d2 d3 d5 d6:Int):Int:=if q=1 then(if X4 2 0 (d3%8) (d1%4) (d2%4) (d5%40) (d6%80) []then d2%4 else d2%4%2)else 0
def diR(q d5:Int):Int:=if q=1 then d5%40 else 0
def diL(q d6:Int):Int:=if q=1 then d6%80 else 0
def diT(q:Int)(t:B2):B2:=if q=2 then nE (t.take 1000)else[]
def l8{d a2 a3 a4 a5 f c n g b m k l e:Int}{s t:B2}(h1:d=n)(o:a2=g)(h3:a3=b)(u:a4=m)(p:a5=k)(q:f=l)(r:c=e)(v:s=t):[U.int .i64 d,.int .i64 a2,.int .i64 a3,.int .i64 a4,.int .i64 a5,.int .i64 f,.int .i64 c,.str s]=[U.int .i64 n,.int .i64 g,.int .i64 b,.int .i64 m,.int .i64 k,.int .i64 l,.int .i64 e,.str t]:=by rw[h1,o,h3,u,p,q,r,v]
def B0C(h:d4%2=0):dC1 d4 dc=1114113+d4 / 2%26:=A9 h
def B0B(h:¬d4%2=0):dC1 d4 dc=dc:=A7 h
noncomputable def B1J:R3:=⟨_,fun b=>.nil⟩
def DO:List U->Option (Nat×List U)
 | [.int .i64 c]=>some (0,[.bool (decide (chP c))])
 | _=>none
def A4G(c:Int):DO [.int .i64 c]=some (0,[.bool (decide (chP c))]):=rfl
def A1y(n:Nat):Tr:=K8 0 n 32 (K8 0 (n+1) 127 (aQ [h3 0,jI 159]<|aX [h (n+2) 8]<|.ret [h (n+3) 8]) cQ) G7
def A6f:Tr:=K8 0 1 0 (R5 0 2 1114111 (aL [h3 0,jI 55296]<|.br 3 (A1y 4) (aG [h3 0,jI 57343]<|.br 4 (A1y 5) (G7))) G7) G7
def B0K{G}(b:L2 G):M1 prog G 46 [.s 3] DO [.s 8]:=by
 refine G3 (d:=60) A6f (cxg (B1J.2 b) (MF b)) b ⟨f46,_,func46,rfl⟩ C8 C8 ?_;intro us outs e;unfold DO at e;split at e
 .skip;rename_i c;cases e;unfold A6f;refine w0 (.cons 0 _ (.nil)) ?_;repeat (first|(refine w7 [.bool _] ?_;rotate_left)|refine w4 (fun g=>?_) fun g=>?_|refine kO ?_|refine pS ?_|refine o7 ?_|refine dI ?_|refine AQ ?_)
  all_goals
   refine l1 ?_;first|(refine decide_eq_decide.2 ?_;unfold chP okU;omega)|(symm;first|exact I3 (by unfold chP okU;omega)|exact D8 (by unfold chP okU;omega))
 .cases e
noncomputable def B1F:R3:=⟨_,fun b=>(.cons (QI b) (.cons (QL b) (.cons (B0K b) .nil)))⟩
def zN:List U->Option (Nat×List U)
 | [.int .u8 d0,.int .u8 d1,.int .u8 d2,.int .u8 d3,.int .u8 d4,.int .u8 d5,.int .u8 d6,.int .u32 dc,.str t]=>if 0<=d0/\d0<256/\0<=d1/\d1<256/\0<=d2/\d2<256/\0<=d3/\d3<256/\0<=d4/\d4<256/\0<=d5/\d5<256/\0<=d6/\d6<256/\0<=dc/\dc<4294967296/\(t.length:Int)<=140737488351232 then some (0,[.int .i64 (diK (d0%4)),.int .i64 (diC (d0%4) d3 d4 dc),.int .i64 (diM (d0%4) d3 d4 dc),.int .i64 (diW (d0%4) d1),.int .i64 (diB (d0%4) d1 d2 d3 d5 d6),.int .i64 (diR (d0%4) d5),.int .i64 (diL (d0%4) d6),.str (diT (d0%4) t)])else none
 | _=>none
def SV(d0:Int)(d1:Int)(d2:Int)(d3:Int)(d4:Int)(d5:Int)(d6:Int)(dc:Int)(t:B2)(b:0<=d0/\d0<256/\0<=d1/\d1<256/\0<=d2/\d2<256/\0<=d3/\d3<256/\0<=d4/\d4<256/\0<=d5/\d5<256/\0<=d6/\d6<256/\0<=dc/\dc<4294967296/\(t.length:Int)<=140737488351232):zN [.int .u8 d0,.int .u8 d1,.int .u8 d2,.int .u8 d3,.int .u8 d4,.int .u8 d5,.int .u8 d6,.int .u32 dc,.str t]=some (0,[.int .i64 (diK (d0%4)),.int .i64 (diC (d0%4) d3 d4 dc),.int .i64 (diM (d0%4) d3 d4 dc),.int .i64 (diW (d0%4) d1),.int .i64 (diB (d0%4) d1 d2 d3 d5 d6),.int .i64 (diR (d0%4) d5),.int .i64 (diL (d0%4) d6),.str (diT (d0%4) t)]):=A9 b
def l5(a0:Nat)(b:Nat):Tr:=.ret [jI 1,h3 a0,h3 b,jI 0,jI 0,jI 0,jI 0,.string ⟨⟨[]⟩⟩]
def fL(a0:Nat)(c:Nat)(a2:Nat)(d b:Tr):Tr:=.fn jO [h3 a0,h3 c] 1<|.br a2 d b
def vY(a0:Nat)(b:Nat)(d c:Tr):Tr:=.lt 4 (.bin .rem) [h 3 4,.int .u8 (8)]<|.lt 3 (.conv .i64) [h b 4]<|.lt 4 (.bin .rem) [h 3 4,.int .u8 (8)]<|.lt 4 (.bin .and) [h (b+2) 4,.int .u8 (6)]<|.lt 3 (.conv .i64) [h (b+3) 4]<|.lt 4 (.bin .and) [h 3 4,.int .u8 (2)]<|.lt 3 (.conv .i64) [h (b+5) 4]<|.fn jO [h3 a0,h3 (b+1)] 1<|.br (b+7) d c
def A1c(n:Nat):Tr:=vY 19 n (l5 19 (n+1)) (fL 19 (n+4) (n+8) (l5 19 (n+4)) (fL 19 (n+6) (n+9) (l5 19 (n+6)) (.fn jO [h3 19,jI 0] 1<|.br (n+10) (.ret [jI 1,h3 19,jI 0,jI 0,jI 0,jI 0,jI 0,.string ⟨⟨[]⟩⟩]) (.ret [jI 1,jI 97,jI 0,jI 0,jI 0,jI 0,jI 0,.string ⟨⟨[]⟩⟩]))))
def A1b(n:Nat):Tr:=vY 13 n (l5 13 (n+1)) (fL 13 (n+4) (n+8) (l5 13 (n+4)) (fL 13 (n+6) (n+9) (l5 13 (n+6)) (.fn jO [h3 13,jI 0] 1<|.br (n+10) (.ret [jI 1,h3 13,jI 0,jI 0,jI 0,jI 0,jI 0,.string ⟨⟨[]⟩⟩]) (.ret [jI 1,jI 97,jI 0,jI 0,jI 0,jI 0,jI 0,.string ⟨⟨[]⟩⟩]))))
def A6S:Tr:=.lt 4 (.bin .rem) [h 0 4,.int .u8 (4)]<|aE [h 9 4,.int .u8 (1)]<|.br 10 (.lt 4 (.bin .rem) [h 1 4,.int .u8 (4)]<|.lt 3 (.conv .i64) [h 11 4]<|.lt 4 (.bin .rem) [h 2 4,.int .u8 (4)]<|.lt 3 (.conv .i64) [h 13 4]<|.lt 4 (.bin .rem) [h 3 4,.int .u8 (8)]<|.lt 3 (.conv .i64) [h 15 4]<|.lt 4 (.bin .rem) [h 5 4,.int .u8 (40)]<|.lt 3 (.conv .i64) [h 17 4]<|.lt 4 (.bin .rem) [h 6 4,.int .u8 (80)]<|.lt 3 (.conv .i64) [h 19 4]<|.fn qK [jI 2,jI 0,h3 16,h3 12,h3 14,h3 18,h3 20,.string ⟨⟨[]⟩⟩] 1<|M5 21 22 (.lt 3 (.bin .rem) [h3 14,jI 2]<|.ret [jI 2,jI 0,h3 16,h3 12,h3 23,h3 18,h3 20,.string ⟨⟨[]⟩⟩]) (.ret [jI 2,jI 0,h3 16,h3 12,h3 14,h3 18,h3 20,.string ⟨⟨[]⟩⟩])) (aE [h 9 4,.int .u8 (2)]<|.br 11 (.dt 11 (.nilw 1) []<|.fn sD [h 12 11,jI 0,h 0 4,h 1 4,h 2 4,h 3 4,h 4 4,h 5 4,h 6 4,h 7 6,h 8 9] 1<|.lt 9 (.str) [h 13 11]<|.ret [jI 3,jI 0,jI 0,jI 0,jI 0,jI 0,jI 0,h 14 9]) (aE [h 9 4,.int .u8 (3)]<|.br 12 (.lt 4 (.bin .rem) [h 1 4,.int .u8 (2)]<|.lt 3 (.conv .i64) [h 13 4]<|.ret [jI 4,jI 0,jI 0,h3 14,jI 0,jI 0,jI 0,.string ⟨⟨[]⟩⟩]) (.lt 3 (.conv .i64) [h 7 6]<|.lt 4 (.bin .rem) [h 4 4,.int .u8 (2)]<|aE [h 14 4,.int .u8 (0)]<|.br 15 (.lt 4 (.bin .quo) [h 4 4,.int .u8 (2)]<|.lt 3 (.conv .i64) [h 16 4]<|.lt 3 (.bin .rem) [h3 17,jI 26]<|aA [jI 1114113,h3 18]<|aL [h3 19,jI 1114113]<|.br 20 (.fn DO [h3 19] 1<|M5 21 22 (.lt 3 (.bin .rem) [h3 19,jI 26]<|aA [jI 97,h3 23]<|vY 24 25 (l5 24 26) (fL 24 29 33 (l5 24 29) (fL 24 31 34 (l5 24 31) (.fn jO [h3 24,jI 0] 1<|.br 35 (.ret [jI 1,h3 24,jI 0,jI 0,jI 0,jI 0,jI 0,.string ⟨⟨[]⟩⟩]) (.ret [jI 1,jI 97,jI 0,jI 0,jI 0,jI 0,jI 0,.string ⟨⟨[]⟩⟩]))))) (A1c 23)) (A1c 21)) (aL [h3 13,jI 1114113]<|.br 16 (.fn DO [h3 13] 1<|M5 17 18 (.lt 3 (.bin .rem) [h3 13,jI 26]<|aA [jI 97,h3 19]<|vY 20 21 (l5 20 22) (fL 20 25 29 (l5 20 25) (fL 20 27 30 (l5 20 27) (.fn jO [h3 20,jI 0] 1<|.br 31 (.ret [jI 1,h3 20,jI 0,jI 0,jI 0,jI 0,jI 0,.string ⟨⟨[]⟩⟩]) (.ret [jI 1,jI 97,jI 0,jI 0,jI 0,jI 0,jI 0,.string ⟨⟨[]⟩⟩]))))) (A1b 19)) (A1b 17)))))
def A6T{G}(f:L2 G):M1 prog G 17 [.a [4,4,4,4,4,4,4,6,9]] zN [.a [3,3,3,3,3,3,3,9]]:=by
 refine G3 (d:=60) A6S (cxg (B1F.2 f) (MF f)) f ⟨f17,_,func17,rfl⟩ C8 C8 ?_;intro us outs k;unfold zN at k;split at k
 .skip;rename_i d0 d1 d2 d3 d4 d5 d6 dc t;split at k
  .rename_i p;cases k;have o:nE (t.take 1000)=nE ((t.take 1000).drop (0:Int).toNat):=rfl;have n:((el (none:sO)).length:Int)=0:=rfl;unfold A6S;refine w0 (.cons 8 _ (.cons 7 _ (.cons 6 _ (.cons 5 _ (.cons 4 _ (.cons 3 _ (.cons 2 _ (.cons 1 _ (.cons 0 _ (.nil)))))))))) ?_;repeat (first|refine w4 (fun g=>?_) fun g=>?_|refine w4B (fun g=>?_) fun g=>?_|refine HW ?_|refine wX ?_|refine A8e ?_|refine w1 (.bin .rem) (e:=OQ _ _ _ A2) (k':=?_)|(refine w7 [.int .i64 _,.int .i64 _,.int .i64 _,.int .i64 _,.int .i64 _,.int .i64 _,.int .i64 _,.str _] ?_;rotate_left)|refine w31 jO (e:=QH _ _ A2) (k':=?_)|refine o7 ?_|refine pM ?_|refine dJ ?_|refine Y4 ?_|refine w1 (.bin .and) (e:=A90 A2 A2) (k':=?_)|refine w1 (.bin .and) (e:=A91 A2 A2) (k':=?_)|refine fE ?_|refine A8f ?_|refine w1 (.bin .quo) (e:=OS _ _ _ A2) (k':=?_)|refine dI ?_|refine w31 DO (e:=A4G _) (k':=?_)|refine w31 qK (e:=ET _ _ _ _ _ _ _ _ ⟨A2,A2,by show(0:Int)<=_;omega⟩) (k':=?_)|refine w2 (.nilw 1) (r:=rB) (e:=sA rfl) (k':=?_)|refine w31 sD (e:=nN _ _ _ _ _ _ _ _ _ _ _ ⟨A2,A2,A2,A2⟩) (k':=?_)|refine w1 (.str) (e:=A3m rfl (B1r _)) (k':=?_))
   all_goals
    first
    | (have c:d0%4=1:=A2
       rw[c];first
       | exact l8 rfl rfl rfl rfl (A9 (D9.1 ‹_›)).symm rfl rfl rfl
       | exact l8 rfl rfl rfl rfl (A7 ‹_›).symm rfl rfl rfl)
    | (have c:d0%4=2:=A2
       rw[c];exact l8 rfl rfl rfl rfl rfl rfl rfl (iB0 _))
    | (have c:d0%4=3:=A2
       rw[c];exact l8 rfl rfl rfl rfl rfl rfl rfl rfl)
    | (have c:d0%4=0:=A2
       rw[c];obtain⟨X,h1⟩:∃ X,X=dC1 d4 dc:=⟨_,rfl⟩;obtain⟨Y,m⟩:∃ Y,Y=dC2 X:=⟨_,rfl⟩;have l:=h1;have b:=m;first|rw[B0C ‹_›]at l|rw[B0B ‹_›]at l
       rw[l]at b;unfold dC2 at b;first|rw[A9 ⟨by assumption,by assumption⟩]at b|rw[A7 (fun g=>absurd g.1 ‹_›)]at b|rw[A7 (fun g=>absurd g.2 ‹_›)]at b
       refine l8 rfl ?_ ?_ rfl rfl rfl rfl rfl
       .show _=dC3 (dC2 (dC1 d4 dc)) d3;rw[<- h1,<- m,b];unfold dC3;first
        | exact(A9 (.inl ‹_›)).symm
        | exact(A9 (.inr (.inl ‹_›))).symm
        | exact(A9 (.inr (.inr (.inl ‹_›)))).symm
        | exact(A9 (.inr (.inr (.inr ‹_›)))).symm
        | exact(A7 fun q=>q.elim ‹_› fun q=>q.elim ‹_› fun q=>q.elim ‹_› ‹_›).symm
       .show _=dM (dC2 (dC1 d4 dc)) d3;rw[<- h1,<- m,b];unfold dM
        (repeat (first|rw[A9 ‹_›]|rw[A7 ‹_›]));done)
  .cases k
 .cases k
def A6H(s:B2)(n:Nat):(ByteArray.mk ⟨s⟩).get! n=s.getD n 0:=by
 show(Array.mk s)[n]! = _;rw[getElem!_def];simp only[I8,B1];cases s[n]?<;>rfl
def A2w{s:B2}{k:Int}(h:((s.getD k.toNat 0).toNat:Int)<128):qA s k=((s.getD k.toNat 0).toNat:Int)/\QG s k=k+1:=by
 have e:Utf8.decode ⟨⟨s⟩⟩ k.toNat=((s.getD k.toNat 0).toNat,1):=by
  unfold Utf8.decode;simp only[jJ,A6H];rw[A9 A2]
 unfold qA QG;rw[e];exact⟨rfl,rfl⟩
def A2x{s:B2}{k:Int}(h:¬((s.getD k.toNat 0).toNat:Int)<128):128<=qA s k:=by
 unfold qA Utf8.decode;simp only[jJ,A6H];rw[A7 A2];have hr:128<=Utf8.runeError:=E6;split
 .split
  .omega
  .exact dS.2 hr
 .split
  .split
   .simp_all;omega
   .exact dS.2 hr
  .split
   .split
    .simp_all;omega
    .exact dS.2 hr
   .exact dS.2 hr
def mD(x:UInt8):Bool:=decide (x.toNat<32∨126<x.toNat)
def sE(s:B2):Prop:=s≠[]/\s.length<=100/\s.any mD=false
instance(s:B2):Decidable (sE s):=by unfold sE;infer_instance
def XH{s:B2}{k:Int}(h0:0<=k)(h1:k<s.length):(qA s k<32∨126<qA s k↔mD (s.getD k.toNat default)=true)/\(¬(qA s k<32∨126<qA s k)->QG s k=k+1):=by
 show(_↔mD (s.getD k.toNat 0)=true)/\_;unfold mD;rw[decide_eq_true_iff];by_cases h:((s.getD k.toNat 0).toNat:Int)<128
 .obtain⟨b,c⟩:=A2w h;rw[b,c];exact⟨A2,fun _=>rfl⟩
 .have:=A2x h;exact⟨A2,fun k=>by omega⟩
def hZ{α:Type}{p:α->Bool}{l:List α}(h:I5 p l i=none):l.any p=false:=by
 induction l generalizing i with
 | nil=>rfl
 | cons a l b =>
   unfold I5 at h;cases hp:p a with
   | true=>rw[hp]at h;cases h
   | false=>rw[hp]at h;rw[Q2,hp,b h];rfl
def eU{α:Type}{p:α->Bool}{l:List α}(h:I5 p l i=some j):l.any p=true/\i<=j:=by
 induction l generalizing i with
 | nil=>cases h
 | cons a l b =>
   unfold I5 at h;cases hp:p a with
   | true=>rw[hp]at h;cases h;rw[Q2,hp];exact⟨rfl,Int.le_refl _⟩
   | false=>rw[hp]at h;rw[Q2,(b h).1,Bool.or_true];exact⟨rfl,by have:=(b h).2;omega⟩
def A8E(b:Bool):evU (.bin .eql) [.bool b,.bool true]=.bool b:=by cases b<;>rfl
noncomputable def B1B:R3:=⟨_,fun b=>(.cons (A0g b) .nil)⟩
def rM:List U->Option (Nat×List U)
 | [.int .i64 k,.int .i64 c,.int .i64 m,.int .i64 w,.int .i64 b,.int .i64 r,.int .i64 cl,.str t]=>if -9223372036854775808<=m/\m<=9223372036854775807/\(t.length:Int)<=140737488351232 then some (0,[.bool (decide (k=1/\X4 k c m w b r cl t))])else none
 | _=>none
def FX(k:Int)(c:Int)(m:Int)(w:Int)(b:Int)(r:Int)(cl:Int)(t:B2)(d : -9223372036854775808<=m/\m<=9223372036854775807/\(t.length:Int)<=140737488351232):rM [.int .i64 k,.int .i64 c,.int .i64 m,.int .i64 w,.int .i64 b,.int .i64 r,.int .i64 cl,.str t]=some (0,[.bool (decide (k=1/\X4 k c m w b r cl t))]):=A9 d
def A6A:Tr:=J7 0 8 1 (.fn rA [h3 0,h3 1,h3 2,h3 3,h3 4,h3 5,h3 6,h 7 9] 1<|aE [h3 9,jI 0]<|.ret [h 10 8]) G7
def A07{G}(l:L2 G):M1 prog G 52 [.a [3,3,3,3,3,3,3,9]] rM [.s 8]:=by
 refine G3 (d:=60) A6A (cxg (B1B.2 l) .nil) l ⟨f52,_,func52,rfl⟩ C8 C8 ?_;intro us outs f;unfold rM at f;split at f
 .skip;rename_i k c m w b r cl t;split at f
  .rename_i n;cases f;unfold A6A;refine w0 (.cons 7 _ (.cons 6 _ (.cons 5 _ (.cons 4 _ (.cons 3 _ (.cons 2 _ (.cons 1 _ (.cons 0 _ (.nil))))))))) ?_;repeat (first|refine fE ?_|(refine w7 [.bool _] ?_;rotate_left)|refine w4 (fun g=>?_) fun g=>?_|refine w31 rA (e:=FP _ _ _ _ _ _ _ _ n) (k':=?_))
   all_goals
    refine l1 ?_;first|(symm;exact D8 (by simp_all))|(refine decide_eq_decide.2 ?_;by_cases h:X4 k c m w b r cl t<;>simp_all;done)
  .cases f
 .cases f
noncomputable def B0p:R3:=⟨_,fun b=>(.cons (QL b) .nil)⟩
def xQ:List U->Option (Nat×List U)
 | [.int .i64 k,.int .i64 c,.int .i64 m,.int .i64 w,.int .i64 b,.int .i64 r,.int .i64 cl,.str t]=>if -9223372036854775808<=m/\m<=9223372036854775807/\(t.length:Int)<=140737488351232 then some (0,[.bool (decide (k=1/\X4 k c m w b r cl t))])else none
 | _=>none
def QJ(k:Int)(c:Int)(m:Int)(w:Int)(b:Int)(r:Int)(cl:Int)(t:B2)(d : -9223372036854775808<=m/\m<=9223372036854775807/\(t.length:Int)<=140737488351232):xQ [.int .i64 k,.int .i64 c,.int .i64 m,.int .i64 w,.int .i64 b,.int .i64 r,.int .i64 cl,.str t]=some (0,[.bool (decide (k=1/\X4 k c m w b r cl t))]):=A9 d
def A43:Tr:=J7 0 8 1 (.fn qK [h3 0,h3 1,h3 2,h3 3,h3 4,h3 5,h3 6,h 7 9] 1<|.ret [h 9 8]) G7
def QK{G}(l:L2 G):M1 prog G 54 [.a [3,3,3,3,3,3,3,9]] xQ [.s 8]:=by
 refine G3 (d:=60) A43 (cxg (B0p.2 l) .nil) l ⟨f54,_,func54,rfl⟩ C8 C8 ?_;intro us outs f;unfold xQ at f;split at f
 .skip;rename_i k c m w b r cl t;split at f
  .rename_i n;cases f;unfold A43;refine w0 (.cons 7 _ (.cons 6 _ (.cons 5 _ (.cons 4 _ (.cons 3 _ (.cons 2 _ (.cons 1 _ (.cons 0 _ (.nil))))))))) ?_;repeat (first|(refine w7 [.bool _] ?_;rotate_left)|refine fE ?_|refine w4 (fun g=>?_) fun g=>?_|refine w31 qK (e:=ET _ _ _ _ _ _ _ _ n) (k':=?_))
   all_goals
    refine l1 ?_;first|(symm;exact D8 (by simp_all))|(refine decide_eq_decide.2 ?_;simp_all;done)
  .cases f
 .cases f
noncomputable def B1A:R3:=⟨_,fun b=>.nil⟩
def yU:List U->Option (Nat×List U)
 | [.str s,.int .i64 p]=>if 0<=p/\p<=(s.length:Int)/\(s.length:Int)<=140737488351232 then X5 (I5 mD (s.drop p.toNat) p) [] (fun j=>[.int .i64 j])else none
 | _=>none
def rK(s:B2)(p:Int)(b:0<=p/\p<=(s.length:Int)/\(s.length:Int)<=140737488351232):yU [.str s,.int .i64 p]=X5 (I5 mD (s.drop p.toNat) p) [] (fun j=>[.int .i64 j]):=A9 b
def A5_:S7:=⟨[(1,.func (.func 95) ⟨[]⟩ ⟨[]⟩),(2,.bool true),(10,.pointer (some ⟨16,0,none⟩))],[(16,.iter [h 0 9,h 1 3])],2,[⟨.exit 0,[],[],0⟩,⟨.ret,[(6,h 0 3)],[],1⟩]⟩
noncomputable def A00:Code:=(f113.body).getD .skip
noncomputable def A55:Code:=match G8 [true,false,true,false] A00 with|some (.loop x)=>x|_=>.skip
def A59:f113.body=some A00:=rfl
def A57:G8 [true,false,true,false] A00=some (.loop A55):=C8
def A56:Tr:=aD [h 0 9]<|Y1 1 2 3 (.lt 2 (.rune) [h 0 9,h3 1]<|.lt 3 (.rpos) [h 0 9,h3 1]<|aL [h 4 2,.int .i32 (32)]<|.br 6 (.ret [jI 1,h3 1]) (aG [h 4 2,.int .i32 (126)]<|aE [h 7 8,.bool true]<|.br 8 (.ret [jI 1,h3 1]) (.ret [jI (-1),h 0 9,h3 5]))) (I6 0)
def A58:List U->Nat
 | [.str s,.int .i64 p]=>((s.length:Int)-p).toNat
 | _=>0
def A0z(s:B2)(p:Int):A58 [.str s,.int .i64 p]=((s.length:Int)-p).toNat:=rfl
def A9g{G}(k:L2 G):∀ (E:Nat->U) (base:Nat),@R7 ⟨E,G⟩ prog base gl f113.ntmps A55 (O4 prog gl n0 17 A5_ yU):=by
 refine V5 (dep:=60) (f:=113) (n0:=n0) (nB:=17) (H0:=H0) A58 A56 (cxg (B1A.2 k) .nil) k func113 A59 A57 C8 C8 C8 ?_;intro us d outs c;have n:=c;unfold yU at c;split at c
 .skip;rename_i s p;split at c
  .rename_i b;clear c n;have zr:p<(s.length:Int)->_:=fun h=>XH b.1 h
   refine⟨rfl,?_⟩;unfold A56;refine w0 (.cons 1 _ (.cons 0 _ (.nil))) ?_;repeat (first|refine w4 (fun g=>?_) fun g=>?_|refine dI ?_|(refine w7 [.int .i64 _,.int .i64 _] ?_;rotate_left)|refine kE ?_|refine w1 (.rune) (e:=A3p A2) (k':=?_)|refine w1 (.rpos) (e:=A3q A2) (k':=?_)|refine AQ ?_|refine w1 (.bin .eql) (e:=A8E _) (k':=?_)|(refine w7 [.int .i64 _,.str _,.int .i64 _] ?_;rotate_left)|(refine w7 [.int .i64 _] ?_;rotate_left))
   all_goals first
    | refine P3 ?_ ?_
      .have l:=zr ‹_›;have m:=l.2 A2;rw[m,rK s (p+1) ⟨A2,A2,b.2.2⟩,rK s p b,Z5 (i:=p) b.1 ‹_› (by cases q:mD (s.getD p.toNat default)with|false=>rfl|true=>exact absurd (l.1.2 q) A2)]
      .have l:=zr ‹_›;have m:=l.2 A2;rw[m,A0z,A0z];omega
    | refine J0 (d:=0) ?_
      rw[rK s p b,s9 A2];rfl
    | refine J0 (d:=1) ?_
      rw[rK s p b,s8 b.1 ‹_› ((zr ‹_›).1.1 A2)];rfl
  .cases c
 .cases c
noncomputable def B1U:List LpE:=(113,([true,false,true,false],O4 prog gl n0 17 A5_ yU))::[]
def A2W{G}(b:L2 G):Y6 prog G gl B1U:=.cons func113 A59 A57 (A9g b) .nil
noncomputable def B0g:R3:=⟨_,fun b=>.nil⟩
def HL:List U->Option (Nat×List U)
 | [.str s]=>if(s.length:Int)<=140737488351232 then some (0,[.bool (decide (sE s))])else none
 | _=>none
def A2f(s:B2)(b:(s.length:Int)<=140737488351232):HL [.str s]=some (0,[.bool (decide (sE s))]):=A9 b
def A4a:Tr:=aN [h 0 9,.string ⟨⟨[]⟩⟩]<|.br 1 (aD [h 0 9]<|R5 2 3 100 (.lp yU [h 0 9,jI 0] 0 0 (cQ) (.lp yU [h 0 9,jI 0] 1 1 (aL [h3 4,jI 0]<|.ret [h 5 8]) (.no))) G7) (G7)
def A4b{G}(c:L2 G):M1 prog G 61 [.s 9] HL [.s 8]:=by
 refine G3 (d:=60) A4a (cxg (B0g.2 c) (A2W c)) c ⟨f61,_,func61,rfl⟩ C8 C8 ?_;intro us outs b;unfold HL at b;split at b
 .skip;rename_i s;split at b
  .rename_i e;cases b;unfold A4a;refine w0 (.cons 0 _ (.nil)) ?_;repeat (first|(refine w7 [.bool _] ?_;rotate_left)|refine w4 (fun g=>?_) fun g=>?_|refine A2h ?_|refine kE ?_|refine pS ?_|(refine w6 yU (rK _ _ ⟨A2,A2,e⟩) (h0:=fun g=>?_) (h1:=fun v g=>?_);skip;rotate_left;show Wk _ _ (.cons _ _ _);rotate_right)|refine dI ?_)
   all_goals
    refine l1 ?_;symm;first
    | (refine D8 (fun h=>?_);have:=h.1;simp_all;done)
    | exact D8 (fun h=>by have:=h.2.1;omega)
    | exact I3 ⟨by assumption,A2,hZ (l:=s) ‹_›⟩
    | (have b:=eU (l:=s) ‹_›
       first
       | exact(D8 (fun h=>by rw[h.2.2]at b;cases b.1)).trans (D8 A2).symm
       | exact D8 (fun h=>by rw[h.2.2]at b;cases b.1))
  .cases b
 .cases b
def rG:Rw (Int×Int×Int×Int×Int×Int×Int×B2×B2×Bool):=rC (P7 .i64) (rC (P7 .i64) (rC (P7 .i64) (rC (P7 .i64) (rC (P7 .i64) (rC (P7 .i64) (rC (P7 .i64) (rC zX (rC zX (r1 TD)))))))))
def rP:Rw (Int×Int×Int×Int×Int×Int×Int×B2×Int×Int×Int×Int×Int×Int×Int×B2×B2×Bool):=rC (P7 .i64) (rC (P7 .i64) (rC (P7 .i64) (rC (P7 .i64) (rC (P7 .i64) (rC (P7 .i64) (rC (P7 .i64) (rC zX (rC (P7 .i64) (rC (P7 .i64) (rC (P7 .i64) (rC (P7 .i64) (rC (P7 .i64) (rC (P7 .i64) (rC (P7 .i64) (rC zX (rC zX (r1 TD)))))))))))))))))
abbrev Xt:=B25
abbrev Gt:=(Int×Int×Int×Int×Int×Int×Int×B2×B2×Bool)
abbrev Pt:=(Int×Int×Int×Int×Int×Int×Int×B2×Int×Int×Int×Int×Int×Int×Int×B2×B2×Bool)
def gK(g:Gt):Xt:=(g.1,g.2.1,g.2.2.1,g.2.2.2.1,g.2.2.2.2.1,g.2.2.2.2.2.1,g.2.2.2.2.2.2.1,g.2.2.2.2.2.2.2.1)
def gC(g:Gt):B2:=g.2.2.2.2.2.2.2.2.1
def gR(g:Gt):Bool:=g.2.2.2.2.2.2.2.2.2
def pOf(g:Gt):Pt:=(g.1,g.2.1,g.2.2.1,g.2.2.2.1,g.2.2.2.2.1,g.2.2.2.2.2.1,g.2.2.2.2.2.2.1,g.2.2.2.2.2.2.2.1,g)
def pK(a:Pt):Xt:=(a.1,a.2.1,a.2.2.1,a.2.2.2.1,a.2.2.2.2.1,a.2.2.2.2.2.1,a.2.2.2.2.2.2.1,a.2.2.2.2.2.2.2.1)
def pG(a:Pt):Gt:=a.2.2.2.2.2.2.2.2
def pQ(a b:Pt):Bool:=(a.1 == b.1 && (a.2.1 == b.2.1 && (a.2.2.1 == b.2.2.1 && (a.2.2.2.1 == b.2.2.2.1 && (a.2.2.2.2.1 == b.2.2.2.2.1 && (a.2.2.2.2.2.1 == b.2.2.2.2.2.1 && (a.2.2.2.2.2.2.1 == b.2.2.2.2.2.2.1 && (a.2.2.2.2.2.2.2.1 == b.2.2.2.2.2.2.2.1 && true))))))))
def ixS(M:Option (List Pt)):List Gt->Option (List Pt)
 | []=>M
 | g::l=>ixS (QB pQ M (pOf g)) l
def A03{M:Option (List Pt)}{l:List Gt}(h0:0<=i)(h1:i<(l.length:Int)):ixS M (l.drop i.toNat)=ixS (QB pQ M (pOf (l.getD i.toNat default))) (l.drop (i+1).toNat):=by
 rw[S2 l h0 h1];rfl
def A2s{M:Option (List Pt)}{a:Pt}(h:M≠none):QB pQ M a≠none:=by
 cases M with
 | none=>exact absurd rfl h
 | some x=>intro h;cases h
noncomputable def B0_:R3:=⟨_,fun b=>.nil⟩
def lQ:List U->Option (Nat×List U)
 | [u_l,.int .i64 n,.int .i64 i,u_M]=>(P0 rG u_l).bind fun l=>(P0 rP u_M).bind fun M=>if n=((el l).length:Int)/\0<=i/\i<=n/\n<=140737488351232/\M≠none then some (0,[E4 rP (ixS M ((el l).drop i.toNat))])else none
 | _=>none
def rJ(l:(Option (List (Int×Int×Int×Int×Int×Int×Int×B2×B2×Bool))))(n:Int)(i:Int)(M:(Option (List (Int×Int×Int×Int×Int×Int×Int×B2×Int×Int×Int×Int×Int×Int×Int×B2×B2×Bool))))(b:n=((el l).length:Int)/\0<=i/\i<=n/\n<=140737488351232/\M≠none):lQ [E4 rG l,.int .i64 n,.int .i64 i,E4 rP M]=some (0,[E4 rP (ixS M ((el l).drop i.toNat))]):=by
 simp only[lQ,I0,F5];exact A9 b
def RX:S7:=⟨[(3,.map (some 19)),(8,dat 20 0 20),(9,h 1 3),(10,h 2 3)],[(19,.mp 3 28 60),(20,.frz)],4,[⟨.exit 0,[(3,.map (some 19))],[(19,.mp 0 28 60)],1⟩]⟩
noncomputable def A0y:Code:=(f41.body).getD .skip
noncomputable def A53:Code:=match G8 [true,true,false,true,false] A0y with|some (.loop x)=>x|_=>.skip
def RW:f41.body=some A0y:=rfl
def RV:G8 [true,true,false,true,false] A0y=some (.loop A53):=C8
def dH(a0:Nat)(b:Nat)(a2:Nat)(c:Tr):Tr:=.lt 8 (.inbs 10) [h3 a0,h b 20]<|.br a2 c .no
def A54:Tr:=Y1 2 1 4 (dH 2 0 5 (.lt 3 (.get 10 0) [h 0 20,h3 2]<|.lt 3 (.get 10 1) [h 0 20,h3 2]<|.lt 3 (.get 10 2) [h 0 20,h3 2]<|.lt 3 (.get 10 3) [h 0 20,h3 2]<|.lt 3 (.get 10 4) [h 0 20,h3 2]<|.lt 3 (.get 10 5) [h 0 20,h3 2]<|.lt 3 (.get 10 6) [h 0 20,h3 2]<|.lt 9 (.get 10 7) [h 0 20,h3 2]<|.lt 9 (.get 10 8) [h 0 20,h3 2]<|.lt 8 (.get 10 9) [h 0 20,h3 2]<|.dt 28 (.mput 18 8) [h 3 28,h3 6,h3 7,h3 8,h3 9,h3 10,h3 11,h3 12,h 13 9,h3 6,h3 7,h3 8,h3 9,h3 10,h3 11,h3 12,h 13 9,h 14 9,h 15 8]<|aA [h3 2,jI 1]<|.ret [jI (-1),h 0 20,h3 1,h3 17,h 16 28])) (.ret [jI 0,h 3 28])
def A0w:List U->Nat
 | [u_l,.int .i64 n,.int .i64 i,u_M]=>(match P0 rG u_l with|some l=>(match P0 rP u_M with|some M=>(n-i).toNat|none=>0)|none=>0)
 | _=>0
def A0v(l:(Option (List (Int×Int×Int×Int×Int×Int×Int×B2×B2×Bool))))(n:Int)(i:Int)(M:(Option (List (Int×Int×Int×Int×Int×Int×Int×B2×Int×Int×Int×Int×Int×Int×Int×B2×B2×Bool)))):A0w [E4 rG l,.int .i64 n,.int .i64 i,E4 rP M]=(n-i).toNat:=by
 simp only[A0w,I0]
def A0x{G}(s:L2 G):∀ (E:Nat->U) (base:Nat),@R7 ⟨E,G⟩ prog base gl f41.ntmps A53 (O4 prog gl n0 21 RX lQ):=by
 refine V5 (dep:=60) (f:=41) (n0:=n0) (nB:=21) (H0:=H0) A0w A54 (cxg (B0_.2 s) .nil) s func41 RW RV C8 C8 C8 ?_;intro us d outs c;have t:=c;unfold lQ at c;split at c
 .skip;rename_i v n i w;have q:=B9.1 c;clear c;obtain⟨l,m,c⟩:=q;replace m:=K4 m;subst m;have p:=B9.1 c;clear c;obtain⟨M,k,c⟩:=p;replace k:=K4 k;subst k;split at c
  .rename_i o;clear c t;refine⟨rfl,?_⟩;unfold A54;refine w0 (.cons 3 _ (.cons 2 _ (.cons 1 _ (.cons 0 _ (.nil))))) ?_;repeat (first|refine w4 (fun g=>?_) fun g=>?_|refine dJ ?_|refine Y4 ?_|refine dI ?_|refine eC ?_|refine w1 (.get 10 0) (u:=.int .i64 _) (e:=E1 rfl A2 A2 rfl) (k':=?_)|refine w1 (.get 10 1) (u:=.int .i64 _) (e:=E1 rfl A2 A2 rfl) (k':=?_)|refine w1 (.get 10 2) (u:=.int .i64 _) (e:=E1 rfl A2 A2 rfl) (k':=?_)|refine w1 (.get 10 3) (u:=.int .i64 _) (e:=E1 rfl A2 A2 rfl) (k':=?_)|refine w1 (.get 10 4) (u:=.int .i64 _) (e:=E1 rfl A2 A2 rfl) (k':=?_)|refine w1 (.get 10 5) (u:=.int .i64 _) (e:=E1 rfl A2 A2 rfl) (k':=?_)|refine w1 (.get 10 6) (u:=.int .i64 _) (e:=E1 rfl A2 A2 rfl) (k':=?_)|refine w1 (.get 10 7) (u:=.str _) (e:=E1 rfl A2 A2 rfl) (k':=?_)|refine w1 (.get 10 8) (u:=.str _) (e:=E1 rfl A2 A2 rfl) (k':=?_)|refine w1 (.get 10 9) (u:=.bool _) (e:=E1 rfl A2 A2 rfl) (k':=?_)|refine w2 (.mput 18 8) (r:=rP) (e:=A1Q (fun a b=>(a.1 == b.1 && (a.2.1 == b.2.1 && (a.2.2.1 == b.2.2.1 && (a.2.2.2.1 == b.2.2.2.1 && (a.2.2.2.2.1 == b.2.2.2.2.1 && (a.2.2.2.2.2.1 == b.2.2.2.2.2.1 && (a.2.2.2.2.2.2.1 == b.2.2.2.2.2.2.1 && (a.2.2.2.2.2.2.2.1 == b.2.2.2.2.2.2.2.1 && true))))))))) (_,_,_,_,_,_,_,_,_,_,_,_,_,_,_,_,_,_) rfl rfl (fun _=>rfl) o.2.2.2.2) (k':=?_)|(refine w7 [.int .i64 _,E4 rG _,.int .i64 _,.int .i64 _,E4 rP _] ?_;rotate_left)|(refine w8 ?_;first|omega)|(refine w7 [.int .i64 _,E4 rP _] ?_;rotate_left))
   all_goals first
    | refine P3 ?_ ?_
      .rw[rJ l n i M o,A03 (l:=el l) o.2.1 A2];exact rJ l n (i+1) _ ⟨o.1,A2,A2,o.2.2.2.1,A2s o.2.2.2.2⟩
      .rw[A0v,A0v];omega
    | refine J0 (d:=0) ?_
      rw[rJ l n i M o,cI (el l) A2];rfl
  .cases c
 .cases c
end Go.Proofs.YtbbicpheoakeeaaGreatDoor
