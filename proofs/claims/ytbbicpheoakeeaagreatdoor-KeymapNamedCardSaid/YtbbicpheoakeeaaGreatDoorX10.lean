import Derived.Test.YtbbicpheoakeeaaGreatDoorX9
import Derived.Shelf.Strings.Builder1
import Derived.Shelf.Strings.Builder2
import Derived.Shelf.Strings.OnBuilder
import Derived.Shelf.Small.Utf8
import Derived.Shelf.Small.Wraps
import Derived.Shelf.Strings.BuilderF
import Derived.Shelf.Strings.BuilderK
import Derived.Shelf.Utf8.RuneCount
import Derived.Shelf.Strings.Builder2Cap
import Derived.Shelf.Strconv.Itoa0
import Derived.Shelf.Strconv.Itoa1
import Derived.Shelf.LaysM
import Derived.Shelf.Strconv.Itoa2
import Derived.Shelf.Strconv.Itoa3
import Derived.Shelf.Strconv.Clone
import Derived.Shelf.Strings.Search1
import Derived.Shelf.Strings.Search2
import Derived.Shelf.Strings.Search3
import Derived.Shelf.Strings.Cut
import Derived.Shelf.Strings.Count
import Derived.Shelf.Strings.Shaped
import Derived.Shelf.Strings.Prefix
import Derived.Shelf.Strings.Split
import Derived.Shelf.Strings.Fields
import Derived.Shelf.Strings.SplitShaped
import Derived.Shelf.Unicode.Latin
import Derived.Shelf.Unicode.Decode
import Derived.Shelf.Strings.RuneCount
import Derived.Shelf.Bits.Mul64
import Derived.Shelf.Strings.Repeat
import Derived.Shelf.Unicode.DecodeSlow
import Derived.Shelf.Unicode.DecodeAny
import Derived.Shelf.Unicode.Is16White
import Derived.Shelf.Unicode.IsSpaceAny
import Derived.Shelf.Unicode.CaseLookup
import Derived.Shelf.Unicode.CaseConvert
import Derived.Shelf.Unicode.CaseTo
import Derived.Shelf.Unicode.CaseLaid
import Derived.Shelf.Unicode.Is16Any
import Derived.Shelf.Unicode.Is32Any
import Derived.Shelf.Unicode.ExclAny
import Derived.Shelf.Strings.BuilderCap
import Derived.Shelf.Slices.Turned
import Derived.Test.YtbbicpheoakeeaaGreatDoorProg
set_option linter.all false
set_option maxRecDepth 100000
set_option maxHeartbeats 4000000
namespace Go.Proofs
open Go.Shelf
def Tryz.lays158_ren:Go.Shelf.Ren:=⟨fun|158=>107|165=>72|166=>57|167=>123|169=>59|230=>124|203=>125|240=>92|241=>104|197=>119|118=>139|168=>140|270=>141|262=>142|276=>112|277=>122|260=>138|242=>150|313=>151|278=>154|274=>155|275=>156|n=>n,fun|9=>9|4=>4|3=>3|5=>5|72=>103|0=>0|76=>106|75=>105|107=>173|70=>101|20=>20|37=>26|127=>137|21=>21|105=>158|164=>155|162=>203|203=>201|119=>116|46=>119|139=>199|138=>198|51=>22|160=>208|208=>216|206=>214|80=>109|n=>n,fun|13=>9|3=>7|4=>8|n=>n⟩
def Tryz.lays158:Go.Proofs.Lays.n158 Tryz.prog Tryz.lays158_ren:={
 mixed:=D2
 f118:=J9 Tryz.func139
 f158:=J9 Tryz.func107
 f165:=J9 Tryz.func72
 f166:=J9 Tryz.func57
 f167:=J9 Tryz.func123
 f168:=J9 Tryz.func140
 f169:=J9 Tryz.func59
 f197:=J9 Tryz.func119
 f203:=J9 Tryz.func125
 f230:=J9 Tryz.func124
 f240:=J9 Tryz.func92
 f241:=J9 Tryz.func104
 f242:=J9 Tryz.func150
 f260:=J9 Tryz.func138
 f262:=J9 Tryz.func142
 f270:=J9 Tryz.func141
 f274:=J9 Tryz.func155
 f275:=J9 Tryz.func156
 f276:=J9 Tryz.func112
 f277:=J9 Tryz.func122
 f278:=J9 Tryz.func154
 f313:=J9 Tryz.func151
 t0:=Tryz.underlying0
 a0:=Tryz.isAgg0
 z0:=Tryz.sizeOf0
 v0:=Tryz.zeroValue0
 t3:=Tryz.underlying3
 a3:=Tryz.isAgg3
 z3:=Tryz.sizeOf3
 v3:=Tryz.zeroValue3
 t4:=Tryz.underlying4
 a4:=Tryz.isAgg4
 z4:=Tryz.sizeOf4
 v4:=Tryz.zeroValue4
 t5:=Tryz.underlying5
 a5:=Tryz.isAgg5
 z5:=Tryz.sizeOf5
 v5:=Tryz.zeroValue5
 t9:=Tryz.underlying9
 a9:=Tryz.isAgg9
 z9:=Tryz.sizeOf9
 v9:=Tryz.zeroValue9
 t20:=Tryz.underlying20
 a20:=Tryz.isAgg20
 z20:=Tryz.sizeOf20
 v20:=Tryz.zeroValue20
 t21:=Tryz.underlying21
 a21:=Tryz.isAgg21
 z21:=Tryz.sizeOf21
 v21:=Tryz.zeroValue21
 t37:=Tryz.underlying26
 a37:=Tryz.isAgg26
 z37:=Tryz.sizeOf26
 v37:=Tryz.zeroValue26
 t46:=Tryz.underlying119
 a46:=Tryz.isAgg119
 z46:=Tryz.sizeOf119
 v46:=Tryz.zeroValue119
 t51:=Tryz.underlying22
 a51:=Tryz.isAgg22
 z51:=Tryz.sizeOf22
 v51:=Tryz.zeroValue22
 t70:=Tryz.underlying101
 a70:=Tryz.isAgg101
 z70:=Tryz.sizeOf101
 v70:=Tryz.zeroValue101
 t72:=Tryz.underlying103
 a72:=Tryz.isAgg103
 z72:=Tryz.sizeOf103
 v72:=Tryz.zeroValue103
 t75:=Tryz.underlying105
 a75:=Tryz.isAgg105
 z75:=Tryz.sizeOf105
 v75:=Tryz.zeroValue105
 t76:=Tryz.underlying106
 a76:=Tryz.isAgg106
 z76:=Tryz.sizeOf106
 v76:=Tryz.zeroValue106
 t105:=Tryz.underlying158
 a105:=Tryz.isAgg158
 z105:=Tryz.sizeOf158
 v105:=Tryz.zeroValue158
 t107:=Tryz.underlying173
 a107:=Tryz.isAgg173
 z107:=Tryz.sizeOf173
 v107:=Tryz.zeroValue173
 t119:=Tryz.underlying116
 a119:=Tryz.isAgg116
 z119:=Tryz.sizeOf116
 t127:=Tryz.underlying137
 a127:=Tryz.isAgg137
 z127:=Tryz.sizeOf137
 v127:=Tryz.zeroValue137
 t138:=Tryz.underlying198
 a138:=Tryz.isAgg198
 z138:=Tryz.sizeOf198
 v138:=Tryz.zeroValue198
 t139:=Tryz.underlying199
 a139:=Tryz.isAgg199
 z139:=Tryz.sizeOf199
 v139:=Tryz.zeroValue199
 t160:=Tryz.underlying208
 a160:=Tryz.isAgg208
 z160:=Tryz.sizeOf208
 v160:=Tryz.zeroValue208
 t162:=Tryz.underlying203
 a162:=Tryz.isAgg203
 z162:=Tryz.sizeOf203
 v162:=Tryz.zeroValue203
 t164:=Tryz.underlying155
 a164:=Tryz.isAgg155
 z164:=Tryz.sizeOf155
 v164:=Tryz.zeroValue155
 t203:=Tryz.underlying201
 a203:=Tryz.isAgg201
 z203:=Tryz.sizeOf201
 v203:=Tryz.zeroValue201
 t206:=Tryz.underlying214
 a206:=Tryz.isAgg214
 z206:=Tryz.sizeOf214
 v206:=Tryz.zeroValue214
 t208:=Tryz.underlying216
 a208:=Tryz.isAgg216
 z208:=Tryz.sizeOf216
 v208:=Tryz.zeroValue216
 g3:=D2
 g4:=D2
 g13:=by kernel_rfl }
def Tryz.Builder_Extra_158:Builder.Extra Tryz.prog Tryz.lays158_ren:={
 sizeBuilder:=D2
 liesBuilder:=D2
 t5:=Tryz.underlying5
 a5:=Tryz.isAgg5
 z5:=Tryz.sizeOf5
 v5:=Tryz.zeroValue5
 infoByte:=D2
 cellsByte:=D2
 sizeByte:=D2
 neB5:=by decide }
open Go.RowKit in
def Tryz.strings_ToUpper_ascii(s:ByteArray)(w:World)(d:s.size<=140737488355328)(c:∀ (j:Nat) (b:UInt8),s.data.toList[j]? = some b->b.toNat<128) :
  Calls Tryz.prog 107 #[.string s] w fun e w'=>e=.returned (.string ⟨(Lib.toUpperA s.data.toList).toArray⟩)/\Below w.heap.size w w':=Any.strings_ToUpper_ascii Tryz.lays158 Tryz.Builder_Extra_158 s w d c
def Tryz.lays156_ren:Go.Shelf.Ren:=⟨fun|156=>93|165=>72|166=>57|169=>59|240=>92|241=>104|276=>112|277=>122|n=>n,fun|31=>68|9=>9|3=>3|4=>4|0=>0|20=>20|72=>103|76=>106|70=>101|37=>26|75=>105|127=>137|164=>155|5=>5|80=>109|n=>n,fun|n=>n⟩
def Tryz.lays156:Go.Proofs.Lays.n156 Tryz.prog Tryz.lays156_ren:={
 mixed:=D2
 f156:=J9 Tryz.func93
 f165:=J9 Tryz.func72
 f166:=J9 Tryz.func57
 f169:=J9 Tryz.func59
 f240:=J9 Tryz.func92
 f241:=J9 Tryz.func104
 f276:=J9 Tryz.func112
 f277:=J9 Tryz.func122
 t0:=Tryz.underlying0
 a0:=Tryz.isAgg0
 z0:=Tryz.sizeOf0
 v0:=Tryz.zeroValue0
 t3:=Tryz.underlying3
 a3:=Tryz.isAgg3
 z3:=Tryz.sizeOf3
 v3:=Tryz.zeroValue3
 t4:=Tryz.underlying4
 a4:=Tryz.isAgg4
 z4:=Tryz.sizeOf4
 v4:=Tryz.zeroValue4
 t9:=Tryz.underlying9
 a9:=Tryz.isAgg9
 z9:=Tryz.sizeOf9
 v9:=Tryz.zeroValue9
 t20:=Tryz.underlying20
 a20:=Tryz.isAgg20
 z20:=Tryz.sizeOf20
 v20:=Tryz.zeroValue20
 t31:=Tryz.underlying68
 a31:=Tryz.isAgg68
 z31:=Tryz.sizeOf68
 v31:=Tryz.zeroValue68
 t37:=Tryz.underlying26
 a37:=Tryz.isAgg26
 z37:=Tryz.sizeOf26
 v37:=Tryz.zeroValue26
 t70:=Tryz.underlying101
 a70:=Tryz.isAgg101
 z70:=Tryz.sizeOf101
 v70:=Tryz.zeroValue101
 t72:=Tryz.underlying103
 a72:=Tryz.isAgg103
 z72:=Tryz.sizeOf103
 v72:=Tryz.zeroValue103
 t75:=Tryz.underlying105
 a75:=Tryz.isAgg105
 z75:=Tryz.sizeOf105
 v75:=Tryz.zeroValue105
 t76:=Tryz.underlying106
 a76:=Tryz.isAgg106
 z76:=Tryz.sizeOf106
 v76:=Tryz.zeroValue106
 t127:=Tryz.underlying137
 a127:=Tryz.isAgg137
 z127:=Tryz.sizeOf137
 v127:=Tryz.zeroValue137
 t164:=Tryz.underlying155
 a164:=Tryz.isAgg155
 z164:=Tryz.sizeOf155
 v164:=Tryz.zeroValue155 }
def Tryz.Builder_Extra_156:Builder.Extra Tryz.prog Tryz.lays156_ren:={
 sizeBuilder:=D2
 liesBuilder:=D2
 t5:=Tryz.underlying5
 a5:=Tryz.isAgg5
 z5:=Tryz.sizeOf5
 v5:=Tryz.zeroValue5
 infoByte:=D2
 cellsByte:=D2
 sizeByte:=D2
 neB5:=by decide }
open Go.RowKit in
def Tryz.strings_Join_none(a:Option Addr)(c:Nat)(sep:ByteArray)(w:World) :
  Calls Tryz.prog 93 #[.slice a 0 c,.string sep] w fun e w'=>e=.returned (.string ⟨#[]⟩)/\w'=w:=Any.strings_Join_none Tryz.lays156 Tryz.Builder_Extra_156 a c sep w
open Go.RowKit in
def Tryz.strings_Join(f o c:Nat)(xs:List ByteArray)(sep:ByteArray)(w:World)(b:∀ (j:Nat) x,xs[j]? = some x->w.cell? ⟨f,o+j,none⟩=some (.string x))(g:f<w.heap.size)(k:xs.length<=140737488355328)(d:xs.length<=c)(hlen:(Lib.join (xs.map (·.data.toList)) sep.data.toList).length<=140737488355328) :
  Calls Tryz.prog 93 #[.slice (some ⟨f,o,none⟩) xs.length c,.string sep] w fun e w'=>e=.returned (.string ⟨(Lib.join (xs.map (·.data.toList)) sep.data.toList).toArray⟩)/\Below w.heap.size w w':=Any.strings_Join Tryz.lays156 Tryz.Builder_Extra_156 f o c xs sep w b g k d hlen
def Tryz.laysM316_ren:Go.Shelf.Ren:=⟨fun|316=>143|n=>n,fun|9=>9|3=>3|4=>4|37=>26|0=>0|127=>137|5=>5|n=>n,fun|n=>n⟩
def Tryz.laysM316:Go.Proofs.LaysM.n316 Tryz.prog Tryz.laysM316_ren:={
 mixed:=D2
 f316:=J9 Tryz.func143
 t0:=Tryz.underlying0
 a0:=Tryz.isAgg0
 z0:=Tryz.sizeOf0
 v0:=Tryz.zeroValue0
 t3:=Tryz.underlying3
 a3:=Tryz.isAgg3
 z3:=Tryz.sizeOf3
 v3:=Tryz.zeroValue3
 t4:=Tryz.underlying4
 a4:=Tryz.isAgg4
 z4:=Tryz.sizeOf4
 v4:=Tryz.zeroValue4
 t9:=Tryz.underlying9
 a9:=Tryz.isAgg9
 z9:=Tryz.sizeOf9
 v9:=Tryz.zeroValue9
 t37:=Tryz.underlying26
 a37:=Tryz.isAgg26
 z37:=Tryz.sizeOf26
 v37:=Tryz.zeroValue26
 t127:=Tryz.underlying137
 a127:=Tryz.isAgg137
 z127:=Tryz.sizeOf137
 v127:=Tryz.zeroValue137
 t5:=Tryz.underlying5
 a5:=Tryz.isAgg5
 z5:=Tryz.sizeOf5
 v5:=Tryz.zeroValue5
 i0:=D2
 i3:=D2
 i4:=D2
 i5:=D2
 i9:=D2
 i37:=D2
 i127:=by kernel_rfl }
open Go.RowKit in
def Tryz.stringslite_Clone(s:ByteArray)(w:World)(b:s.size<=281474976710656) :
  Calls Tryz.prog 143 #[.string s] w fun e w'=>e=.returned (.string s)/\Below w.heap.size w w':=Any.stringslite_Clone Tryz.laysM316 s w b
def Tryz.lays143_ren:Go.Shelf.Ren:=⟨fun|143=>65|219=>97|217=>114|225=>115|224=>116|267=>117|266=>132|314=>133|n=>n,fun|9=>9|3=>3|4=>4|5=>5|46=>119|146=>146|51=>22|n=>n,fun|1=>2|n=>n⟩
def Tryz.lays143:Go.Proofs.Lays.n143 Tryz.prog Tryz.lays143_ren:={
 mixed:=D2
 f143:=J9 Tryz.func65
 f217:=J9 Tryz.func114
 f219:=J9 Tryz.func97
 f224:=J9 Tryz.func116
 f225:=J9 Tryz.func115
 f266:=J9 Tryz.func132
 f267:=J9 Tryz.func117
 f314:=J9 Tryz.func133
 t3:=Tryz.underlying3
 a3:=Tryz.isAgg3
 z3:=Tryz.sizeOf3
 v3:=Tryz.zeroValue3
 t4:=Tryz.underlying4
 a4:=Tryz.isAgg4
 z4:=Tryz.sizeOf4
 v4:=Tryz.zeroValue4
 t5:=Tryz.underlying5
 a5:=Tryz.isAgg5
 z5:=Tryz.sizeOf5
 v5:=Tryz.zeroValue5
 t9:=Tryz.underlying9
 a9:=Tryz.isAgg9
 z9:=Tryz.sizeOf9
 v9:=Tryz.zeroValue9
 t46:=Tryz.underlying119
 a46:=Tryz.isAgg119
 z46:=Tryz.sizeOf119
 v46:=Tryz.zeroValue119
 t51:=Tryz.underlying22
 a51:=Tryz.isAgg22
 z51:=Tryz.sizeOf22
 v51:=Tryz.zeroValue22
 t146:=Tryz.underlying146
 a146:=Tryz.isAgg146
 z146:=Tryz.sizeOf146
 v146:=Tryz.zeroValue146
 g1:=by kernel_rfl }
open Go.RowKit Go.Lib in
def Tryz.strings_Index_one(s:ByteArray)(c:UInt8)(w:World) :
  Calls Tryz.prog 65 #[.string s,.string ⟨#[c]⟩] w fun e w'=>e=.returned (.int .i64 (Lib.indexByte s.data.toList c))/\w'=w:=Any.strings_Index_one Tryz.lays143 s c w
def Tryz.lays144_ren:Go.Shelf.Ren:=⟨fun|144=>78|143=>65|219=>97|217=>114|225=>115|224=>116|267=>117|266=>132|314=>133|n=>n,fun|9=>9|4=>4|3=>3|5=>5|46=>119|146=>146|51=>22|n=>n,fun|1=>2|n=>n⟩
def Tryz.lays144:Go.Proofs.Lays.n144 Tryz.prog Tryz.lays144_ren:={
 mixed:=D2
 f143:=J9 Tryz.func65
 f144:=J9 Tryz.func78
 f217:=J9 Tryz.func114
 f219:=J9 Tryz.func97
 f224:=J9 Tryz.func116
 f225:=J9 Tryz.func115
 f266:=J9 Tryz.func132
 f267:=J9 Tryz.func117
 f314:=J9 Tryz.func133
 t3:=Tryz.underlying3
 a3:=Tryz.isAgg3
 z3:=Tryz.sizeOf3
 v3:=Tryz.zeroValue3
 t4:=Tryz.underlying4
 a4:=Tryz.isAgg4
 z4:=Tryz.sizeOf4
 v4:=Tryz.zeroValue4
 t5:=Tryz.underlying5
 a5:=Tryz.isAgg5
 z5:=Tryz.sizeOf5
 v5:=Tryz.zeroValue5
 t9:=Tryz.underlying9
 a9:=Tryz.isAgg9
 z9:=Tryz.sizeOf9
 v9:=Tryz.zeroValue9
 t46:=Tryz.underlying119
 a46:=Tryz.isAgg119
 z46:=Tryz.sizeOf119
 v46:=Tryz.zeroValue119
 t51:=Tryz.underlying22
 a51:=Tryz.isAgg22
 z51:=Tryz.sizeOf22
 v51:=Tryz.zeroValue22
 t146:=Tryz.underlying146
 a146:=Tryz.isAgg146
 z146:=Tryz.sizeOf146
 v146:=Tryz.zeroValue146
 g1:=by kernel_rfl }
open Go.RowKit Go.Lib in
def Tryz.strings_Contains_one(s:ByteArray)(c:UInt8)(w:World) :
  Calls Tryz.prog 78 #[.string s,.string ⟨#[c]⟩] w fun e w'=>e=.returned (.bool (decide (0<=Lib.indexByte s.data.toList c)))/\w'=w:=Any.strings_Contains_one Tryz.lays144 s c w
def Tryz.lays138_ren:Go.Shelf.Ren:=⟨fun|138=>29|195=>63|218=>64|143=>65|219=>97|217=>114|225=>115|224=>116|267=>117|266=>132|314=>133|n=>n,fun|9=>9|3=>3|4=>4|5=>5|0=>0|46=>119|146=>146|51=>22|n=>n,fun|1=>2|n=>n⟩
def Tryz.lays138:Go.Proofs.Lays.n138 Tryz.prog Tryz.lays138_ren:={
 mixed:=D2
 f138:=J9 Tryz.func29
 f143:=J9 Tryz.func65
 f195:=J9 Tryz.func63
 f217:=J9 Tryz.func114
 f218:=J9 Tryz.func64
 f219:=J9 Tryz.func97
 f224:=J9 Tryz.func116
 f225:=J9 Tryz.func115
 f266:=J9 Tryz.func132
 f267:=J9 Tryz.func117
 f314:=J9 Tryz.func133
 t0:=Tryz.underlying0
 a0:=Tryz.isAgg0
 z0:=Tryz.sizeOf0
 v0:=Tryz.zeroValue0
 t3:=Tryz.underlying3
 a3:=Tryz.isAgg3
 z3:=Tryz.sizeOf3
 v3:=Tryz.zeroValue3
 t4:=Tryz.underlying4
 a4:=Tryz.isAgg4
 z4:=Tryz.sizeOf4
 v4:=Tryz.zeroValue4
 t5:=Tryz.underlying5
 a5:=Tryz.isAgg5
 z5:=Tryz.sizeOf5
 v5:=Tryz.zeroValue5
 t9:=Tryz.underlying9
 a9:=Tryz.isAgg9
 z9:=Tryz.sizeOf9
 v9:=Tryz.zeroValue9
 t46:=Tryz.underlying119
 a46:=Tryz.isAgg119
 z46:=Tryz.sizeOf119
 v46:=Tryz.zeroValue119
 t51:=Tryz.underlying22
 a51:=Tryz.isAgg22
 z51:=Tryz.sizeOf22
 v51:=Tryz.zeroValue22
 t146:=Tryz.underlying146
 a146:=Tryz.isAgg146
 z146:=Tryz.sizeOf146
 v146:=Tryz.zeroValue146
 g1:=by kernel_rfl }
open Go.RowKit Go.Lib in
def Tryz.strings_Count_one(s:ByteArray)(c:UInt8)(w:World) :
  Calls Tryz.prog 29 #[.string s,.string ⟨#[c]⟩] w fun e w'=>e=.returned (.int .i64 (Lib.countByte s.data.toList c))/\w'=w:=Any.strings_Count_one Tryz.lays138 s c w
def Tryz.laysM145_ren:Go.Shelf.Ren:=⟨fun|145=>91|220=>111|219=>97|217=>114|225=>115|224=>116|267=>117|266=>132|314=>133|n=>n,fun|9=>9|4=>4|59=>99|3=>3|5=>5|46=>119|146=>146|51=>22|n=>n,fun|1=>2|n=>n⟩
def Tryz.laysM145:Go.Proofs.LaysM.n145 Tryz.prog Tryz.laysM145_ren:={
 mixed:=D2
 f145:=J9 Tryz.func91
 f217:=J9 Tryz.func114
 f219:=J9 Tryz.func97
 f220:=J9 Tryz.func111
 f224:=J9 Tryz.func116
 f225:=J9 Tryz.func115
 f266:=J9 Tryz.func132
 f267:=J9 Tryz.func117
 f314:=J9 Tryz.func133
 t3:=Tryz.underlying3
 a3:=Tryz.isAgg3
 z3:=Tryz.sizeOf3
 v3:=Tryz.zeroValue3
 t4:=Tryz.underlying4
 a4:=Tryz.isAgg4
 z4:=Tryz.sizeOf4
 v4:=Tryz.zeroValue4
 t5:=Tryz.underlying5
 a5:=Tryz.isAgg5
 z5:=Tryz.sizeOf5
 v5:=Tryz.zeroValue5
 t9:=Tryz.underlying9
 a9:=Tryz.isAgg9
 z9:=Tryz.sizeOf9
 v9:=Tryz.zeroValue9
 t46:=Tryz.underlying119
 a46:=Tryz.isAgg119
 z46:=Tryz.sizeOf119
 v46:=Tryz.zeroValue119
 t51:=Tryz.underlying22
 a51:=Tryz.isAgg22
 z51:=Tryz.sizeOf22
 v51:=Tryz.zeroValue22
 t59:=Tryz.underlying99
 a59:=Tryz.isAgg99
 z59:=Tryz.sizeOf99
 v59:=Tryz.zeroValue99
 t146:=Tryz.underlying146
 a146:=Tryz.isAgg146
 z146:=Tryz.sizeOf146
 v146:=Tryz.zeroValue146
 g1:=D2
 i3:=D2
 i4:=D2
 i5:=D2
 i9:=D2
 i46:=D2
 i51:=D2
 i59:=D2
 i146:=D2
 m1:=D2
 s1_3:=fun w h=>Go.Proofs.cell_of_shapedOpen_int (zero:=#[.int .i64 0]) (t:=3) h (I7 D2) D2 rfl D2 D2 Tryz.underlying3 }
open Go.RowKit Go.Lib in
def Tryz.strings_Cut_shaped(s sep:ByteArray)(w:World)(h:w.ShapedOpen Tryz.prog)(b:s.size<4294967281) :
  Calls Tryz.prog 91 #[.string s,.string sep] w fun e w'=>e=.returned (.tuple #[.string ⟨(Lib.cut s.data.toList sep.data.toList).1.toArray⟩,.string ⟨(Lib.cut s.data.toList sep.data.toList).2.1.toArray⟩,.bool (Lib.cut s.data.toList sep.data.toList).2.2])/\∃ n,w'=w.drewN n:=Any.strings_Cut_shaped Tryz.laysM145 s sep w h b
def Tryz.lays105_ren:Go.Shelf.Ren:=⟨fun|105=>34|212=>70|99=>71|165=>72|166=>57|170=>73|169=>59|263=>101|264=>102|206=>103|240=>92|241=>104|276=>112|277=>122|n=>n,fun|9=>9|3=>3|4=>4|20=>20|0=>0|46=>119|109=>120|5=>5|72=>103|76=>106|51=>22|146=>146|53=>132|148=>148|70=>101|37=>26|75=>105|127=>137|164=>155|80=>109|n=>n,fun|n=>n⟩
def Tryz.lays105:Go.Proofs.Lays.n105 Tryz.prog Tryz.lays105_ren:={
 mixed:=D2
 f99:=J9 Tryz.func71
 f105:=J9 Tryz.func34
 f165:=J9 Tryz.func72
 f166:=J9 Tryz.func57
 f169:=J9 Tryz.func59
 f170:=J9 Tryz.func73
 f206:=J9 Tryz.func103
 f212:=J9 Tryz.func70
 f240:=J9 Tryz.func92
 f241:=J9 Tryz.func104
 f263:=J9 Tryz.func101
 f264:=J9 Tryz.func102
 f276:=J9 Tryz.func112
 f277:=J9 Tryz.func122
 t0:=Tryz.underlying0
 a0:=Tryz.isAgg0
 z0:=Tryz.sizeOf0
 v0:=Tryz.zeroValue0
 t3:=Tryz.underlying3
 a3:=Tryz.isAgg3
 z3:=Tryz.sizeOf3
 v3:=Tryz.zeroValue3
 t4:=Tryz.underlying4
 a4:=Tryz.isAgg4
 z4:=Tryz.sizeOf4
 v4:=Tryz.zeroValue4
 t5:=Tryz.underlying5
 a5:=Tryz.isAgg5
 z5:=Tryz.sizeOf5
 v5:=Tryz.zeroValue5
 t9:=Tryz.underlying9
 a9:=Tryz.isAgg9
 z9:=Tryz.sizeOf9
 v9:=Tryz.zeroValue9
 t20:=Tryz.underlying20
 a20:=Tryz.isAgg20
 z20:=Tryz.sizeOf20
 v20:=Tryz.zeroValue20
 t37:=Tryz.underlying26
 a37:=Tryz.isAgg26
 z37:=Tryz.sizeOf26
 v37:=Tryz.zeroValue26
 t46:=Tryz.underlying119
 a46:=Tryz.isAgg119
 z46:=Tryz.sizeOf119
 v46:=Tryz.zeroValue119
 t51:=Tryz.underlying22
 a51:=Tryz.isAgg22
 z51:=Tryz.sizeOf22
 v51:=Tryz.zeroValue22
 t53:=Tryz.underlying132
 a53:=Tryz.isAgg132
 z53:=Tryz.sizeOf132
 v53:=Tryz.zeroValue132
 t70:=Tryz.underlying101
 a70:=Tryz.isAgg101
 z70:=Tryz.sizeOf101
 v70:=Tryz.zeroValue101
 t72:=Tryz.underlying103
 a72:=Tryz.isAgg103
 z72:=Tryz.sizeOf103
 v72:=Tryz.zeroValue103
 t75:=Tryz.underlying105
 a75:=Tryz.isAgg105
 z75:=Tryz.sizeOf105
 v75:=Tryz.zeroValue105
 t76:=Tryz.underlying106
 a76:=Tryz.isAgg106
 z76:=Tryz.sizeOf106
 v76:=Tryz.zeroValue106
 t109:=Tryz.underlying120
 a109:=Tryz.isAgg120
 z109:=Tryz.sizeOf120
 v109:=Tryz.zeroValue120
 t127:=Tryz.underlying137
 a127:=Tryz.isAgg137
 z127:=Tryz.sizeOf137
 v127:=Tryz.zeroValue137
 t146:=Tryz.underlying146
 a146:=Tryz.isAgg146
 z146:=Tryz.sizeOf146
 v146:=Tryz.zeroValue146
 t148:=Tryz.underlying148
 a148:=Tryz.isAgg148
 z148:=Tryz.sizeOf148
 v148:=Tryz.zeroValue148
 t164:=Tryz.underlying155
 a164:=Tryz.isAgg155
 z164:=Tryz.sizeOf155
 v164:=Tryz.zeroValue155 }
def Tryz.Builder_Extra_105:Builder.Extra Tryz.prog Tryz.lays105_ren:={
 sizeBuilder:=D2
 liesBuilder:=D2
 t5:=Tryz.underlying5
 a5:=Tryz.isAgg5
 z5:=Tryz.sizeOf5
 v5:=Tryz.zeroValue5
 infoByte:=D2
 cellsByte:=D2
 sizeByte:=D2
 neB5:=by decide }
open Go.RowKit Go.Lib in
def Tryz.strings_Repeat(s:ByteArray)(c:Nat)(w:World)(b:c<=9223372036854775807)(hlen:s.size*c<=140737488355328) :
  Calls Tryz.prog 34 #[.string s,.int .i64 c] w fun e w'=>e=.returned (.string ⟨(Lib.repeatL s.data.toList c).toArray⟩)/\Below w.heap.size w w':=Any.strings_Repeat Tryz.lays105 Tryz.Builder_Extra_105 s c w b hlen
end Go.Proofs
namespace Go.Proofs.YtbbicpheoakeeaaGreatDoor
open Go Go.Sx Go.Proofs.Tryz
variable {a d4 dc i j:Int}
def gl:Nat:=13
def n0:Nat:=16
def iR:List (Nat×List Value):=[(10,[.int .u8 (0),.int .u8 (1),.int .u8 (28),.int .u8 (2),.int .u8 (29),.int .u8 (14),.int .u8 (24),.int .u8 (3),.int .u8 (30),.int .u8 (22),.int .u8 (20),.int .u8 (15),.int .u8 (25),.int .u8 (17),.int .u8 (4),.int .u8 (8),.int .u8 (31),.int .u8 (27),.int .u8 (13),.int .u8 (23),.int .u8 (21),.int .u8 (19),.int .u8 (16),.int .u8 (7),.int .u8 (26),.int .u8 (12),.int .u8 (18),.int .u8 (6),.int .u8 (11),.int .u8 (5),.int .u8 (10),.int .u8 (9)]),
 (11,[.int .u8 (0),.int .u8 (1),.int .u8 (56),.int .u8 (2),.int .u8 (57),.int .u8 (49),.int .u8 (28),.int .u8 (3),.int .u8 (61),.int .u8 (58),.int .u8 (42),.int .u8 (50),.int .u8 (38),.int .u8 (29),.int .u8 (17),.int .u8 (4),.int .u8 (62),.int .u8 (47),.int .u8 (59),.int .u8 (36),.int .u8 (45),.int .u8 (43),.int .u8 (51),.int .u8 (22),.int .u8 (53),.int .u8 (39),.int .u8 (33),.int .u8 (30),.int .u8 (24),.int .u8 (18),.int .u8 (12),.int .u8 (5),.int .u8 (63),.int .u8 (55),.int .u8 (48),.int .u8 (27),.int .u8 (60),.int .u8 (41),.int .u8 (37),.int .u8 (16),.int .u8 (46),.int .u8 (35),.int .u8 (44),.int .u8 (21),.int .u8 (52),.int .u8 (32),.int .u8 (23),.int .u8 (11),.int .u8 (54),.int .u8 (26),.int .u8 (40),.int .u8 (15),.int .u8 (34),.int .u8 (20),.int .u8 (31),.int .u8 (10),.int .u8 (25),.int .u8 (14),.int .u8 (19),.int .u8 (9),.int .u8 (13),.int .u8 (8),.int .u8 (7),.int .u8 (6)]),
 (6,[.int .u64 (1),.int .u64 (10),.int .u64 (100),.int .u64 (1000),.int .u64 (10000),.int .u64 (100000),.int .u64 (1000000),.int .u64 (10000000),.int .u64 (100000000),.int .u64 (1000000000),.int .u64 (10000000000),.int .u64 (100000000000),.int .u64 (1000000000000),.int .u64 (10000000000000),.int .u64 (100000000000000),.int .u64 (1000000000000000),.int .u64 (10000000000000000),.int .u64 (100000000000000000),.int .u64 (1000000000000000000),.int .u64 (10000000000000000000)]),
 (8,[.int .u8 (128),.int .u8 (191),.int .u8 (160),.int .u8 (191),.int .u8 (128),.int .u8 (159),.int .u8 (144),.int .u8 (191),.int .u8 (128),.int .u8 (143),.int .u8 (0),.int .u8 (0),.int .u8 (0),.int .u8 (0),.int .u8 (0),.int .u8 (0),.int .u8 (0),.int .u8 (0),.int .u8 (0),.int .u8 (0),.int .u8 (0),.int .u8 (0),.int .u8 (0),.int .u8 (0),.int .u8 (0),.int .u8 (0),.int .u8 (0),.int .u8 (0),.int .u8 (0),.int .u8 (0),.int .u8 (0),.int .u8 (0)]),
 (5,[one]),
 (4,[one]),
 (1,[.int .u8 (0),.int .u8 (0),.int .u8 (0),.int .u8 (0),.int .u8 (0),.int .u8 (0),.int .u8 (0),.int .u8 (0),.int .u8 (0),.int .u8 (1),.int .u8 (1),.int .u8 (1),.int .u8 (1),.int .u8 (1),.int .u8 (0),.int .u8 (0),.int .u8 (0),.int .u8 (0),.int .u8 (0),.int .u8 (0),.int .u8 (0),.int .u8 (0),.int .u8 (0),.int .u8 (0),.int .u8 (0),.int .u8 (0),.int .u8 (0),.int .u8 (0),.int .u8 (0),.int .u8 (0),.int .u8 (0),.int .u8 (0),.int .u8 (1),.int .u8 (0),.int .u8 (0),.int .u8 (0),.int .u8 (0),.int .u8 (0),.int .u8 (0),.int .u8 (0),.int .u8 (0),.int .u8 (0),.int .u8 (0),.int .u8 (0),.int .u8 (0),.int .u8 (0),.int .u8 (0),.int .u8 (0),.int .u8 (0),.int .u8 (0),.int .u8 (0),.int .u8 (0),.int .u8 (0),.int .u8 (0),.int .u8 (0),.int .u8 (0),.int .u8 (0),.int .u8 (0),.int .u8 (0),.int .u8 (0),.int .u8 (0),.int .u8 (0),.int .u8 (0),.int .u8 (0),.int .u8 (0),.int .u8 (0),.int .u8 (0),.int .u8 (0),.int .u8 (0),.int .u8 (0),.int .u8 (0),.int .u8 (0),.int .u8 (0),.int .u8 (0),.int .u8 (0),.int .u8 (0),.int .u8 (0),.int .u8 (0),.int .u8 (0),.int .u8 (0),.int .u8 (0),.int .u8 (0),.int .u8 (0),.int .u8 (0),.int .u8 (0),.int .u8 (0),.int .u8 (0),.int .u8 (0),.int .u8 (0),.int .u8 (0),.int .u8 (0),.int .u8 (0),.int .u8 (0),.int .u8 (0),.int .u8 (0),.int .u8 (0),.int .u8 (0),.int .u8 (0),.int .u8 (0),.int .u8 (0),.int .u8 (0),.int .u8 (0),.int .u8 (0),.int .u8 (0),.int .u8 (0),.int .u8 (0),.int .u8 (0),.int .u8 (0),.int .u8 (0),.int .u8 (0),.int .u8 (0),.int .u8 (0),.int .u8 (0),.int .u8 (0),.int .u8 (0),.int .u8 (0),.int .u8 (0),.int .u8 (0),.int .u8 (0),.int .u8 (0),.int .u8 (0),.int .u8 (0),.int .u8 (0),.int .u8 (0),.int .u8 (0),.int .u8 (0),.int .u8 (0),.int .u8 (0),.int .u8 (0),.int .u8 (0),.int .u8 (0),.int .u8 (0),.int .u8 (0),.int .u8 (0),.int .u8 (0),.int .u8 (0),.int .u8 (0),.int .u8 (0),.int .u8 (0),.int .u8 (0),.int .u8 (0),.int .u8 (0),.int .u8 (0),.int .u8 (0),.int .u8 (0),.int .u8 (0),.int .u8 (0),.int .u8 (0),.int .u8 (0),.int .u8 (0),.int .u8 (0),.int .u8 (0),.int .u8 (0),.int .u8 (0),.int .u8 (0),.int .u8 (0),.int .u8 (0),.int .u8 (0),.int .u8 (0),.int .u8 (0),.int .u8 (0),.int .u8 (0),.int .u8 (0),.int .u8 (0),.int .u8 (0),.int .u8 (0),.int .u8 (0),.int .u8 (0),.int .u8 (0),.int .u8 (0),.int .u8 (0),.int .u8 (0),.int .u8 (0),.int .u8 (0),.int .u8 (0),.int .u8 (0),.int .u8 (0),.int .u8 (0),.int .u8 (0),.int .u8 (0),.int .u8 (0),.int .u8 (0),.int .u8 (0),.int .u8 (0),.int .u8 (0),.int .u8 (0),.int .u8 (0),.int .u8 (0),.int .u8 (0),.int .u8 (0),.int .u8 (0),.int .u8 (0),.int .u8 (0),.int .u8 (0),.int .u8 (0),.int .u8 (0),.int .u8 (0),.int .u8 (0),.int .u8 (0),.int .u8 (0),.int .u8 (0),.int .u8 (0),.int .u8 (0),.int .u8 (0),.int .u8 (0),.int .u8 (0),.int .u8 (0),.int .u8 (0),.int .u8 (0),.int .u8 (0),.int .u8 (0),.int .u8 (0),.int .u8 (0),.int .u8 (0),.int .u8 (0),.int .u8 (0),.int .u8 (0),.int .u8 (0),.int .u8 (0),.int .u8 (0),.int .u8 (0),.int .u8 (0),.int .u8 (0),.int .u8 (0),.int .u8 (0),.int .u8 (0),.int .u8 (0),.int .u8 (0),.int .u8 (0),.int .u8 (0),.int .u8 (0),.int .u8 (0),.int .u8 (0),.int .u8 (0),.int .u8 (0),.int .u8 (0),.int .u8 (0),.int .u8 (0),.int .u8 (0),.int .u8 (0),.int .u8 (0),.int .u8 (0),.int .u8 (0),.int .u8 (0),.int .u8 (0),.int .u8 (0),.int .u8 (0),.int .u8 (0),.int .u8 (0),.int .u8 (0),.int .u8 (0),.int .u8 (0),.int .u8 (0),.int .u8 (0),.int .u8 (0),.int .u8 (0)]),
 (0,[.int .i64 (4),.string ⟨⟨[67,45]⟩⟩,.int .i64 (2),.string ⟨⟨[77,45]⟩⟩,.int .i64 (1),.string ⟨⟨[83,45]⟩⟩]),
 (7,[.int .u8 (240),.int .u8 (240),.int .u8 (240),.int .u8 (240),.int .u8 (240),.int .u8 (240),.int .u8 (240),.int .u8 (240),.int .u8 (240),.int .u8 (240),.int .u8 (240),.int .u8 (240),.int .u8 (240),.int .u8 (240),.int .u8 (240),.int .u8 (240),.int .u8 (240),.int .u8 (240),.int .u8 (240),.int .u8 (240),.int .u8 (240),.int .u8 (240),.int .u8 (240),.int .u8 (240),.int .u8 (240),.int .u8 (240),.int .u8 (240),.int .u8 (240),.int .u8 (240),.int .u8 (240),.int .u8 (240),.int .u8 (240),.int .u8 (240),.int .u8 (240),.int .u8 (240),.int .u8 (240),.int .u8 (240),.int .u8 (240),.int .u8 (240),.int .u8 (240),.int .u8 (240),.int .u8 (240),.int .u8 (240),.int .u8 (240),.int .u8 (240),.int .u8 (240),.int .u8 (240),.int .u8 (240),.int .u8 (240),.int .u8 (240),.int .u8 (240),.int .u8 (240),.int .u8 (240),.int .u8 (240),.int .u8 (240),.int .u8 (240),.int .u8 (240),.int .u8 (240),.int .u8 (240),.int .u8 (240),.int .u8 (240),.int .u8 (240),.int .u8 (240),.int .u8 (240),.int .u8 (240),.int .u8 (240),.int .u8 (240),.int .u8 (240),.int .u8 (240),.int .u8 (240),.int .u8 (240),.int .u8 (240),.int .u8 (240),.int .u8 (240),.int .u8 (240),.int .u8 (240),.int .u8 (240),.int .u8 (240),.int .u8 (240),.int .u8 (240),.int .u8 (240),.int .u8 (240),.int .u8 (240),.int .u8 (240),.int .u8 (240),.int .u8 (240),.int .u8 (240),.int .u8 (240),.int .u8 (240),.int .u8 (240),.int .u8 (240),.int .u8 (240),.int .u8 (240),.int .u8 (240),.int .u8 (240),.int .u8 (240),.int .u8 (240),.int .u8 (240),.int .u8 (240),.int .u8 (240),.int .u8 (240),.int .u8 (240),.int .u8 (240),.int .u8 (240),.int .u8 (240),.int .u8 (240),.int .u8 (240),.int .u8 (240),.int .u8 (240),.int .u8 (240),.int .u8 (240),.int .u8 (240),.int .u8 (240),.int .u8 (240),.int .u8 (240),.int .u8 (240),.int .u8 (240),.int .u8 (240),.int .u8 (240),.int .u8 (240),.int .u8 (240),.int .u8 (240),.int .u8 (240),.int .u8 (240),.int .u8 (240),.int .u8 (240),.int .u8 (240),.int .u8 (240),.int .u8 (241),.int .u8 (241),.int .u8 (241),.int .u8 (241),.int .u8 (241),.int .u8 (241),.int .u8 (241),.int .u8 (241),.int .u8 (241),.int .u8 (241),.int .u8 (241),.int .u8 (241),.int .u8 (241),.int .u8 (241),.int .u8 (241),.int .u8 (241),.int .u8 (241),.int .u8 (241),.int .u8 (241),.int .u8 (241),.int .u8 (241),.int .u8 (241),.int .u8 (241),.int .u8 (241),.int .u8 (241),.int .u8 (241),.int .u8 (241),.int .u8 (241),.int .u8 (241),.int .u8 (241),.int .u8 (241),.int .u8 (241),.int .u8 (241),.int .u8 (241),.int .u8 (241),.int .u8 (241),.int .u8 (241),.int .u8 (241),.int .u8 (241),.int .u8 (241),.int .u8 (241),.int .u8 (241),.int .u8 (241),.int .u8 (241),.int .u8 (241),.int .u8 (241),.int .u8 (241),.int .u8 (241),.int .u8 (241),.int .u8 (241),.int .u8 (241),.int .u8 (241),.int .u8 (241),.int .u8 (241),.int .u8 (241),.int .u8 (241),.int .u8 (241),.int .u8 (241),.int .u8 (241),.int .u8 (241),.int .u8 (241),.int .u8 (241),.int .u8 (241),.int .u8 (241),.int .u8 (241),.int .u8 (241),.int .u8 (2),.int .u8 (2),.int .u8 (2),.int .u8 (2),.int .u8 (2),.int .u8 (2),.int .u8 (2),.int .u8 (2),.int .u8 (2),.int .u8 (2),.int .u8 (2),.int .u8 (2),.int .u8 (2),.int .u8 (2),.int .u8 (2),.int .u8 (2),.int .u8 (2),.int .u8 (2),.int .u8 (2),.int .u8 (2),.int .u8 (2),.int .u8 (2),.int .u8 (2),.int .u8 (2),.int .u8 (2),.int .u8 (2),.int .u8 (2),.int .u8 (2),.int .u8 (2),.int .u8 (2),.int .u8 (19),.int .u8 (3),.int .u8 (3),.int .u8 (3),.int .u8 (3),.int .u8 (3),.int .u8 (3),.int .u8 (3),.int .u8 (3),.int .u8 (3),.int .u8 (3),.int .u8 (3),.int .u8 (3),.int .u8 (35),.int .u8 (3),.int .u8 (3),.int .u8 (52),.int .u8 (4),.int .u8 (4),.int .u8 (4),.int .u8 (68),.int .u8 (241),.int .u8 (241),.int .u8 (241),.int .u8 (241),.int .u8 (241),.int .u8 (241),.int .u8 (241),.int .u8 (241),.int .u8 (241),.int .u8 (241),.int .u8 (241)])]
def H0:Hp AB:=mkH iR
def A1d:prog.follows .mixedOrders=true:=D2
def A1c:EQ prog:=by
 have h:(prog.funcs.toList.all fun fn=>!(fn.name == "runtime.NumGoroutine"))=true:=D2;intro f fn b;have h1:=D0.1 h fn (Array.mem_def.1 (Array.mem_of_getElem? b))
 simpa using h1
def A5e:List (FuncId×EK):=[(132,.indexByteString),(64,.countString),(112,.noEscape),(122,.makeNoZero 5)]
def A6o:∀ p ∈ A5e,yF prog p.1 p.2:=by
 intro p hp;unfold A5e at hp;rcases B3.1 hp with rfl|hp
 .exact⟨⟨_,rfl,by kernel_rfl,by kernel_rfl,by kernel_rfl,.inr (.inl ⟨rfl,by kernel_rfl⟩)⟩⟩
 rcases B3.1 hp with rfl|hp
 .exact⟨⟨_,rfl,by kernel_rfl,by kernel_rfl,by kernel_rfl,.inr (.inr (.inl ⟨rfl,by kernel_rfl⟩))⟩⟩
 rcases B3.1 hp with rfl|hp
 .exact⟨⟨_,rfl,by kernel_rfl,by kernel_rfl,by kernel_rfl,.inl ⟨rfl,by kernel_rfl⟩⟩⟩
 rcases B3.1 hp with rfl|hp
 .exact⟨⟨_,rfl,by kernel_rfl,by kernel_rfl,by kernel_rfl,.inr (.inr (.inr ⟨_,_,_,rfl,rfl,by kernel_rfl,by kernel_rfl⟩))⟩⟩
 cases hp
noncomputable abbrev cx(l:List (FuncId×FnC))(b:List LpE):Cx:=⟨prog,A5e,gl,SO l,lpT b⟩
def cxg{G:Nat->Option Obj}{l:List (FuncId×FnC)}{b:List LpE}(h:iI prog G gl l)(k:y5 prog G gl b):CxG (cx l b) G:=A2M A1d A1c A6o h k
abbrev A91:=Int×Int×Int×Int×Int×Int×Int×List UInt8
abbrev A0u:=Option (List Int)
abbrev B6:=List UInt8
abbrev M6(G:Nat->Option Obj):Prop:=y4 Tryz.prog G gl H0 n0
abbrev W3:={L:List (FuncId×FnC) // ∀ {G:Nat->Option Obj},M6 G->iI Tryz.prog G gl L}
def L0:List (FuncId×FnC):=[]
def A4f{G:Nat->Option Obj}(b:y4 prog G gl H0 n0):iI prog G gl L0:=.nil
def rB:Rw Int:=r1 (P3 .u8)
def okU(c:Int):Prop:=0<=c/\c<=1114111/\¬(55296<=c/\c<=57343)
instance(c:Int):Decidable (okU c):=by unfold okU;infer_instance
def iF(c:Int):Int:=if c=32 then 0 else if c=105∨c=109 then -1 else if 97<=c/\c<=122 then c-96 else if 92<=c/\c<=95 then c-64 else -1
def chP(c:Int):Prop:=okU c/\32<=c/\¬(127<=c/\c<=159)
instance(c:Int):Decidable (chP c):=by unfold chP;infer_instance
def o8(c m:Int):Prop:=(chP c/\(m=0∨(m=2/\c≠91/\c≠79)∨(0<=iF c/\(m=4∨m=6))))∨(1114113<=c/\c<=1114134/\0<=m/\m<=7)∨((c=1114135∨c=1114137)/\(m=0∨m=2))∨(c=1114136/\(m=0∨m=1∨m=2))∨(c=1114138/\m=0)
instance(c m:Int):Decidable (o8 c m):=by unfold o8;infer_instance
def l2{b:Int}{c d:Bool}(h:a=b)(k:c=d):[U.int .u8 a,U.bool c]=[U.int .u8 b,U.bool d]:=by rw[h,k]
def l1{c d:Bool}(k:c=d):[U.bool c]=[U.bool d]:=by rw[k]
def l0{c d:Int}(k:c=d):[U.int .i64 c]=[U.int .i64 d]:=by rw[k]
def JD:List U->Option (Nat×List U)
 | [.int .i64 c]=>some (0,[.int .u8 (if 0<=iF c then iF c else 0),.bool (decide (0<=iF c))])
 | _=>none
def A2P(c:Int):JD [.int .i64 c]=some (0,[.int .u8 (if 0<=iF c then iF c else 0),.bool (decide (0<=iF c))]):=rfl
def A0C(n:Nat):Tr:=.lt 3 (.bin .and) [h3 0,jI 31]<|.lt 4 (.conv .u8) [h3 n]<|.ret [h (n+1) 4,.bool true]
def Q4(a0:Nat)(b:Nat)(a2:Int)(c d:Tr):Tr:=aQ [h3 a0,jI a2]<|.br b c d
def K0(a0:Nat)(b:Nat)(a2:Int)(c d:Tr):Tr:=aH [h3 a0,jI a2]<|.br b c d
def A0B(n:Nat):Tr:=K0 0 n 92 (Q4 0 (n+1) 95 (A0C (n+2)) (.ret [.int .u8 (0),.bool false])) (.ret [.int .u8 (0),.bool false])
def I4(a0:Nat)(b:Nat)(a2:Int)(c d:Tr):Tr:=aE [h3 a0,jI a2]<|.br b c d
def A4L:Tr:=I4 0 1 32 (.ret [.int .u8 (0),.bool true]) (I4 0 2 105 (.ret [.int .u8 (0),.bool false]) (I4 0 3 109 (.ret [.int .u8 (0),.bool false]) (K0 0 4 97 (Q4 0 5 122 (A0C 6) (A0B 6)) (A0B 5))))
def A4M{G}(b:M6 G):M0 prog G 106 [.s 3] JD [.s 4,.s 8]:=by
 refine G9 (C:=cx L0 []) (d:=60) A4L (cxg (A4f b) .nil) b ⟨f106,_,func106,rfl⟩ D2 D2 ?_;intro us outs f;unfold JD at f;split at f
 .skip;rename_i c;cases f;unfold A4L;refine w0 (.cons 0 _ (.nil)) ?_;repeat (first|(refine w7 [.int .u8 _,.bool _] ?_;rotate_left)|refine w4 (fun g=>?_) fun g=>?_|refine FL ?_|refine uW ?_|refine fT ?_|refine jE ?_|refine nA ?_|refine w1 (.bin .and) (e:=QB 5 32 F1 F1 F1) (k':=?_))
  all_goals
   refine l2 ?_ ?_
   ·(unfold iF;(repeat' split)<;>omega)
   .symm;first|exact I2 (by(unfold iF;(repeat' split)<;>omega))|exact E0 (by(unfold iF;(repeat' split)<;>omega))
 .cases f
noncomputable def A8e:W3:=⟨_,fun b=>.cons (A4M b) (A4f b)⟩
def GP:List U->Option (Nat×List U)
 | [.int .i64 c]=>some (0,[.int .i64 (iF c)])
 | _=>none
def A1Q(c:Int):GP [.int .i64 c]=some (0,[.int .i64 (iF c)]):=rfl
def J8(a0:Int):Tr:=.ret [jI a0]
def CN(n:Nat):Tr:=K0 0 n 92 (Q4 0 (n+1) 95 (aS [h3 0,jI 92]<|aA [h3 (n+2),jI 28]<|.ret [h3 (n+3)]) (J8 (-1))) (J8 (-1))
def cD(a0:Nat)(b:Nat)(a2:Int)(c d:Tr):Tr:=aN [h3 a0,jI a2]<|.br b c d
def A3B:Tr:=I4 0 1 32 (J8 0) (K0 0 2 97 (Q4 0 3 122 (cD 0 4 105 (cD 0 5 109 (aS [h3 0,jI 97]<|aA [h3 6,jI 1]<|.ret [h3 7]) (CN 6)) (CN 5)) (CN 4)) (CN 3))
def A6V{G}(b:M6 G):M0 prog G 83 [.s 3] GP [.s 3]:=by
 refine G9 (d:=60) A3B (cxg (A8e.2 b) .nil) b ⟨f83,_,func83,rfl⟩ D2 D2 ?_;intro us outs e;unfold GP at e;split at e
 .skip;rename_i c;cases e;unfold A3B;refine w0 (.cons 0 _ (.nil)) ?_;repeat (first|(refine w7 [.int .i64 _] ?_;rotate_left)|refine w4 (fun g=>?_) fun g=>?_|refine TJ ?_|refine FI ?_|refine jF ?_|refine aC ?_|refine jE ?_|refine nA ?_|refine CC ?_|refine fT ?_)
  all_goals
   refine l0 ?_
   (unfold iF;(repeat' split)<;>omega)
 .cases e
def A4N(c:Int):(c=32/\iF c=0)∨((c=105∨c=109)/\iF c = -1)∨(97<=c/\c<=122/\c≠105/\c≠109/\iF c=c-96)∨(92<=c/\c<=95/\iF c=c-64)∨(c≠32/\¬(97<=c/\c<=122)/\¬(92<=c/\c<=95)/\iF c = -1):=by
 unfold iF
 (repeat' split)<;>omega
noncomputable def A7z:W3:=⟨_,fun b=>(.cons (A4M b) .nil)⟩
def EZ:List U->Option (Nat×List U)
 | [.int .i64 c,.int .i64 m]=>if -9223372036854775808<=m/\m<=9223372036854775807 then some (0,[.bool (decide (o8 c m))])else none
 | _=>none
def A00(c:Int)(m:Int)(b : -9223372036854775808<=m/\m<=9223372036854775807):EZ [.int .i64 c,.int .i64 m]=some (0,[.bool (decide (o8 c m))]):=A9 b
def G0:Tr:=.ret [.bool false]
def jO(a0:Nat)(b:Int)(a2:Nat)(c d:Tr):Tr:=.lt 3 (.bin .and) [h3 a0,jI b]<|aN [h3 a2,jI 0]<|.br (a2+1) c d
def TE(n:Nat):Tr:=jO 1 4 n (.fn JD [h3 0] 2<|.br (n+3) (.lt 3 (.bin .andNot) [h3 1,jI 6]<|aE [h3 (n+4),jI 0]<|.ret [h (n+5) 8]) (G0)) (I4 1 (n+2) 0 (.ret [.bool true]) (I4 1 (n+3) 2 (cD 0 (n+4) 91 (aN [h3 0,jI 79]<|.ret [h (n+5) 8]) G0) G0))
def KF(n:Nat):Tr:=I4 1 n 2 (.ret [.bool true]) (aE [h3 1,jI 0]<|.ret [h (n+1) 8])
def uT(n:Nat):Tr:=I4 0 n 1114136 (I4 1 (n+1) 1 (.ret [.bool true]) (KF (n+2))) (I4 0 (n+1) 1114135 (KF (n+2)) (I4 0 (n+2) 1114137 (KF (n+3)) (I4 0 (n+3) 1114138 (aE [h3 1,jI 0]<|.ret [h (n+4) 8]) (K0 0 (n+4) 1114113 (Q4 0 (n+5) 1114134 (K0 1 (n+6) 0 (aQ [h3 1,jI 7]<|.ret [h (n+7) 8]) G0) G0) G0))))
def N3(a0:Nat)(b:Nat)(c d:Tr):Tr:=aX [h a0 8]<|.br b c d
def A2o:Tr:=K0 0 2 0 (Q4 0 3 1114111 (.lt 3 (.bin .shr) [h3 0,.int .u64 (11)]<|cD 4 5 27 (K0 0 6 32 (K0 0 7 127 (aQ [h3 0,jI 159]<|N3 8 9 (TE 10) (uT 10)) (TE 8)) (uT 7)) (uT 6)) (uT 4)) (uT 3)
def A6H{G}(f:M6 G):M0 prog G 76 [.s 3,.s 3] EZ [.s 8]:=by
 refine G9 (d:=60) A2o (cxg (A7z.2 f) .nil) f ⟨f76,_,func76,rfl⟩ D2 D2 ?_;intro us outs b;unfold EZ at b;split at b
 .skip;rename_i c m;split at b
  .rename_i k;cases b;unfold A2o;refine w0 (.cons 1 _ (.cons 0 _ (.nil))) ?_;repeat (first|refine w4 (fun g=>?_) fun g=>?_|refine w4B (fun g=>?_) fun g=>?_|(refine w7 [.bool _] ?_;rotate_left)|refine fT ?_|refine jE ?_|refine nA ?_|refine CC ?_|refine w1 (.bin .and) (e:=QA _) (k':=?_)|refine w32 JD (e:=A2P _) (k':=?_)|refine w1 (.bin .andNot) (e:=A5w _) (k':=?_)|refine w1 (.bin .shr) (e:=PW 2048 F1 F1) (k':=?_)|refine cI ?_)
   all_goals
    have z0:=A0g m k.1 k.2;have l:=A4N c;refine l1 ?_;first|(refine decide_eq_decide.2 ?_;unfold o8 chP okU;omega)|(symm;first|exact I2 (by unfold o8 chP okU at *;omega)|exact E0 (by unfold o8 chP okU at *;omega))
  .cases b
 .cases b
noncomputable def A74:W3:=⟨_,fun b=>(.cons (A6V b) .nil)⟩
def iS:List U->Option (Nat×List U)
 | [.int .i64 c,.int .i64 m]=>if -9223372036854775808<=m/\m<=9223372036854775807 then some (0,[.bool (decide (o8 c m))])else none
 | _=>none
def NV(c:Int)(m:Int)(b : -9223372036854775808<=m/\m<=9223372036854775807):iS [.int .i64 c,.int .i64 m]=some (0,[.bool (decide (o8 c m))]):=A9 b
def VA(n:Nat):Tr:=I4 1 n 0 (.ret [.bool true]) (I4 1 (n+1) 2 (cD 0 (n+2) 91 (aN [h3 0,jI 79]<|.ret [h (n+3) 8]) G0) (.fn GP [h3 0] 1<|K0 (n+2) (n+3) 0 (I4 1 (n+4) 4 (.ret [.bool true]) (aE [h3 1,jI 6]<|.ret [h (n+5) 8])) G0))
def UZ(n:Nat):Tr:=I4 1 n 0 (.ret [.bool true]) (aE [h3 1,jI 2]<|.ret [h (n+1) 8])
def UY(n:Nat):Tr:=I4 0 n 1114135 (UZ (n+1)) (I4 0 (n+1) 1114137 (UZ (n+2)) (I4 0 (n+2) 1114136 (I4 1 (n+3) 0 (.ret [.bool true]) (I4 1 (n+4) 1 (.ret [.bool true]) (aE [h3 1,jI 2]<|.ret [h (n+5) 8]))) (I4 0 (n+3) 1114138 (aE [h3 1,jI 0]<|.ret [h (n+4) 8]) G0)))
def vM(n:Nat):Tr:=K0 0 n 1114113 (Q4 0 (n+1) 1114134 (K0 1 (n+2) 0 (aQ [h3 1,jI 7]<|.ret [h (n+3) 8]) G0) (UY (n+2))) (UY (n+1))
def UX(n:Nat):Tr:=K0 0 n 32 (K0 0 (n+1) 127 (aQ [h3 0,jI 159]<|N3 (n+2) (n+3) (VA (n+4)) (vM (n+4))) (VA (n+2))) (vM (n+1))
def A23:Tr:=K0 0 2 0 (Q4 0 3 1114111 (aL [h3 0,jI 55296]<|.br 4 (UX 5) (aG [h3 0,jI 57343]<|.br 5 (UX 6) (vM 6))) (vM 4)) (vM 3)
def NW{G}(f:M6 G):M0 prog G 47 [.s 3,.s 3] iS [.s 8]:=by
 refine G9 (d:=60) A23 (cxg (A74.2 f) .nil) f ⟨f47,_,func47,rfl⟩ D2 D2 ?_;intro us outs b;unfold iS at b;split at b
 .skip;rename_i c m;split at b
  .rename_i k;cases b;unfold A23;refine w0 (.cons 1 _ (.cons 0 _ (.nil))) ?_;repeat (first|refine fT ?_|(refine w7 [.bool _] ?_;rotate_left)|refine w4 (fun g=>?_) fun g=>?_|refine jE ?_|refine nA ?_|refine CC ?_|refine w31 GP (e:=A1Q _) (k':=?_)|refine cI ?_|refine gU ?_|refine KJ ?_)
   all_goals
    have z0:=A0g m k.1 k.2;have l:=A4N c;refine l1 ?_;first|(refine decide_eq_decide.2 ?_;unfold o8 chP okU;omega)|(symm;first|exact I2 (by unfold o8 chP okU at *;omega)|exact E0 (by unfold o8 chP okU at *;omega))
  .cases b
 .cases b
def msP(m w b r cl:Int):Prop:=0<=w/\w<=3/\0<=b/\b<=3/\(w=0->b<=2)/\(w=3->b<=1)/\0<=m/\m<=7/\0<=r/\r<=39/\0<=cl/\cl<=79
instance(m w b r cl:Int):Decidable (msP m w b r cl):=by unfold msP;infer_instance
def A3Y(m w b r cl:Int):msP m w b r cl↔(0<=b/\0<=m/\m<=7/\0<=r/\r<=39/\0<=cl/\cl<=79)/\((w=0/\b<=2)∨(w=1/\b<=3)∨(w=2/\b<=3)∨(w=3/\b<=1)):=by
 unfold msP;omega
def WS(w:Int):(w=0/\([2,3,3,1]:List Int).getD w.toNat 0=2)∨(w=1/\([2,3,3,1]:List Int).getD w.toNat 0=3)∨(w=2/\([2,3,3,1]:List Int).getD w.toNat 0=3)∨(w=3/\([2,3,3,1]:List Int).getD w.toNat 0=1)∨w<0∨3<w:=by
 by_cases h:0<=w/\w<=3
 .have:w=0∨w=1∨w=2∨w=3:=A2;rcases this with rfl|rfl|rfl|rfl<;>decide
 .omega
noncomputable def A7y:W3:=⟨_,fun b=>.nil⟩
def EY:List U->Option (Nat×List U)
 | [.int .i64 k,.int .i64 c,.int .i64 m,.int .i64 w,.int .i64 b,.int .i64 r,.int .i64 cl,.str t]=>some (0,[.bool (decide (msP m w b r cl))])
 | _=>none
def A0z(k:Int)(c:Int)(m:Int)(w:Int)(b:Int)(r:Int)(cl:Int)(t:B6):EY [.int .i64 k,.int .i64 c,.int .i64 m,.int .i64 w,.int .i64 b,.int .i64 r,.int .i64 cl,.str t]=some (0,[.bool (decide (msP m w b r cl))]):=rfl
def A2n:Tr:=K0 3 8 0 (Q4 3 9 3 (aI [h3 3,jI 4]<|.br 10 (.lt 3 (.sel) [h3 3,jI 2,jI 3,jI 3,jI 1]<|K0 4 12 0 (aQ [h3 4,h3 11]<|.br 13 (K0 2 14 0 (Q4 2 15 7 (K0 5 16 0 (Q4 5 17 39 (K0 6 18 0 (aQ [h3 6,jI 79]<|.ret [h 19 8]) G0) G0) G0) G0) G0) (G0)) G0) (.no)) G0) G0
def A6G{G}(f:M6 G):M0 prog G 77 [.a [3,3,3,3,3,3,3,9]] EY [.s 8]:=by
 refine G9 (d:=60) A2n (cxg (A7y.2 f) .nil) f ⟨f77,_,func77,rfl⟩ D2 D2 ?_;intro us outs l;unfold EY at l;split at l
 .skip;rename_i k c m w b r cl t;cases l;unfold A2n;refine w0 (.cons 7 _ (.cons 6 _ (.cons 5 _ (.cons 4 _ (.cons 3 _ (.cons 2 _ (.cons 1 _ (.cons 0 _ (.nil))))))))) ?_;repeat (first|refine w4 (fun g=>?_) fun g=>?_|(refine w7 [.bool _] ?_;rotate_left)|refine jE ?_|refine nA ?_|refine A8o ?_|refine w1 (.sel) (e:=A12 [2,3,3,1] A2 (by show _<((4:Nat):Int);omega)) (k':=?_)|(refine w8 ?_;(have z0:=WS w;omega)))
  all_goals
   have n:=A3Y m w b r cl;have z0:=WS w;refine l1 ?_;first|(refine decide_eq_decide.2 ⟨fun h=>n.2 ?_,fun h=>?_⟩;omega;(have:=n.1 h;omega))|(symm;first|exact I2 (n.2 A2)|exact E0 (fun h=>by have:=n.1 h;omega)|(exfalso;omega))
 .cases l
noncomputable def A73:W3:=⟨_,fun b=>.nil⟩
def GI:List U->Option (Nat×List U)
 | [.int .i64 k,.int .i64 c,.int .i64 m,.int .i64 w,.int .i64 b,.int .i64 r,.int .i64 cl,.str t]=>some (0,[.bool (decide (msP m w b r cl))])
 | _=>none
def A1L(k:Int)(c:Int)(m:Int)(w:Int)(b:Int)(r:Int)(cl:Int)(t:B6):GI [.int .i64 k,.int .i64 c,.int .i64 m,.int .i64 w,.int .i64 b,.int .i64 r,.int .i64 cl,.str t]=some (0,[.bool (decide (msP m w b r cl))]):=rfl
def UU(n:Nat):Tr:=K0 3 n 0 (Q4 3 (n+1) 3 (K0 4 (n+2) 0 (Q4 4 (n+3) 1 (K0 2 (n+4) 0 (Q4 2 (n+5) 7 (K0 5 (n+6) 0 (Q4 5 (n+7) 39 (K0 6 (n+8) 0 (aQ [h3 6,jI 79]<|.ret [h (n+9) 8]) G0) G0) G0) G0) G0) G0) G0) G0) G0
def UT(n:Nat):Tr:=.br 13 (K0 2 n 0 (Q4 2 (n+1) 7 (K0 5 (n+2) 0 (Q4 5 (n+3) 39 (K0 6 (n+4) 0 (aQ [h3 6,jI 79]<|.ret [h (n+5) 8]) G0) G0) G0) G0) G0) (G0)
def A21:Tr:=I4 3 8 0 (I4 3 9 3 (UU 10) (K0 3 10 0 (Q4 3 11 3 (K0 4 12 0 (aQ [h3 4,jI 2]<|UT 14) G0) G0) G0)) (I4 3 9 3 (UU 10) (K0 3 10 0 (Q4 3 11 3 (K0 4 12 0 (aQ [h3 4,jI 3]<|UT 14) G0) G0) G0))
def A22{G}(e:M6 G):M0 prog G 80 [.a [3,3,3,3,3,3,3,9]] GI [.s 8]:=by
 refine G9 (d:=60) A21 (cxg (A73.2 e) .nil) e ⟨f80,_,func80,rfl⟩ D2 D2 ?_;intro us outs f;unfold GI at f;split at f
 .skip;rename_i k c m w b r cl t;cases f;unfold A21;refine w0 (.cons 7 _ (.cons 6 _ (.cons 5 _ (.cons 4 _ (.cons 3 _ (.cons 2 _ (.cons 1 _ (.cons 0 _ (.nil))))))))) ?_;repeat (first|(refine w7 [.bool _] ?_;rotate_left)|refine w4 (fun g=>?_) fun g=>?_|refine jE ?_|refine nA ?_|refine fT ?_)
  all_goals
   have l:=A3Y m w b r cl;have z0:=WS w;refine l1 ?_;first|(refine decide_eq_decide.2 ⟨fun h=>l.2 ?_,fun h=>?_⟩;omega;(have:=l.1 h;omega))|(symm;first|exact I2 (l.2 A2)|exact E0 (fun h=>by have:=l.1 h;omega)|(exfalso;omega))
 .cases f
def JC:List U->Option (Nat×List U)
 | [.str s,.str u]=>if u=[27]then some (0,[.bool (decide (0<=Lib.indexByte s 27))])else none
 | _=>none
def A2O(s:B6)(u:B6)(b:u=[27]):JC [.str s,.str u]=some (0,[.bool (decide (0<=Lib.indexByte s 27))]):=A9 b
def A7d{G}(g:M6 G):M0 prog G 78 [.s 9,.s 9] JC [.s 8]:=by
 intro us outs w vs R c b k hR;unfold JC at b;split at b
 .skip;rename_i s u;split at b
  .rename_i d;cases b;have hv:=T8 (vs2:=[.string ⟨⟨s⟩⟩,.string ⟨⟨u⟩⟩]) c rfl;subst hv;refine fB (vr:=[.bool (decide (0<=Lib.indexByte s 27))]) func78 rfl D2 rfl ?_;subst d;exact(Tryz.strings_Contains_one ⟨⟨s⟩⟩ 27 w).mono fun e w' ⟨h1,f⟩=>⟨h1,by subst f;exact RowKit.Below.refl _ _⟩
  .cases b
 .cases b
def bU(b:Bool):Option Unit:=if b then some ()else none
def x9{b:Bool}{u:Unit}(h:bU b=some u):b=true:=by cases b<;>first|rfl|cases h
def y0{b:Bool}(h:bU b=none):b=false:=by cases b<;>first|rfl|cases h
def isE(x:UInt8):Bool:=decide (x=27)
def A2F{l:B6}(h:(l.length:Int)<=i):(l.drop i.toNat).any isE=false:=by rw[kY l h];rfl
def A4C{x:UInt8}(h:((x.toNat:Nat):Int)=27):x=27:=by
 apply UInt8.toNat_inj.1;show x.toNat=27;omega
def DN(l:B6)(n:Nat):l.getD n default=l.getD n 0:=rfl
def A7R{l:B6}(h0:0<=i)(h1:i<(l.length:Int))(b:(((l.getD i.toNat 0).toNat:Nat):Int)=27):(l.drop i.toNat).any isE=true:=by
 rw[Y7 l h0 h1,P0,DN,A4C b];rfl
def A7S{l:B6}(h0:0<=i)(h1:i<(l.length:Int))(b:¬(((l.getD i.toNat 0).toNat:Nat):Int)=27):(l.drop i.toNat).any isE=(l.drop (i+1).toNat).any isE:=by
 rw[Y7 l h0 h1,P0,DN];have:isE (l.getD i.toNat 0)=false:=E0 fun h=>b (by rw[h];rfl)
 rw[this,P2]
noncomputable def A76:W3:=⟨_,fun b=>(.cons (NW b) (.cons (A22 b) .nil))⟩
def vN:List U->Option (Nat×List U)
 | [.int .i64 i,.int .i64 k,.int .i64 c,.int .i64 m,.int .i64 w,.int .i64 b,.int .i64 r,.int .i64 cl,.str t]=>if 0<=i/\i<=(t.length:Int)/\(t.length:Int)<=140737488351232 then q8 (bU ((t.drop i.toNat).any isE)) [.int .i64 k,.int .i64 c,.int .i64 m,.int .i64 w,.int .i64 b,.int .i64 r,.int .i64 cl,.str t] (fun _=>[])else none
 | _=>none
def oU(i:Int)(k:Int)(c:Int)(m:Int)(w:Int)(b:Int)(r:Int)(cl:Int)(t:B6)(d:0<=i/\i<=(t.length:Int)/\(t.length:Int)<=140737488351232):vN [.int .i64 i,.int .i64 k,.int .i64 c,.int .i64 m,.int .i64 w,.int .i64 b,.int .i64 r,.int .i64 cl,.str t]=q8 (bU ((t.drop i.toNat).any isE)) [.int .i64 k,.int .i64 c,.int .i64 m,.int .i64 w,.int .i64 b,.int .i64 r,.int .i64 cl,.str t] (fun _=>[]):=A9 d
def A3A:V6:=⟨[(1,.pointer (some ⟨16,0,none⟩)),(3,h 0 3)],[(16,.cells 30 [h 1 3,h 2 3,h 3 3,h 4 3,h 5 3,h 6 3,h 7 3,h 8 9])],9,[⟨.exit 1,[(1,.pointer (some ⟨16,0,none⟩))],[(16,.cells 30 [h 0 3,h 1 3,h 2 3,h 3 3,h 4 3,h 5 3,h 6 3,h 7 9])],8⟩,⟨.ret,[(2,.bool false)],[],0⟩]⟩
noncomputable def VC:Code:=(f45.body).getD .skip
noncomputable def A26:Code:=match H7 [true,false,true,false,true,true,true,true,true,false,false,true,false] VC with|some (.loop x)=>x|_=>.skip
def A2_:f45.body=some VC:=rfl
def A28:H7 [true,false,true,false,true,true,true,true,true,false,false,true,false] VC=some (.loop A26):=D2
def cC(a0:Nat)(b:Nat)(a2:Nat)(c d:Tr):Tr:=aL [h3 b,h3 a0]<|.br a2 c d
def A27:Tr:=aD [h 8 9]<|cC 9 0 10 (.lt 4 (.idx) [h 8 9,h3 0]<|aE [h 11 4,.int .u8 (27)]<|.br 12 (J8 1) (aA [h3 0,jI 1]<|.ret [jI (-1),h3 13,h3 1,h3 2,h3 3,h3 4,h3 5,h3 6,h3 7,h 8 9])) (.ret [jI 0,h3 1,h3 2,h3 3,h3 4,h3 5,h3 6,h3 7,h 8 9])
def A29:List U->Nat
 | [.int .i64 i,.int .i64 k,.int .i64 c,.int .i64 m,.int .i64 w,.int .i64 b,.int .i64 r,.int .i64 cl,.str t]=>((t.length:Int)-i).toNat
 | _=>0
def VB(i:Int)(k:Int)(c:Int)(m:Int)(w:Int)(b:Int)(r:Int)(cl:Int)(t:B6):A29 [.int .i64 i,.int .i64 k,.int .i64 c,.int .i64 m,.int .i64 w,.int .i64 b,.int .i64 r,.int .i64 cl,.str t]=((t.length:Int)-i).toNat:=rfl
def A6S{G}(l:M6 G):∀ (E:Nat->U) (base:Nat),@W1 ⟨E,G⟩ prog base gl f45.ntmps A26 (U3 prog gl n0 17 A3A vN):=by
 refine u7 (dep:=60) (f:=45) (n0:=n0) (nB:=17) (H0:=H0) A29 A27 (cxg (A76.2 l) .nil) l func45 A2_ A28 D2 D2 D2 ?_;intro us d outs e;have o:=e;unfold vN at e;split at e
 .skip;rename_i i k c m w b r cl t;split at e
  .rename_i n;clear e o;refine⟨rfl,?_⟩;unfold A27;refine w0 (.cons 8 _ (.cons 7 _ (.cons 6 _ (.cons 5 _ (.cons 4 _ (.cons 3 _ (.cons 2 _ (.cons 1 _ (.cons 0 _ (.nil)))))))))) ?_;repeat (first|refine w4 (fun g=>?_) fun g=>?_|refine jF ?_|refine aC ?_|refine nC ?_|refine gU ?_|refine A6K ?_|refine fT ?_|(refine w7 [.int .i64 _] ?_;rotate_left)|(refine w7 [.int .i64 _,.int .i64 _,.int .i64 _,.int .i64 _,.int .i64 _,.int .i64 _,.int .i64 _,.int .i64 _,.int .i64 _,.str _] ?_;rotate_left)|(refine w7 [.int .i64 _,.int .i64 _,.int .i64 _,.int .i64 _,.int .i64 _,.int .i64 _,.int .i64 _,.int .i64 _,.str _] ?_;rotate_left))
   all_goals first
    | refine U7 ?_ ?_
      .rw[oU i k c m w b r cl t n,A7S (i:=i) A2 A2 ‹_›];exact oU (i+1) k c m w b r cl t ⟨A2,A2,n.2.2⟩
      .rw[VB,VB];omega
    | refine K5 (d:=0) ?_
      rw[oU i k c m w b r cl t n,A2F A2];rfl
    | refine K5 (d:=1) ?_
      rw[oU i k c m w b r cl t n,A7R (i:=i) A2 A2 ‹_›];rfl
  .cases e
 .cases e
noncomputable def A4c:List LpE:=(45,([true,false,true,false,true,true,true,true,true,false,false,true,false],U3 prog gl n0 17 A3A vN))::[]
def qR{G}(b:M6 G):y5 prog G gl A4c:=.cons func45 A2_ A28 (A6S b) .nil
def A2f(t:B6):(0<=Lib.indexByte t 27)↔t.any isE=true:=by
 induction t with
 | nil=>simp[Lib.indexByte]
 | cons b l g =>
   have h:=Lib.indexByte_ge l 27;rw[Lib.indexByte,P0];by_cases e:b=27
   .subst e;simp[isE]
   .have d:(b == 27)=false:=by simp[e]
    have f:isE b=false:=E0 e;rw[d,f,P2,<- g];by_cases c:Lib.indexByte l 27 = -1
    .simp[c]
    .simp[c];omega
def Y6(k c m w b r cl:Int)(t:B6):Prop :=
 (k=1/\w=0/\b=0/\r=0/\cl=0/\t=[]/\o8 c m)∨(k=2/\c=0/\t=[]/\msP m w b r cl)∨(k=3/\c=0/\m=0/\w=0/\b=0/\r=0/\cl=0/\t.length<=1000/\t.any isE=false)∨(k=4/\c=0/\m=0/\b=0/\r=0/\cl=0/\t=[]/\0<=w/\w<=1)
instance(k c m w b r cl:Int)(t:B6):Decidable (Y6 k c m w b r cl t):=by unfold Y6;infer_instance
noncomputable def A75:W3:=⟨_,fun b=>(.cons (NW b) (.cons (A22 b) .nil))⟩
def GJ:List U->Option (Nat×List U)
 | [.int .i64 k,.int .i64 c,.int .i64 m,.int .i64 w,.int .i64 b,.int .i64 r,.int .i64 cl,.str t]=>if -9223372036854775808<=m/\m<=9223372036854775807/\(t.length:Int)<=140737488351232 then some (0,[.bool (decide (Y6 k c m w b r cl t))])else none
 | _=>none
def A1M(k:Int)(c:Int)(m:Int)(w:Int)(b:Int)(r:Int)(cl:Int)(t:B6)(d : -9223372036854775808<=m/\m<=9223372036854775807/\(t.length:Int)<=140737488351232):GJ [.int .i64 k,.int .i64 c,.int .i64 m,.int .i64 w,.int .i64 b,.int .i64 r,.int .i64 cl,.str t]=some (0,[.bool (decide (Y6 k c m w b r cl t))]):=A9 d
def A24:Tr:=I4 0 8 1 (.lt 8 (.eqs) [h3 0,h3 0,h3 1,h3 1,h3 2,h3 2,h3 3,jI 0,h3 4,jI 0,h3 5,jI 0,h3 6,jI 0,h 7 9,.string ⟨⟨[]⟩⟩]<|.br 9 (.fn iS [h3 1,h3 2] 1<|.ret [h 10 8]) (G0)) (I4 0 9 2 (.lt 8 (.eqs) [h3 0,h3 0,h3 1,jI 0,h3 2,h3 2,h3 3,h3 3,h3 4,h3 4,h3 5,h3 5,h3 6,h3 6,h 7 9,.string ⟨⟨[]⟩⟩]<|.br 10 (.fn GI [h3 0,h3 1,h3 2,h3 3,h3 4,h3 5,h3 6,h 7 9] 1<|.ret [h 11 8]) (G0)) (I4 0 10 3 (.lp vN [jI 0,h3 0,h3 1,h3 2,h3 3,h3 4,h3 5,h3 6,h 7 9] 0 8 (.lt 8 (.eqs) [h3 11,h3 11,h3 12,jI 0,h3 13,jI 0,h3 14,jI 0,h3 15,jI 0,h3 16,jI 0,h3 17,jI 0,h 18 9,h 18 9]<|.br 19 (aD [h 18 9]<|aQ [h3 20,jI 1000]<|.ret [h 21 8]) (G0)) (.lp vN [jI 0,h3 0,h3 1,h3 2,h3 3,h3 4,h3 5,h3 6,h 7 9] 1 0 (G0) (.no))) (I4 0 11 4 (.lt 8 (.eqs) [h3 0,h3 0,h3 1,jI 0,h3 2,jI 0,h3 3,h3 3,h3 4,jI 0,h3 5,jI 0,h3 6,jI 0,h 7 9,.string ⟨⟨[]⟩⟩]<|.br 12 (K0 3 13 0 (aQ [h3 3,jI 1]<|.ret [h 14 8]) G0) (G0)) G0)))
def A25{G}(f:M6 G):M0 prog G 45 [.a [3,3,3,3,3,3,3,9]] GJ [.s 8]:=by
 refine G9 (d:=60) A24 (cxg (A75.2 f) (qR f)) f ⟨f45,_,func45,rfl⟩ D2 D2 ?_;intro us outs g;unfold GJ at g;split at g
 .skip;rename_i k c m w b r cl t;split at g
  .rename_i l;cases g;unfold A24;refine w0 (.cons 7 _ (.cons 6 _ (.cons 5 _ (.cons 4 _ (.cons 3 _ (.cons 2 _ (.cons 1 _ (.cons 0 _ (.nil))))))))) ?_;refine fT ?_;refine w4 (fun g0=>?_) fun g0=>?_
   .refine w1 (.eqs) (e:=rfl) (k':=?_);first|refine w5 (fun g1=>?_) (fun g1=>?_)|refine w5B (fun g1=>?_) (fun g1=>?_)
    .refine w7 [.bool _] ?_;refine l1 ?_;unfold Y6
     (try replace g3:=x9 g3)
     (try replace g3:=y0 g3)
     first|(simp_all;done)|(simp_all;omega)
    refine w31 iS (e:=NV _ _ A2) (k':=?_);refine w7 [.bool _] ?_;refine l1 ?_;unfold Y6
    (try replace g3:=x9 g3)
    (try replace g3:=y0 g3)
    first|(simp_all;done)|(simp_all;omega)
   refine fT ?_;refine w4 (fun g1=>?_) fun g1=>?_
   .refine w1 (.eqs) (e:=rfl) (k':=?_);first|refine w5 (fun g2=>?_) (fun g2=>?_)|refine w5B (fun g2=>?_) (fun g2=>?_)
    .refine w7 [.bool _] ?_;refine l1 ?_;unfold Y6
     (try replace g3:=x9 g3)
     (try replace g3:=y0 g3)
     first|(simp_all;done)|(simp_all;omega)
    refine w31 GI (e:=A1L _ _ _ _ _ _ _ _) (k':=?_);refine w7 [.bool _] ?_;refine l1 ?_;unfold Y6
    (try replace g3:=x9 g3)
    (try replace g3:=y0 g3)
    first|(simp_all;done)|(simp_all;omega)
   refine fT ?_;refine w4 (fun g2=>?_) fun g2=>?_
   .refine w6 vN (oU _ _ _ _ _ _ _ _ _ A2) (h0:=fun g3=>?_) (h1:=fun v3 g3=>?_)
    .show Wk _ _ (.cons _ _ (.cons _ _ (.cons _ _ (.cons _ _ (.cons _ _ (.cons _ _ (.cons _ _ (.cons _ _ _))))))));refine w1 (.eqs) (e:=rfl) (k':=?_);first|refine w5 (fun g4=>?_) (fun g4=>?_)|refine w5B (fun g4=>?_) (fun g4=>?_)
     .refine w7 [.bool _] ?_;refine l1 ?_;unfold Y6
      (try replace g3:=x9 g3)
      (try replace g3:=y0 g3)
      first|(simp_all;done)|(simp_all;omega)
     refine nC ?_;refine nA ?_;refine w7 [.bool _] ?_;refine l1 ?_;unfold Y6
     (try replace g3:=x9 g3)
     (try replace g3:=y0 g3)
     first|(simp_all;done)|(simp_all;omega)
    show Wk _ _ _;refine w7 [.bool _] ?_;refine l1 ?_;unfold Y6
    (try replace g3:=x9 g3)
    (try replace g3:=y0 g3)
    first|(simp_all;done)|(simp_all;omega)
   refine fT ?_;refine w5 (fun g3=>?_) fun g3=>?_
   .refine w7 [.bool _] ?_;refine l1 ?_;unfold Y6
    (try replace g3:=x9 g3)
    (try replace g3:=y0 g3)
    first|(simp_all;done)|(simp_all;omega)
   refine w1 (.eqs) (e:=rfl) (k':=?_);first|refine w5 (fun g4=>?_) (fun g4=>?_)|refine w5B (fun g4=>?_) (fun g4=>?_)
   .refine w7 [.bool _] ?_;refine l1 ?_;unfold Y6
    (try replace g3:=x9 g3)
    (try replace g3:=y0 g3)
    first|(simp_all;done)|(simp_all;omega)
   refine jE ?_;refine w5 (fun g5=>?_) fun g5=>?_
   .refine w7 [.bool _] ?_;refine l1 ?_;unfold Y6
    (try replace g3:=x9 g3)
    (try replace g3:=y0 g3)
    first|(simp_all;done)|(simp_all;omega)
   refine nA ?_;refine w7 [.bool _] ?_;refine l1 ?_;unfold Y6
   (try replace g3:=x9 g3)
   (try replace g3:=y0 g3)
   first|(simp_all;done)|(simp_all;omega)
  .cases g
 .cases g
noncomputable def A8H:W3:=⟨_,fun b=>(.cons (A6H b) (.cons (A6G b) (.cons (A7d b) .nil)))⟩
def pL:List U->Option (Nat×List U)
 | [.int .i64 k,.int .i64 c,.int .i64 m,.int .i64 w,.int .i64 b,.int .i64 r,.int .i64 cl,.str t]=>if -9223372036854775808<=m/\m<=9223372036854775807/\(t.length:Int)<=140737488351232 then some (0,[.int .i64 (if Y6 k c m w b r cl t then 0 else 430)])else none
 | _=>none
def DF(k:Int)(c:Int)(m:Int)(w:Int)(b:Int)(r:Int)(cl:Int)(t:B6)(d : -9223372036854775808<=m/\m<=9223372036854775807/\(t.length:Int)<=140737488351232):pL [.int .i64 k,.int .i64 c,.int .i64 m,.int .i64 w,.int .i64 b,.int .i64 r,.int .i64 cl,.str t]=some (0,[.int .i64 (if Y6 k c m w b r cl t then 0 else 430)]):=A9 d
def A3n:Tr:=I4 0 8 1 (.fn EZ [h3 1,h3 2] 1<|N3 9 10 (J8 430) (.lt 8 (.eqs) [h3 0,jI 1,h3 1,h3 1,h3 2,h3 2,h3 3,jI 0,h3 4,jI 0,h3 5,jI 0,h3 6,jI 0,h 7 9,.string ⟨⟨[]⟩⟩]<|N3 11 12 (J8 430) (J8 0))) (I4 0 9 2 (.fn EY [h3 0,h3 1,h3 2,h3 3,h3 4,h3 5,h3 6,h 7 9] 1<|N3 10 11 (J8 430) (.lt 8 (.eqs) [h3 0,h3 0,h3 1,jI 0,h3 2,h3 2,h3 3,h3 3,h3 4,h3 4,h3 5,h3 5,h3 6,h3 6,h 7 9,.string ⟨⟨[]⟩⟩]<|N3 12 13 (J8 430) (J8 0))) (I4 0 10 3 (aD [h 7 9]<|Q4 11 12 1000 (.fn JC [h 7 9,.string ⟨⟨[27]⟩⟩] 1<|aX [h 13 8]<|N3 14 15 (J8 430) (.lt 8 (.eqs) [h3 0,h3 0,h3 1,jI 0,h3 2,jI 0,h3 3,jI 0,h3 4,jI 0,h3 5,jI 0,h3 6,jI 0,h 7 9,h 7 9]<|N3 16 17 (J8 430) (J8 0))) (J8 430)) (I4 0 11 4 (K0 3 12 0 (aQ [h3 3,jI 1]<|N3 13 14 (J8 430) (.lt 8 (.eqs) [h3 0,h3 0,h3 1,jI 0,h3 2,jI 0,h3 3,h3 3,h3 4,jI 0,h3 5,jI 0,h3 6,jI 0,h 7 9,.string ⟨⟨[]⟩⟩]<|N3 15 16 (J8 430) (J8 0))) (J8 430)) (J8 430))))
def XR{G}(f:M6 G):M0 prog G 40 [.a [3,3,3,3,3,3,3,9]] pL [.s 3]:=by
 refine G9 (d:=60) A3n (cxg (A8H.2 f) (qR f)) f ⟨f40,_,func40,rfl⟩ D2 D2 ?_;intro us outs l;unfold pL at l;split at l
 .skip;rename_i k c m w b r cl t;split at l
  .rename_i n;cases l;have o:=A2f t;unfold A3n;refine w0 (.cons 7 _ (.cons 6 _ (.cons 5 _ (.cons 4 _ (.cons 3 _ (.cons 2 _ (.cons 1 _ (.cons 0 _ (.nil))))))))) ?_;repeat (first|refine w4 (fun g=>?_) fun g=>?_|refine w4B (fun g=>?_) fun g=>?_|refine cI ?_|refine yJ ?_|(refine w7 [.int .i64 _] ?_;rotate_left)|refine fT ?_|refine w1 (.eqs) (e:=rfl) (k':=?_)|refine nA ?_|refine w31 EZ (e:=A00 _ _ A2) (k':=?_)|refine w31 EY (e:=A0z _ _ _ _ _ _ _ _) (k':=?_)|refine nC ?_|refine w31 JC (e:=A2O _ _ rfl) (k':=?_)|refine jE ?_)
   all_goals
    refine l0 ?_;first
    | exact(A9 (by unfold Y6;first|(simp_all;done)|(simp_all;omega))).symm
    | exact(A7 (fun h=>by
       unfold Y6 at h;rcases h with h|h|h|h<;>first|(exfalso;omega)|(simp_all;done)|(simp_all;omega))).symm
  .cases l
 .cases l
def nE(l:B6):B6:=l.filter fun x=>!isE x
def MO{α:Type}(x:Option (List α)):y9 x (some [])=x:=by
 unfold y9;cases x<;>simp[el]
def BJ{α:Type}(x:Option (List α))(u v:List α):y9 (y9 x (some u)) (some v)=y9 x (some (u++v)):=by
 cases u with
 | nil=>rw[MO];rfl
 | cons a u=>cases v with
   | nil=>simp[y9,el]
   | cons c v=>simp[y9,el]
def FM{l:B6}(h0:0<=i)(h1:i<1000):(l.take 1000).getD i.toNat default=l.getD i.toNat default:=by
 rw[B1,B1,F2 A2]
def A5K{l:B6}(h:(l.length:Int)<=i∨1000<=i):nE ((l.take 1000).drop i.toNat)=[]:=by
 rw[kY (l.take 1000) (by rw[K4];omega)];rfl
def A9M{l:B6}(h0:0<=i)(h1:i<(l.length:Int))(b:i<1000)(c:¬(((l.getD i.toNat 0).toNat:Nat):Int)≠27):nE ((l.take 1000).drop i.toNat)=nE ((l.take 1000).drop (i+1).toNat):=by
 rw[Y7 (l.take 1000) h0 (by rw[K4];omega),FM h0 b,DN,show l.getD i.toNat 0=27 from A4C A2];rfl
def A9N{l:B6}(h0:0<=i)(h1:i<(l.length:Int))(c:i<1000)(b:(((l.getD i.toNat 0).toNat:Nat):Int)≠27):nE ((l.take 1000).drop i.toNat)=l.getD i.toNat 0::nE ((l.take 1000).drop (i+1).toNat):=by
 rw[Y7 (l.take 1000) h0 (by rw[K4];omega),FM h0 c,DN];have:isE (l.getD i.toNat 0)=false:=E0 fun h=>b (by rw[h];rfl)
 unfold nE;rw[List.filter_cons,this];rfl
def A5J(l:B6):(nE l).length<=l.length:=List.length_filter_le _ _
noncomputable def A8P:W3:=⟨_,fun b=>(.cons (NW b) (.cons (A25 b) .nil))⟩
def qI:List U->Option (Nat×List U)
 | [u_out,.int .i64 i,.int .u8 d0,.int .u8 d1,.int .u8 d2,.int .u8 d3,.int .u8 d4,.int .u8 d5,.int .u8 d6,.int .u32 dc,.str t]=>(Y8 rB u_out).bind fun out=>if 0<=i/\i<=1000/\((el out).length:Int)<=i/\(t.length:Int)<=140737488351232 then some (0,[G6 rB (y9 out (some (bI (nE ((t.take 1000).drop i.toNat)))))])else none
 | _=>none
def mI(out:A0u)(i:Int)(d0:Int)(d1:Int)(d2:Int)(d3:Int)(d4:Int)(d5:Int)(d6:Int)(dc:Int)(t:B6)(b:0<=i/\i<=1000/\((el out).length:Int)<=i/\(t.length:Int)<=140737488351232):qI [G6 rB out,.int .i64 i,.int .u8 d0,.int .u8 d1,.int .u8 d2,.int .u8 d3,.int .u8 d4,.int .u8 d5,.int .u8 d6,.int .u32 dc,.str t]=some (0,[G6 rB (y9 out (some (bI (nE ((t.take 1000).drop i.toNat)))))]):=by
 simp only[qI,M3,J2];exact A9 b
def A4J:V6:=⟨[(1,.pointer (some ⟨16,0,none⟩)),(2,.pointer (some ⟨17,0,none⟩)),(4,own 18 0 11),(5,h 1 3)],[(16,.cells 24 [h 2 4,h 3 4,h 4 4,h 5 4,h 6 4,h 7 4,h 8 4,h 9 6,h 10 9]),(17,.cells 30 [.int .i64 (0),.int .i64 (0),.int .i64 (0),.int .i64 (0),.int .i64 (0),.int .i64 (0),.int .i64 (0),.string ⟨⟨[]⟩⟩]),(18,.sq 0 11 5 19),(19,.frz)],11,[⟨.exit 1,[(2,.pointer (some ⟨17,0,none⟩)),(4,own 20 0 11)],[(17,.cells 30 [.int .i64 (0),.int .i64 (0),.int .i64 (0),.int .i64 (0),.int .i64 (0),.int .i64 (0),.int .i64 (0),.string ⟨⟨[]⟩⟩]),(20,.sq 0 11 5 21),(21,.frz)],1⟩]⟩
noncomputable def ZY:Code:=(f17.body).getD .skip
noncomputable def A4F:Code:=match H7 [true,false,true,false,true,true,true,false,true,false,true,false] ZY with|some (.loop x)=>x|_=>.skip
def A4I:f17.body=some ZY:=rfl
def A4H:H7 [true,false,true,false,true,true,true,false,true,false,true,false] ZY=some (.loop A4F):=D2
def A4G:Tr:=aD [h 10 9]<|cC 11 1 12 (aL [h3 1,jI 1000]<|.br 13 (.lt 4 (.idx) [h 10 9,h3 1]<|aN [h 14 4,.int .u8 (27)]<|.br 15 (.lt 4 (.idx) [h 10 9,h3 1]<|.dt 11 (.snoc 1) [h 0 11,h 16 4]<|aA [h3 1,jI 1]<|.ret [jI (-1),h 17 11,h3 18,h 2 4,h 3 4,h 4 4,h 5 4,h 6 4,h 7 4,h 8 4,h 9 6,h 10 9]) (aA [h3 1,jI 1]<|.ret [jI (-1),h 0 11,h3 16,h 2 4,h 3 4,h 4 4,h 5 4,h 6 4,h 7 4,h 8 4,h 9 6,h 10 9])) (.ret [jI 0,h 0 11])) (.ret [jI 0,h 0 11])
def ZX:List U->Nat
 | [u_out,.int .i64 i,.int .u8 d0,.int .u8 d1,.int .u8 d2,.int .u8 d3,.int .u8 d4,.int .u8 d5,.int .u8 d6,.int .u32 dc,.str t]=>(match Y8 rB u_out with|some out=>(1000-i).toNat|none=>0)
 | _=>0
def ZW(out:A0u)(i:Int)(d0:Int)(d1:Int)(d2:Int)(d3:Int)(d4:Int)(d5:Int)(d6:Int)(dc:Int)(t:B6):ZX [G6 rB out,.int .i64 i,.int .u8 d0,.int .u8 d1,.int .u8 d2,.int .u8 d3,.int .u8 d4,.int .u8 d5,.int .u8 d6,.int .u32 dc,.str t]=(1000-i).toNat:=by
 simp only[ZX,M3]
def A7W{G}(l:M6 G):∀ (E:Nat->U) (base:Nat),@W1 ⟨E,G⟩ prog base gl f17.ntmps A4F (U3 prog gl n0 22 A4J qI):=by
 refine u7 (dep:=60) (f:=17) (n0:=n0) (nB:=22) (H0:=H0) ZX A4G (cxg (A8P.2 l) (qR l)) l func17 A4I A4H D2 D2 D2 ?_;intro us d outs c;have n:=c;unfold qI at c;split at c
 .skip;rename_i o i d0 d1 d2 d3 d4 d5 d6 dc t;have k:=D9.1 c;clear c;obtain⟨out,b,c⟩:=k;replace b:=R8 b;subst b;split at c
  .rename_i m;clear c n;refine⟨rfl,?_⟩;unfold A4G;refine w0 (.cons 10 _ (.cons 9 _ (.cons 8 _ (.cons 7 _ (.cons 6 _ (.cons 5 _ (.cons 4 _ (.cons 3 _ (.cons 2 _ (.cons 1 _ (.cons 0 _ (.nil)))))))))))) ?_;repeat (first|refine jF ?_|refine aC ?_|refine w4 (fun g=>?_) fun g=>?_|refine gU ?_|refine A6K ?_|(refine w7 [.int .i64 _,G6 rB _,.int .i64 _,.int .u8 _,.int .u8 _,.int .u8 _,.int .u8 _,.int .u8 _,.int .u8 _,.int .u8 _,.int .u32 _,.str _] ?_;rotate_left)|(refine w7 [.int .i64 _,G6 rB _] ?_;rotate_left)|refine nC ?_|refine CC ?_|refine w2 (.snoc 1) (r:=rB) (e:=IW rfl rfl F1 (by simp[*]<;>omega)) (k':=?_))
   all_goals first
    | refine U7 ?_ ?_
      .first
       | (have hx:∀ X,X=y9 out (some (bI [t.getD i.toNat 0]))->qI [G6 rB X,.int .i64 (i+1),.int .u8 d0,.int .u8 d1,.int .u8 d2,.int .u8 d3,.int .u8 d4,.int .u8 d5,.int .u8 d6,.int .u32 dc,.str t]=qI [G6 rB out,.int .i64 i,.int .u8 d0,.int .u8 d1,.int .u8 d2,.int .u8 d3,.int .u8 d4,.int .u8 d5,.int .u8 d6,.int .u32 dc,.str t]:=fun X p=>by
           rw[mI X (i+1) d0 d1 d2 d3 d4 d5 d6 dc t ⟨A2,A2,by rw[p,EA,Q5,D6,MV,E5,W9];omega,m.2.2.2⟩,mI out i d0 d1 d2 d3 d4 d5 d6 dc t m,p,BJ,<- A6B,A9N (i:=i) A2 A2 A2 ‹_›];rfl
          exact hx _ rfl)
       | (rw[mI out (i+1) d0 d1 d2 d3 d4 d5 d6 dc t ⟨A2,A2,A2,m.2.2.2⟩,mI out i d0 d1 d2 d3 d4 d5 d6 dc t m,A9M (i:=i) A2 A2 A2 ‹_›];done)
      .rw[ZW,ZW];omega
    | refine K5 (d:=0) ?_
      rw[mI out i d0 d1 d2 d3 d4 d5 d6 dc t m,A5K (i:=i) A2];exact F0 (fun z=>some (0,[G6 rB z])) (MO out)
  .cases c
 .cases c
noncomputable def A8d:List LpE:=(17,([true,false,true,false,true,true,true,false,true,false,true,false],U3 prog gl n0 22 A4J qI))::A4c
def JZ{G}(b:M6 G):y5 prog G gl A8d:=.cons func17 A4I A4H (A7W b) (qR b)
def A7O(h0:0<=a)(h1:a<256):evU (.bin .and) [.int .u8 a,.int .u8 6]=.int .u8 (a / 2%4*2):=by
 rw[rV];have k:∀ n:Nat,n<256->IntKind.u8.wrap (BitVec.ofInt IntKind.u8.bits (n:Int) &&& BitVec.ofInt IntKind.u8.bits 6).toNat=(n:Int) / 2%4*2:=F1;obtain⟨n,rfl⟩:∃ n:Nat,a=n:=⟨a.toNat,A2⟩;exact F0 _ (k n A2)
def A7P(h0:0<=a)(h1:a<256):evU (.bin .and) [.int .u8 a,.int .u8 2]=.int .u8 (a / 2%2*2):=by
 rw[rV];have k:∀ n:Nat,n<256->IntKind.u8.wrap (BitVec.ofInt IntKind.u8.bits (n:Int) &&& BitVec.ofInt IntKind.u8.bits 2).toNat=(n:Int) / 2%2*2:=F1;obtain⟨n,rfl⟩:∃ n:Nat,a=n:=⟨a.toNat,A2⟩;exact F0 _ (k n A2)
def el0(l:B6):el (y9 none (some (bI l)))=bI l:=by rw[EA];rfl
def A82(l:B6):∀ n ∈ el (y9 none (some (bI l))),0<=n/\n<256:=fun n h=>by rw[el0]at h;exact A0c h
def iB0(l:B6):iB (el (y9 none (some (bI l))))=l:=by rw[el0,A34]
def dC1(d4 dc:Int):Int:=if d4%2=0 then 1114113+d4 / 2%26 else dc
def dC2(x:Int):Int:=if x<1114113/\¬chP x then 97+x%26 else x
def dM(c m:Int):Int:=if o8 c (m%8)then m%8 else if o8 c (m%8 / 2%4*2)then m%8 / 2%4*2 else if o8 c (m / 2%2*2)then m / 2%2*2 else 0
def dC3(c m:Int):Int:=if o8 c (m%8)∨o8 c (m%8 / 2%4*2)∨o8 c (m / 2%2*2)∨o8 c 0 then c else 97
def diK(q:Int):Int:=if q=1 then 2 else if q=2 then 3 else if q=3 then 4 else 1
def diC(q d3 d4 dc:Int):Int:=if q=0 then dC3 (dC2 (dC1 d4 dc)) d3 else 0
def diM(q d3 d4 dc:Int):Int:=if q=0 then dM (dC2 (dC1 d4 dc)) d3 else if q=1 then d3%8 else 0
def diW(q d1:Int):Int:=if q=1 then d1%4 else if q=3 then d1%2 else 0
def diB(q d1 d2 d3 d5 d6:Int):Int:=if q=1 then(if Y6 2 0 (d3%8) (d1%4) (d2%4) (d5%40) (d6%80) []then d2%4 else d2%4%2)else 0
def diR(q d5:Int):Int:=if q=1 then d5%40 else 0
def diL(q d6:Int):Int:=if q=1 then d6%80 else 0
def diT(q:Int)(t:B6):B6:=if q=2 then nE (t.take 1000)else[]
def l8{g a2 a3 a4 a5 m d c f e l n b k:Int}{s t:B6}(h1:g=c)(o:a2=f)(h3:a3=e)(v:a4=l)(r:a5=n)(q:m=b)(p:d=k)(u:s=t):[U.int .i64 g,.int .i64 a2,.int .i64 a3,.int .i64 a4,.int .i64 a5,.int .i64 m,.int .i64 d,.str s]=[U.int .i64 c,.int .i64 f,.int .i64 e,.int .i64 l,.int .i64 n,.int .i64 b,.int .i64 k,.str t]:=by rw[h1,o,h3,v,r,q,p,u]
def A7b(h:d4%2=0):dC1 d4 dc=1114113+d4 / 2%26:=A9 h
def A7a(h:¬d4%2=0):dC1 d4 dc=dc:=A7 h
noncomputable def A8S:W3:=⟨_,fun b=>.nil⟩
def BF:List U->Option (Nat×List U)
 | [.int .i64 c]=>some (0,[.bool (decide (chP c))])
 | _=>none
def A2V(c:Int):BF [.int .i64 c]=some (0,[.bool (decide (chP c))]):=rfl
def A0O(n:Nat):Tr:=K0 0 n 32 (K0 0 (n+1) 127 (aQ [h3 0,jI 159]<|aX [h (n+2) 8]<|.ret [h (n+3) 8]) (.ret [.bool true])) G0
def A4R:Tr:=K0 0 1 0 (Q4 0 2 1114111 (aL [h3 0,jI 55296]<|.br 3 (A0O 4) (aG [h3 0,jI 57343]<|.br 4 (A0O 5) (G0))) G0) G0
def A7j{G}(b:M6 G):M0 prog G 46 [.s 3] BF [.s 8]:=by
 refine G9 (d:=60) A4R (cxg (A8S.2 b) (JZ b)) b ⟨f46,_,func46,rfl⟩ D2 D2 ?_;intro us outs e;unfold BF at e;split at e
 .skip;rename_i c;cases e;unfold A4R;refine w0 (.cons 0 _ (.nil)) ?_;repeat (first|(refine w7 [.bool _] ?_;rotate_left)|refine w4 (fun g=>?_) fun g=>?_|refine jE ?_|refine nA ?_|refine cI ?_|refine gU ?_|refine KJ ?_)
  all_goals
   refine l1 ?_;first|(refine decide_eq_decide.2 ?_;unfold chP okU;omega)|(symm;first|exact I2 (by unfold chP okU;omega)|exact E0 (by unfold chP okU;omega))
 .cases e
noncomputable def A8O:W3:=⟨_,fun b=>(.cons (NW b) (.cons (A25 b) (.cons (A7j b) .nil)))⟩
def AY:List U->Option (Nat×List U)
 | [.int .u8 d0,.int .u8 d1,.int .u8 d2,.int .u8 d3,.int .u8 d4,.int .u8 d5,.int .u8 d6,.int .u32 dc,.str t]=>if 0<=d0/\d0<256/\0<=d1/\d1<256/\0<=d2/\d2<256/\0<=d3/\d3<256/\0<=d4/\d4<256/\0<=d5/\d5<256/\0<=d6/\d6<256/\0<=dc/\dc<4294967296/\(t.length:Int)<=140737488351232 then some (0,[.int .i64 (diK (d0%4)),.int .i64 (diC (d0%4) d3 d4 dc),.int .i64 (diM (d0%4) d3 d4 dc),.int .i64 (diW (d0%4) d1),.int .i64 (diB (d0%4) d1 d2 d3 d5 d6),.int .i64 (diR (d0%4) d5),.int .i64 (diL (d0%4) d6),.str (diT (d0%4) t)])else none
 | _=>none
def A2K(d0:Int)(d1:Int)(d2:Int)(d3:Int)(d4:Int)(d5:Int)(d6:Int)(dc:Int)(t:B6)(b:0<=d0/\d0<256/\0<=d1/\d1<256/\0<=d2/\d2<256/\0<=d3/\d3<256/\0<=d4/\d4<256/\0<=d5/\d5<256/\0<=d6/\d6<256/\0<=dc/\dc<4294967296/\(t.length:Int)<=140737488351232):AY [.int .u8 d0,.int .u8 d1,.int .u8 d2,.int .u8 d3,.int .u8 d4,.int .u8 d5,.int .u8 d6,.int .u32 dc,.str t]=some (0,[.int .i64 (diK (d0%4)),.int .i64 (diC (d0%4) d3 d4 dc),.int .i64 (diM (d0%4) d3 d4 dc),.int .i64 (diW (d0%4) d1),.int .i64 (diB (d0%4) d1 d2 d3 d5 d6),.int .i64 (diR (d0%4) d5),.int .i64 (diL (d0%4) d6),.str (diT (d0%4) t)]):=A9 b
def g8(a0:Nat)(b:Nat):Tr:=.ret [jI 1,h3 a0,h3 b,jI 0,jI 0,jI 0,jI 0,.string ⟨⟨[]⟩⟩]
def eQ(a0:Nat)(b:Nat)(a2:Nat)(c d:Tr):Tr:=.fn iS [h3 a0,h3 b] 1<|.br a2 c d
def CD(a0:Nat)(b:Nat)(c d:Tr):Tr:=.lt 4 (.bin .rem) [h 3 4,.int .u8 (8)]<|.lt 3 (.conv .i64) [h b 4]<|.lt 4 (.bin .rem) [h 3 4,.int .u8 (8)]<|.lt 4 (.bin .and) [h (b+2) 4,.int .u8 (6)]<|.lt 3 (.conv .i64) [h (b+3) 4]<|.lt 4 (.bin .and) [h 3 4,.int .u8 (2)]<|.lt 3 (.conv .i64) [h (b+5) 4]<|.fn iS [h3 a0,h3 (b+1)] 1<|.br (b+7) c d
def ZU(n:Nat):Tr:=CD 19 n (g8 19 (n+1)) (eQ 19 (n+4) (n+8) (g8 19 (n+4)) (eQ 19 (n+6) (n+9) (g8 19 (n+6)) (.fn iS [h3 19,jI 0] 1<|.br (n+10) (.ret [jI 1,h3 19,jI 0,jI 0,jI 0,jI 0,jI 0,.string ⟨⟨[]⟩⟩]) (.ret [jI 1,jI 97,jI 0,jI 0,jI 0,jI 0,jI 0,.string ⟨⟨[]⟩⟩]))))
def ZT(n:Nat):Tr:=CD 13 n (g8 13 (n+1)) (eQ 13 (n+4) (n+8) (g8 13 (n+4)) (eQ 13 (n+6) (n+9) (g8 13 (n+6)) (.fn iS [h3 13,jI 0] 1<|.br (n+10) (.ret [jI 1,h3 13,jI 0,jI 0,jI 0,jI 0,jI 0,.string ⟨⟨[]⟩⟩]) (.ret [jI 1,jI 97,jI 0,jI 0,jI 0,jI 0,jI 0,.string ⟨⟨[]⟩⟩]))))
def A4D:Tr:=.lt 4 (.bin .rem) [h 0 4,.int .u8 (4)]<|aE [h 9 4,.int .u8 (1)]<|.br 10 (.lt 4 (.bin .rem) [h 1 4,.int .u8 (4)]<|.lt 3 (.conv .i64) [h 11 4]<|.lt 4 (.bin .rem) [h 2 4,.int .u8 (4)]<|.lt 3 (.conv .i64) [h 13 4]<|.lt 4 (.bin .rem) [h 3 4,.int .u8 (8)]<|.lt 3 (.conv .i64) [h 15 4]<|.lt 4 (.bin .rem) [h 5 4,.int .u8 (40)]<|.lt 3 (.conv .i64) [h 17 4]<|.lt 4 (.bin .rem) [h 6 4,.int .u8 (80)]<|.lt 3 (.conv .i64) [h 19 4]<|.fn GJ [jI 2,jI 0,h3 16,h3 12,h3 14,h3 18,h3 20,.string ⟨⟨[]⟩⟩] 1<|N3 21 22 (.lt 3 (.bin .rem) [h3 14,jI 2]<|.ret [jI 2,jI 0,h3 16,h3 12,h3 23,h3 18,h3 20,.string ⟨⟨[]⟩⟩]) (.ret [jI 2,jI 0,h3 16,h3 12,h3 14,h3 18,h3 20,.string ⟨⟨[]⟩⟩])) (aE [h 9 4,.int .u8 (2)]<|.br 11 (.dt 11 (.nilw 1) []<|.fn qI [h 12 11,jI 0,h 0 4,h 1 4,h 2 4,h 3 4,h 4 4,h 5 4,h 6 4,h 7 6,h 8 9] 1<|.lt 9 (.str) [h 13 11]<|.ret [jI 3,jI 0,jI 0,jI 0,jI 0,jI 0,jI 0,h 14 9]) (aE [h 9 4,.int .u8 (3)]<|.br 12 (.lt 4 (.bin .rem) [h 1 4,.int .u8 (2)]<|.lt 3 (.conv .i64) [h 13 4]<|.ret [jI 4,jI 0,jI 0,h3 14,jI 0,jI 0,jI 0,.string ⟨⟨[]⟩⟩]) (.lt 3 (.conv .i64) [h 7 6]<|.lt 4 (.bin .rem) [h 4 4,.int .u8 (2)]<|aE [h 14 4,.int .u8 (0)]<|.br 15 (.lt 4 (.bin .quo) [h 4 4,.int .u8 (2)]<|.lt 3 (.conv .i64) [h 16 4]<|.lt 3 (.bin .rem) [h3 17,jI 26]<|aA [jI 1114113,h3 18]<|aL [h3 19,jI 1114113]<|.br 20 (.fn BF [h3 19] 1<|N3 21 22 (.lt 3 (.bin .rem) [h3 19,jI 26]<|aA [jI 97,h3 23]<|CD 24 25 (g8 24 26) (eQ 24 29 33 (g8 24 29) (eQ 24 31 34 (g8 24 31) (.fn iS [h3 24,jI 0] 1<|.br 35 (.ret [jI 1,h3 24,jI 0,jI 0,jI 0,jI 0,jI 0,.string ⟨⟨[]⟩⟩]) (.ret [jI 1,jI 97,jI 0,jI 0,jI 0,jI 0,jI 0,.string ⟨⟨[]⟩⟩]))))) (ZU 23)) (ZU 21)) (aL [h3 13,jI 1114113]<|.br 16 (.fn BF [h3 13] 1<|N3 17 18 (.lt 3 (.bin .rem) [h3 13,jI 26]<|aA [jI 97,h3 19]<|CD 20 21 (g8 20 22) (eQ 20 25 29 (g8 20 25) (eQ 20 27 30 (g8 20 27) (.fn iS [h3 20,jI 0] 1<|.br 31 (.ret [jI 1,h3 20,jI 0,jI 0,jI 0,jI 0,jI 0,.string ⟨⟨[]⟩⟩]) (.ret [jI 1,jI 97,jI 0,jI 0,jI 0,jI 0,jI 0,.string ⟨⟨[]⟩⟩]))))) (ZT 19)) (ZT 17)))))
def A4E{G}(f:M6 G):M0 prog G 17 [.a [4,4,4,4,4,4,4,6,9]] AY [.a [3,3,3,3,3,3,3,9]]:=by
 refine G9 (d:=60) A4D (cxg (A8O.2 f) (JZ f)) f ⟨f17,_,func17,rfl⟩ D2 D2 ?_;intro us outs k;unfold AY at k;split at k
 .skip;rename_i d0 d1 d2 d3 d4 d5 d6 dc t;split at k
  .rename_i n;cases k;have o:nE (t.take 1000)=nE ((t.take 1000).drop (0:Int).toNat):=rfl;have p:((el (none:A0u)).length:Int)=0:=rfl;unfold A4D;refine w0 (.cons 8 _ (.cons 7 _ (.cons 6 _ (.cons 5 _ (.cons 4 _ (.cons 3 _ (.cons 2 _ (.cons 1 _ (.cons 0 _ (.nil)))))))))) ?_;repeat (first|refine w4 (fun g=>?_) fun g=>?_|refine w4B (fun g=>?_) fun g=>?_|refine FL ?_|refine uW ?_|refine A8j ?_|refine w1 (.bin .rem) (e:=ZC _ _ _ A2) (k':=?_)|(refine w7 [.int .i64 _,.int .i64 _,.int .i64 _,.int .i64 _,.int .i64 _,.int .i64 _,.int .i64 _,.str _] ?_;rotate_left)|refine w31 iS (e:=NV _ _ A2) (k':=?_)|refine cI ?_|refine yJ ?_|refine jF ?_|refine aC ?_|refine w1 (.bin .and) (e:=A7O A2 A2) (k':=?_)|refine w1 (.bin .and) (e:=A7P A2 A2) (k':=?_)|refine fT ?_|refine A8k ?_|refine w1 (.bin .quo) (e:=ZD _ _ _ A2) (k':=?_)|refine gU ?_|refine w31 BF (e:=A2V _) (k':=?_)|refine w31 GJ (e:=A1M _ _ _ _ _ _ _ _ ⟨A2,A2,by show(0:Int)<=_;omega⟩) (k':=?_)|refine w2 (.nilw 1) (r:=rB) (e:=IX rfl) (k':=?_)|refine w31 qI (e:=mI _ _ _ _ _ _ _ _ _ _ _ ⟨A2,A2,A2,A2⟩) (k':=?_)|refine w1 (.str) (e:=A11 rfl (A82 _)) (k':=?_))
   all_goals
    first
    | (have c:d0%4=1:=A2
       rw[c];first
       | exact l8 rfl rfl rfl rfl (A9 (D8.1 ‹_›)).symm rfl rfl rfl
       | exact l8 rfl rfl rfl rfl (A7 ‹_›).symm rfl rfl rfl)
    | (have c:d0%4=2:=A2
       rw[c];exact l8 rfl rfl rfl rfl rfl rfl rfl (iB0 _))
    | (have c:d0%4=3:=A2
       rw[c];exact l8 rfl rfl rfl rfl rfl rfl rfl rfl)
    | (have c:d0%4=0:=A2
       rw[c];obtain⟨X,h1⟩:∃ X,X=dC1 d4 dc:=⟨_,rfl⟩;obtain⟨Y,l⟩:∃ Y,Y=dC2 X:=⟨_,rfl⟩;have m:=h1;have b:=l;first|rw[A7b ‹_›]at m|rw[A7a ‹_›]at m
       rw[m]at b;unfold dC2 at b;first|rw[A9 ⟨by assumption,by assumption⟩]at b|rw[A7 (fun g=>absurd g.1 ‹_›)]at b|rw[A7 (fun g=>absurd g.2 ‹_›)]at b
       refine l8 rfl ?_ ?_ rfl rfl rfl rfl rfl
       .show _=dC3 (dC2 (dC1 d4 dc)) d3;rw[<- h1,<- l,b];unfold dC3;first
        | exact(A9 (.inl ‹_›)).symm
        | exact(A9 (.inr (.inl ‹_›))).symm
        | exact(A9 (.inr (.inr (.inl ‹_›)))).symm
        | exact(A9 (.inr (.inr (.inr ‹_›)))).symm
        | exact(A7 fun q=>q.elim ‹_› fun q=>q.elim ‹_› fun q=>q.elim ‹_› ‹_›).symm
       .show _=dM (dC2 (dC1 d4 dc)) d3;rw[<- h1,<- l,b];unfold dM
        (repeat (first|rw[A9 ‹_›]|rw[A7 ‹_›]));done)
  .cases k
 .cases k
def A3_(s:B6)(n:Nat):(ByteArray.mk ⟨s⟩).get! n=s.getD n 0:=by
 show(Array.mk s)[n]! = _;rw[getElem!_def];simp only[I0,B1];cases s[n]?<;>rfl
def A1H{s:B6}{k:Int}(h:((s.getD k.toNat 0).toNat:Int)<128):oP s k=((s.getD k.toNat 0).toNat:Int)/\NT s k=k+1:=by
 have e:Utf8.decode ⟨⟨s⟩⟩ k.toNat=((s.getD k.toNat 0).toNat,1):=by
  unfold Utf8.decode;simp only[iN,A3_];rw[A9 A2]
 unfold oP NT;rw[e];exact⟨rfl,rfl⟩
def A1I{s:B6}{k:Int}(h:¬((s.getD k.toNat 0).toNat:Int)<128):128<=oP s k:=by
 unfold oP Utf8.decode;simp only[iN,A3_];rw[A7 A2];have hr:128<=Utf8.runeError:=F1;split
 .split
  .omega
  .exact cZ.2 hr
 .split
  .split
   .simp_all;omega
   .exact cZ.2 hr
  .split
   .split
    .simp_all;omega
    .exact cZ.2 hr
   .exact cZ.2 hr
def MU(x:UInt8):Bool:=decide (x.toNat<32∨126<x.toNat)
def MM(s:B6):Prop:=s≠[]/\s.length<=100/\s.any MU=false
instance(s:B6):Decidable (MM s):=by unfold MM;infer_instance
def UO{s:B6}{k:Int}(h0:0<=k)(h1:k<s.length):(oP s k<32∨126<oP s k↔MU (s.getD k.toNat default)=true)/\(¬(oP s k<32∨126<oP s k)->NT s k=k+1):=by
 show(_↔MU (s.getD k.toNat 0)=true)/\_;unfold MU;rw[decide_eq_true_iff];by_cases h:((s.getD k.toNat 0).toNat:Int)<128
 .obtain⟨b,c⟩:=A1H h;rw[b,c];exact⟨A2,fun _=>rfl⟩
 .have:=A1I h;exact⟨A2,fun k=>by omega⟩
def xD{α:Type}{p:α->Bool}{l:List α}(h:J4 p l i=none):l.any p=false:=by
 induction l generalizing i with
 | nil=>rfl
 | cons a l b =>
   unfold J4 at h;cases hp:p a with
   | true=>rw[hp]at h;cases h
   | false=>rw[hp]at h;rw[P0,hp,b h];rfl
def qE{α:Type}{p:α->Bool}{l:List α}(h:J4 p l i=some j):l.any p=true/\i<=j:=by
 induction l generalizing i with
 | nil=>cases h
 | cons a l b =>
   unfold J4 at h;cases hp:p a with
   | true=>rw[hp]at h;cases h;rw[P0,hp];exact⟨rfl,Int.le_refl _⟩
   | false=>rw[hp]at h;rw[P0,(b h).1,Bool.or_true];exact⟨rfl,by have:=(b h).2;omega⟩
def A5u(b:Bool):evU (.bin .eql) [.bool b,.bool true]=.bool b:=by cases b<;>rfl
noncomputable def A8M:W3:=⟨_,fun b=>(.cons (XR b) .nil)⟩
def pU:List U->Option (Nat×List U)
 | [.int .i64 k,.int .i64 c,.int .i64 m,.int .i64 w,.int .i64 b,.int .i64 r,.int .i64 cl,.str t]=>if -9223372036854775808<=m/\m<=9223372036854775807/\(t.length:Int)<=140737488351232 then some (0,[.bool (decide (k=1/\Y6 k c m w b r cl t))])else none
 | _=>none
def DM(k:Int)(c:Int)(m:Int)(w:Int)(b:Int)(r:Int)(cl:Int)(t:B6)(d : -9223372036854775808<=m/\m<=9223372036854775807/\(t.length:Int)<=140737488351232):pU [.int .i64 k,.int .i64 c,.int .i64 m,.int .i64 w,.int .i64 b,.int .i64 r,.int .i64 cl,.str t]=some (0,[.bool (decide (k=1/\Y6 k c m w b r cl t))]):=A9 d
def A33:Tr:=I4 0 8 1 (.fn pL [h3 0,h3 1,h3 2,h3 3,h3 4,h3 5,h3 6,h 7 9] 1<|aE [h3 9,jI 0]<|.ret [h 10 8]) G0
def YR{G}(l:M6 G):M0 prog G 52 [.a [3,3,3,3,3,3,3,9]] pU [.s 8]:=by
 refine G9 (d:=60) A33 (cxg (A8M.2 l) .nil) l ⟨f52,_,func52,rfl⟩ D2 D2 ?_;intro us outs f;unfold pU at f;split at f
 .skip;rename_i k c m w b r cl t;split at f
  .rename_i n;cases f;unfold A33;refine w0 (.cons 7 _ (.cons 6 _ (.cons 5 _ (.cons 4 _ (.cons 3 _ (.cons 2 _ (.cons 1 _ (.cons 0 _ (.nil))))))))) ?_;repeat (first|refine fT ?_|(refine w7 [.bool _] ?_;rotate_left)|refine w4 (fun g=>?_) fun g=>?_|refine w31 pL (e:=DF _ _ _ _ _ _ _ _ n) (k':=?_))
   all_goals
    refine l1 ?_;first|(symm;exact E0 (by simp_all))|(refine decide_eq_decide.2 ?_;by_cases h:Y6 k c m w b r cl t<;>simp_all;done)
  .cases f
 .cases f
noncomputable def A8L:W3:=⟨_,fun b=>.nil⟩
def wS:List U->Option (Nat×List U)
 | [.str s,.int .i64 p]=>if 0<=p/\p<=(s.length:Int)/\(s.length:Int)<=140737488351232 then q8 (J4 MU (s.drop p.toNat) p) [] (fun j=>[.int .i64 j])else none
 | _=>none
def pS(s:B6)(p:Int)(b:0<=p/\p<=(s.length:Int)/\(s.length:Int)<=140737488351232):wS [.str s,.int .i64 p]=q8 (J4 MU (s.drop p.toNat) p) [] (fun j=>[.int .i64 j]):=A9 b
def A32:V6:=⟨[(1,.func (.func 95) ⟨[]⟩ ⟨[]⟩),(2,.bool true),(10,.pointer (some ⟨16,0,none⟩))],[(16,.iter [h 0 9,h 1 3])],2,[⟨.exit 0,[],[],0⟩,⟨.ret,[(6,h 0 3)],[],1⟩]⟩
noncomputable def YK:Code:=(f113.body).getD .skip
noncomputable def A3x:Code:=match H7 [true,false,true,false] YK with|some (.loop x)=>x|_=>.skip
def A31:f113.body=some YK:=rfl
def A3z:H7 [true,false,true,false] YK=some (.loop A3x):=D2
def A3y:Tr:=aD [h 0 9]<|cC 2 1 3 (.lt 2 (.rune) [h 0 9,h3 1]<|.lt 3 (.rpos) [h 0 9,h3 1]<|aL [h 4 2,.int .i32 (32)]<|.br 6 (.ret [jI 1,h3 1]) (aG [h 4 2,.int .i32 (126)]<|aE [h 7 8,.bool true]<|.br 8 (.ret [jI 1,h3 1]) (.ret [jI (-1),h 0 9,h3 5]))) (J8 0)
def A30:List U->Nat
 | [.str s,.int .i64 p]=>((s.length:Int)-p).toNat
 | _=>0
def YJ(s:B6)(p:Int):A30 [.str s,.int .i64 p]=((s.length:Int)-p).toNat:=rfl
def A7A{G}(k:M6 G):∀ (E:Nat->U) (base:Nat),@W1 ⟨E,G⟩ prog base gl f113.ntmps A3x (U3 prog gl n0 17 A32 wS):=by
 refine u7 (dep:=60) (f:=113) (n0:=n0) (nB:=17) (H0:=H0) A30 A3y (cxg (A8L.2 k) .nil) k func113 A31 A3z D2 D2 D2 ?_;intro us d outs b;have m:=b;unfold wS at b;split at b
 .skip;rename_i s p;split at b
  .rename_i c;clear b m;have zr:p<(s.length:Int)->_:=fun h=>UO c.1 h
   refine⟨rfl,?_⟩;unfold A3y;refine w0 (.cons 1 _ (.cons 0 _ (.nil))) ?_;repeat (first|refine w4 (fun g=>?_) fun g=>?_|refine gU ?_|(refine w7 [.int .i64 _,.int .i64 _] ?_;rotate_left)|refine nC ?_|refine w1 (.rune) (e:=A13 A2) (k':=?_)|refine w1 (.rpos) (e:=A14 A2) (k':=?_)|refine KJ ?_|refine w1 (.bin .eql) (e:=A5u _) (k':=?_)|(refine w7 [.int .i64 _,.str _,.int .i64 _] ?_;rotate_left)|(refine w7 [.int .i64 _] ?_;rotate_left))
   all_goals first
    | refine U7 ?_ ?_
      .have l:=zr ‹_›;have n:=l.2 A2;rw[n,pS s (p+1) ⟨A2,A2,c.2.2⟩,pS s p c,aV (i:=p) c.1 ‹_› (by cases q:MU (s.getD p.toNat default)with|false=>rfl|true=>exact absurd (l.1.2 q) A2)]
      .have l:=zr ‹_›;have n:=l.2 A2;rw[n,YJ,YJ];omega
    | refine K5 (d:=0) ?_
      rw[pS s p c,dG A2];rfl
    | refine K5 (d:=1) ?_
      rw[pS s p c,dF c.1 ‹_› ((zr ‹_›).1.1 A2)];rfl
  .cases b
 .cases b
noncomputable def A8b:List LpE:=(113,([true,false,true,false],U3 prog gl n0 17 A32 wS))::[]
def A0s{G}(b:M6 G):y5 prog G gl A8b:=.cons func113 A31 A3z (A7A b) .nil
noncomputable def A70:W3:=⟨_,fun b=>.nil⟩
def FA:List U->Option (Nat×List U)
 | [.str s]=>if(s.length:Int)<=140737488351232 then some (0,[.bool (decide (MM s))])else none
 | _=>none
def A02(s:B6)(b:(s.length:Int)<=140737488351232):FA [.str s]=some (0,[.bool (decide (MM s))]):=A9 b
def A2p:Tr:=aN [h 0 9,.string ⟨⟨[]⟩⟩]<|.br 1 (aD [h 0 9]<|Q4 2 3 100 (.lp wS [h 0 9,jI 0] 0 0 (.ret [.bool true]) (.lp wS [h 0 9,jI 0] 1 1 (aL [h3 4,jI 0]<|.ret [h 5 8]) (.no))) G0) (G0)
def A2q{G}(c:M6 G):M0 prog G 61 [.s 9] FA [.s 8]:=by
 refine G9 (d:=60) A2p (cxg (A70.2 c) (A0s c)) c ⟨f61,_,func61,rfl⟩ D2 D2 ?_;intro us outs b;unfold FA at b;split at b
 .skip;rename_i s;split at b
  .rename_i e;cases b;unfold A2p;refine w0 (.cons 0 _ (.nil)) ?_;repeat (first|(refine w7 [.bool _] ?_;rotate_left)|refine w4 (fun g=>?_) fun g=>?_|refine TK ?_|refine nC ?_|refine nA ?_|(refine w6 wS (pS _ _ ⟨A2,A2,e⟩) (h0:=fun g=>?_) (h1:=fun v g=>?_);skip;rotate_left;show Wk _ _ (.cons _ _ _);rotate_right)|refine gU ?_)
   all_goals
    refine l1 ?_;symm;first
    | (refine E0 (fun h=>?_);have:=h.1;simp_all;done)
    | exact E0 (fun h=>by have:=h.2.1;omega)
    | exact I2 ⟨by assumption,A2,xD (l:=s) ‹_›⟩
    | (have b:=qE (l:=s) ‹_›
       first
       | exact(E0 (fun h=>by rw[h.2.2]at b;cases b.1)).trans (E0 A2).symm
       | exact E0 (fun h=>by rw[h.2.2]at b;cases b.1))
  .cases b
 .cases b
def rG:Rw (Int×Int×Int×Int×Int×Int×Int×B6×B6×Bool):=rC (P3 .i64) (rC (P3 .i64) (rC (P3 .i64) (rC (P3 .i64) (rC (P3 .i64) (rC (P3 .i64) (rC (P3 .i64) (rC tX (rC tX (r1 JN)))))))))
def rP:Rw (Int×Int×Int×Int×Int×Int×Int×B6×Int×Int×Int×Int×Int×Int×Int×B6×B6×Bool):=rC (P3 .i64) (rC (P3 .i64) (rC (P3 .i64) (rC (P3 .i64) (rC (P3 .i64) (rC (P3 .i64) (rC (P3 .i64) (rC tX (rC (P3 .i64) (rC (P3 .i64) (rC (P3 .i64) (rC (P3 .i64) (rC (P3 .i64) (rC (P3 .i64) (rC (P3 .i64) (rC tX (rC tX (r1 JN)))))))))))))))))
abbrev Xt:=A91
abbrev Gt:=(Int×Int×Int×Int×Int×Int×Int×B6×B6×Bool)
abbrev Pt:=(Int×Int×Int×Int×Int×Int×Int×B6×Int×Int×Int×Int×Int×Int×Int×B6×B6×Bool)
def gK(g:Gt):Xt:=(g.1,g.2.1,g.2.2.1,g.2.2.2.1,g.2.2.2.2.1,g.2.2.2.2.2.1,g.2.2.2.2.2.2.1,g.2.2.2.2.2.2.2.1)
def gC(g:Gt):B6:=g.2.2.2.2.2.2.2.2.1
def gR(g:Gt):Bool:=g.2.2.2.2.2.2.2.2.2
def pOf(g:Gt):Pt:=(g.1,g.2.1,g.2.2.1,g.2.2.2.1,g.2.2.2.2.1,g.2.2.2.2.2.1,g.2.2.2.2.2.2.1,g.2.2.2.2.2.2.2.1,g)
def pK(a:Pt):Xt:=(a.1,a.2.1,a.2.2.1,a.2.2.2.1,a.2.2.2.2.1,a.2.2.2.2.2.1,a.2.2.2.2.2.2.1,a.2.2.2.2.2.2.2.1)
def pG(a:Pt):Gt:=a.2.2.2.2.2.2.2.2
def pQ(a b:Pt):Bool:=(a.1 == b.1 && (a.2.1 == b.2.1 && (a.2.2.1 == b.2.2.1 && (a.2.2.2.1 == b.2.2.2.1 && (a.2.2.2.2.1 == b.2.2.2.2.1 && (a.2.2.2.2.2.1 == b.2.2.2.2.2.1 && (a.2.2.2.2.2.2.1 == b.2.2.2.2.2.2.1 && (a.2.2.2.2.2.2.2.1 == b.2.2.2.2.2.2.2.1 && true))))))))
def ixS(M:Option (List Pt)):List Gt->Option (List Pt)
 | []=>M
 | g::l=>ixS (NO pQ M (pOf g)) l
def YN{M:Option (List Pt)}{l:List Gt}(h0:0<=i)(h1:i<(l.length:Int)):ixS M (l.drop i.toNat)=ixS (NO pQ M (pOf (l.getD i.toNat default))) (l.drop (i+1).toNat):=by
 rw[Y7 l h0 h1];rfl
def A1D{M:Option (List Pt)}{a:Pt}(h:M≠none):NO pQ M a≠none:=by
 cases M with
 | none=>exact absurd rfl h
 | some x=>intro h;cases h
noncomputable def A8K:W3:=⟨_,fun b=>.nil⟩
def kM:List U->Option (Nat×List U)
 | [u_l,.int .i64 n,.int .i64 i,u_M]=>(Y8 rG u_l).bind fun l=>(Y8 rP u_M).bind fun M=>if n=((el l).length:Int)/\0<=i/\i<=n/\n<=140737488351232/\M≠none then some (0,[G6 rP (ixS M ((el l).drop i.toNat))])else none
 | _=>none
def pP(l:(Option (List (Int×Int×Int×Int×Int×Int×Int×B6×B6×Bool))))(n:Int)(i:Int)(M:(Option (List (Int×Int×Int×Int×Int×Int×Int×B6×Int×Int×Int×Int×Int×Int×Int×B6×B6×Bool))))(b:n=((el l).length:Int)/\0<=i/\i<=n/\n<=140737488351232/\M≠none):kM [G6 rG l,.int .i64 n,.int .i64 i,G6 rP M]=some (0,[G6 rP (ixS M ((el l).drop i.toNat))]):=by
 simp only[kM,M3,J2];exact A9 b
def PH:V6:=⟨[(3,.map (some 19)),(8,dat 20 0 20),(9,h 1 3),(10,h 2 3)],[(19,.mp 3 28 60),(20,.frz)],4,[⟨.exit 0,[(3,.map (some 19))],[(19,.mp 0 28 60)],1⟩]⟩
noncomputable def YI:Code:=(f41.body).getD .skip
noncomputable def A3v:Code:=match H7 [true,true,false,true,false] YI with|some (.loop x)=>x|_=>.skip
def PG:f41.body=some YI:=rfl
def PF:H7 [true,true,false,true,false] YI=some (.loop A3v):=D2
def A3w:Tr:=cC 1 2 4 (.lt 8 (.inbs 10) [h3 2,h 0 20]<|.br 5 (.lt 3 (.get 10 0) [h 0 20,h3 2]<|.lt 3 (.get 10 1) [h 0 20,h3 2]<|.lt 3 (.get 10 2) [h 0 20,h3 2]<|.lt 3 (.get 10 3) [h 0 20,h3 2]<|.lt 3 (.get 10 4) [h 0 20,h3 2]<|.lt 3 (.get 10 5) [h 0 20,h3 2]<|.lt 3 (.get 10 6) [h 0 20,h3 2]<|.lt 9 (.get 10 7) [h 0 20,h3 2]<|.lt 9 (.get 10 8) [h 0 20,h3 2]<|.lt 8 (.get 10 9) [h 0 20,h3 2]<|.dt 28 (.mput 18 8) [h 3 28,h3 6,h3 7,h3 8,h3 9,h3 10,h3 11,h3 12,h 13 9,h3 6,h3 7,h3 8,h3 9,h3 10,h3 11,h3 12,h 13 9,h 14 9,h 15 8]<|aA [h3 2,jI 1]<|.ret [jI (-1),h 0 20,h3 1,h3 17,h 16 28]) (.no)) (.ret [jI 0,h 3 28])
def YG:List U->Nat
 | [u_l,.int .i64 n,.int .i64 i,u_M]=>(match Y8 rG u_l with|some l=>(match Y8 rP u_M with|some M=>(n-i).toNat|none=>0)|none=>0)
 | _=>0
def YF(l:(Option (List (Int×Int×Int×Int×Int×Int×Int×B6×B6×Bool))))(n:Int)(i:Int)(M:(Option (List (Int×Int×Int×Int×Int×Int×Int×B6×Int×Int×Int×Int×Int×Int×Int×B6×B6×Bool)))):YG [G6 rG l,.int .i64 n,.int .i64 i,G6 rP M]=(n-i).toNat:=by
 simp only[YG,M3]
def YH{G}(q:M6 G):∀ (E:Nat->U) (base:Nat),@W1 ⟨E,G⟩ prog base gl f41.ntmps A3v (U3 prog gl n0 21 PH kM):=by
 refine u7 (dep:=60) (f:=41) (n0:=n0) (nB:=21) (H0:=H0) YG A3w (cxg (A8K.2 q) .nil) q func41 PG PF D2 D2 D2 ?_;intro us d outs c;have t:=c;unfold kM at c;split at c
 .skip;rename_i w n i v;have p:=D9.1 c;clear c;obtain⟨l,m,c⟩:=p;replace m:=R8 m;subst m;have s:=D9.1 c;clear c;obtain⟨M,k,c⟩:=s;replace k:=R8 k;subst k;split at c
  .rename_i o;clear c t;refine⟨rfl,?_⟩;unfold A3w;refine w0 (.cons 3 _ (.cons 2 _ (.cons 1 _ (.cons 0 _ (.nil))))) ?_;repeat (first|refine w4 (fun g=>?_) fun g=>?_|refine jF ?_|refine aC ?_|refine gU ?_|refine mR ?_|refine w1 (.get 10 0) (u:=.int .i64 _) (e:=J5 rfl A2 A2 rfl) (k':=?_)|refine w1 (.get 10 1) (u:=.int .i64 _) (e:=J5 rfl A2 A2 rfl) (k':=?_)|refine w1 (.get 10 2) (u:=.int .i64 _) (e:=J5 rfl A2 A2 rfl) (k':=?_)|refine w1 (.get 10 3) (u:=.int .i64 _) (e:=J5 rfl A2 A2 rfl) (k':=?_)|refine w1 (.get 10 4) (u:=.int .i64 _) (e:=J5 rfl A2 A2 rfl) (k':=?_)|refine w1 (.get 10 5) (u:=.int .i64 _) (e:=J5 rfl A2 A2 rfl) (k':=?_)|refine w1 (.get 10 6) (u:=.int .i64 _) (e:=J5 rfl A2 A2 rfl) (k':=?_)|refine w1 (.get 10 7) (u:=.str _) (e:=J5 rfl A2 A2 rfl) (k':=?_)|refine w1 (.get 10 8) (u:=.str _) (e:=J5 rfl A2 A2 rfl) (k':=?_)|refine w1 (.get 10 9) (u:=.bool _) (e:=J5 rfl A2 A2 rfl) (k':=?_)|refine w2 (.mput 18 8) (r:=rP) (e:=ZG (fun a b=>(a.1 == b.1 && (a.2.1 == b.2.1 && (a.2.2.1 == b.2.2.1 && (a.2.2.2.1 == b.2.2.2.1 && (a.2.2.2.2.1 == b.2.2.2.2.1 && (a.2.2.2.2.2.1 == b.2.2.2.2.2.1 && (a.2.2.2.2.2.2.1 == b.2.2.2.2.2.2.1 && (a.2.2.2.2.2.2.2.1 == b.2.2.2.2.2.2.2.1 && true))))))))) (_,_,_,_,_,_,_,_,_,_,_,_,_,_,_,_,_,_) rfl rfl (fun _=>rfl) o.2.2.2.2) (k':=?_)|(refine w7 [.int .i64 _,G6 rG _,.int .i64 _,.int .i64 _,G6 rP _] ?_;rotate_left)|(refine w8 ?_;first|omega)|(refine w7 [.int .i64 _,G6 rP _] ?_;rotate_left))
   all_goals first
    | refine U7 ?_ ?_
      .rw[pP l n i M o,YN (l:=el l) o.2.1 A2];exact pP l n (i+1) _ ⟨o.1,A2,A2,o.2.2.2.1,A1D o.2.2.2.2⟩
      .rw[YF,YF];omega
    | refine K5 (d:=0) ?_
      rw[pP l n i M o,kY (el l) A2];rfl
  .cases c
 .cases c
noncomputable def A2j:List LpE:=[(41,([true,true,false,true,false],U3 prog gl n0 21 PH kM))]
def NA{G}(b:M6 G):y5 prog G gl A2j:=(.cons func41 PG PF (YH b) .nil)
def xP(x:Xt):Prop:=Y6 x.1 x.2.1 x.2.2.1 x.2.2.2.1 x.2.2.2.2.1 x.2.2.2.2.2.1 x.2.2.2.2.2.2.1 x.2.2.2.2.2.2.2
instance(x:Xt):Decidable (xP x):=inferInstanceAs (Decidable (Y6 x.1 x.2.1 x.2.2.1 x.2.2.2.1 x.2.2.2.2.1 x.2.2.2.2.2.1 x.2.2.2.2.2.2.1 x.2.2.2.2.2.2.2))
def kyP(x:Xt):Prop:=x.1=1/\xP x
instance(x:Xt):Decidable (kyP x):=by unfold kyP;infer_instance
def gP(g:Gt):Prop:=kyP (gK g)/\MM (gC g)
instance(g:Gt):Decidable (gP g):=by unfold gP;infer_instance
def yC(g:Gt):Bool:=!decide (gP g)
def gOk(g:Gt):Prop := -9223372036854775808<=g.2.2.1/\g.2.2.1<=9223372036854775807/\(g.2.2.2.2.2.2.2.1.length:Int)<=140737488351232/\(g.2.2.2.2.2.2.2.2.1.length:Int)<=140737488351232
instance(g:Gt):Decidable (gOk g):=by unfold gOk;infer_instance
def MT{g:Gt}(h:¬gP g):yC g=true:=by unfold yC;rw[E0 h];rfl
def A0b{g:Gt}(h:gP g):yC g=false:=by unfold yC;rw[I2 h];rfl
noncomputable def A8T:W3:=⟨_,fun b=>(.cons (YR b) (.cons (A2q b) .nil))⟩
def tG:List U->Option (Nat×List U)
 | [u_l,.int .i64 n,.int .i64 i]=>(Y8 rG u_l).bind fun l=>if n=((el l).length:Int)/\0<=i/\i<=n/\n<=140737488351232/\(∀ g ∈ el l,gOk g)then q8 (J4 yC ((el l).drop i.toNat) i) [] (fun j=>[.int .i64 j])else none
 | _=>none
def qK(l:(Option (List (Int×Int×Int×Int×Int×Int×Int×B6×B6×Bool))))(n:Int)(i:Int)(b:n=((el l).length:Int)/\0<=i/\i<=n/\n<=140737488351232/\(∀ g ∈ el l,gOk g)):tG [G6 rG l,.int .i64 n,.int .i64 i]=q8 (J4 yC ((el l).drop i.toNat) i) [] (fun j=>[.int .i64 j]):=by
 simp only[tG,M3,J2];exact A9 b
def A4W:V6:=⟨[(0,dat 26 0 20),(1,.func (.func 60) ⟨[]⟩ ⟨[]⟩),(7,h 1 3),(8,h 2 3)],[(26,.frz)],3,[⟨.exit 0,[],[],0⟩,⟨.ret,[(4,h 0 3)],[],1⟩]⟩
noncomputable def A0R:Code:=(f96.body).getD .skip
noncomputable def A4S:Code:=match H7 [true,false,true,false] A0R with|some (.loop x)=>x|_=>.skip
def A4V:f96.body=some A0R:=rfl
def A4U:H7 [true,false,true,false] A0R=some (.loop A4S):=D2
def A4T:Tr:=cC 1 2 3 (.lt 8 (.inbs 10) [h3 2,h 0 20]<|.br 4 (.lt 3 (.get 10 0) [h 0 20,h3 2]<|.lt 3 (.get 10 1) [h 0 20,h3 2]<|.lt 3 (.get 10 2) [h 0 20,h3 2]<|.lt 3 (.get 10 3) [h 0 20,h3 2]<|.lt 3 (.get 10 4) [h 0 20,h3 2]<|.lt 3 (.get 10 5) [h 0 20,h3 2]<|.lt 3 (.get 10 6) [h 0 20,h3 2]<|.lt 9 (.get 10 7) [h 0 20,h3 2]<|.lt 9 (.get 10 8) [h 0 20,h3 2]<|.lt 8 (.get 10 9) [h 0 20,h3 2]<|.fn pU [h3 5,h3 6,h3 7,h3 8,h3 9,h3 10,h3 11,h 12 9] 1<|N3 15 16 (.ret [jI 1,h3 2]) (.fn FA [h 13 9] 1<|N3 17 18 (.ret [jI 1,h3 2]) (aA [h3 2,jI 1]<|.ret [jI (-1),h 0 20,h3 1,h3 19]))) (.no)) (J8 0)
def A0Q:List U->Nat
 | [u_l,.int .i64 n,.int .i64 i]=>(match Y8 rG u_l with|some l=>(n-i).toNat|none=>0)
 | _=>0
def A0P(l:(Option (List (Int×Int×Int×Int×Int×Int×Int×B6×B6×Bool))))(n:Int)(i:Int):A0Q [G6 rG l,.int .i64 n,.int .i64 i]=(n-i).toNat:=by
 simp only[A0Q,M3]
def A7k{G}(m:M6 G):∀ (E:Nat->U) (base:Nat),@W1 ⟨E,G⟩ prog base gl f96.ntmps A4S (U3 prog gl n0 27 A4W tG):=by
 refine u7 (dep:=60) (f:=96) (n0:=n0) (nB:=27) (H0:=H0) A0Q A4T (cxg (A8T.2 m) (NA m)) m func96 A4V A4U D2 D2 D2 ?_;intro us d outs c;have p:=c;unfold tG at c;split at c
 .skip;rename_i s n i;have o:=D9.1 c;clear c;obtain⟨l,b,c⟩:=o;replace b:=R8 b;subst b;split at c
  .rename_i k;clear c p;have q:i<n->gOk ((el l).getD i.toNat default):=fun h=>k.2.2.2.2 _ (wZ A2 A2)
   refine⟨rfl,?_⟩;unfold A4T;refine w0 (.cons 2 _ (.cons 1 _ (.cons 0 _ (.nil)))) ?_;repeat (first|refine w4 (fun g=>?_) fun g=>?_|refine w4B (fun g=>?_) fun g=>?_|refine cI ?_|refine yJ ?_|(refine w7 [.int .i64 _,.int .i64 _] ?_;rotate_left)|refine jF ?_|refine aC ?_|refine gU ?_|refine mR ?_|refine w1 (.get 10 0) (u:=.int .i64 _) (e:=J5 rfl A2 A2 rfl) (k':=?_)|refine w1 (.get 10 1) (u:=.int .i64 _) (e:=J5 rfl A2 A2 rfl) (k':=?_)|refine w1 (.get 10 2) (u:=.int .i64 _) (e:=J5 rfl A2 A2 rfl) (k':=?_)|refine w1 (.get 10 3) (u:=.int .i64 _) (e:=J5 rfl A2 A2 rfl) (k':=?_)|refine w1 (.get 10 4) (u:=.int .i64 _) (e:=J5 rfl A2 A2 rfl) (k':=?_)|refine w1 (.get 10 5) (u:=.int .i64 _) (e:=J5 rfl A2 A2 rfl) (k':=?_)|refine w1 (.get 10 6) (u:=.int .i64 _) (e:=J5 rfl A2 A2 rfl) (k':=?_)|refine w1 (.get 10 7) (u:=.str _) (e:=J5 rfl A2 A2 rfl) (k':=?_)|refine w1 (.get 10 8) (u:=.str _) (e:=J5 rfl A2 A2 rfl) (k':=?_)|refine w1 (.get 10 9) (u:=.bool _) (e:=J5 rfl A2 A2 rfl) (k':=?_)|refine w31 pU (e:=DM _ _ _ _ _ _ _ _ (by have z:=q ‹_›;unfold gOk at z;omega)) (k':=?_)|refine w31 FA (e:=A02 _ (by have z:=q ‹_›;unfold gOk at z;omega)) (k':=?_)|(refine w7 [.int .i64 _,G6 rG _,.int .i64 _,.int .i64 _] ?_;rotate_left)|(refine w8 ?_;first|omega)|(refine w7 [.int .i64 _] ?_;rotate_left))
   all_goals first
    | refine U7 ?_ ?_
      .rw[qK l n (i+1) ⟨k.1,A2,A2,k.2.2.2⟩,qK l n i k,aV (i:=i) k.2.1 A2 (A0b ⟨D8.1 (by assumption:¬¬(_=(1:Int)/\Y6 _ _ _ _ _ _ _ _)),D8.1 (by assumption:¬¬MM _)⟩)]
      .rw[A0P,A0P];omega
    | refine K5 (d:=0) ?_
      rw[qK l n i k,dG A2];rfl
    | refine K5 (d:=1) ?_
      have r:yC ((el l).getD i.toNat default)=true:=by
       first
       | exact MT fun h=>(by assumption:¬(_=(1:Int)/\Y6 _ _ _ _ _ _ _ _)) h.1
       | exact MT fun h=>(by assumption:¬MM _) h.2
      rw[qK l n i k,dF (i:=i) k.2.1 A2 r];rfl
  .cases c
 .cases c
def kQ(x:Xt)(a:Pt):Bool:=(x.1 == a.1) && ((x.2.1 == a.2.1) && ((x.2.2.1 == a.2.2.1) && ((x.2.2.2.1 == a.2.2.2.1) && ((x.2.2.2.2.1 == a.2.2.2.2.1) && ((x.2.2.2.2.2.1 == a.2.2.2.2.2.1) && ((x.2.2.2.2.2.2.1 == a.2.2.2.2.2.2.1) && ((x.2.2.2.2.2.2.2 == a.2.2.2.2.2.2.2.1) && true)))))))
def A1r{x:Xt}{a:Pt}:kQ x a=true↔x=pK a:=by
 obtain⟨e,l,b,g,d,k,c,f⟩:=x;unfold kQ pK;simp only[G4,beq_iff_eq,L1,and_true]
def A49{a b:Pt}:pQ a b=true↔pK a=pK b:=A1r (x:=pK a) (a:=b)
def LE{a:Pt}:∀ {R:List Pt},(jY pQ a R).map pK=if pK a ∈ R.map pK then R.map pK else R.map pK++[pK a]
 | []=>rfl
 | b::R=>by
   unfold jY;cases c:pQ a b with
   | true =>
     have e:=A49.1 c;rw[A9 rfl,C3,C3,A9 (by rw[e];exact B2),e]
   | false =>
     have e:pK a≠pK b:=fun h=>by rw[A49.2 h]at c;cases c
     rw[A7 F1,C3,C3,LE];by_cases h:pK a ∈ R.map pK
     .rw[A9 h,A9 (B8 _ h)]
     .rw[A7 h,A7 (by rw[B3];exact fun q=>q.elim e h)];rfl
def VK{a:Pt}:∀ {R:List Pt},pK a ∉ R.map pK->jY pQ a R=R++[a]
 | [],_=>rfl
 | b::R,h=>by
   unfold jY;rw[C3,B3]at h;have e:pQ a b=false:=by
    cases c:pQ a b with
    | false=>rfl
    | true=>exact absurd (.inl (A49.1 c)) h
   rw[e,A7 F1,VK (fun q=>h (.inr q))];rfl
def PI:∀ {l:List Gt} {R:List Pt},(R.map pK++l.map gK).Nodup->ixS (some R) l=some (R++l.map pOf)
 | [],R,_=>by rw[F6,Q2];rfl
 | g::l,R,h=>by
   have h1:pK (pOf g) ∉ R.map pK:=fun q=>by
    have:=(List.nodup_append.1 h).2.2 _ q (gK g) (by rw[C3];exact B2);exact this rfl
   show ixS (some (jY pQ (pOf g) R)) l=_;rw[VK h1,PI (by rw[S7,L8];exact h)];simp
def YL:∀ {l:List Gt} {R:List Pt} {x:Xt},(el (ixS (some R) l)).any (kQ x)=true↔x ∈ R.map pK∨x ∈ l.map gK
 | [],R,x=>by
   show R.any (kQ x)=true↔_;rw[O8,F6,L5];constructor
   .rintro⟨a,h1,b⟩;exact .inl ⟨a,h1,(A1r.1 b).symm⟩
   .rintro(⟨a,h1,b⟩|h)
    .exact⟨a,h1,A1r.2 b.symm⟩
    .cases h
 | g::l,R,x=>by
   show(el (ixS (some (jY pQ (pOf g) R)) l)).any (kQ x)=true↔_;rw[YL,LE,C3,B3];show(x ∈ (if gK g ∈ R.map pK then R.map pK else R.map pK++[gK g])∨_)↔_;by_cases h:gK g ∈ R.map pK
   .rw[A9 h];constructor
    .rintro(h1|h1)
     .exact .inl h1
     .exact .inr (.inr h1)
    .rintro(h1|rfl|h1)
     .exact .inl h1
     .exact .inl h
     .exact .inr h1
   .rw[A7 h,B7,R5,or_assoc]
def MB:∀ {l:List Gt} {R:List Pt},(R.map pK).Nodup->(el (ixS (some R) l)).length<=R.length+l.length/\((el (ixS (some R) l)).length=R.length+l.length->(R.map pK++l.map gK).Nodup)
 | [],R,h=>by rw[F6,Q2];exact⟨A6 _,fun _=>h⟩
 | g::l,R,h=>by
   show(el (ixS (some (jY pQ (pOf g) R)) l)).length<=_/\((el (ixS (some (jY pQ (pOf g) R)) l)).length=_->_);have c:=LE (a:=pOf g) (R:=R);by_cases hm:pK (pOf g) ∈ R.map pK
   .rw[A9 hm]at c;have f:(jY pQ (pOf g) R).length=R.length:=by have:=F0 List.length c;simpa using this
    obtain⟨a,b⟩:=MB (l:=l) (R:=jY pQ (pOf g) R) (by rw[c];exact h);rw[E5];exact⟨A2,fun e=>by omega⟩
   .rw[A7 hm]at c;have f:(jY pQ (pOf g) R).length=R.length+1:=by have:=F0 List.length c;simpa using this
    have k:((jY pQ (pOf g) R).map pK).Nodup:=by
     rw[c];exact List.nodup_append.2 ⟨h,by simp,fun x hx y d=>by rw[R5]at d;subst d;exact fun e=>hm (e▸hx)⟩
    obtain⟨a,b⟩:=MB (l:=l) k;rw[E5];refine⟨A2,fun e=>?_⟩
    have:=b A2;rw[c,L8]at this;exact this
instance:DecidableEq Xt:=@instDecidableEqProd _ _ _ (@instDecidableEqProd _ _ _ (@instDecidableEqProd _ _ _ (@instDecidableEqProd _ _ _ inferInstance)))
def kmP(x:Xt)(l:List Gt):Prop:=kyP x/\l.length<=64/\(∀ g ∈ l,gP g)/\(l.map gK).Nodup/\x ∉ l.map gK
instance(x:Xt)(l:List Gt):Decidable (kmP x l):=by unfold kmP;infer_instance
def A2d{l:List Gt}(h:J4 yC l 0=none):∀ g ∈ l,gP g:=fun g b=>by
 have:=xD h
 have:=(List.any_eq_false.1 this) g b;by_cases q:gP g
 .exact q
 .exact absurd (MT q) this
def A2c{l:List Gt}(h:J4 yC l 0=some j):¬∀ g ∈ l,gP g:=fun k=>by
 obtain⟨g,h1,b⟩:=O8.1 (qE h).1;rw[A0b (k g h1)]at b;cases b
noncomputable def A2i:List LpE:=[(96,([true,false,true,false],U3 prog gl n0 27 A4W tG)),(41,([true,true,false,true,false],U3 prog gl n0 21 PH kM))]
def MZ{G}(b:M6 G):y5 prog G gl A2i:=(.cons func96 A4V A4U (A7k b) (.cons func41 PG PF (YH b) .nil))
def rW(x:Xt)(l:List Gt):Int:=if kmP x l then 0 else 490
def ZL{x:Xt}{l:List Gt}(h:kmP x l):rW x l=0:=A9 h
def nN{x:Xt}{l:List Gt}(h:¬kmP x l):rW x l=490:=A7 h
def YM{l:List Gt}{x:Xt}:(el (ixS (some []) l)).any (kQ x)=true↔x ∈ l.map gK:=by
 rw[YL];exact⟨fun h=>h.elim (fun h=>by cases h) id,.inr⟩
def A5x{k c m w b r cl:Int}{t:B6}{l:List Gt}(h1:k=1/\Y6 k c m w b r cl t)(d:(el (ixS (some []) l)).any (kQ (k,c,m,w,b,r,cl,t))=false)(h3:(l.length:Int)<=64)(g:¬(((el (ixS (some []) l)).length:Int)<(l.length:Int)))(f:J4 yC l 0=none):rW (k,c,m,w,b,r,cl,t) l=0:=by
 refine ZL ⟨h1,A2,A2d f,?_,fun h=>by rw[YM.2 h]at d;cases d⟩
 have:=MB (l:=l) (R:=[]) List.nodup_nil;have e:=this.2 (by have:=this.1;rw[W9]at this ⊢;omega)
 simpa using e
def A5y{x:Xt}{l:List Gt}(b:((el (ixS (some []) l)).length:Int)<(l.length:Int)):rW x l=490:=nN fun h=>by
 have:=PI (l:=l) (R:=[]) (by simpa using h.2.2.2.1);rw[this,G2,Q5,E3]at b;omega
noncomputable def A8G:W3:=⟨_,fun b=>(.cons (YR b) (.cons (A2q b) .nil))⟩
def tA:List U->Option (Nat×List U)
 | [.int .i64 k,.int .i64 c,.int .i64 m,.int .i64 w,.int .i64 b,.int .i64 r,.int .i64 cl,.str t,u_l]=>(Y8 rG u_l).bind fun l=>if -9223372036854775808<=m/\m<=9223372036854775807/\(t.length:Int)<=140737488351232/\((el l).length:Int)<=140737488351232/\(∀ g ∈ el l,gOk g)then some (0,[.int .i64 (rW (k,c,m,w,b,r,cl,t) (el l))])else none
 | _=>none
def PA(k:Int)(c:Int)(m:Int)(w:Int)(b:Int)(r:Int)(cl:Int)(t:B6)(l:(Option (List (Int×Int×Int×Int×Int×Int×Int×B6×B6×Bool))))(d : -9223372036854775808<=m/\m<=9223372036854775807/\(t.length:Int)<=140737488351232/\((el l).length:Int)<=140737488351232/\(∀ g ∈ el l,gOk g)):tA [.int .i64 k,.int .i64 c,.int .i64 m,.int .i64 w,.int .i64 b,.int .i64 r,.int .i64 cl,.str t,G6 rG l]=some (0,[.int .i64 (rW (k,c,m,w,b,r,cl,t) (el l))]):=by
 simp only[tA,M3,J2];exact A9 d
def A3k:Tr:=.dt 28 (.mk 18) []<|aD [h 8 20]<|.fn kM [h 8 20,h3 10,jI 0,h 9 28] 1<|.lt 3 (.mget 18 8 8) [h 11 28,jI 0,h3 0,h3 1,h3 2,h3 3,h3 4,h3 5,h3 6,h 7 9]<|.lt 3 (.mget 18 8 9) [h 11 28,jI 0,h3 0,h3 1,h3 2,h3 3,h3 4,h3 5,h3 6,h 7 9]<|.lt 3 (.mget 18 8 10) [h 11 28,jI 0,h3 0,h3 1,h3 2,h3 3,h3 4,h3 5,h3 6,h 7 9]<|.lt 3 (.mget 18 8 11) [h 11 28,jI 0,h3 0,h3 1,h3 2,h3 3,h3 4,h3 5,h3 6,h 7 9]<|.lt 3 (.mget 18 8 12) [h 11 28,jI 0,h3 0,h3 1,h3 2,h3 3,h3 4,h3 5,h3 6,h 7 9]<|.lt 3 (.mget 18 8 13) [h 11 28,jI 0,h3 0,h3 1,h3 2,h3 3,h3 4,h3 5,h3 6,h 7 9]<|.lt 3 (.mget 18 8 14) [h 11 28,jI 0,h3 0,h3 1,h3 2,h3 3,h3 4,h3 5,h3 6,h 7 9]<|.lt 9 (.mget 18 8 15) [h 11 28,.string ⟨⟨[]⟩⟩,h3 0,h3 1,h3 2,h3 3,h3 4,h3 5,h3 6,h 7 9]<|.lt 9 (.mget 18 8 16) [h 11 28,.string ⟨⟨[]⟩⟩,h3 0,h3 1,h3 2,h3 3,h3 4,h3 5,h3 6,h 7 9]<|.lt 8 (.mget 18 8 17) [h 11 28,.bool false,h3 0,h3 1,h3 2,h3 3,h3 4,h3 5,h3 6,h 7 9]<|.lt 8 (.mhas 18 8) [h 11 28,h3 0,h3 1,h3 2,h3 3,h3 4,h3 5,h3 6,h 7 9]<|.fn pU [h3 0,h3 1,h3 2,h3 3,h3 4,h3 5,h3 6,h 7 9] 1<|N3 23 24 (J8 490) (.br 22 (J8 490) (aG [h3 10,jI 64]<|.br 25 (J8 490) (aD [h 11 28]<|cC 10 26 27 (J8 490) (.lp tG [h 8 20,h3 10,jI 0] 0 0 (J8 0) (.lp tG [h 8 20,h3 10,jI 0] 1 1 (K0 28 29 0 (J8 490) (J8 0)) (.no))))))
def XN{G}(o:M6 G):M0 prog G 28 [.a [3,3,3,3,3,3,3,9,20]] tA [.s 3]:=by
 refine G9 (d:=60) A3k (cxg (A8G.2 o) (MZ o)) o ⟨f28,_,func28,rfl⟩ D2 D2 ?_;intro us outs f;unfold tA at f;split at f
 .skip;rename_i k c m w b r cl t x;have q:=D9.1 f;clear f;obtain⟨l,n,f⟩:=q;replace n:=R8 n;subst n;split at f
  .rename_i u;cases f;have y:(el l).drop (0:Int).toNat=el l:=rfl;unfold A3k;refine w0 (.cons 8 _ (.cons 7 _ (.cons 6 _ (.cons 5 _ (.cons 4 _ (.cons 3 _ (.cons 2 _ (.cons 1 _ (.cons 0 _ (.nil)))))))))) ?_;repeat (first|refine w4 (fun g=>?_) fun g=>?_|refine w4B (fun g=>?_) fun g=>?_|(refine w7 [.int .i64 _] ?_;rotate_left)|refine zG ?_|refine cI ?_|refine yJ ?_|refine w2 (.mk 18) (r:=rP) (e:=DV [] rfl F1 rfl) (k':=?_)|refine w31 kM (e:=pP _ _ _ _ ⟨rfl,F1,A2,A2,Option.some_ne_none _⟩) (k':=?_)|refine w1x (.mget 18 8 8) (e:=M2 (U.int .i64) (fun a=>(_ == a.1 && (_ == a.2.1 && (_ == a.2.2.1 && (_ == a.2.2.2.1 && (_ == a.2.2.2.2.1 && (_ == a.2.2.2.2.2.1 && (_ == a.2.2.2.2.2.2.1 && (_ == a.2.2.2.2.2.2.2.1 && true))))))))) (fun a=>a.2.2.2.2.2.2.2.2.1) rfl rfl (fun _=>rfl) (fun _=>rfl)) (k':=?_)|refine w1x (.mget 18 8 9) (e:=M2 (U.int .i64) (fun a=>(_ == a.1 && (_ == a.2.1 && (_ == a.2.2.1 && (_ == a.2.2.2.1 && (_ == a.2.2.2.2.1 && (_ == a.2.2.2.2.2.1 && (_ == a.2.2.2.2.2.2.1 && (_ == a.2.2.2.2.2.2.2.1 && true))))))))) (fun a=>a.2.2.2.2.2.2.2.2.2.1) rfl rfl (fun _=>rfl) (fun _=>rfl)) (k':=?_)|refine w1x (.mget 18 8 10) (e:=M2 (U.int .i64) (fun a=>(_ == a.1 && (_ == a.2.1 && (_ == a.2.2.1 && (_ == a.2.2.2.1 && (_ == a.2.2.2.2.1 && (_ == a.2.2.2.2.2.1 && (_ == a.2.2.2.2.2.2.1 && (_ == a.2.2.2.2.2.2.2.1 && true))))))))) (fun a=>a.2.2.2.2.2.2.2.2.2.2.1) rfl rfl (fun _=>rfl) (fun _=>rfl)) (k':=?_)|refine w1x (.mget 18 8 11) (e:=M2 (U.int .i64) (fun a=>(_ == a.1 && (_ == a.2.1 && (_ == a.2.2.1 && (_ == a.2.2.2.1 && (_ == a.2.2.2.2.1 && (_ == a.2.2.2.2.2.1 && (_ == a.2.2.2.2.2.2.1 && (_ == a.2.2.2.2.2.2.2.1 && true))))))))) (fun a=>a.2.2.2.2.2.2.2.2.2.2.2.1) rfl rfl (fun _=>rfl) (fun _=>rfl)) (k':=?_)|refine w1x (.mget 18 8 12) (e:=M2 (U.int .i64) (fun a=>(_ == a.1 && (_ == a.2.1 && (_ == a.2.2.1 && (_ == a.2.2.2.1 && (_ == a.2.2.2.2.1 && (_ == a.2.2.2.2.2.1 && (_ == a.2.2.2.2.2.2.1 && (_ == a.2.2.2.2.2.2.2.1 && true))))))))) (fun a=>a.2.2.2.2.2.2.2.2.2.2.2.2.1) rfl rfl (fun _=>rfl) (fun _=>rfl)) (k':=?_)|refine w1x (.mget 18 8 13) (e:=M2 (U.int .i64) (fun a=>(_ == a.1 && (_ == a.2.1 && (_ == a.2.2.1 && (_ == a.2.2.2.1 && (_ == a.2.2.2.2.1 && (_ == a.2.2.2.2.2.1 && (_ == a.2.2.2.2.2.2.1 && (_ == a.2.2.2.2.2.2.2.1 && true))))))))) (fun a=>a.2.2.2.2.2.2.2.2.2.2.2.2.2.1) rfl rfl (fun _=>rfl) (fun _=>rfl)) (k':=?_)|refine w1x (.mget 18 8 14) (e:=M2 (U.int .i64) (fun a=>(_ == a.1 && (_ == a.2.1 && (_ == a.2.2.1 && (_ == a.2.2.2.1 && (_ == a.2.2.2.2.1 && (_ == a.2.2.2.2.2.1 && (_ == a.2.2.2.2.2.2.1 && (_ == a.2.2.2.2.2.2.2.1 && true))))))))) (fun a=>a.2.2.2.2.2.2.2.2.2.2.2.2.2.2.1) rfl rfl (fun _=>rfl) (fun _=>rfl)) (k':=?_)|refine w1x (.mget 18 8 15) (e:=M2 U.str (fun a=>(_ == a.1 && (_ == a.2.1 && (_ == a.2.2.1 && (_ == a.2.2.2.1 && (_ == a.2.2.2.2.1 && (_ == a.2.2.2.2.2.1 && (_ == a.2.2.2.2.2.2.1 && (_ == a.2.2.2.2.2.2.2.1 && true))))))))) (fun a=>a.2.2.2.2.2.2.2.2.2.2.2.2.2.2.2.1) rfl rfl (fun _=>rfl) (fun _=>rfl)) (k':=?_)|refine w1x (.mget 18 8 16) (e:=M2 U.str (fun a=>(_ == a.1 && (_ == a.2.1 && (_ == a.2.2.1 && (_ == a.2.2.2.1 && (_ == a.2.2.2.2.1 && (_ == a.2.2.2.2.2.1 && (_ == a.2.2.2.2.2.2.1 && (_ == a.2.2.2.2.2.2.2.1 && true))))))))) (fun a=>a.2.2.2.2.2.2.2.2.2.2.2.2.2.2.2.2.1) rfl rfl (fun _=>rfl) (fun _=>rfl)) (k':=?_)|refine w1x (.mget 18 8 17) (e:=M2 U.bool (fun a=>(_ == a.1 && (_ == a.2.1 && (_ == a.2.2.1 && (_ == a.2.2.2.1 && (_ == a.2.2.2.2.1 && (_ == a.2.2.2.2.2.1 && (_ == a.2.2.2.2.2.2.1 && (_ == a.2.2.2.2.2.2.2.1 && true))))))))) (fun a=>a.2.2.2.2.2.2.2.2.2.2.2.2.2.2.2.2.2) rfl rfl (fun _=>rfl) (fun _=>rfl)) (k':=?_)|refine w1x (.mhas 18 8) (e:=IY (fun a=>(_ == a.1 && (_ == a.2.1 && (_ == a.2.2.1 && (_ == a.2.2.2.1 && (_ == a.2.2.2.2.1 && (_ == a.2.2.2.2.2.1 && (_ == a.2.2.2.2.2.2.1 && (_ == a.2.2.2.2.2.2.2.1 && true))))))))) rfl rfl (fun _=>rfl)) (k':=?_)|refine w31 pU (e:=DM _ _ _ _ _ _ _ _ ⟨u.1,u.2.1,u.2.2.1⟩) (k':=?_)|refine KJ ?_|refine gU ?_|(refine w6 tG (qK _ _ _ ⟨rfl,F1,A2,A2,u.2.2.2.2⟩) (h0:=fun g=>?_) (h1:=fun v g=>?_);skip;rotate_left;show Wk _ _ (.cons _ _ _);rotate_right)|refine jE ?_)
   all_goals
    refine l0 ?_;symm;first
    | exact nN fun h=>(by assumption:¬(k=1/\Y6 _ _ _ _ _ _ _ _)) h.1
    | exact nN fun h=>h.2.2.2.2 (YM.1 ‹_›)
    | (refine nN fun h=>?_;have:=h.2.1;omega)
    | exact A5y ‹_›
    | exact A5x (D8.1 ‹_›) ‹_› A2 ‹_› ‹_›
    | (exfalso;have:=(qE (p:=yC) (l:=el l) ‹_›).2;omega)
    | (have f:=A2c (l:=el l) ‹_›;exact nN fun h=>f h.2.2.1)
  .cases f
 .cases f
def eqX(x y:Xt):Bool:=(x.1 == y.1) && ((x.2.1 == y.2.1) && ((x.2.2.1 == y.2.2.1) && ((x.2.2.2.1 == y.2.2.2.1) && ((x.2.2.2.2.1 == y.2.2.2.2.1) && ((x.2.2.2.2.2.1 == y.2.2.2.2.2.1) && ((x.2.2.2.2.2.2.1 == y.2.2.2.2.2.2.1) && ((x.2.2.2.2.2.2.2 == y.2.2.2.2.2.2.2) && true)))))))
def QC{x y:Xt}:eqX x y=true↔x=y:=by
 obtain⟨m,a2,a3,a4,a5,f,o,e⟩:=x;obtain⟨n,l,c,b,k,d,p,g⟩:=y;unfold eqX;simp only[G4,beq_iff_eq,L1,and_true]
def gQ(x:Xt)(g:Gt):Bool:=eqX (gK g) x
def okG(x:Xt)(pre:List Gt)(g:Gt):Prop:=gP g/\gK g≠x/\pre.any (gQ (gK g))=false
instance(x:Xt)(pre:List Gt)(g:Gt):Decidable (okG x pre g):=by unfold okG;infer_instance
end Go.Proofs.YtbbicpheoakeeaaGreatDoor
