import Derived.Test.YtbbicpheoakeeaaGreatDoorX9
import Derived.Shelf.Strings.Builder1
import Derived.Shelf.Strings.Builder2
import Derived.Shelf.Strings.OnBuilder
import Derived.Shelf.Small.Utf8
import Derived.Shelf.Small.Wraps
import Derived.Shelf.Strings.BuilderF
import Derived.Shelf.Strings.BuilderK
import Derived.Shelf.Utf8.RuneCount
import Derived.Shelf.Strings.Builder2Cap
import Derived.Shelf.Strconv.Itoa0
import Derived.Shelf.Strconv.Itoa1
import Derived.Shelf.LaysM
import Derived.Shelf.Strconv.Itoa2
import Derived.Shelf.Strconv.Itoa3
import Derived.Shelf.Strconv.Clone
import Derived.Shelf.Strings.Search1
import Derived.Shelf.Strings.Search2
import Derived.Shelf.Strings.Search3
import Derived.Shelf.Strings.Cut
import Derived.Shelf.Strings.Count
import Derived.Shelf.Strings.Shaped
import Derived.Shelf.Strings.Prefix
import Derived.Shelf.Strings.Split
import Derived.Shelf.Strings.Fields
import Derived.Shelf.Strings.SplitShaped
import Derived.Shelf.Unicode.Latin
import Derived.Shelf.Unicode.Decode
import Derived.Shelf.Strings.RuneCount
import Derived.Shelf.Bits.Mul64
import Derived.Shelf.Strings.Repeat
import Derived.Shelf.Unicode.DecodeSlow
import Derived.Shelf.Unicode.DecodeAny
import Derived.Shelf.Unicode.Is16White
import Derived.Shelf.Unicode.IsSpaceAny
import Derived.Shelf.Unicode.CaseLookup
import Derived.Shelf.Unicode.CaseConvert
import Derived.Shelf.Unicode.CaseTo
import Derived.Shelf.Unicode.CaseLaid
import Derived.Shelf.Unicode.Is16Any
import Derived.Shelf.Unicode.Is32Any
import Derived.Shelf.Unicode.ExclAny
import Derived.Shelf.Strings.BuilderCap
import Derived.Shelf.Slices.Turned
import Derived.Test.YtbbicpheoakeeaaGreatDoorProg
set_option linter.all false
set_option maxRecDepth 100000
set_option maxHeartbeats 4000000
namespace Go.Proofs
open Go.Shelf
def Tryz.lays158_ren:Go.Shelf.Ren:=⟨fun|158=>107|165=>72|166=>57|167=>123|169=>59|230=>124|203=>125|240=>92|241=>104|197=>119|118=>139|168=>140|270=>141|262=>142|276=>112|277=>122|260=>138|242=>150|313=>151|278=>154|274=>155|275=>156|n=>n,fun|9=>9|4=>4|3=>3|5=>5|72=>103|0=>0|76=>106|75=>105|107=>173|70=>101|20=>20|37=>26|127=>137|21=>21|105=>158|164=>155|162=>203|203=>201|119=>116|46=>119|139=>199|138=>198|51=>22|160=>208|208=>216|206=>214|80=>109|n=>n,fun|13=>9|3=>7|4=>8|n=>n⟩
def Tryz.lays158:Go.Proofs.Lays.n158 Tryz.prog Tryz.lays158_ren:={
 mixed:=D9
 f118:=J4 Tryz.func139
 f158:=J4 Tryz.func107
 f165:=J4 Tryz.func72
 f166:=J4 Tryz.func57
 f167:=J4 Tryz.func123
 f168:=J4 Tryz.func140
 f169:=J4 Tryz.func59
 f197:=J4 Tryz.func119
 f203:=J4 Tryz.func125
 f230:=J4 Tryz.func124
 f240:=J4 Tryz.func92
 f241:=J4 Tryz.func104
 f242:=J4 Tryz.func150
 f260:=J4 Tryz.func138
 f262:=J4 Tryz.func142
 f270:=J4 Tryz.func141
 f274:=J4 Tryz.func155
 f275:=J4 Tryz.func156
 f276:=J4 Tryz.func112
 f277:=J4 Tryz.func122
 f278:=J4 Tryz.func154
 f313:=J4 Tryz.func151
 t0:=Tryz.underlying0
 a0:=Tryz.isAgg0
 z0:=Tryz.sizeOf0
 v0:=Tryz.zeroValue0
 t3:=Tryz.underlying3
 a3:=Tryz.isAgg3
 z3:=Tryz.sizeOf3
 v3:=Tryz.zeroValue3
 t4:=Tryz.underlying4
 a4:=Tryz.isAgg4
 z4:=Tryz.sizeOf4
 v4:=Tryz.zeroValue4
 t5:=Tryz.underlying5
 a5:=Tryz.isAgg5
 z5:=Tryz.sizeOf5
 v5:=Tryz.zeroValue5
 t9:=Tryz.underlying9
 a9:=Tryz.isAgg9
 z9:=Tryz.sizeOf9
 v9:=Tryz.zeroValue9
 t20:=Tryz.underlying20
 a20:=Tryz.isAgg20
 z20:=Tryz.sizeOf20
 v20:=Tryz.zeroValue20
 t21:=Tryz.underlying21
 a21:=Tryz.isAgg21
 z21:=Tryz.sizeOf21
 v21:=Tryz.zeroValue21
 t37:=Tryz.underlying26
 a37:=Tryz.isAgg26
 z37:=Tryz.sizeOf26
 v37:=Tryz.zeroValue26
 t46:=Tryz.underlying119
 a46:=Tryz.isAgg119
 z46:=Tryz.sizeOf119
 v46:=Tryz.zeroValue119
 t51:=Tryz.underlying22
 a51:=Tryz.isAgg22
 z51:=Tryz.sizeOf22
 v51:=Tryz.zeroValue22
 t70:=Tryz.underlying101
 a70:=Tryz.isAgg101
 z70:=Tryz.sizeOf101
 v70:=Tryz.zeroValue101
 t72:=Tryz.underlying103
 a72:=Tryz.isAgg103
 z72:=Tryz.sizeOf103
 v72:=Tryz.zeroValue103
 t75:=Tryz.underlying105
 a75:=Tryz.isAgg105
 z75:=Tryz.sizeOf105
 v75:=Tryz.zeroValue105
 t76:=Tryz.underlying106
 a76:=Tryz.isAgg106
 z76:=Tryz.sizeOf106
 v76:=Tryz.zeroValue106
 t105:=Tryz.underlying158
 a105:=Tryz.isAgg158
 z105:=Tryz.sizeOf158
 v105:=Tryz.zeroValue158
 t107:=Tryz.underlying173
 a107:=Tryz.isAgg173
 z107:=Tryz.sizeOf173
 v107:=Tryz.zeroValue173
 t119:=Tryz.underlying116
 a119:=Tryz.isAgg116
 z119:=Tryz.sizeOf116
 t127:=Tryz.underlying137
 a127:=Tryz.isAgg137
 z127:=Tryz.sizeOf137
 v127:=Tryz.zeroValue137
 t138:=Tryz.underlying198
 a138:=Tryz.isAgg198
 z138:=Tryz.sizeOf198
 v138:=Tryz.zeroValue198
 t139:=Tryz.underlying199
 a139:=Tryz.isAgg199
 z139:=Tryz.sizeOf199
 v139:=Tryz.zeroValue199
 t160:=Tryz.underlying208
 a160:=Tryz.isAgg208
 z160:=Tryz.sizeOf208
 v160:=Tryz.zeroValue208
 t162:=Tryz.underlying203
 a162:=Tryz.isAgg203
 z162:=Tryz.sizeOf203
 v162:=Tryz.zeroValue203
 t164:=Tryz.underlying155
 a164:=Tryz.isAgg155
 z164:=Tryz.sizeOf155
 v164:=Tryz.zeroValue155
 t203:=Tryz.underlying201
 a203:=Tryz.isAgg201
 z203:=Tryz.sizeOf201
 v203:=Tryz.zeroValue201
 t206:=Tryz.underlying214
 a206:=Tryz.isAgg214
 z206:=Tryz.sizeOf214
 v206:=Tryz.zeroValue214
 t208:=Tryz.underlying216
 a208:=Tryz.isAgg216
 z208:=Tryz.sizeOf216
 v208:=Tryz.zeroValue216
 g3:=D9
 g4:=D9
 g13:=by kernel_rfl }
def Tryz.Builder_Extra_158:Builder.Extra Tryz.prog Tryz.lays158_ren:={
 sizeBuilder:=D9
 liesBuilder:=D9
 t5:=Tryz.underlying5
 a5:=Tryz.isAgg5
 z5:=Tryz.sizeOf5
 v5:=Tryz.zeroValue5
 infoByte:=D9
 cellsByte:=D9
 sizeByte:=D9
 neB5:=by decide }
open Go.RowKit in
def Tryz.strings_ToUpper_ascii(s:ByteArray)(w:World)(c:s.size<=140737488355328)(a:∀ (j:Nat) (b:UInt8),s.data.toList[j]? = some b->b.toNat<128) :
  Calls Tryz.prog 107 #[.string s] w fun e w'=>e=.returned (.string ⟨(Lib.toUpperA s.data.toList).toArray⟩)/\Below w.heap.size w w':=Any.strings_ToUpper_ascii Tryz.lays158 Tryz.Builder_Extra_158 s w c a
def Tryz.lays156_ren:Go.Shelf.Ren:=⟨fun|156=>93|165=>72|166=>57|169=>59|240=>92|241=>104|276=>112|277=>122|n=>n,fun|31=>68|9=>9|3=>3|4=>4|0=>0|20=>20|72=>103|76=>106|70=>101|37=>26|75=>105|127=>137|164=>155|5=>5|80=>109|n=>n,fun|n=>n⟩
def Tryz.lays156:Go.Proofs.Lays.n156 Tryz.prog Tryz.lays156_ren:={
 mixed:=D9
 f156:=J4 Tryz.func93
 f165:=J4 Tryz.func72
 f166:=J4 Tryz.func57
 f169:=J4 Tryz.func59
 f240:=J4 Tryz.func92
 f241:=J4 Tryz.func104
 f276:=J4 Tryz.func112
 f277:=J4 Tryz.func122
 t0:=Tryz.underlying0
 a0:=Tryz.isAgg0
 z0:=Tryz.sizeOf0
 v0:=Tryz.zeroValue0
 t3:=Tryz.underlying3
 a3:=Tryz.isAgg3
 z3:=Tryz.sizeOf3
 v3:=Tryz.zeroValue3
 t4:=Tryz.underlying4
 a4:=Tryz.isAgg4
 z4:=Tryz.sizeOf4
 v4:=Tryz.zeroValue4
 t9:=Tryz.underlying9
 a9:=Tryz.isAgg9
 z9:=Tryz.sizeOf9
 v9:=Tryz.zeroValue9
 t20:=Tryz.underlying20
 a20:=Tryz.isAgg20
 z20:=Tryz.sizeOf20
 v20:=Tryz.zeroValue20
 t31:=Tryz.underlying68
 a31:=Tryz.isAgg68
 z31:=Tryz.sizeOf68
 v31:=Tryz.zeroValue68
 t37:=Tryz.underlying26
 a37:=Tryz.isAgg26
 z37:=Tryz.sizeOf26
 v37:=Tryz.zeroValue26
 t70:=Tryz.underlying101
 a70:=Tryz.isAgg101
 z70:=Tryz.sizeOf101
 v70:=Tryz.zeroValue101
 t72:=Tryz.underlying103
 a72:=Tryz.isAgg103
 z72:=Tryz.sizeOf103
 v72:=Tryz.zeroValue103
 t75:=Tryz.underlying105
 a75:=Tryz.isAgg105
 z75:=Tryz.sizeOf105
 v75:=Tryz.zeroValue105
 t76:=Tryz.underlying106
 a76:=Tryz.isAgg106
 z76:=Tryz.sizeOf106
 v76:=Tryz.zeroValue106
 t127:=Tryz.underlying137
 a127:=Tryz.isAgg137
 z127:=Tryz.sizeOf137
 v127:=Tryz.zeroValue137
 t164:=Tryz.underlying155
 a164:=Tryz.isAgg155
 z164:=Tryz.sizeOf155
 v164:=Tryz.zeroValue155 }
def Tryz.Builder_Extra_156:Builder.Extra Tryz.prog Tryz.lays156_ren:={
 sizeBuilder:=D9
 liesBuilder:=D9
 t5:=Tryz.underlying5
 a5:=Tryz.isAgg5
 z5:=Tryz.sizeOf5
 v5:=Tryz.zeroValue5
 infoByte:=D9
 cellsByte:=D9
 sizeByte:=D9
 neB5:=by decide }
open Go.RowKit in
def Tryz.strings_Join_none(a:Option Addr)(c:Nat)(sep:ByteArray)(w:World) :
  Calls Tryz.prog 93 #[.slice a 0 c,.string sep] w fun e w'=>e=.returned (.string ⟨#[]⟩)/\w'=w:=Any.strings_Join_none Tryz.lays156 Tryz.Builder_Extra_156 a c sep w
open Go.RowKit in
def Tryz.strings_Join(d o c:Nat)(xs:List ByteArray)(sep:ByteArray)(w:World)(a:∀ (j:Nat) x,xs[j]? = some x->w.cell? ⟨d,o+j,none⟩=some (.string x))(f:d<w.heap.size)(g:xs.length<=140737488355328)(b:xs.length<=c)(hlen:(Lib.join (xs.map (·.data.toList)) sep.data.toList).length<=140737488355328) :
  Calls Tryz.prog 93 #[.slice (some ⟨d,o,none⟩) xs.length c,.string sep] w fun e w'=>e=.returned (.string ⟨(Lib.join (xs.map (·.data.toList)) sep.data.toList).toArray⟩)/\Below w.heap.size w w':=Any.strings_Join Tryz.lays156 Tryz.Builder_Extra_156 d o c xs sep w a f g b hlen
def Tryz.laysM316_ren:Go.Shelf.Ren:=⟨fun|316=>143|n=>n,fun|9=>9|3=>3|4=>4|37=>26|0=>0|127=>137|5=>5|n=>n,fun|n=>n⟩
def Tryz.laysM316:Go.Proofs.LaysM.n316 Tryz.prog Tryz.laysM316_ren:={
 mixed:=D9
 f316:=J4 Tryz.func143
 t0:=Tryz.underlying0
 a0:=Tryz.isAgg0
 z0:=Tryz.sizeOf0
 v0:=Tryz.zeroValue0
 t3:=Tryz.underlying3
 a3:=Tryz.isAgg3
 z3:=Tryz.sizeOf3
 v3:=Tryz.zeroValue3
 t4:=Tryz.underlying4
 a4:=Tryz.isAgg4
 z4:=Tryz.sizeOf4
 v4:=Tryz.zeroValue4
 t9:=Tryz.underlying9
 a9:=Tryz.isAgg9
 z9:=Tryz.sizeOf9
 v9:=Tryz.zeroValue9
 t37:=Tryz.underlying26
 a37:=Tryz.isAgg26
 z37:=Tryz.sizeOf26
 v37:=Tryz.zeroValue26
 t127:=Tryz.underlying137
 a127:=Tryz.isAgg137
 z127:=Tryz.sizeOf137
 v127:=Tryz.zeroValue137
 t5:=Tryz.underlying5
 a5:=Tryz.isAgg5
 z5:=Tryz.sizeOf5
 v5:=Tryz.zeroValue5
 i0:=D9
 i3:=D9
 i4:=D9
 i5:=D9
 i9:=D9
 i37:=D9
 i127:=by kernel_rfl }
open Go.RowKit in
def Tryz.stringslite_Clone(s:ByteArray)(w:World)(a:s.size<=281474976710656) :
  Calls Tryz.prog 143 #[.string s] w fun e w'=>e=.returned (.string s)/\Below w.heap.size w w':=Any.stringslite_Clone Tryz.laysM316 s w a
def Tryz.lays143_ren:Go.Shelf.Ren:=⟨fun|143=>65|219=>97|217=>114|225=>115|224=>116|267=>117|266=>132|314=>133|n=>n,fun|9=>9|3=>3|4=>4|5=>5|46=>119|146=>146|51=>22|n=>n,fun|1=>2|n=>n⟩
def Tryz.lays143:Go.Proofs.Lays.n143 Tryz.prog Tryz.lays143_ren:={
 mixed:=D9
 f143:=J4 Tryz.func65
 f217:=J4 Tryz.func114
 f219:=J4 Tryz.func97
 f224:=J4 Tryz.func116
 f225:=J4 Tryz.func115
 f266:=J4 Tryz.func132
 f267:=J4 Tryz.func117
 f314:=J4 Tryz.func133
 t3:=Tryz.underlying3
 a3:=Tryz.isAgg3
 z3:=Tryz.sizeOf3
 v3:=Tryz.zeroValue3
 t4:=Tryz.underlying4
 a4:=Tryz.isAgg4
 z4:=Tryz.sizeOf4
 v4:=Tryz.zeroValue4
 t5:=Tryz.underlying5
 a5:=Tryz.isAgg5
 z5:=Tryz.sizeOf5
 v5:=Tryz.zeroValue5
 t9:=Tryz.underlying9
 a9:=Tryz.isAgg9
 z9:=Tryz.sizeOf9
 v9:=Tryz.zeroValue9
 t46:=Tryz.underlying119
 a46:=Tryz.isAgg119
 z46:=Tryz.sizeOf119
 v46:=Tryz.zeroValue119
 t51:=Tryz.underlying22
 a51:=Tryz.isAgg22
 z51:=Tryz.sizeOf22
 v51:=Tryz.zeroValue22
 t146:=Tryz.underlying146
 a146:=Tryz.isAgg146
 z146:=Tryz.sizeOf146
 v146:=Tryz.zeroValue146
 g1:=by kernel_rfl }
open Go.RowKit Go.Lib in
def Tryz.strings_Index_one(s:ByteArray)(c:UInt8)(w:World) :
  Calls Tryz.prog 65 #[.string s,.string ⟨#[c]⟩] w fun e w'=>e=.returned (.int .i64 (Lib.indexByte s.data.toList c))/\w'=w:=Any.strings_Index_one Tryz.lays143 s c w
def Tryz.lays144_ren:Go.Shelf.Ren:=⟨fun|144=>78|143=>65|219=>97|217=>114|225=>115|224=>116|267=>117|266=>132|314=>133|n=>n,fun|9=>9|4=>4|3=>3|5=>5|46=>119|146=>146|51=>22|n=>n,fun|1=>2|n=>n⟩
def Tryz.lays144:Go.Proofs.Lays.n144 Tryz.prog Tryz.lays144_ren:={
 mixed:=D9
 f143:=J4 Tryz.func65
 f144:=J4 Tryz.func78
 f217:=J4 Tryz.func114
 f219:=J4 Tryz.func97
 f224:=J4 Tryz.func116
 f225:=J4 Tryz.func115
 f266:=J4 Tryz.func132
 f267:=J4 Tryz.func117
 f314:=J4 Tryz.func133
 t3:=Tryz.underlying3
 a3:=Tryz.isAgg3
 z3:=Tryz.sizeOf3
 v3:=Tryz.zeroValue3
 t4:=Tryz.underlying4
 a4:=Tryz.isAgg4
 z4:=Tryz.sizeOf4
 v4:=Tryz.zeroValue4
 t5:=Tryz.underlying5
 a5:=Tryz.isAgg5
 z5:=Tryz.sizeOf5
 v5:=Tryz.zeroValue5
 t9:=Tryz.underlying9
 a9:=Tryz.isAgg9
 z9:=Tryz.sizeOf9
 v9:=Tryz.zeroValue9
 t46:=Tryz.underlying119
 a46:=Tryz.isAgg119
 z46:=Tryz.sizeOf119
 v46:=Tryz.zeroValue119
 t51:=Tryz.underlying22
 a51:=Tryz.isAgg22
 z51:=Tryz.sizeOf22
 v51:=Tryz.zeroValue22
 t146:=Tryz.underlying146
 a146:=Tryz.isAgg146
 z146:=Tryz.sizeOf146
 v146:=Tryz.zeroValue146
 g1:=by kernel_rfl }
open Go.RowKit Go.Lib in
def Tryz.strings_Contains_one(s:ByteArray)(c:UInt8)(w:World) :
  Calls Tryz.prog 78 #[.string s,.string ⟨#[c]⟩] w fun e w'=>e=.returned (.bool (decide (0<=Lib.indexByte s.data.toList c)))/\w'=w:=Any.strings_Contains_one Tryz.lays144 s c w
def Tryz.lays138_ren:Go.Shelf.Ren:=⟨fun|138=>29|195=>63|218=>64|143=>65|219=>97|217=>114|225=>115|224=>116|267=>117|266=>132|314=>133|n=>n,fun|9=>9|3=>3|4=>4|5=>5|0=>0|46=>119|146=>146|51=>22|n=>n,fun|1=>2|n=>n⟩
def Tryz.lays138:Go.Proofs.Lays.n138 Tryz.prog Tryz.lays138_ren:={
 mixed:=D9
 f138:=J4 Tryz.func29
 f143:=J4 Tryz.func65
 f195:=J4 Tryz.func63
 f217:=J4 Tryz.func114
 f218:=J4 Tryz.func64
 f219:=J4 Tryz.func97
 f224:=J4 Tryz.func116
 f225:=J4 Tryz.func115
 f266:=J4 Tryz.func132
 f267:=J4 Tryz.func117
 f314:=J4 Tryz.func133
 t0:=Tryz.underlying0
 a0:=Tryz.isAgg0
 z0:=Tryz.sizeOf0
 v0:=Tryz.zeroValue0
 t3:=Tryz.underlying3
 a3:=Tryz.isAgg3
 z3:=Tryz.sizeOf3
 v3:=Tryz.zeroValue3
 t4:=Tryz.underlying4
 a4:=Tryz.isAgg4
 z4:=Tryz.sizeOf4
 v4:=Tryz.zeroValue4
 t5:=Tryz.underlying5
 a5:=Tryz.isAgg5
 z5:=Tryz.sizeOf5
 v5:=Tryz.zeroValue5
 t9:=Tryz.underlying9
 a9:=Tryz.isAgg9
 z9:=Tryz.sizeOf9
 v9:=Tryz.zeroValue9
 t46:=Tryz.underlying119
 a46:=Tryz.isAgg119
 z46:=Tryz.sizeOf119
 v46:=Tryz.zeroValue119
 t51:=Tryz.underlying22
 a51:=Tryz.isAgg22
 z51:=Tryz.sizeOf22
 v51:=Tryz.zeroValue22
 t146:=Tryz.underlying146
 a146:=Tryz.isAgg146
 z146:=Tryz.sizeOf146
 v146:=Tryz.zeroValue146
 g1:=by kernel_rfl }
open Go.RowKit Go.Lib in
def Tryz.strings_Count_one(s:ByteArray)(c:UInt8)(w:World) :
  Calls Tryz.prog 29 #[.string s,.string ⟨#[c]⟩] w fun e w'=>e=.returned (.int .i64 (Lib.countByte s.data.toList c))/\w'=w:=Any.strings_Count_one Tryz.lays138 s c w
def Tryz.laysM145_ren:Go.Shelf.Ren:=⟨fun|145=>91|220=>111|219=>97|217=>114|225=>115|224=>116|267=>117|266=>132|314=>133|n=>n,fun|9=>9|4=>4|59=>99|3=>3|5=>5|46=>119|146=>146|51=>22|n=>n,fun|1=>2|n=>n⟩
def Tryz.laysM145:Go.Proofs.LaysM.n145 Tryz.prog Tryz.laysM145_ren:={
 mixed:=D9
 f145:=J4 Tryz.func91
 f217:=J4 Tryz.func114
 f219:=J4 Tryz.func97
 f220:=J4 Tryz.func111
 f224:=J4 Tryz.func116
 f225:=J4 Tryz.func115
 f266:=J4 Tryz.func132
 f267:=J4 Tryz.func117
 f314:=J4 Tryz.func133
 t3:=Tryz.underlying3
 a3:=Tryz.isAgg3
 z3:=Tryz.sizeOf3
 v3:=Tryz.zeroValue3
 t4:=Tryz.underlying4
 a4:=Tryz.isAgg4
 z4:=Tryz.sizeOf4
 v4:=Tryz.zeroValue4
 t5:=Tryz.underlying5
 a5:=Tryz.isAgg5
 z5:=Tryz.sizeOf5
 v5:=Tryz.zeroValue5
 t9:=Tryz.underlying9
 a9:=Tryz.isAgg9
 z9:=Tryz.sizeOf9
 v9:=Tryz.zeroValue9
 t46:=Tryz.underlying119
 a46:=Tryz.isAgg119
 z46:=Tryz.sizeOf119
 v46:=Tryz.zeroValue119
 t51:=Tryz.underlying22
 a51:=Tryz.isAgg22
 z51:=Tryz.sizeOf22
 v51:=Tryz.zeroValue22
 t59:=Tryz.underlying99
 a59:=Tryz.isAgg99
 z59:=Tryz.sizeOf99
 v59:=Tryz.zeroValue99
 t146:=Tryz.underlying146
 a146:=Tryz.isAgg146
 z146:=Tryz.sizeOf146
 v146:=Tryz.zeroValue146
 g1:=D9
 i3:=D9
 i4:=D9
 i5:=D9
 i9:=D9
 i46:=D9
 i51:=D9
 i59:=D9
 i146:=D9
 m1:=D9
 s1_3:=fun w h=>Go.Proofs.cell_of_shapedOpen_int (zero:=#[.int .i64 0]) (t:=3) h (K3 D9) D9 rfl D9 D9 Tryz.underlying3 }
open Go.RowKit Go.Lib in
def Tryz.strings_Cut_shaped(s sep:ByteArray)(w:World)(h:w.ShapedOpen Tryz.prog)(a:s.size<4294967281) :
  Calls Tryz.prog 91 #[.string s,.string sep] w fun e w'=>e=.returned (.tuple #[.string ⟨(Lib.cut s.data.toList sep.data.toList).1.toArray⟩,.string ⟨(Lib.cut s.data.toList sep.data.toList).2.1.toArray⟩,.bool (Lib.cut s.data.toList sep.data.toList).2.2])/\∃ n,w'=w.drewN n:=Any.strings_Cut_shaped Tryz.laysM145 s sep w h a
def Tryz.lays105_ren:Go.Shelf.Ren:=⟨fun|105=>34|212=>70|99=>71|165=>72|166=>57|170=>73|169=>59|263=>101|264=>102|206=>103|240=>92|241=>104|276=>112|277=>122|n=>n,fun|9=>9|3=>3|4=>4|20=>20|0=>0|46=>119|109=>120|5=>5|72=>103|76=>106|51=>22|146=>146|53=>132|148=>148|70=>101|37=>26|75=>105|127=>137|164=>155|80=>109|n=>n,fun|n=>n⟩
def Tryz.lays105:Go.Proofs.Lays.n105 Tryz.prog Tryz.lays105_ren:={
 mixed:=D9
 f99:=J4 Tryz.func71
 f105:=J4 Tryz.func34
 f165:=J4 Tryz.func72
 f166:=J4 Tryz.func57
 f169:=J4 Tryz.func59
 f170:=J4 Tryz.func73
 f206:=J4 Tryz.func103
 f212:=J4 Tryz.func70
 f240:=J4 Tryz.func92
 f241:=J4 Tryz.func104
 f263:=J4 Tryz.func101
 f264:=J4 Tryz.func102
 f276:=J4 Tryz.func112
 f277:=J4 Tryz.func122
 t0:=Tryz.underlying0
 a0:=Tryz.isAgg0
 z0:=Tryz.sizeOf0
 v0:=Tryz.zeroValue0
 t3:=Tryz.underlying3
 a3:=Tryz.isAgg3
 z3:=Tryz.sizeOf3
 v3:=Tryz.zeroValue3
 t4:=Tryz.underlying4
 a4:=Tryz.isAgg4
 z4:=Tryz.sizeOf4
 v4:=Tryz.zeroValue4
 t5:=Tryz.underlying5
 a5:=Tryz.isAgg5
 z5:=Tryz.sizeOf5
 v5:=Tryz.zeroValue5
 t9:=Tryz.underlying9
 a9:=Tryz.isAgg9
 z9:=Tryz.sizeOf9
 v9:=Tryz.zeroValue9
 t20:=Tryz.underlying20
 a20:=Tryz.isAgg20
 z20:=Tryz.sizeOf20
 v20:=Tryz.zeroValue20
 t37:=Tryz.underlying26
 a37:=Tryz.isAgg26
 z37:=Tryz.sizeOf26
 v37:=Tryz.zeroValue26
 t46:=Tryz.underlying119
 a46:=Tryz.isAgg119
 z46:=Tryz.sizeOf119
 v46:=Tryz.zeroValue119
 t51:=Tryz.underlying22
 a51:=Tryz.isAgg22
 z51:=Tryz.sizeOf22
 v51:=Tryz.zeroValue22
 t53:=Tryz.underlying132
 a53:=Tryz.isAgg132
 z53:=Tryz.sizeOf132
 v53:=Tryz.zeroValue132
 t70:=Tryz.underlying101
 a70:=Tryz.isAgg101
 z70:=Tryz.sizeOf101
 v70:=Tryz.zeroValue101
 t72:=Tryz.underlying103
 a72:=Tryz.isAgg103
 z72:=Tryz.sizeOf103
 v72:=Tryz.zeroValue103
 t75:=Tryz.underlying105
 a75:=Tryz.isAgg105
 z75:=Tryz.sizeOf105
 v75:=Tryz.zeroValue105
 t76:=Tryz.underlying106
 a76:=Tryz.isAgg106
 z76:=Tryz.sizeOf106
 v76:=Tryz.zeroValue106
 t109:=Tryz.underlying120
 a109:=Tryz.isAgg120
 z109:=Tryz.sizeOf120
 v109:=Tryz.zeroValue120
 t127:=Tryz.underlying137
 a127:=Tryz.isAgg137
 z127:=Tryz.sizeOf137
 v127:=Tryz.zeroValue137
 t146:=Tryz.underlying146
 a146:=Tryz.isAgg146
 z146:=Tryz.sizeOf146
 v146:=Tryz.zeroValue146
 t148:=Tryz.underlying148
 a148:=Tryz.isAgg148
 z148:=Tryz.sizeOf148
 v148:=Tryz.zeroValue148
 t164:=Tryz.underlying155
 a164:=Tryz.isAgg155
 z164:=Tryz.sizeOf155
 v164:=Tryz.zeroValue155 }
def Tryz.Builder_Extra_105:Builder.Extra Tryz.prog Tryz.lays105_ren:={
 sizeBuilder:=D9
 liesBuilder:=D9
 t5:=Tryz.underlying5
 a5:=Tryz.isAgg5
 z5:=Tryz.sizeOf5
 v5:=Tryz.zeroValue5
 infoByte:=D9
 cellsByte:=D9
 sizeByte:=D9
 neB5:=by decide }
open Go.RowKit Go.Lib in
def Tryz.strings_Repeat(s:ByteArray)(c:Nat)(w:World)(a:c<=9223372036854775807)(hlen:s.size*c<=140737488355328) :
  Calls Tryz.prog 34 #[.string s,.int .i64 c] w fun e w'=>e=.returned (.string ⟨(Lib.repeatL s.data.toList c).toArray⟩)/\Below w.heap.size w w':=Any.strings_Repeat Tryz.lays105 Tryz.Builder_Extra_105 s c w a hlen
end Go.Proofs
namespace Go.Proofs.YtbbicpheoakeeaaGreatDoor
open Go Go.Sx Go.Proofs.Tryz
variable {i j:Int}
def gl:Nat:=13
def n0:Nat:=16
def iE:List (Nat×List Value):=[(10,[.int .u8 (0),.int .u8 (1),.int .u8 (28),.int .u8 (2),.int .u8 (29),.int .u8 (14),.int .u8 (24),.int .u8 (3),.int .u8 (30),.int .u8 (22),.int .u8 (20),.int .u8 (15),.int .u8 (25),.int .u8 (17),.int .u8 (4),.int .u8 (8),.int .u8 (31),.int .u8 (27),.int .u8 (13),.int .u8 (23),.int .u8 (21),.int .u8 (19),.int .u8 (16),.int .u8 (7),.int .u8 (26),.int .u8 (12),.int .u8 (18),.int .u8 (6),.int .u8 (11),.int .u8 (5),.int .u8 (10),.int .u8 (9)]),
 (11,[.int .u8 (0),.int .u8 (1),.int .u8 (56),.int .u8 (2),.int .u8 (57),.int .u8 (49),.int .u8 (28),.int .u8 (3),.int .u8 (61),.int .u8 (58),.int .u8 (42),.int .u8 (50),.int .u8 (38),.int .u8 (29),.int .u8 (17),.int .u8 (4),.int .u8 (62),.int .u8 (47),.int .u8 (59),.int .u8 (36),.int .u8 (45),.int .u8 (43),.int .u8 (51),.int .u8 (22),.int .u8 (53),.int .u8 (39),.int .u8 (33),.int .u8 (30),.int .u8 (24),.int .u8 (18),.int .u8 (12),.int .u8 (5),.int .u8 (63),.int .u8 (55),.int .u8 (48),.int .u8 (27),.int .u8 (60),.int .u8 (41),.int .u8 (37),.int .u8 (16),.int .u8 (46),.int .u8 (35),.int .u8 (44),.int .u8 (21),.int .u8 (52),.int .u8 (32),.int .u8 (23),.int .u8 (11),.int .u8 (54),.int .u8 (26),.int .u8 (40),.int .u8 (15),.int .u8 (34),.int .u8 (20),.int .u8 (31),.int .u8 (10),.int .u8 (25),.int .u8 (14),.int .u8 (19),.int .u8 (9),.int .u8 (13),.int .u8 (8),.int .u8 (7),.int .u8 (6)]),
 (6,[.int .u64 (1),.int .u64 (10),.int .u64 (100),.int .u64 (1000),.int .u64 (10000),.int .u64 (100000),.int .u64 (1000000),.int .u64 (10000000),.int .u64 (100000000),.int .u64 (1000000000),.int .u64 (10000000000),.int .u64 (100000000000),.int .u64 (1000000000000),.int .u64 (10000000000000),.int .u64 (100000000000000),.int .u64 (1000000000000000),.int .u64 (10000000000000000),.int .u64 (100000000000000000),.int .u64 (1000000000000000000),.int .u64 (10000000000000000000)]),
 (8,[.int .u8 (128),.int .u8 (191),.int .u8 (160),.int .u8 (191),.int .u8 (128),.int .u8 (159),.int .u8 (144),.int .u8 (191),.int .u8 (128),.int .u8 (143),.int .u8 (0),.int .u8 (0),.int .u8 (0),.int .u8 (0),.int .u8 (0),.int .u8 (0),.int .u8 (0),.int .u8 (0),.int .u8 (0),.int .u8 (0),.int .u8 (0),.int .u8 (0),.int .u8 (0),.int .u8 (0),.int .u8 (0),.int .u8 (0),.int .u8 (0),.int .u8 (0),.int .u8 (0),.int .u8 (0),.int .u8 (0),.int .u8 (0)]),
 (5,[one]),
 (4,[one]),
 (1,[.int .u8 (0),.int .u8 (0),.int .u8 (0),.int .u8 (0),.int .u8 (0),.int .u8 (0),.int .u8 (0),.int .u8 (0),.int .u8 (0),.int .u8 (1),.int .u8 (1),.int .u8 (1),.int .u8 (1),.int .u8 (1),.int .u8 (0),.int .u8 (0),.int .u8 (0),.int .u8 (0),.int .u8 (0),.int .u8 (0),.int .u8 (0),.int .u8 (0),.int .u8 (0),.int .u8 (0),.int .u8 (0),.int .u8 (0),.int .u8 (0),.int .u8 (0),.int .u8 (0),.int .u8 (0),.int .u8 (0),.int .u8 (0),.int .u8 (1),.int .u8 (0),.int .u8 (0),.int .u8 (0),.int .u8 (0),.int .u8 (0),.int .u8 (0),.int .u8 (0),.int .u8 (0),.int .u8 (0),.int .u8 (0),.int .u8 (0),.int .u8 (0),.int .u8 (0),.int .u8 (0),.int .u8 (0),.int .u8 (0),.int .u8 (0),.int .u8 (0),.int .u8 (0),.int .u8 (0),.int .u8 (0),.int .u8 (0),.int .u8 (0),.int .u8 (0),.int .u8 (0),.int .u8 (0),.int .u8 (0),.int .u8 (0),.int .u8 (0),.int .u8 (0),.int .u8 (0),.int .u8 (0),.int .u8 (0),.int .u8 (0),.int .u8 (0),.int .u8 (0),.int .u8 (0),.int .u8 (0),.int .u8 (0),.int .u8 (0),.int .u8 (0),.int .u8 (0),.int .u8 (0),.int .u8 (0),.int .u8 (0),.int .u8 (0),.int .u8 (0),.int .u8 (0),.int .u8 (0),.int .u8 (0),.int .u8 (0),.int .u8 (0),.int .u8 (0),.int .u8 (0),.int .u8 (0),.int .u8 (0),.int .u8 (0),.int .u8 (0),.int .u8 (0),.int .u8 (0),.int .u8 (0),.int .u8 (0),.int .u8 (0),.int .u8 (0),.int .u8 (0),.int .u8 (0),.int .u8 (0),.int .u8 (0),.int .u8 (0),.int .u8 (0),.int .u8 (0),.int .u8 (0),.int .u8 (0),.int .u8 (0),.int .u8 (0),.int .u8 (0),.int .u8 (0),.int .u8 (0),.int .u8 (0),.int .u8 (0),.int .u8 (0),.int .u8 (0),.int .u8 (0),.int .u8 (0),.int .u8 (0),.int .u8 (0),.int .u8 (0),.int .u8 (0),.int .u8 (0),.int .u8 (0),.int .u8 (0),.int .u8 (0),.int .u8 (0),.int .u8 (0),.int .u8 (0),.int .u8 (0),.int .u8 (0),.int .u8 (0),.int .u8 (0),.int .u8 (0),.int .u8 (0),.int .u8 (0),.int .u8 (0),.int .u8 (0),.int .u8 (0),.int .u8 (0),.int .u8 (0),.int .u8 (0),.int .u8 (0),.int .u8 (0),.int .u8 (0),.int .u8 (0),.int .u8 (0),.int .u8 (0),.int .u8 (0),.int .u8 (0),.int .u8 (0),.int .u8 (0),.int .u8 (0),.int .u8 (0),.int .u8 (0),.int .u8 (0),.int .u8 (0),.int .u8 (0),.int .u8 (0),.int .u8 (0),.int .u8 (0),.int .u8 (0),.int .u8 (0),.int .u8 (0),.int .u8 (0),.int .u8 (0),.int .u8 (0),.int .u8 (0),.int .u8 (0),.int .u8 (0),.int .u8 (0),.int .u8 (0),.int .u8 (0),.int .u8 (0),.int .u8 (0),.int .u8 (0),.int .u8 (0),.int .u8 (0),.int .u8 (0),.int .u8 (0),.int .u8 (0),.int .u8 (0),.int .u8 (0),.int .u8 (0),.int .u8 (0),.int .u8 (0),.int .u8 (0),.int .u8 (0),.int .u8 (0),.int .u8 (0),.int .u8 (0),.int .u8 (0),.int .u8 (0),.int .u8 (0),.int .u8 (0),.int .u8 (0),.int .u8 (0),.int .u8 (0),.int .u8 (0),.int .u8 (0),.int .u8 (0),.int .u8 (0),.int .u8 (0),.int .u8 (0),.int .u8 (0),.int .u8 (0),.int .u8 (0),.int .u8 (0),.int .u8 (0),.int .u8 (0),.int .u8 (0),.int .u8 (0),.int .u8 (0),.int .u8 (0),.int .u8 (0),.int .u8 (0),.int .u8 (0),.int .u8 (0),.int .u8 (0),.int .u8 (0),.int .u8 (0),.int .u8 (0),.int .u8 (0),.int .u8 (0),.int .u8 (0),.int .u8 (0),.int .u8 (0),.int .u8 (0),.int .u8 (0),.int .u8 (0),.int .u8 (0),.int .u8 (0),.int .u8 (0),.int .u8 (0),.int .u8 (0),.int .u8 (0),.int .u8 (0),.int .u8 (0),.int .u8 (0),.int .u8 (0),.int .u8 (0),.int .u8 (0),.int .u8 (0),.int .u8 (0),.int .u8 (0),.int .u8 (0),.int .u8 (0),.int .u8 (0),.int .u8 (0),.int .u8 (0),.int .u8 (0),.int .u8 (0),.int .u8 (0),.int .u8 (0),.int .u8 (0),.int .u8 (0),.int .u8 (0)]),
 (0,[.int .i64 (4),.string ⟨⟨[67,45]⟩⟩,.int .i64 (2),.string ⟨⟨[77,45]⟩⟩,.int .i64 (1),.string ⟨⟨[83,45]⟩⟩]),
 (7,[.int .u8 (240),.int .u8 (240),.int .u8 (240),.int .u8 (240),.int .u8 (240),.int .u8 (240),.int .u8 (240),.int .u8 (240),.int .u8 (240),.int .u8 (240),.int .u8 (240),.int .u8 (240),.int .u8 (240),.int .u8 (240),.int .u8 (240),.int .u8 (240),.int .u8 (240),.int .u8 (240),.int .u8 (240),.int .u8 (240),.int .u8 (240),.int .u8 (240),.int .u8 (240),.int .u8 (240),.int .u8 (240),.int .u8 (240),.int .u8 (240),.int .u8 (240),.int .u8 (240),.int .u8 (240),.int .u8 (240),.int .u8 (240),.int .u8 (240),.int .u8 (240),.int .u8 (240),.int .u8 (240),.int .u8 (240),.int .u8 (240),.int .u8 (240),.int .u8 (240),.int .u8 (240),.int .u8 (240),.int .u8 (240),.int .u8 (240),.int .u8 (240),.int .u8 (240),.int .u8 (240),.int .u8 (240),.int .u8 (240),.int .u8 (240),.int .u8 (240),.int .u8 (240),.int .u8 (240),.int .u8 (240),.int .u8 (240),.int .u8 (240),.int .u8 (240),.int .u8 (240),.int .u8 (240),.int .u8 (240),.int .u8 (240),.int .u8 (240),.int .u8 (240),.int .u8 (240),.int .u8 (240),.int .u8 (240),.int .u8 (240),.int .u8 (240),.int .u8 (240),.int .u8 (240),.int .u8 (240),.int .u8 (240),.int .u8 (240),.int .u8 (240),.int .u8 (240),.int .u8 (240),.int .u8 (240),.int .u8 (240),.int .u8 (240),.int .u8 (240),.int .u8 (240),.int .u8 (240),.int .u8 (240),.int .u8 (240),.int .u8 (240),.int .u8 (240),.int .u8 (240),.int .u8 (240),.int .u8 (240),.int .u8 (240),.int .u8 (240),.int .u8 (240),.int .u8 (240),.int .u8 (240),.int .u8 (240),.int .u8 (240),.int .u8 (240),.int .u8 (240),.int .u8 (240),.int .u8 (240),.int .u8 (240),.int .u8 (240),.int .u8 (240),.int .u8 (240),.int .u8 (240),.int .u8 (240),.int .u8 (240),.int .u8 (240),.int .u8 (240),.int .u8 (240),.int .u8 (240),.int .u8 (240),.int .u8 (240),.int .u8 (240),.int .u8 (240),.int .u8 (240),.int .u8 (240),.int .u8 (240),.int .u8 (240),.int .u8 (240),.int .u8 (240),.int .u8 (240),.int .u8 (240),.int .u8 (240),.int .u8 (240),.int .u8 (240),.int .u8 (240),.int .u8 (240),.int .u8 (241),.int .u8 (241),.int .u8 (241),.int .u8 (241),.int .u8 (241),.int .u8 (241),.int .u8 (241),.int .u8 (241),.int .u8 (241),.int .u8 (241),.int .u8 (241),.int .u8 (241),.int .u8 (241),.int .u8 (241),.int .u8 (241),.int .u8 (241),.int .u8 (241),.int .u8 (241),.int .u8 (241),.int .u8 (241),.int .u8 (241),.int .u8 (241),.int .u8 (241),.int .u8 (241),.int .u8 (241),.int .u8 (241),.int .u8 (241),.int .u8 (241),.int .u8 (241),.int .u8 (241),.int .u8 (241),.int .u8 (241),.int .u8 (241),.int .u8 (241),.int .u8 (241),.int .u8 (241),.int .u8 (241),.int .u8 (241),.int .u8 (241),.int .u8 (241),.int .u8 (241),.int .u8 (241),.int .u8 (241),.int .u8 (241),.int .u8 (241),.int .u8 (241),.int .u8 (241),.int .u8 (241),.int .u8 (241),.int .u8 (241),.int .u8 (241),.int .u8 (241),.int .u8 (241),.int .u8 (241),.int .u8 (241),.int .u8 (241),.int .u8 (241),.int .u8 (241),.int .u8 (241),.int .u8 (241),.int .u8 (241),.int .u8 (241),.int .u8 (241),.int .u8 (241),.int .u8 (241),.int .u8 (241),.int .u8 (2),.int .u8 (2),.int .u8 (2),.int .u8 (2),.int .u8 (2),.int .u8 (2),.int .u8 (2),.int .u8 (2),.int .u8 (2),.int .u8 (2),.int .u8 (2),.int .u8 (2),.int .u8 (2),.int .u8 (2),.int .u8 (2),.int .u8 (2),.int .u8 (2),.int .u8 (2),.int .u8 (2),.int .u8 (2),.int .u8 (2),.int .u8 (2),.int .u8 (2),.int .u8 (2),.int .u8 (2),.int .u8 (2),.int .u8 (2),.int .u8 (2),.int .u8 (2),.int .u8 (2),.int .u8 (19),.int .u8 (3),.int .u8 (3),.int .u8 (3),.int .u8 (3),.int .u8 (3),.int .u8 (3),.int .u8 (3),.int .u8 (3),.int .u8 (3),.int .u8 (3),.int .u8 (3),.int .u8 (3),.int .u8 (35),.int .u8 (3),.int .u8 (3),.int .u8 (52),.int .u8 (4),.int .u8 (4),.int .u8 (4),.int .u8 (68),.int .u8 (241),.int .u8 (241),.int .u8 (241),.int .u8 (241),.int .u8 (241),.int .u8 (241),.int .u8 (241),.int .u8 (241),.int .u8 (241),.int .u8 (241),.int .u8 (241)])]
def H0:Hp AB:=mkH iE
def A1E:prog.follows .mixedOrders=true:=D9
def A1D:DV prog:=by
 have h:(prog.funcs.toList.all fun fn=>!(fn.name == "runtime.NumGoroutine"))=true:=D9;intro f fn a;have h1:=D2.1 h fn (Array.mem_def.1 (Array.mem_of_getElem? a))
 simpa using h1
def A4w:List (FuncId×EK):=[(132,.indexByteString),(64,.countString),(112,.noEscape),(122,.makeNoZero 5)]
def A6B:∀ p ∈ A4w,xQ prog p.1 p.2:=by
 intro p hp;unfold A4w at hp;rcases B4.1 hp with rfl|hp
 .exact⟨⟨_,rfl,by kernel_rfl,by kernel_rfl,by kernel_rfl,.inr (.inl ⟨rfl,by kernel_rfl⟩)⟩⟩
 rcases B4.1 hp with rfl|hp
 .exact⟨⟨_,rfl,by kernel_rfl,by kernel_rfl,by kernel_rfl,.inr (.inr (.inl ⟨rfl,by kernel_rfl⟩))⟩⟩
 rcases B4.1 hp with rfl|hp
 .exact⟨⟨_,rfl,by kernel_rfl,by kernel_rfl,by kernel_rfl,.inl ⟨rfl,by kernel_rfl⟩⟩⟩
 rcases B4.1 hp with rfl|hp
 .exact⟨⟨_,rfl,by kernel_rfl,by kernel_rfl,by kernel_rfl,.inr (.inr (.inr ⟨_,_,_,rfl,rfl,by kernel_rfl,by kernel_rfl⟩))⟩⟩
 cases hp
noncomputable abbrev cx(l:List (FuncId×FnC))(a:List LpE):Cx:=⟨prog,A4w,gl,RU l,lpT a⟩
def cxg{G:Nat->Option Obj}{l:List (FuncId×FnC)}{a:List LpE}(h:gZ prog G gl l)(k:v8 prog G gl a):CxG (cx l a) G:=A1u A1E A1D A6B h k
abbrev A85:=Int×Int×Int×Int×Int×Int×Int×List UInt8
abbrev SD:=Option (List Int)
abbrev B7:=List UInt8
abbrev N9(G:Nat->Option Obj):Prop:=t7 Tryz.prog G gl H0 n0
abbrev X8:={L:List (FuncId×FnC) // ∀ {G:Nat->Option Obj},N9 G->gZ Tryz.prog G gl L}
def L0:List (FuncId×FnC):=[]
def A30{G:Nat->Option Obj}(a:t7 prog G gl H0 n0):gZ prog G gl L0:=.nil
def rB:Rw Int:=r1 (W8 .u8)
def okU(c:Int):Prop:=0<=c/\c<=1114111/\¬(55296<=c/\c<=57343)
instance(c:Int):Decidable (okU c):=by unfold okU;infer_instance
def gW(c:Int):Int:=if c=32 then 0 else if c=105∨c=109 then -1 else if 97<=c/\c<=122 then c-96 else if 92<=c/\c<=95 then c-64 else -1
def chP(c:Int):Prop:=okU c/\32<=c/\¬(127<=c/\c<=159)
instance(c:Int):Decidable (chP c):=by unfold chP;infer_instance
def mF(c m:Int):Prop:=(chP c/\(m=0∨(m=2/\c≠91/\c≠79)∨(0<=gW c/\(m=4∨m=6))))∨(1114113<=c/\c<=1114134/\0<=m/\m<=7)∨((c=1114135∨c=1114137)/\(m=0∨m=2))∨(c=1114136/\(m=0∨m=1∨m=2))∨(c=1114138/\m=0)
instance(c m:Int):Decidable (mF c m):=by unfold mF;infer_instance
def l2{a b:Int}{c d:Bool}(h:a=b)(k:c=d):[U.int .u8 a,U.bool c]=[U.int .u8 b,U.bool d]:=by rw[h,k]
def l1{c d:Bool}(k:c=d):[U.bool c]=[U.bool d]:=by rw[k]
def l0{c d:Int}(k:c=d):[U.int .i64 c]=[U.int .i64 d]:=by rw[k]
def IF:List U->Option (Nat×List U)
 | [.int .i64 c]=>some (0,[.int .u8 (if 0<=gW c then gW c else 0),.bool (decide (0<=gW c))])
 | _=>none
def A1x(c:Int):IF [.int .i64 c]=some (0,[.int .u8 (if 0<=gW c then gW c else 0),.bool (decide (0<=gW c))]):=rfl
def ZC(n:Nat):Tr:=.lt 3 (.bin .and) [h3 0,jI 31]<|.lt 4 (.conv .u8) [h3 n]<|.ret [h (n+1) 4,.bool true]
def R7(a0:Nat)(c:Nat)(a2:Int)(a b:Tr):Tr:=aQ [h3 a0,jI a2]<|.br c a b
def K5(a0:Nat)(c:Nat)(a2:Int)(a b:Tr):Tr:=aH [h3 a0,jI a2]<|.br c a b
def ZB(n:Nat):Tr:=K5 0 n 92 (R7 0 (n+1) 95 (ZC (n+2)) (.ret [.int .u8 (0),.bool false])) (.ret [.int .u8 (0),.bool false])
def K0(a0:Nat)(c:Nat)(a2:Int)(a b:Tr):Tr:=aE [h3 a0,jI a2]<|.br c a b
def A3h:Tr:=K0 0 1 32 (.ret [.int .u8 (0),.bool true]) (K0 0 2 105 (.ret [.int .u8 (0),.bool false]) (K0 0 3 109 (.ret [.int .u8 (0),.bool false]) (K5 0 4 97 (R7 0 5 122 (ZC 6) (ZB 6)) (ZB 5))))
def A3i{G}(a:N9 G):M7 prog G 106 [.s 3] IF [.s 4,.s 8]:=by
 refine H6 (C:=cx L0 []) (d:=60) A3h (cxg (A30 a) .nil) a ⟨f106,_,func106,rfl⟩ D9 D9 ?_;intro us outs b;unfold IF at b;split at b
 .skip;rename_i c;cases b;unfold A3h;refine w0 (.cons 0 _ (.nil)) ?_;repeat (first|(refine w7 [.int .u8 _,.bool _] ?_;rotate_left)|refine w4 (fun g=>?_) fun g=>?_|refine MN ?_|refine BN ?_|refine nV ?_|refine mR ?_|refine uL ?_|refine w1 (.bin .and) (e:=PE 5 32 F7 F7 F7) (k':=?_))
  all_goals
   refine l2 ?_ ?_
   ·(unfold gW;(repeat' split)<;>omega)
   .symm;first|exact L1 (by(unfold gW;(repeat' split)<;>omega))|exact E9 (by(unfold gW;(repeat' split)<;>omega))
 .cases b
noncomputable def A7m:X8:=⟨_,fun a=>.cons (A3i a) (A30 a)⟩
def FN:List U->Option (Nat×List U)
 | [.int .i64 c]=>some (0,[.int .i64 (gW c)])
 | _=>none
def A0x(c:Int):FN [.int .i64 c]=some (0,[.int .i64 (gW c)]):=rfl
def J7(a0:Int):Tr:=.ret [jI a0]
def BY(n:Nat):Tr:=K5 0 n 92 (R7 0 (n+1) 95 (aS [h3 0,jI 92]<|aA [h3 (n+2),jI 28]<|.ret [h3 (n+3)]) (J7 (-1))) (J7 (-1))
def y0(a0:Nat)(c:Nat)(a2:Int)(a b:Tr):Tr:=aN [h3 a0,jI a2]<|.br c a b
def A2g:Tr:=K0 0 1 32 (J7 0) (K5 0 2 97 (R7 0 3 122 (y0 0 4 105 (y0 0 5 109 (aS [h3 0,jI 97]<|aA [h3 6,jI 1]<|.ret [h3 7]) (BY 6)) (BY 5)) (BY 4)) (BY 3))
def A5s{G}(a:N9 G):M7 prog G 83 [.s 3] FN [.s 3]:=by
 refine H6 (d:=60) A2g (cxg (A7m.2 a) .nil) a ⟨f83,_,func83,rfl⟩ D9 D9 ?_;intro us outs b;unfold FN at b;split at b
 .skip;rename_i c;cases b;unfold A2g;refine w0 (.cons 0 _ (.nil)) ?_;repeat (first|(refine w7 [.int .i64 _] ?_;rotate_left)|refine w4 (fun g=>?_) fun g=>?_|refine SR ?_|refine EM ?_|refine mB ?_|refine bY ?_|refine mR ?_|refine uL ?_|refine BM ?_|refine nV ?_)
  all_goals
   refine l0 ?_
   (unfold gW;(repeat' split)<;>omega)
 .cases b
def A3j(c:Int):(c=32/\gW c=0)∨((c=105∨c=109)/\gW c = -1)∨(97<=c/\c<=122/\c≠105/\c≠109/\gW c=c-96)∨(92<=c/\c<=95/\gW c=c-64)∨(c≠32/\¬(97<=c/\c<=122)/\¬(92<=c/\c<=95)/\gW c = -1):=by
 unfold gW
 (repeat' split)<;>omega
noncomputable def A6_:X8:=⟨_,fun a=>(.cons (A3i a) .nil)⟩
def EC:List U->Option (Nat×List U)
 | [.int .i64 c,.int .i64 m]=>if -9223372036854775808<=m/\m<=9223372036854775807 then some (0,[.bool (decide (mF c m))])else none
 | _=>none
def A0Y(c:Int)(m:Int)(a : -9223372036854775808<=m/\m<=9223372036854775807):EC [.int .i64 c,.int .i64 m]=some (0,[.bool (decide (mF c m))]):=A9 a
def I7:Tr:=.ret [.bool false]
def iZ(a0:Nat)(c:Int)(a2:Nat)(a b:Tr):Tr:=.lt 3 (.bin .and) [h3 a0,jI c]<|aN [h3 a2,jI 0]<|.br (a2+1) a b
def SL(n:Nat):Tr:=iZ 1 4 n (.fn IF [h3 0] 2<|.br (n+3) (.lt 3 (.bin .andNot) [h3 1,jI 6]<|aE [h3 (n+4),jI 0]<|.ret [h (n+5) 8]) (I7)) (K0 1 (n+2) 0 (.ret [.bool true]) (K0 1 (n+3) 2 (y0 0 (n+4) 91 (aN [h3 0,jI 79]<|.ret [h (n+5) 8]) I7) I7))
def JG(n:Nat):Tr:=K0 1 n 2 (.ret [.bool true]) (aE [h3 1,jI 0]<|.ret [h (n+1) 8])
def uI(n:Nat):Tr:=K0 0 n 1114136 (K0 1 (n+1) 1 (.ret [.bool true]) (JG (n+2))) (K0 0 (n+1) 1114135 (JG (n+2)) (K0 0 (n+2) 1114137 (JG (n+3)) (K0 0 (n+3) 1114138 (aE [h3 1,jI 0]<|.ret [h (n+4) 8]) (K5 0 (n+4) 1114113 (R7 0 (n+5) 1114134 (K5 1 (n+6) 0 (aQ [h3 1,jI 7]<|.ret [h (n+7) 8]) I7) I7) I7))))
def Q1(a0:Nat)(b:Nat)(c a:Tr):Tr:=aX [h a0 8]<|.br b c a
def A2J:Tr:=K5 0 2 0 (R7 0 3 1114111 (.lt 3 (.bin .shr) [h3 0,.int .u64 (11)]<|y0 4 5 27 (K5 0 6 32 (K5 0 7 127 (aQ [h3 0,jI 159]<|Q1 8 9 (SL 10) (uI 10)) (SL 8)) (uI 7)) (uI 6)) (uI 4)) (uI 3)
def A5b{G}(b:N9 G):M7 prog G 76 [.s 3,.s 3] EC [.s 8]:=by
 refine H6 (d:=60) A2J (cxg (A6_.2 b) .nil) b ⟨f76,_,func76,rfl⟩ D9 D9 ?_;intro us outs a;unfold EC at a;split at a
 .skip;rename_i c m;split at a
  .rename_i f;cases a;unfold A2J;refine w0 (.cons 1 _ (.cons 0 _ (.nil))) ?_;repeat (first|refine w4 (fun g=>?_) fun g=>?_|refine w4B (fun g=>?_) fun g=>?_|(refine w7 [.bool _] ?_;rotate_left)|refine nV ?_|refine mR ?_|refine uL ?_|refine BM ?_|refine w1 (.bin .and) (e:=PD _) (k':=?_)|refine w32 IF (e:=A1x _) (k':=?_)|refine w1 (.bin .andNot) (e:=A5C _) (k':=?_)|refine w1 (.bin .shr) (e:=OY 2048 F7 F7) (k':=?_)|refine fD ?_)
   all_goals
    have z0:=A0G m f.1 f.2;have k:=A3j c;refine l1 ?_;first|(refine decide_eq_decide.2 ?_;unfold mF chP okU;omega)|(symm;first|exact L1 (by unfold mF chP okU at *;omega)|exact E9 (by unfold mF chP okU at *;omega))
  .cases a
 .cases a
noncomputable def A7E:X8:=⟨_,fun a=>(.cons (A5s a) .nil)⟩
def A2Z:List U->Option (Nat×List U)
 | [.int .i64 c,.int .i64 m]=>if -9223372036854775808<=m/\m<=9223372036854775807 then some (0,[.bool (decide (mF c m))])else none
 | _=>none
def UJ(n:Nat):Tr:=K0 1 n 0 (.ret [.bool true]) (K0 1 (n+1) 2 (y0 0 (n+2) 91 (aN [h3 0,jI 79]<|.ret [h (n+3) 8]) I7) (.fn FN [h3 0] 1<|K5 (n+2) (n+3) 0 (K0 1 (n+4) 4 (.ret [.bool true]) (aE [h3 1,jI 6]<|.ret [h (n+5) 8])) I7))
def UI(n:Nat):Tr:=K0 1 n 0 (.ret [.bool true]) (aE [h3 1,jI 2]<|.ret [h (n+1) 8])
def UH(n:Nat):Tr:=K0 0 n 1114135 (UI (n+1)) (K0 0 (n+1) 1114137 (UI (n+2)) (K0 0 (n+2) 1114136 (K0 1 (n+3) 0 (.ret [.bool true]) (K0 1 (n+4) 1 (.ret [.bool true]) (aE [h3 1,jI 2]<|.ret [h (n+5) 8]))) (K0 0 (n+3) 1114138 (aE [h3 1,jI 0]<|.ret [h (n+4) 8]) I7)))
def vC(n:Nat):Tr:=K5 0 n 1114113 (R7 0 (n+1) 1114134 (K5 1 (n+2) 0 (aQ [h3 1,jI 7]<|.ret [h (n+3) 8]) I7) (UH (n+2))) (UH (n+1))
def UG(n:Nat):Tr:=K5 0 n 32 (K5 0 (n+1) 127 (aQ [h3 0,jI 159]<|Q1 (n+2) (n+3) (UJ (n+4)) (vC (n+4))) (UJ (n+2))) (vC (n+1))
def A2Y:Tr:=K5 0 2 0 (R7 0 3 1114111 (aL [h3 0,jI 55296]<|.br 4 (UG 5) (aG [h3 0,jI 57343]<|.br 5 (UG 6) (vC 6))) (vC 4)) (vC 3)
def A5o{G}(b:N9 G):M7 prog G 47 [.s 3,.s 3] A2Z [.s 8]:=by
 refine H6 (d:=60) A2Y (cxg (A7E.2 b) .nil) b ⟨f47,_,func47,rfl⟩ D9 D9 ?_;intro us outs a;unfold A2Z at a;split at a
 .skip;rename_i c m;split at a
  .rename_i f;cases a;unfold A2Y;refine w0 (.cons 1 _ (.cons 0 _ (.nil))) ?_;repeat (first|refine nV ?_|(refine w7 [.bool _] ?_;rotate_left)|refine w4 (fun g=>?_) fun g=>?_|refine mR ?_|refine uL ?_|refine BM ?_|refine w31 FN (e:=A0x _) (k':=?_)|refine fD ?_|refine mA ?_|refine QB ?_)
   all_goals
    have z0:=A0G m f.1 f.2;have k:=A3j c;refine l1 ?_;first|(refine decide_eq_decide.2 ?_;unfold mF chP okU;omega)|(symm;first|exact L1 (by unfold mF chP okU at *;omega)|exact E9 (by unfold mF chP okU at *;omega))
  .cases a
 .cases a
def msP(m w b r cl:Int):Prop:=0<=w/\w<=3/\0<=b/\b<=3/\(w=0->b<=2)/\(w=3->b<=1)/\0<=m/\m<=7/\0<=r/\r<=39/\0<=cl/\cl<=79
instance(m w b r cl:Int):Decidable (msP m w b r cl):=by unfold msP;infer_instance
def A26(m w b r cl:Int):msP m w b r cl↔(0<=b/\0<=m/\m<=7/\0<=r/\r<=39/\0<=cl/\cl<=79)/\((w=0/\b<=2)∨(w=1/\b<=3)∨(w=2/\b<=3)∨(w=3/\b<=1)):=by
 unfold msP;omega
def WF(w:Int):(w=0/\([2,3,3,1]:List Int).getD w.toNat 0=2)∨(w=1/\([2,3,3,1]:List Int).getD w.toNat 0=3)∨(w=2/\([2,3,3,1]:List Int).getD w.toNat 0=3)∨(w=3/\([2,3,3,1]:List Int).getD w.toNat 0=1)∨w<0∨3<w:=by
 by_cases h:0<=w/\w<=3
 .have:w=0∨w=1∨w=2∨w=3:=A2;rcases this with rfl|rfl|rfl|rfl<;>decide
 .omega
noncomputable def A69:X8:=⟨_,fun a=>.nil⟩
def EB:List U->Option (Nat×List U)
 | [.int .i64 k,.int .i64 c,.int .i64 m,.int .i64 w,.int .i64 b,.int .i64 r,.int .i64 cl,.str t]=>some (0,[.bool (decide (msP m w b r cl))])
 | _=>none
def A0X(k:Int)(c:Int)(m:Int)(w:Int)(b:Int)(r:Int)(cl:Int)(t:B7):EB [.int .i64 k,.int .i64 c,.int .i64 m,.int .i64 w,.int .i64 b,.int .i64 r,.int .i64 cl,.str t]=some (0,[.bool (decide (msP m w b r cl))]):=rfl
def A2I:Tr:=K5 3 8 0 (R7 3 9 3 (aI [h3 3,jI 4]<|.br 10 (.lt 3 (.sel) [h3 3,jI 2,jI 3,jI 3,jI 1]<|K5 4 12 0 (aQ [h3 4,h3 11]<|.br 13 (K5 2 14 0 (R7 2 15 7 (K5 5 16 0 (R7 5 17 39 (K5 6 18 0 (aQ [h3 6,jI 79]<|.ret [h 19 8]) I7) I7) I7) I7) I7) (I7)) I7) (.no)) I7) I7
def A5a{G}(f:N9 G):M7 prog G 77 [.a [3,3,3,3,3,3,3,9]] EB [.s 8]:=by
 refine H6 (d:=60) A2I (cxg (A69.2 f) .nil) f ⟨f77,_,func77,rfl⟩ D9 D9 ?_;intro us outs l;unfold EB at l;split at l
 .skip;rename_i k c m w b r cl t;cases l;unfold A2I;refine w0 (.cons 7 _ (.cons 6 _ (.cons 5 _ (.cons 4 _ (.cons 3 _ (.cons 2 _ (.cons 1 _ (.cons 0 _ (.nil))))))))) ?_;repeat (first|refine w4 (fun g=>?_) fun g=>?_|(refine w7 [.bool _] ?_;rotate_left)|refine mR ?_|refine uL ?_|refine A7u ?_|refine w1 (.sel) (e:=A1b [2,3,3,1] A2 (by show _<((4:Nat):Int);omega)) (k':=?_)|(refine w8 ?_;(have z0:=WF w;omega)))
  all_goals
   have n:=A26 m w b r cl;have z0:=WF w;refine l1 ?_;first|(refine decide_eq_decide.2 ⟨fun h=>n.2 ?_,fun h=>?_⟩;omega;(have:=n.1 h;omega))|(symm;first|exact L1 (n.2 A2)|exact E9 (fun h=>by have:=n.1 h;omega)|(exfalso;omega))
 .cases l
noncomputable def A7D:X8:=⟨_,fun a=>.nil⟩
def A2X:List U->Option (Nat×List U)
 | [.int .i64 k,.int .i64 c,.int .i64 m,.int .i64 w,.int .i64 b,.int .i64 r,.int .i64 cl,.str t]=>some (0,[.bool (decide (msP m w b r cl))])
 | _=>none
def UC(n:Nat):Tr:=K5 3 n 0 (R7 3 (n+1) 3 (K5 4 (n+2) 0 (R7 4 (n+3) 1 (K5 2 (n+4) 0 (R7 2 (n+5) 7 (K5 5 (n+6) 0 (R7 5 (n+7) 39 (K5 6 (n+8) 0 (aQ [h3 6,jI 79]<|.ret [h (n+9) 8]) I7) I7) I7) I7) I7) I7) I7) I7) I7
def UB(n:Nat):Tr:=.br 13 (K5 2 n 0 (R7 2 (n+1) 7 (K5 5 (n+2) 0 (R7 5 (n+3) 39 (K5 6 (n+4) 0 (aQ [h3 6,jI 79]<|.ret [h (n+5) 8]) I7) I7) I7) I7) I7) (I7)
def A2W:Tr:=K0 3 8 0 (K0 3 9 3 (UC 10) (K5 3 10 0 (R7 3 11 3 (K5 4 12 0 (aQ [h3 4,jI 2]<|UB 14) I7) I7) I7)) (K0 3 9 3 (UC 10) (K5 3 10 0 (R7 3 11 3 (K5 4 12 0 (aQ [h3 4,jI 3]<|UB 14) I7) I7) I7))
def A5n{G}(e:N9 G):M7 prog G 80 [.a [3,3,3,3,3,3,3,9]] A2X [.s 8]:=by
 refine H6 (d:=60) A2W (cxg (A7D.2 e) .nil) e ⟨f80,_,func80,rfl⟩ D9 D9 ?_;intro us outs f;unfold A2X at f;split at f
 .skip;rename_i k c m w b r cl t;cases f;unfold A2W;refine w0 (.cons 7 _ (.cons 6 _ (.cons 5 _ (.cons 4 _ (.cons 3 _ (.cons 2 _ (.cons 1 _ (.cons 0 _ (.nil))))))))) ?_;repeat (first|(refine w7 [.bool _] ?_;rotate_left)|refine w4 (fun g=>?_) fun g=>?_|refine mR ?_|refine uL ?_|refine nV ?_)
  all_goals
   have l:=A26 m w b r cl;have z0:=WF w;refine l1 ?_;first|(refine decide_eq_decide.2 ⟨fun h=>l.2 ?_,fun h=>?_⟩;omega;(have:=l.1 h;omega))|(symm;first|exact L1 (l.2 A2)|exact E9 (fun h=>by have:=l.1 h;omega)|(exfalso;omega))
 .cases f
def IE:List U->Option (Nat×List U)
 | [.str s,.str u]=>if u=[27]then some (0,[.bool (decide (0<=Lib.indexByte s 27))])else none
 | _=>none
def A1w(s:B7)(u:B7)(a:u=[27]):IE [.str s,.str u]=some (0,[.bool (decide (0<=Lib.indexByte s 27))]):=A9 a
def A6o{G}(f:N9 G):M7 prog G 78 [.s 9,.s 9] IE [.s 8]:=by
 intro us outs w vs R b a g hR;unfold IE at a;split at a
 .skip;rename_i s u;split at a
  .rename_i d;cases a;have hv:=R5 (vs2:=[.string ⟨⟨s⟩⟩,.string ⟨⟨u⟩⟩]) b rfl;subst hv;refine cL (vr:=[.bool (decide (0<=Lib.indexByte s 27))]) func78 rfl D9 rfl ?_;subst d;exact(Tryz.strings_Contains_one ⟨⟨s⟩⟩ 27 w).mono fun e w' ⟨h1,c⟩=>⟨h1,by subst c;exact RowKit.Below.refl _ _⟩
  .cases a
 .cases a
def bU(b:Bool):Option Unit:=if b then some ()else none
def isE(x:UInt8):Bool:=decide (x=27)
def A1o{l:B7}(h:(l.length:Int)<=i):(l.drop i.toNat).any isE=false:=by rw[kK l h];rfl
def A6g{x:UInt8}(h:((x.toNat:Nat):Int)=27):x=27:=by
 apply UInt8.toNat_inj.1;show x.toNat=27;omega
def YD(l:B7)(n:Nat):l.getD n default=l.getD n 0:=rfl
def A6h{l:B7}(h0:0<=i)(h1:i<(l.length:Int))(a:(((l.getD i.toNat 0).toNat:Nat):Int)=27):(l.drop i.toNat).any isE=true:=by
 rw[m7 l h0 h1,P0,YD,A6g a];rfl
def A6i{l:B7}(h0:0<=i)(h1:i<(l.length:Int))(a:¬(((l.getD i.toNat 0).toNat:Nat):Int)=27):(l.drop i.toNat).any isE=(l.drop (i+1).toNat).any isE:=by
 rw[m7 l h0 h1,P0,YD];have:isE (l.getD i.toNat 0)=false:=E9 fun h=>a (by rw[h];rfl)
 rw[this,P2]
noncomputable def A7F:X8:=⟨_,fun a=>(.cons (A5o a) (.cons (A5n a) .nil))⟩
def NA:List U->Option (Nat×List U)
 | [.int .i64 i,.int .i64 k,.int .i64 c,.int .i64 m,.int .i64 w,.int .i64 b,.int .i64 r,.int .i64 cl,.str t]=>if 0<=i/\i<=(t.length:Int)/\(t.length:Int)<=140737488351232 then bA (bU ((t.drop i.toNat).any isE)) [.int .i64 k,.int .i64 c,.int .i64 m,.int .i64 w,.int .i64 b,.int .i64 r,.int .i64 cl,.str t] (fun _=>[])else none
 | _=>none
def tT(i:Int)(k:Int)(c:Int)(m:Int)(w:Int)(b:Int)(r:Int)(cl:Int)(t:B7)(a:0<=i/\i<=(t.length:Int)/\(t.length:Int)<=140737488351232):NA [.int .i64 i,.int .i64 k,.int .i64 c,.int .i64 m,.int .i64 w,.int .i64 b,.int .i64 r,.int .i64 cl,.str t]=bA (bU ((t.drop i.toNat).any isE)) [.int .i64 k,.int .i64 c,.int .i64 m,.int .i64 w,.int .i64 b,.int .i64 r,.int .i64 cl,.str t] (fun _=>[]):=A9 a
def A2f:W5:=⟨[(1,.pointer (some ⟨16,0,none⟩)),(3,h 0 3)],[(16,.cells 30 [h 1 3,h 2 3,h 3 3,h 4 3,h 5 3,h 6 3,h 7 3,h 8 9])],9,[⟨.exit 1,[(1,.pointer (some ⟨16,0,none⟩))],[(16,.cells 30 [h 0 3,h 1 3,h 2 3,h 3 3,h 4 3,h 5 3,h 6 3,h 7 9])],8⟩,⟨.ret,[(2,.bool false)],[],0⟩]⟩
noncomputable def UL:Code:=(f45.body).getD .skip
noncomputable def A2a:Code:=match H8 [true,false,true,false,true,true,true,true,true,false,false,true,false] UL with|some (.loop x)=>x|_=>.skip
def A2e:f45.body=some UL:=rfl
def A2c:H8 [true,false,true,false,true,true,true,true,true,false,false,true,false] UL=some (.loop A2a):=D9
def cZ(a0:Nat)(c:Nat)(a2:Nat)(a b:Tr):Tr:=aL [h3 c,h3 a0]<|.br a2 a b
def A2b:Tr:=aD [h 8 9]<|cZ 9 0 10 (.lt 4 (.idx) [h 8 9,h3 0]<|aE [h 11 4,.int .u8 (27)]<|.br 12 (J7 1) (aA [h3 0,jI 1]<|.ret [jI (-1),h3 13,h3 1,h3 2,h3 3,h3 4,h3 5,h3 6,h3 7,h 8 9])) (.ret [jI 0,h3 1,h3 2,h3 3,h3 4,h3 5,h3 6,h3 7,h 8 9])
def A2d:List U->Nat
 | [.int .i64 i,.int .i64 k,.int .i64 c,.int .i64 m,.int .i64 w,.int .i64 b,.int .i64 r,.int .i64 cl,.str t]=>((t.length:Int)-i).toNat
 | _=>0
def UK(i:Int)(k:Int)(c:Int)(m:Int)(w:Int)(b:Int)(r:Int)(cl:Int)(t:B7):A2d [.int .i64 i,.int .i64 k,.int .i64 c,.int .i64 m,.int .i64 w,.int .i64 b,.int .i64 r,.int .i64 cl,.str t]=((t.length:Int)-i).toNat:=rfl
def A5p{G}(e:N9 G):∀ (E:Nat->U) (base:Nat),@X1 ⟨E,G⟩ prog base gl f45.ntmps A2a (V2 prog gl n0 17 A2f NA):=by
 refine aV (dep:=60) (f:=45) (n0:=n0) (nB:=17) (H0:=H0) A2d A2b (cxg (A7F.2 e) .nil) e func45 A2e A2c D9 D9 D9 ?_;intro us d outs a;have n:=a;unfold NA at a;split at a
 .skip;rename_i i k c m w b r cl t;split at a
  .rename_i l;clear a n;refine⟨rfl,?_⟩;unfold A2b;refine w0 (.cons 8 _ (.cons 7 _ (.cons 6 _ (.cons 5 _ (.cons 4 _ (.cons 3 _ (.cons 2 _ (.cons 1 _ (.cons 0 _ (.nil)))))))))) ?_;repeat (first|refine w4 (fun g=>?_) fun g=>?_|refine mB ?_|refine bY ?_|refine nU ?_|refine mA ?_|refine A7v ?_|refine nV ?_|(refine w7 [.int .i64 _] ?_;rotate_left)|(refine w7 [.int .i64 _,.int .i64 _,.int .i64 _,.int .i64 _,.int .i64 _,.int .i64 _,.int .i64 _,.int .i64 _,.int .i64 _,.str _] ?_;rotate_left)|(refine w7 [.int .i64 _,.int .i64 _,.int .i64 _,.int .i64 _,.int .i64 _,.int .i64 _,.int .i64 _,.int .i64 _,.str _] ?_;rotate_left))
   all_goals first
    | refine W6 ?_ ?_
      .rw[tT i k c m w b r cl t l,A6i (i:=i) A2 A2 ‹_›];exact tT (i+1) k c m w b r cl t ⟨A2,A2,l.2.2⟩
      .rw[UK,UK];omega
    | refine M0 (d:=0) ?_
      rw[tT i k c m w b r cl t l,A1o A2];rfl
    | refine M0 (d:=1) ?_
      rw[tT i k c m w b r cl t l,A6h (i:=i) A2 A2 ‹_›];rfl
  .cases a
 .cases a
noncomputable def A7h:List LpE:=(45,([true,false,true,false,true,true,true,true,true,false,false,true,false],V2 prog gl n0 17 A2f NA))::[]
def A0N{G}(a:N9 G):v8 prog G gl A7h:=.cons func45 A2e A2c (A5p a) .nil
def A2B(t:B7):(0<=Lib.indexByte t 27)↔t.any isE=true:=by
 induction t with
 | nil=>simp[Lib.indexByte]
 | cons b l d =>
   have h:=Lib.indexByte_ge l 27;rw[Lib.indexByte,P0];by_cases e:b=27
   .subst e;simp[isE]
   .have c:(b == 27)=false:=by simp[e]
    have f:isE b=false:=E9 e;rw[c,f,P2,<- d];by_cases a:Lib.indexByte l 27 = -1
    .simp[a]
    .simp[a];omega
def iU(k c m w b r cl:Int)(t:B7):Prop :=
 (k=1/\w=0/\b=0/\r=0/\cl=0/\t=[]/\mF c m)∨(k=2/\c=0/\t=[]/\msP m w b r cl)∨(k=3/\c=0/\m=0/\w=0/\b=0/\r=0/\cl=0/\t.length<=1000/\t.any isE=false)∨(k=4/\c=0/\m=0/\b=0/\r=0/\cl=0/\t=[]/\0<=w/\w<=1)
instance(k c m w b r cl:Int)(t:B7):Decidable (iU k c m w b r cl t):=by unfold iU;infer_instance
noncomputable def A7S:X8:=⟨_,fun a=>(.cons (A5b a) (.cons (A5a a) (.cons (A6o a) .nil)))⟩
def oV:List U->Option (Nat×List U)
 | [.int .i64 k,.int .i64 c,.int .i64 m,.int .i64 w,.int .i64 b,.int .i64 r,.int .i64 cl,.str t]=>if -9223372036854775808<=m/\m<=9223372036854775807/\(t.length:Int)<=140737488351232 then some (0,[.int .i64 (if iU k c m w b r cl t then 0 else 430)])else none
 | _=>none
def CP(k:Int)(c:Int)(m:Int)(w:Int)(b:Int)(r:Int)(cl:Int)(t:B7)(a : -9223372036854775808<=m/\m<=9223372036854775807/\(t.length:Int)<=140737488351232):oV [.int .i64 k,.int .i64 c,.int .i64 m,.int .i64 w,.int .i64 b,.int .i64 r,.int .i64 cl,.str t]=some (0,[.int .i64 (if iU k c m w b r cl t then 0 else 430)]):=A9 a
def A3F:Tr:=K0 0 8 1 (.fn EC [h3 1,h3 2] 1<|Q1 9 10 (J7 430) (.lt 8 (.eqs) [h3 0,jI 1,h3 1,h3 1,h3 2,h3 2,h3 3,jI 0,h3 4,jI 0,h3 5,jI 0,h3 6,jI 0,h 7 9,.string ⟨⟨[]⟩⟩]<|Q1 11 12 (J7 430) (J7 0))) (K0 0 9 2 (.fn EB [h3 0,h3 1,h3 2,h3 3,h3 4,h3 5,h3 6,h 7 9] 1<|Q1 10 11 (J7 430) (.lt 8 (.eqs) [h3 0,h3 0,h3 1,jI 0,h3 2,h3 2,h3 3,h3 3,h3 4,h3 4,h3 5,h3 5,h3 6,h3 6,h 7 9,.string ⟨⟨[]⟩⟩]<|Q1 12 13 (J7 430) (J7 0))) (K0 0 10 3 (aD [h 7 9]<|R7 11 12 1000 (.fn IE [h 7 9,.string ⟨⟨[27]⟩⟩] 1<|aX [h 13 8]<|Q1 14 15 (J7 430) (.lt 8 (.eqs) [h3 0,h3 0,h3 1,jI 0,h3 2,jI 0,h3 3,jI 0,h3 4,jI 0,h3 5,jI 0,h3 6,jI 0,h 7 9,h 7 9]<|Q1 16 17 (J7 430) (J7 0))) (J7 430)) (K0 0 11 4 (K5 3 12 0 (aQ [h3 3,jI 1]<|Q1 13 14 (J7 430) (.lt 8 (.eqs) [h3 0,h3 0,h3 1,jI 0,h3 2,jI 0,h3 3,h3 3,h3 4,jI 0,h3 5,jI 0,h3 6,jI 0,h 7 9,.string ⟨⟨[]⟩⟩]<|Q1 15 16 (J7 430) (J7 0))) (J7 430)) (J7 430))))
def WX{G}(f:N9 G):M7 prog G 40 [.a [3,3,3,3,3,3,3,9]] oV [.s 3]:=by
 refine H6 (d:=60) A3F (cxg (A7S.2 f) (A0N f)) f ⟨f40,_,func40,rfl⟩ D9 D9 ?_;intro us outs l;unfold oV at l;split at l
 .skip;rename_i k c m w b r cl t;split at l
  .rename_i o;cases l;have n:=A2B t;unfold A3F;refine w0 (.cons 7 _ (.cons 6 _ (.cons 5 _ (.cons 4 _ (.cons 3 _ (.cons 2 _ (.cons 1 _ (.cons 0 _ (.nil))))))))) ?_;repeat (first|refine w4 (fun g=>?_) fun g=>?_|refine w4B (fun g=>?_) fun g=>?_|refine fD ?_|refine EO ?_|(refine w7 [.int .i64 _] ?_;rotate_left)|refine nV ?_|refine w1 (.eqs) (e:=rfl) (k':=?_)|refine uL ?_|refine w31 EC (e:=A0Y _ _ A2) (k':=?_)|refine w31 EB (e:=A0X _ _ _ _ _ _ _ _) (k':=?_)|refine nU ?_|refine w31 IE (e:=A1w _ _ rfl) (k':=?_)|refine mR ?_)
   all_goals
    refine l0 ?_;first
    | exact(A9 (by unfold iU;first|(simp_all;done)|(simp_all;omega))).symm
    | exact(A8 (fun h=>by
       unfold iU at h;rcases h with h|h|h|h<;>first|(exfalso;omega)|(simp_all;done)|(simp_all;omega))).symm
  .cases l
 .cases l
def LP{α:Type}(x:Option (List α)):W3 x (some [])=x:=by
 unfold W3;cases x<;>simp[el]
def AT{α:Type}(x:Option (List α))(u v:List α):W3 (W3 x (some u)) (some v)=W3 x (some (u++v)):=by
 cases u with
 | nil=>rw[LP];rfl
 | cons a u=>cases v with
   | nil=>simp[W3,el]
   | cons c v=>simp[W3,el]
def A3d(s:B7)(n:Nat):(ByteArray.mk ⟨s⟩).get! n=s.getD n 0:=by
 show(Array.mk s)[n]! = _;rw[getElem!_def];simp only[I0,B2];cases s[n]?<;>rfl
def A0q{s:B7}{k:Int}(h:((s.getD k.toNat 0).toNat:Int)<128):oD s k=((s.getD k.toNat 0).toNat:Int)/\MY s k=k+1:=by
 have e:Utf8.decode ⟨⟨s⟩⟩ k.toNat=((s.getD k.toNat 0).toNat,1):=by
  unfold Utf8.decode;simp only[hY,A3d];rw[A9 A2]
 unfold oD MY;rw[e];exact⟨rfl,rfl⟩
def A0r{s:B7}{k:Int}(h:¬((s.getD k.toNat 0).toNat:Int)<128):128<=oD s k:=by
 unfold oD Utf8.decode;simp only[hY,A3d];rw[A8 A2];have hr:128<=Utf8.runeError:=F7;split
 .split
  .omega
  .exact cO.2 hr
 .split
  .split
   .simp_all;omega
   .exact cO.2 hr
  .split
   .split
    .simp_all;omega
    .exact cO.2 hr
   .exact cO.2 hr
def LY(x:UInt8):Bool:=decide (x.toNat<32∨126<x.toNat)
def LN(s:B7):Prop:=s≠[]/\s.length<=100/\s.any LY=false
instance(s:B7):Decidable (LN s):=by unfold LN;infer_instance
def TW{s:B7}{k:Int}(h0:0<=k)(h1:k<s.length):(oD s k<32∨126<oD s k↔LY (s.getD k.toNat default)=true)/\(¬(oD s k<32∨126<oD s k)->MY s k=k+1):=by
 show(_↔LY (s.getD k.toNat 0)=true)/\_;unfold LY;rw[decide_eq_true_iff];by_cases h:((s.getD k.toNat 0).toNat:Int)<128
 .obtain⟨a,b⟩:=A0q h;rw[a,b];exact⟨A2,fun _=>rfl⟩
 .have:=A0r h;exact⟨A2,fun k=>by omega⟩
def wP{α:Type}{p:α->Bool}{l:List α}(h:K1 p l i=none):l.any p=false:=by
 induction l generalizing i with
 | nil=>rfl
 | cons a l b =>
   unfold K1 at h;cases hp:p a with
   | true=>rw[hp]at h;cases h
   | false=>rw[hp]at h;rw[P0,hp,b h];rfl
def pU{α:Type}{p:α->Bool}{l:List α}(h:K1 p l i=some j):l.any p=true/\i<=j:=by
 induction l generalizing i with
 | nil=>cases h
 | cons a l b =>
   unfold K1 at h;cases hp:p a with
   | true=>rw[hp]at h;cases h;rw[P0,hp];exact⟨rfl,Int.le_refl _⟩
   | false=>rw[hp]at h;rw[P0,(b h).1,Bool.or_true];exact⟨rfl,by have:=(b h).2;omega⟩
def A5B(b:Bool):evU (.bin .eql) [.bool b,.bool true]=.bool b:=by cases b<;>rfl
noncomputable def A7X:X8:=⟨_,fun a=>(.cons (WX a) .nil)⟩
def pE:List U->Option (Nat×List U)
 | [.int .i64 k,.int .i64 c,.int .i64 m,.int .i64 w,.int .i64 b,.int .i64 r,.int .i64 cl,.str t]=>if -9223372036854775808<=m/\m<=9223372036854775807/\(t.length:Int)<=140737488351232 then some (0,[.bool (decide (k=1/\iU k c m w b r cl t))])else none
 | _=>none
def CW(k:Int)(c:Int)(m:Int)(w:Int)(b:Int)(r:Int)(cl:Int)(t:B7)(a : -9223372036854775808<=m/\m<=9223372036854775807/\(t.length:Int)<=140737488351232):pE [.int .i64 k,.int .i64 c,.int .i64 m,.int .i64 w,.int .i64 b,.int .i64 r,.int .i64 cl,.str t]=some (0,[.bool (decide (k=1/\iU k c m w b r cl t))]):=A9 a
def A3V:Tr:=K0 0 8 1 (.fn oV [h3 0,h3 1,h3 2,h3 3,h3 4,h3 5,h3 6,h 7 9] 1<|aE [h3 9,jI 0]<|.ret [h 10 8]) I7
def XY{G}(l:N9 G):M7 prog G 52 [.a [3,3,3,3,3,3,3,9]] pE [.s 8]:=by
 refine H6 (d:=60) A3V (cxg (A7X.2 l) .nil) l ⟨f52,_,func52,rfl⟩ D9 D9 ?_;intro us outs f;unfold pE at f;split at f
 .skip;rename_i k c m w b r cl t;split at f
  .rename_i n;cases f;unfold A3V;refine w0 (.cons 7 _ (.cons 6 _ (.cons 5 _ (.cons 4 _ (.cons 3 _ (.cons 2 _ (.cons 1 _ (.cons 0 _ (.nil))))))))) ?_;repeat (first|refine nV ?_|(refine w7 [.bool _] ?_;rotate_left)|refine w4 (fun g=>?_) fun g=>?_|refine w31 oV (e:=CP _ _ _ _ _ _ _ _ n) (k':=?_))
   all_goals
    refine l1 ?_;first|(symm;exact E9 (by simp_all))|(refine decide_eq_decide.2 ?_;by_cases h:iU k c m w b r cl t<;>simp_all;done)
  .cases f
 .cases f
noncomputable def A7W:X8:=⟨_,fun a=>.nil⟩
def wE:List U->Option (Nat×List U)
 | [.str s,.int .i64 p]=>if 0<=p/\p<=(s.length:Int)/\(s.length:Int)<=140737488351232 then bA (K1 LY (s.drop p.toNat) p) [] (fun j=>[.int .i64 j])else none
 | _=>none
def pB(s:B7)(p:Int)(a:0<=p/\p<=(s.length:Int)/\(s.length:Int)<=140737488351232):wE [.str s,.int .i64 p]=bA (K1 LY (s.drop p.toNat) p) [] (fun j=>[.int .i64 j]):=A9 a
def A3U:W5:=⟨[(1,.func (.func 95) ⟨[]⟩ ⟨[]⟩),(2,.bool true),(10,.pointer (some ⟨16,0,none⟩))],[(16,.iter [h 0 9,h 1 3])],2,[⟨.exit 0,[],[],0⟩,⟨.ret,[(6,h 0 3)],[],1⟩]⟩
noncomputable def XR:Code:=(f113.body).getD .skip
noncomputable def A3P:Code:=match H8 [true,false,true,false] XR with|some (.loop x)=>x|_=>.skip
def A3T:f113.body=some XR:=rfl
def A3R:H8 [true,false,true,false] XR=some (.loop A3P):=D9
def A3Q:Tr:=aD [h 0 9]<|cZ 2 1 3 (.lt 2 (.rune) [h 0 9,h3 1]<|.lt 3 (.rpos) [h 0 9,h3 1]<|aL [h 4 2,.int .i32 (32)]<|.br 6 (.ret [jI 1,h3 1]) (aG [h 4 2,.int .i32 (126)]<|aE [h 7 8,.bool true]<|.br 8 (.ret [jI 1,h3 1]) (.ret [jI (-1),h 0 9,h3 5]))) (J7 0)
def A3S:List U->Nat
 | [.str s,.int .i64 p]=>((s.length:Int)-p).toNat
 | _=>0
def XQ(s:B7)(p:Int):A3S [.str s,.int .i64 p]=((s.length:Int)-p).toNat:=rfl
def A6R{G}(c:N9 G):∀ (E:Nat->U) (base:Nat),@X1 ⟨E,G⟩ prog base gl f113.ntmps A3P (V2 prog gl n0 17 A3U wE):=by
 refine aV (dep:=60) (f:=113) (n0:=n0) (nB:=17) (H0:=H0) A3S A3Q (cxg (A7W.2 c) .nil) c func113 A3T A3R D9 D9 D9 ?_;intro us d outs a;have m:=a;unfold wE at a;split at a
 .skip;rename_i s p;split at a
  .rename_i b;clear a m;have zr:p<(s.length:Int)->_:=fun h=>TW b.1 h
   refine⟨rfl,?_⟩;unfold A3Q;refine w0 (.cons 1 _ (.cons 0 _ (.nil))) ?_;repeat (first|refine w4 (fun g=>?_) fun g=>?_|refine mA ?_|(refine w7 [.int .i64 _,.int .i64 _] ?_;rotate_left)|refine nU ?_|refine w1 (.rune) (e:=A1c A2) (k':=?_)|refine w1 (.rpos) (e:=A1d A2) (k':=?_)|refine QB ?_|refine w1 (.bin .eql) (e:=A5B _) (k':=?_)|(refine w7 [.int .i64 _,.str _,.int .i64 _] ?_;rotate_left)|(refine w7 [.int .i64 _] ?_;rotate_left))
   all_goals first
    | refine W6 ?_ ?_
      .have k:=zr ‹_›;have l:=k.2 A2;rw[l,pB s (p+1) ⟨A2,A2,b.2.2⟩,pB s p b,dQ (i:=p) b.1 ‹_› (by cases q:LY (s.getD p.toNat default)with|false=>rfl|true=>exact absurd (k.1.2 q) A2)]
      .have k:=zr ‹_›;have l:=k.2 A2;rw[l,XQ,XQ];omega
    | refine M0 (d:=0) ?_
      rw[pB s p b,fP A2];rfl
    | refine M0 (d:=1) ?_
      rw[pB s p b,fO b.1 ‹_› ((zr ‹_›).1.1 A2)];rfl
  .cases a
 .cases a
noncomputable def A7k:List LpE:=(113,([true,false,true,false],V2 prog gl n0 17 A3U wE))::[]
def A0T{G}(a:N9 G):v8 prog G gl A7k:=.cons func113 A3T A3R (A6R a) .nil
noncomputable def A7A:X8:=⟨_,fun a=>.nil⟩
def ED:List U->Option (Nat×List U)
 | [.str s]=>if(s.length:Int)<=140737488351232 then some (0,[.bool (decide (LN s))])else none
 | _=>none
def A0a(s:B7)(a:(s.length:Int)<=140737488351232):ED [.str s]=some (0,[.bool (decide (LN s))]):=A9 a
def A2K:Tr:=aN [h 0 9,.string ⟨⟨[]⟩⟩]<|.br 1 (aD [h 0 9]<|R7 2 3 100 (.lp wE [h 0 9,jI 0] 0 0 (.ret [.bool true]) (.lp wE [h 0 9,jI 0] 1 1 (aL [h3 4,jI 0]<|.ret [h 5 8]) (.no))) I7) (I7)
def A2L{G}(b:N9 G):M7 prog G 61 [.s 9] ED [.s 8]:=by
 refine H6 (d:=60) A2K (cxg (A7A.2 b) (A0T b)) b ⟨f61,_,func61,rfl⟩ D9 D9 ?_;intro us outs a;unfold ED at a;split at a
 .skip;rename_i s;split at a
  .rename_i c;cases a;unfold A2K;refine w0 (.cons 0 _ (.nil)) ?_;repeat (first|(refine w7 [.bool _] ?_;rotate_left)|refine w4 (fun g=>?_) fun g=>?_|refine A0c ?_|refine nU ?_|refine uL ?_|(refine w6 wE (pB _ _ ⟨A2,A2,c⟩) (h0:=fun g=>?_) (h1:=fun v g=>?_);skip;rotate_left;show Wk _ _ (.cons _ _ _);rotate_right)|refine mA ?_)
   all_goals
    refine l1 ?_;symm;first
    | (refine E9 (fun h=>?_);have:=h.1;simp_all;done)
    | exact E9 (fun h=>by have:=h.2.1;omega)
    | exact L1 ⟨by assumption,A2,wP (l:=s) ‹_›⟩
    | (have a:=pU (l:=s) ‹_›
       first
       | exact(E9 (fun h=>by rw[h.2.2]at a;cases a.1)).trans (E9 A2).symm
       | exact E9 (fun h=>by rw[h.2.2]at a;cases a.1))
  .cases a
 .cases a
def rG:Rw (Int×Int×Int×Int×Int×Int×Int×B7×B7×Bool):=rC (W8 .i64) (rC (W8 .i64) (rC (W8 .i64) (rC (W8 .i64) (rC (W8 .i64) (rC (W8 .i64) (rC (W8 .i64) (rC LS (rC LS (r1 ZW)))))))))
def rP:Rw (Int×Int×Int×Int×Int×Int×Int×B7×Int×Int×Int×Int×Int×Int×Int×B7×B7×Bool):=rC (W8 .i64) (rC (W8 .i64) (rC (W8 .i64) (rC (W8 .i64) (rC (W8 .i64) (rC (W8 .i64) (rC (W8 .i64) (rC LS (rC (W8 .i64) (rC (W8 .i64) (rC (W8 .i64) (rC (W8 .i64) (rC (W8 .i64) (rC (W8 .i64) (rC (W8 .i64) (rC LS (rC LS (r1 ZW)))))))))))))))))
abbrev Xt:=A85
abbrev Gt:=(Int×Int×Int×Int×Int×Int×Int×B7×B7×Bool)
abbrev Pt:=(Int×Int×Int×Int×Int×Int×Int×B7×Int×Int×Int×Int×Int×Int×Int×B7×B7×Bool)
def gK(g:Gt):Xt:=(g.1,g.2.1,g.2.2.1,g.2.2.2.1,g.2.2.2.2.1,g.2.2.2.2.2.1,g.2.2.2.2.2.2.1,g.2.2.2.2.2.2.2.1)
def gC(g:Gt):B7:=g.2.2.2.2.2.2.2.2.1
def gR(g:Gt):Bool:=g.2.2.2.2.2.2.2.2.2
def pOf(g:Gt):Pt:=(g.1,g.2.1,g.2.2.1,g.2.2.2.1,g.2.2.2.2.1,g.2.2.2.2.2.1,g.2.2.2.2.2.2.1,g.2.2.2.2.2.2.2.1,g)
def pK(a:Pt):Xt:=(a.1,a.2.1,a.2.2.1,a.2.2.2.1,a.2.2.2.2.1,a.2.2.2.2.2.1,a.2.2.2.2.2.2.1,a.2.2.2.2.2.2.2.1)
def pG(a:Pt):Gt:=a.2.2.2.2.2.2.2.2
def pQ(a b:Pt):Bool:=(a.1 == b.1 && (a.2.1 == b.2.1 && (a.2.2.1 == b.2.2.1 && (a.2.2.2.1 == b.2.2.2.1 && (a.2.2.2.2.1 == b.2.2.2.2.1 && (a.2.2.2.2.2.1 == b.2.2.2.2.2.1 && (a.2.2.2.2.2.2.1 == b.2.2.2.2.2.2.1 && (a.2.2.2.2.2.2.2.1 == b.2.2.2.2.2.2.2.1 && true))))))))
def ixS(M:Option (List Pt)):List Gt->Option (List Pt)
 | []=>M
 | g::l=>ixS (MT pQ M (pOf g)) l
def XU{M:Option (List Pt)}{l:List Gt}(h0:0<=i)(h1:i<(l.length:Int)):ixS M (l.drop i.toNat)=ixS (MT pQ M (pOf (l.getD i.toNat default))) (l.drop (i+1).toNat):=by
 rw[m7 l h0 h1];rfl
def A0m{M:Option (List Pt)}{a:Pt}(h:M≠none):MT pQ M a≠none:=by
 cases M with
 | none=>exact absurd rfl h
 | some x=>intro h;cases h
noncomputable def A7V:X8:=⟨_,fun a=>.nil⟩
def jZ:List U->Option (Nat×List U)
 | [u_l,.int .i64 n,.int .i64 i,u_M]=>(W7 rG u_l).bind fun l=>(W7 rP u_M).bind fun M=>if n=((el l).length:Int)/\0<=i/\i<=n/\n<=140737488351232/\M≠none then some (0,[G2 rP (ixS M ((el l).drop i.toNat))])else none
 | _=>none
def pA(l:(Option (List (Int×Int×Int×Int×Int×Int×Int×B7×B7×Bool))))(n:Int)(i:Int)(M:(Option (List (Int×Int×Int×Int×Int×Int×Int×B7×Int×Int×Int×Int×Int×Int×Int×B7×B7×Bool))))(a:n=((el l).length:Int)/\0<=i/\i<=n/\n<=140737488351232/\M≠none):jZ [G2 rG l,.int .i64 n,.int .i64 i,G2 rP M]=some (0,[G2 rP (ixS M ((el l).drop i.toNat))]):=by
 simp only[jZ,M4,J0];exact A9 a
def OJ:W5:=⟨[(3,.map (some 19)),(8,dat 20 0 20),(9,h 1 3),(10,h 2 3)],[(19,.mp 3 28 60),(20,.frz)],4,[⟨.exit 0,[(3,.map (some 19))],[(19,.mp 0 28 60)],1⟩]⟩
noncomputable def XP:Code:=(f41.body).getD .skip
noncomputable def A3N:Code:=match H8 [true,true,false,true,false] XP with|some (.loop x)=>x|_=>.skip
def OI:f41.body=some XP:=rfl
def OH:H8 [true,true,false,true,false] XP=some (.loop A3N):=D9
def A3O:Tr:=cZ 1 2 4 (.lt 8 (.inbs 10) [h3 2,h 0 20]<|.br 5 (.lt 3 (.get 10 0) [h 0 20,h3 2]<|.lt 3 (.get 10 1) [h 0 20,h3 2]<|.lt 3 (.get 10 2) [h 0 20,h3 2]<|.lt 3 (.get 10 3) [h 0 20,h3 2]<|.lt 3 (.get 10 4) [h 0 20,h3 2]<|.lt 3 (.get 10 5) [h 0 20,h3 2]<|.lt 3 (.get 10 6) [h 0 20,h3 2]<|.lt 9 (.get 10 7) [h 0 20,h3 2]<|.lt 9 (.get 10 8) [h 0 20,h3 2]<|.lt 8 (.get 10 9) [h 0 20,h3 2]<|.dt 28 (.mput 18 8) [h 3 28,h3 6,h3 7,h3 8,h3 9,h3 10,h3 11,h3 12,h 13 9,h3 6,h3 7,h3 8,h3 9,h3 10,h3 11,h3 12,h 13 9,h 14 9,h 15 8]<|aA [h3 2,jI 1]<|.ret [jI (-1),h 0 20,h3 1,h3 17,h 16 28]) (.no)) (.ret [jI 0,h 3 28])
def XN:List U->Nat
 | [u_l,.int .i64 n,.int .i64 i,u_M]=>(match W7 rG u_l with|some l=>(match W7 rP u_M with|some M=>(n-i).toNat|none=>0)|none=>0)
 | _=>0
def XM(l:(Option (List (Int×Int×Int×Int×Int×Int×Int×B7×B7×Bool))))(n:Int)(i:Int)(M:(Option (List (Int×Int×Int×Int×Int×Int×Int×B7×Int×Int×Int×Int×Int×Int×Int×B7×B7×Bool)))):XN [G2 rG l,.int .i64 n,.int .i64 i,G2 rP M]=(n-i).toNat:=by
 simp only[XN,M4]
def XO{G}(s:N9 G):∀ (E:Nat->U) (base:Nat),@X1 ⟨E,G⟩ prog base gl f41.ntmps A3N (V2 prog gl n0 21 OJ jZ):=by
 refine aV (dep:=60) (f:=41) (n0:=n0) (nB:=21) (H0:=H0) XN A3O (cxg (A7V.2 s) .nil) s func41 OI OH D9 D9 D9 ?_;intro us d outs c;have t:=c;unfold jZ at c;split at c
 .skip;rename_i v n i w;have q:=D6.1 c;clear c;obtain⟨l,m,c⟩:=q;replace m:=P8 m;subst m;have p:=D6.1 c;clear c;obtain⟨M,k,c⟩:=p;replace k:=P8 k;subst k;split at c
  .rename_i o;clear c t;refine⟨rfl,?_⟩;unfold A3O;refine w0 (.cons 3 _ (.cons 2 _ (.cons 1 _ (.cons 0 _ (.nil))))) ?_;repeat (first|refine w4 (fun g=>?_) fun g=>?_|refine mB ?_|refine bY ?_|refine mA ?_|refine jA ?_|refine w1 (.get 10 0) (u:=.int .i64 _) (e:=H5 rfl A2 A2 rfl) (k':=?_)|refine w1 (.get 10 1) (u:=.int .i64 _) (e:=H5 rfl A2 A2 rfl) (k':=?_)|refine w1 (.get 10 2) (u:=.int .i64 _) (e:=H5 rfl A2 A2 rfl) (k':=?_)|refine w1 (.get 10 3) (u:=.int .i64 _) (e:=H5 rfl A2 A2 rfl) (k':=?_)|refine w1 (.get 10 4) (u:=.int .i64 _) (e:=H5 rfl A2 A2 rfl) (k':=?_)|refine w1 (.get 10 5) (u:=.int .i64 _) (e:=H5 rfl A2 A2 rfl) (k':=?_)|refine w1 (.get 10 6) (u:=.int .i64 _) (e:=H5 rfl A2 A2 rfl) (k':=?_)|refine w1 (.get 10 7) (u:=.str _) (e:=H5 rfl A2 A2 rfl) (k':=?_)|refine w1 (.get 10 8) (u:=.str _) (e:=H5 rfl A2 A2 rfl) (k':=?_)|refine w1 (.get 10 9) (u:=.bool _) (e:=H5 rfl A2 A2 rfl) (k':=?_)|refine w2 (.mput 18 8) (r:=rP) (e:=YO (fun a b=>(a.1 == b.1 && (a.2.1 == b.2.1 && (a.2.2.1 == b.2.2.1 && (a.2.2.2.1 == b.2.2.2.1 && (a.2.2.2.2.1 == b.2.2.2.2.1 && (a.2.2.2.2.2.1 == b.2.2.2.2.2.1 && (a.2.2.2.2.2.2.1 == b.2.2.2.2.2.2.1 && (a.2.2.2.2.2.2.2.1 == b.2.2.2.2.2.2.2.1 && true))))))))) (_,_,_,_,_,_,_,_,_,_,_,_,_,_,_,_,_,_) rfl rfl (fun _=>rfl) o.2.2.2.2) (k':=?_)|(refine w7 [.int .i64 _,G2 rG _,.int .i64 _,.int .i64 _,G2 rP _] ?_;rotate_left)|(refine w8 ?_;first|omega)|(refine w7 [.int .i64 _,G2 rP _] ?_;rotate_left))
   all_goals first
    | refine W6 ?_ ?_
      .rw[pA l n i M o,XU (l:=el l) o.2.1 A2];exact pA l n (i+1) _ ⟨o.1,A2,A2,o.2.2.2.1,A0m o.2.2.2.2⟩
      .rw[XM,XM];omega
    | refine M0 (d:=0) ?_
      rw[pA l n i M o,kK (el l) A2];rfl
  .cases c
 .cases c
noncomputable def A2F:List LpE:=[(41,([true,true,false,true,false],V2 prog gl n0 21 OJ jZ))]
def ME{G}(a:N9 G):v8 prog G gl A2F:=(.cons func41 OI OH (XO a) .nil)
def xP(x:Xt):Prop:=iU x.1 x.2.1 x.2.2.1 x.2.2.2.1 x.2.2.2.2.1 x.2.2.2.2.2.1 x.2.2.2.2.2.2.1 x.2.2.2.2.2.2.2
instance(x:Xt):Decidable (xP x):=inferInstanceAs (Decidable (iU x.1 x.2.1 x.2.2.1 x.2.2.2.1 x.2.2.2.2.1 x.2.2.2.2.2.1 x.2.2.2.2.2.2.1 x.2.2.2.2.2.2.2))
def kyP(x:Xt):Prop:=x.1=1/\xP x
instance(x:Xt):Decidable (kyP x):=by unfold kyP;infer_instance
def gP(g:Gt):Prop:=kyP (gK g)/\LN (gC g)
instance(g:Gt):Decidable (gP g):=by unfold gP;infer_instance
def xM(g:Gt):Bool:=!decide (gP g)
def gOk(g:Gt):Prop := -9223372036854775808<=g.2.2.1/\g.2.2.1<=9223372036854775807/\(g.2.2.2.2.2.2.2.1.length:Int)<=140737488351232/\(g.2.2.2.2.2.2.2.2.1.length:Int)<=140737488351232
instance(g:Gt):Decidable (gOk g):=by unfold gOk;infer_instance
def LX{g:Gt}(h:¬gP g):xM g=true:=by unfold xM;rw[E9 h];rfl
def A0C{g:Gt}(h:gP g):xM g=false:=by unfold xM;rw[L1 h];rfl
noncomputable def A7b:X8:=⟨_,fun a=>(.cons (XY a) (.cons (A2L a) .nil))⟩
def sV:List U->Option (Nat×List U)
 | [u_l,.int .i64 n,.int .i64 i]=>(W7 rG u_l).bind fun l=>if n=((el l).length:Int)/\0<=i/\i<=n/\n<=140737488351232/\(∀ g ∈ el l,gOk g)then bA (K1 xM ((el l).drop i.toNat) i) [] (fun j=>[.int .i64 j])else none
 | _=>none
def qB(l:(Option (List (Int×Int×Int×Int×Int×Int×Int×B7×B7×Bool))))(n:Int)(i:Int)(a:n=((el l).length:Int)/\0<=i/\i<=n/\n<=140737488351232/\(∀ g ∈ el l,gOk g)):sV [G2 rG l,.int .i64 n,.int .i64 i]=bA (K1 xM ((el l).drop i.toNat) i) [] (fun j=>[.int .i64 j]):=by
 simp only[sV,M4,J0];exact A9 a
def A3r:W5:=⟨[(0,dat 26 0 20),(1,.func (.func 60) ⟨[]⟩ ⟨[]⟩),(7,h 1 3),(8,h 2 3)],[(26,.frz)],3,[⟨.exit 0,[],[],0⟩,⟨.ret,[(4,h 0 3)],[],1⟩]⟩
noncomputable def ZQ:Code:=(f96.body).getD .skip
noncomputable def A3n:Code:=match H8 [true,false,true,false] ZQ with|some (.loop x)=>x|_=>.skip
def A3q:f96.body=some ZQ:=rfl
def A3p:H8 [true,false,true,false] ZQ=some (.loop A3n):=D9
def A3o:Tr:=cZ 1 2 3 (.lt 8 (.inbs 10) [h3 2,h 0 20]<|.br 4 (.lt 3 (.get 10 0) [h 0 20,h3 2]<|.lt 3 (.get 10 1) [h 0 20,h3 2]<|.lt 3 (.get 10 2) [h 0 20,h3 2]<|.lt 3 (.get 10 3) [h 0 20,h3 2]<|.lt 3 (.get 10 4) [h 0 20,h3 2]<|.lt 3 (.get 10 5) [h 0 20,h3 2]<|.lt 3 (.get 10 6) [h 0 20,h3 2]<|.lt 9 (.get 10 7) [h 0 20,h3 2]<|.lt 9 (.get 10 8) [h 0 20,h3 2]<|.lt 8 (.get 10 9) [h 0 20,h3 2]<|.fn pE [h3 5,h3 6,h3 7,h3 8,h3 9,h3 10,h3 11,h 12 9] 1<|Q1 15 16 (.ret [jI 1,h3 2]) (.fn ED [h 13 9] 1<|Q1 17 18 (.ret [jI 1,h3 2]) (aA [h3 2,jI 1]<|.ret [jI (-1),h 0 20,h3 1,h3 19]))) (.no)) (J7 0)
def ZP:List U->Nat
 | [u_l,.int .i64 n,.int .i64 i]=>(match W7 rG u_l with|some l=>(n-i).toNat|none=>0)
 | _=>0
def ZO(l:(Option (List (Int×Int×Int×Int×Int×Int×Int×B7×B7×Bool))))(n:Int)(i:Int):ZP [G2 rG l,.int .i64 n,.int .i64 i]=(n-i).toNat:=by
 simp only[ZP,M4]
def A6u{G}(k:N9 G):∀ (E:Nat->U) (base:Nat),@X1 ⟨E,G⟩ prog base gl f96.ntmps A3n (V2 prog gl n0 27 A3r sV):=by
 refine aV (dep:=60) (f:=96) (n0:=n0) (nB:=27) (H0:=H0) ZP A3o (cxg (A7b.2 k) (ME k)) k func96 A3q A3p D9 D9 D9 ?_;intro us d outs b;have o:=b;unfold sV at b;split at b
 .skip;rename_i q n i;have m:=D6.1 b;clear b;obtain⟨l,a,b⟩:=m;replace a:=P8 a;subst a;split at b
  .rename_i c;clear b o;have p:i<n->gOk ((el l).getD i.toNat default):=fun h=>c.2.2.2.2 _ (pN A2 A2)
   refine⟨rfl,?_⟩;unfold A3o;refine w0 (.cons 2 _ (.cons 1 _ (.cons 0 _ (.nil)))) ?_;repeat (first|refine w4 (fun g=>?_) fun g=>?_|refine w4B (fun g=>?_) fun g=>?_|refine fD ?_|refine EO ?_|(refine w7 [.int .i64 _,.int .i64 _] ?_;rotate_left)|refine mB ?_|refine bY ?_|refine mA ?_|refine jA ?_|refine w1 (.get 10 0) (u:=.int .i64 _) (e:=H5 rfl A2 A2 rfl) (k':=?_)|refine w1 (.get 10 1) (u:=.int .i64 _) (e:=H5 rfl A2 A2 rfl) (k':=?_)|refine w1 (.get 10 2) (u:=.int .i64 _) (e:=H5 rfl A2 A2 rfl) (k':=?_)|refine w1 (.get 10 3) (u:=.int .i64 _) (e:=H5 rfl A2 A2 rfl) (k':=?_)|refine w1 (.get 10 4) (u:=.int .i64 _) (e:=H5 rfl A2 A2 rfl) (k':=?_)|refine w1 (.get 10 5) (u:=.int .i64 _) (e:=H5 rfl A2 A2 rfl) (k':=?_)|refine w1 (.get 10 6) (u:=.int .i64 _) (e:=H5 rfl A2 A2 rfl) (k':=?_)|refine w1 (.get 10 7) (u:=.str _) (e:=H5 rfl A2 A2 rfl) (k':=?_)|refine w1 (.get 10 8) (u:=.str _) (e:=H5 rfl A2 A2 rfl) (k':=?_)|refine w1 (.get 10 9) (u:=.bool _) (e:=H5 rfl A2 A2 rfl) (k':=?_)|refine w31 pE (e:=CW _ _ _ _ _ _ _ _ (by have z:=p ‹_›;unfold gOk at z;omega)) (k':=?_)|refine w31 ED (e:=A0a _ (by have z:=p ‹_›;unfold gOk at z;omega)) (k':=?_)|(refine w7 [.int .i64 _,G2 rG _,.int .i64 _,.int .i64 _] ?_;rotate_left)|(refine w8 ?_;first|omega)|(refine w7 [.int .i64 _] ?_;rotate_left))
   all_goals first
    | refine W6 ?_ ?_
      .rw[qB l n (i+1) ⟨c.1,A2,A2,c.2.2.2⟩,qB l n i c,dQ (i:=i) c.2.1 A2 (A0C ⟨E0.1 (by assumption:¬¬(_=(1:Int)/\iU _ _ _ _ _ _ _ _)),E0.1 (by assumption:¬¬LN _)⟩)]
      .rw[ZO,ZO];omega
    | refine M0 (d:=0) ?_
      rw[qB l n i c,fP A2];rfl
    | refine M0 (d:=1) ?_
      have r:xM ((el l).getD i.toNat default)=true:=by
       first
       | exact LX fun h=>(by assumption:¬(_=(1:Int)/\iU _ _ _ _ _ _ _ _)) h.1
       | exact LX fun h=>(by assumption:¬LN _) h.2
      rw[qB l n i c,fO (i:=i) c.2.1 A2 r];rfl
  .cases b
 .cases b
def kQ(x:Xt)(a:Pt):Bool:=(x.1 == a.1) && ((x.2.1 == a.2.1) && ((x.2.2.1 == a.2.2.1) && ((x.2.2.2.1 == a.2.2.2.1) && ((x.2.2.2.2.1 == a.2.2.2.2.1) && ((x.2.2.2.2.2.1 == a.2.2.2.2.2.1) && ((x.2.2.2.2.2.2.1 == a.2.2.2.2.2.2.1) && ((x.2.2.2.2.2.2.2 == a.2.2.2.2.2.2.2.1) && true)))))))
def A1R{x:Xt}{a:Pt}:kQ x a=true↔x=pK a:=by
 obtain⟨l,b,c,d,k,e,f,g⟩:=x;unfold kQ pK;simp only[G4,beq_iff_eq,L2,and_true]
def A4W{a b:Pt}:pQ a b=true↔pK a=pK b:=A1R (x:=pK a) (a:=b)
def KE{a:Pt}:∀ {R:List Pt},(jL pQ a R).map pK=if pK a ∈ R.map pK then R.map pK else R.map pK++[pK a]
 | []=>rfl
 | b::R=>by
   unfold jL;cases c:pQ a b with
   | true =>
     have e:=A4W.1 c;rw[A9 rfl,C4,C4,A9 (by rw[e];exact B1),e]
   | false =>
     have e:pK a≠pK b:=fun h=>by rw[A4W.2 h]at c;cases c
     rw[A8 F7,C4,C4,KE];by_cases h:pK a ∈ R.map pK
     .rw[A9 h,A9 (C3 _ h)]
     .rw[A8 h,A8 (by rw[B4];exact fun q=>q.elim e h)];rfl
def UT{a:Pt}:∀ {R:List Pt},pK a ∉ R.map pK->jL pQ a R=R++[a]
 | [],_=>rfl
 | b::R,h=>by
   unfold jL;rw[C4,B4]at h;have e:pQ a b=false:=by
    cases c:pQ a b with
    | false=>rfl
    | true=>exact absurd (.inl (A4W.1 c)) h
   rw[e,A8 F7,UT (fun q=>h (.inr q))];rfl
def OK:∀ {l:List Gt} {R:List Pt},(R.map pK++l.map gK).Nodup->ixS (some R) l=some (R++l.map pOf)
 | [],R,_=>by rw[F8,L3];rfl
 | g::l,R,h=>by
   have h1:pK (pOf g) ∉ R.map pK:=fun q=>by
    have:=(List.nodup_append.1 h).2.2 _ q (gK g) (by rw[C4];exact B1);exact this rfl
   show ixS (some (jL pQ (pOf g) R)) l=_;rw[UT h1,OK (by rw[S9,L9];exact h)];simp
def XS:∀ {l:List Gt} {R:List Pt} {x:Xt},(el (ixS (some R) l)).any (kQ x)=true↔x ∈ R.map pK∨x ∈ l.map gK
 | [],R,x=>by
   show R.any (kQ x)=true↔_;rw[O7,F8,K4];constructor
   .rintro⟨a,h1,b⟩;exact .inl ⟨a,h1,(A1R.1 b).symm⟩
   .rintro(⟨a,h1,b⟩|h)
    .exact⟨a,h1,A1R.2 b.symm⟩
    .cases h
 | g::l,R,x=>by
   show(el (ixS (some (jL pQ (pOf g) R)) l)).any (kQ x)=true↔_;rw[XS,KE,C4,B4];show(x ∈ (if gK g ∈ R.map pK then R.map pK else R.map pK++[gK g])∨_)↔_;by_cases h:gK g ∈ R.map pK
   .rw[A9 h];constructor
    .rintro(h1|h1)
     .exact .inl h1
     .exact .inr (.inr h1)
    .rintro(h1|rfl|h1)
     .exact .inl h1
     .exact .inl h
     .exact .inr h1
   .rw[A8 h,B6,g9,or_assoc]
def LA:∀ {l:List Gt} {R:List Pt},(R.map pK).Nodup->(el (ixS (some R) l)).length<=R.length+l.length/\((el (ixS (some R) l)).length=R.length+l.length->(R.map pK++l.map gK).Nodup)
 | [],R,h=>by rw[F8,L3];exact⟨A6 _,fun _=>h⟩
 | g::l,R,h=>by
   show(el (ixS (some (jL pQ (pOf g) R)) l)).length<=_/\((el (ixS (some (jL pQ (pOf g) R)) l)).length=_->_);have c:=KE (a:=pOf g) (R:=R);by_cases hm:pK (pOf g) ∈ R.map pK
   .rw[A9 hm]at c;have k:(jL pQ (pOf g) R).length=R.length:=by have:=F0 List.length c;simpa using this
    obtain⟨a,b⟩:=LA (l:=l) (R:=jL pQ (pOf g) R) (by rw[c];exact h);rw[D5];exact⟨A2,fun e=>by omega⟩
   .rw[A8 hm]at c;have k:(jL pQ (pOf g) R).length=R.length+1:=by have:=F0 List.length c;simpa using this
    have f:((jL pQ (pOf g) R).map pK).Nodup:=by
     rw[c];exact List.nodup_append.2 ⟨h,by simp,fun x hx y d=>by rw[g9]at d;subst d;exact fun e=>hm (e▸hx)⟩
    obtain⟨a,b⟩:=LA (l:=l) f;rw[D5];refine⟨A2,fun e=>?_⟩
    have:=b A2;rw[c,L9]at this;exact this
instance:DecidableEq Xt:=@instDecidableEqProd _ _ _ (@instDecidableEqProd _ _ _ (@instDecidableEqProd _ _ _ (@instDecidableEqProd _ _ _ inferInstance)))
def kmP(x:Xt)(l:List Gt):Prop:=kyP x/\l.length<=64/\(∀ g ∈ l,gP g)/\(l.map gK).Nodup/\x ∉ l.map gK
instance(x:Xt)(l:List Gt):Decidable (kmP x l):=by unfold kmP;infer_instance
def A1_{l:List Gt}(h:K1 xM l 0=none):∀ g ∈ l,gP g:=fun g a=>by
 have:=wP h
 have:=(List.any_eq_false.1 this) g a;by_cases q:gP g
 .exact q
 .exact absurd (LX q) this
def A19{l:List Gt}(h:K1 xM l 0=some j):¬∀ g ∈ l,gP g:=fun k=>by
 obtain⟨g,h1,a⟩:=O7.1 (pU h).1;rw[A0C (k g h1)]at a;cases a
noncomputable def A2E:List LpE:=[(96,([true,false,true,false],V2 prog gl n0 27 A3r sV)),(41,([true,true,false,true,false],V2 prog gl n0 21 OJ jZ))]
def MD{G}(a:N9 G):v8 prog G gl A2E:=(.cons func96 A3q A3p (A6u a) (.cons func41 OI OH (XO a) .nil))
def pW(x:Xt)(l:List Gt):Int:=if kmP x l then 0 else 490
def LI{x:Xt}{l:List Gt}(h:kmP x l):pW x l=0:=A9 h
def nC{x:Xt}{l:List Gt}(h:¬kmP x l):pW x l=490:=A8 h
def XT{l:List Gt}{x:Xt}:(el (ixS (some []) l)).any (kQ x)=true↔x ∈ l.map gK:=by
 rw[XS];exact⟨fun h=>h.elim (fun h=>by cases h) id,.inr⟩
def A5D{k c m w b r cl:Int}{t:B7}{l:List Gt}(h1:k=1/\iU k c m w b r cl t)(a:(el (ixS (some []) l)).any (kQ (k,c,m,w,b,r,cl,t))=false)(h3:(l.length:Int)<=64)(f:¬(((el (ixS (some []) l)).length:Int)<(l.length:Int)))(d:K1 xM l 0=none):pW (k,c,m,w,b,r,cl,t) l=0:=by
 refine LI ⟨h1,A2,A1_ d,?_,fun h=>by rw[XT.2 h]at a;cases a⟩
 have:=LA (l:=l) (R:=[]) List.nodup_nil;have e:=this.2 (by have:=this.1;rw[Q6]at this ⊢;omega)
 simpa using e
def A5E{x:Xt}{l:List Gt}(a:((el (ixS (some []) l)).length:Int)<(l.length:Int)):pW x l=490:=nC fun h=>by
 have:=OK (l:=l) (R:=[]) (by simpa using h.2.2.2.1);rw[this,G1,J5,E3]at a;omega
noncomputable def A7Q:X8:=⟨_,fun a=>(.cons (XY a) (.cons (A2L a) .nil))⟩
def mL:List U->Option (Nat×List U)
 | [.int .i64 k,.int .i64 c,.int .i64 m,.int .i64 w,.int .i64 b,.int .i64 r,.int .i64 cl,.str t,u_l]=>(W7 rG u_l).bind fun l=>if -9223372036854775808<=m/\m<=9223372036854775807/\(t.length:Int)<=140737488351232/\((el l).length:Int)<=140737488351232/\(∀ g ∈ el l,gOk g)then some (0,[.int .i64 (pW (k,c,m,w,b,r,cl,t) (el l))])else none
 | _=>none
def CO(k:Int)(c:Int)(m:Int)(w:Int)(b:Int)(r:Int)(cl:Int)(t:B7)(l:(Option (List (Int×Int×Int×Int×Int×Int×Int×B7×B7×Bool))))(a : -9223372036854775808<=m/\m<=9223372036854775807/\(t.length:Int)<=140737488351232/\((el l).length:Int)<=140737488351232/\(∀ g ∈ el l,gOk g)):mL [.int .i64 k,.int .i64 c,.int .i64 m,.int .i64 w,.int .i64 b,.int .i64 r,.int .i64 cl,.str t,G2 rG l]=some (0,[.int .i64 (pW (k,c,m,w,b,r,cl,t) (el l))]):=by
 simp only[mL,M4,J0];exact A9 a
def A3C:Tr:=.dt 28 (.mk 18) []<|aD [h 8 20]<|.fn jZ [h 8 20,h3 10,jI 0,h 9 28] 1<|.lt 3 (.mget 18 8 8) [h 11 28,jI 0,h3 0,h3 1,h3 2,h3 3,h3 4,h3 5,h3 6,h 7 9]<|.lt 3 (.mget 18 8 9) [h 11 28,jI 0,h3 0,h3 1,h3 2,h3 3,h3 4,h3 5,h3 6,h 7 9]<|.lt 3 (.mget 18 8 10) [h 11 28,jI 0,h3 0,h3 1,h3 2,h3 3,h3 4,h3 5,h3 6,h 7 9]<|.lt 3 (.mget 18 8 11) [h 11 28,jI 0,h3 0,h3 1,h3 2,h3 3,h3 4,h3 5,h3 6,h 7 9]<|.lt 3 (.mget 18 8 12) [h 11 28,jI 0,h3 0,h3 1,h3 2,h3 3,h3 4,h3 5,h3 6,h 7 9]<|.lt 3 (.mget 18 8 13) [h 11 28,jI 0,h3 0,h3 1,h3 2,h3 3,h3 4,h3 5,h3 6,h 7 9]<|.lt 3 (.mget 18 8 14) [h 11 28,jI 0,h3 0,h3 1,h3 2,h3 3,h3 4,h3 5,h3 6,h 7 9]<|.lt 9 (.mget 18 8 15) [h 11 28,.string ⟨⟨[]⟩⟩,h3 0,h3 1,h3 2,h3 3,h3 4,h3 5,h3 6,h 7 9]<|.lt 9 (.mget 18 8 16) [h 11 28,.string ⟨⟨[]⟩⟩,h3 0,h3 1,h3 2,h3 3,h3 4,h3 5,h3 6,h 7 9]<|.lt 8 (.mget 18 8 17) [h 11 28,.bool false,h3 0,h3 1,h3 2,h3 3,h3 4,h3 5,h3 6,h 7 9]<|.lt 8 (.mhas 18 8) [h 11 28,h3 0,h3 1,h3 2,h3 3,h3 4,h3 5,h3 6,h 7 9]<|.fn pE [h3 0,h3 1,h3 2,h3 3,h3 4,h3 5,h3 6,h 7 9] 1<|Q1 23 24 (J7 490) (.br 22 (J7 490) (aG [h3 10,jI 64]<|.br 25 (J7 490) (aD [h 11 28]<|cZ 10 26 27 (J7 490) (.lp sV [h 8 20,h3 10,jI 0] 0 0 (J7 0) (.lp sV [h 8 20,h3 10,jI 0] 1 1 (K5 28 29 0 (J7 490) (J7 0)) (.no))))))
def zU{G}(o:N9 G):M7 prog G 28 [.a [3,3,3,3,3,3,3,9,20]] mL [.s 3]:=by
 refine H6 (d:=60) A3C (cxg (A7Q.2 o) (MD o)) o ⟨f28,_,func28,rfl⟩ D9 D9 ?_;intro us outs f;unfold mL at f;split at f
 .skip;rename_i k c m w b r cl t x;have q:=D6.1 f;clear f;obtain⟨l,n,f⟩:=q;replace n:=P8 n;subst n;split at f
  .rename_i u;cases f;have y:(el l).drop (0:Int).toNat=el l:=rfl;unfold A3C;refine w0 (.cons 8 _ (.cons 7 _ (.cons 6 _ (.cons 5 _ (.cons 4 _ (.cons 3 _ (.cons 2 _ (.cons 1 _ (.cons 0 _ (.nil)))))))))) ?_;repeat (first|refine w4 (fun g=>?_) fun g=>?_|refine w4B (fun g=>?_) fun g=>?_|(refine w7 [.int .i64 _] ?_;rotate_left)|refine uM ?_|refine fD ?_|refine EO ?_|refine w2 (.mk 18) (r:=rP) (e:=rJ [] rfl F7 rfl) (k':=?_)|refine w31 jZ (e:=pA _ _ _ _ ⟨rfl,F7,A2,A2,Option.some_ne_none _⟩) (k':=?_)|refine w1x (.mget 18 8 8) (e:=M3 (U.int .i64) (fun a=>(_ == a.1 && (_ == a.2.1 && (_ == a.2.2.1 && (_ == a.2.2.2.1 && (_ == a.2.2.2.2.1 && (_ == a.2.2.2.2.2.1 && (_ == a.2.2.2.2.2.2.1 && (_ == a.2.2.2.2.2.2.2.1 && true))))))))) (fun a=>a.2.2.2.2.2.2.2.2.1) rfl rfl (fun _=>rfl) (fun _=>rfl)) (k':=?_)|refine w1x (.mget 18 8 9) (e:=M3 (U.int .i64) (fun a=>(_ == a.1 && (_ == a.2.1 && (_ == a.2.2.1 && (_ == a.2.2.2.1 && (_ == a.2.2.2.2.1 && (_ == a.2.2.2.2.2.1 && (_ == a.2.2.2.2.2.2.1 && (_ == a.2.2.2.2.2.2.2.1 && true))))))))) (fun a=>a.2.2.2.2.2.2.2.2.2.1) rfl rfl (fun _=>rfl) (fun _=>rfl)) (k':=?_)|refine w1x (.mget 18 8 10) (e:=M3 (U.int .i64) (fun a=>(_ == a.1 && (_ == a.2.1 && (_ == a.2.2.1 && (_ == a.2.2.2.1 && (_ == a.2.2.2.2.1 && (_ == a.2.2.2.2.2.1 && (_ == a.2.2.2.2.2.2.1 && (_ == a.2.2.2.2.2.2.2.1 && true))))))))) (fun a=>a.2.2.2.2.2.2.2.2.2.2.1) rfl rfl (fun _=>rfl) (fun _=>rfl)) (k':=?_)|refine w1x (.mget 18 8 11) (e:=M3 (U.int .i64) (fun a=>(_ == a.1 && (_ == a.2.1 && (_ == a.2.2.1 && (_ == a.2.2.2.1 && (_ == a.2.2.2.2.1 && (_ == a.2.2.2.2.2.1 && (_ == a.2.2.2.2.2.2.1 && (_ == a.2.2.2.2.2.2.2.1 && true))))))))) (fun a=>a.2.2.2.2.2.2.2.2.2.2.2.1) rfl rfl (fun _=>rfl) (fun _=>rfl)) (k':=?_)|refine w1x (.mget 18 8 12) (e:=M3 (U.int .i64) (fun a=>(_ == a.1 && (_ == a.2.1 && (_ == a.2.2.1 && (_ == a.2.2.2.1 && (_ == a.2.2.2.2.1 && (_ == a.2.2.2.2.2.1 && (_ == a.2.2.2.2.2.2.1 && (_ == a.2.2.2.2.2.2.2.1 && true))))))))) (fun a=>a.2.2.2.2.2.2.2.2.2.2.2.2.1) rfl rfl (fun _=>rfl) (fun _=>rfl)) (k':=?_)|refine w1x (.mget 18 8 13) (e:=M3 (U.int .i64) (fun a=>(_ == a.1 && (_ == a.2.1 && (_ == a.2.2.1 && (_ == a.2.2.2.1 && (_ == a.2.2.2.2.1 && (_ == a.2.2.2.2.2.1 && (_ == a.2.2.2.2.2.2.1 && (_ == a.2.2.2.2.2.2.2.1 && true))))))))) (fun a=>a.2.2.2.2.2.2.2.2.2.2.2.2.2.1) rfl rfl (fun _=>rfl) (fun _=>rfl)) (k':=?_)|refine w1x (.mget 18 8 14) (e:=M3 (U.int .i64) (fun a=>(_ == a.1 && (_ == a.2.1 && (_ == a.2.2.1 && (_ == a.2.2.2.1 && (_ == a.2.2.2.2.1 && (_ == a.2.2.2.2.2.1 && (_ == a.2.2.2.2.2.2.1 && (_ == a.2.2.2.2.2.2.2.1 && true))))))))) (fun a=>a.2.2.2.2.2.2.2.2.2.2.2.2.2.2.1) rfl rfl (fun _=>rfl) (fun _=>rfl)) (k':=?_)|refine w1x (.mget 18 8 15) (e:=M3 U.str (fun a=>(_ == a.1 && (_ == a.2.1 && (_ == a.2.2.1 && (_ == a.2.2.2.1 && (_ == a.2.2.2.2.1 && (_ == a.2.2.2.2.2.1 && (_ == a.2.2.2.2.2.2.1 && (_ == a.2.2.2.2.2.2.2.1 && true))))))))) (fun a=>a.2.2.2.2.2.2.2.2.2.2.2.2.2.2.2.1) rfl rfl (fun _=>rfl) (fun _=>rfl)) (k':=?_)|refine w1x (.mget 18 8 16) (e:=M3 U.str (fun a=>(_ == a.1 && (_ == a.2.1 && (_ == a.2.2.1 && (_ == a.2.2.2.1 && (_ == a.2.2.2.2.1 && (_ == a.2.2.2.2.2.1 && (_ == a.2.2.2.2.2.2.1 && (_ == a.2.2.2.2.2.2.2.1 && true))))))))) (fun a=>a.2.2.2.2.2.2.2.2.2.2.2.2.2.2.2.2.1) rfl rfl (fun _=>rfl) (fun _=>rfl)) (k':=?_)|refine w1x (.mget 18 8 17) (e:=M3 U.bool (fun a=>(_ == a.1 && (_ == a.2.1 && (_ == a.2.2.1 && (_ == a.2.2.2.1 && (_ == a.2.2.2.2.1 && (_ == a.2.2.2.2.2.1 && (_ == a.2.2.2.2.2.2.1 && (_ == a.2.2.2.2.2.2.2.1 && true))))))))) (fun a=>a.2.2.2.2.2.2.2.2.2.2.2.2.2.2.2.2.2) rfl rfl (fun _=>rfl) (fun _=>rfl)) (k':=?_)|refine w1x (.mhas 18 8) (e:=HZ (fun a=>(_ == a.1 && (_ == a.2.1 && (_ == a.2.2.1 && (_ == a.2.2.2.1 && (_ == a.2.2.2.2.1 && (_ == a.2.2.2.2.2.1 && (_ == a.2.2.2.2.2.2.1 && (_ == a.2.2.2.2.2.2.2.1 && true))))))))) rfl rfl (fun _=>rfl)) (k':=?_)|refine w31 pE (e:=CW _ _ _ _ _ _ _ _ ⟨u.1,u.2.1,u.2.2.1⟩) (k':=?_)|refine QB ?_|refine mA ?_|(refine w6 sV (qB _ _ _ ⟨rfl,F7,A2,A2,u.2.2.2.2⟩) (h0:=fun g=>?_) (h1:=fun v g=>?_);skip;rotate_left;show Wk _ _ (.cons _ _ _);rotate_right)|refine mR ?_)
   all_goals
    refine l0 ?_;symm;first
    | exact nC fun h=>(by assumption:¬(k=1/\iU _ _ _ _ _ _ _ _)) h.1
    | exact nC fun h=>h.2.2.2.2 (XT.1 ‹_›)
    | (refine nC fun h=>?_;have:=h.2.1;omega)
    | exact A5E ‹_›
    | exact A5D (E0.1 ‹_›) ‹_› A2 ‹_› ‹_›
    | (exfalso;have:=(pU (p:=xM) (l:=el l) ‹_›).2;omega)
    | (have f:=A19 (l:=el l) ‹_›;exact nC fun h=>f h.2.2.1)
  .cases f
 .cases f
def eqX(x y:Xt):Bool:=(x.1 == y.1) && ((x.2.1 == y.2.1) && ((x.2.2.1 == y.2.2.1) && ((x.2.2.2.1 == y.2.2.2.1) && ((x.2.2.2.2.1 == y.2.2.2.2.1) && ((x.2.2.2.2.2.1 == y.2.2.2.2.2.1) && ((x.2.2.2.2.2.2.1 == y.2.2.2.2.2.2.1) && ((x.2.2.2.2.2.2.2 == y.2.2.2.2.2.2.2) && true)))))))
def A6j{x y:Xt}:eqX x y=true↔x=y:=by
 obtain⟨m,a2,a3,a4,a5,e,f,g⟩:=x;obtain⟨l,n,o,b,d,k,a,c⟩:=y;unfold eqX;simp only[G4,beq_iff_eq,L2,and_true]
def gQ(x:Xt)(g:Gt):Bool:=eqX (gK g) x
def okG(x:Xt)(pre:List Gt)(g:Gt):Prop:=gP g/\gK g≠x/\pre.any (gQ (gK g))=false
instance(x:Xt)(pre:List Gt)(g:Gt):Decidable (okG x pre g):=by unfold okG;infer_instance
def eqG(x y:Gt):Bool:=(x.1 == y.1) && ((x.2.1 == y.2.1) && ((x.2.2.1 == y.2.2.1) && ((x.2.2.2.1 == y.2.2.2.1) && ((x.2.2.2.2.1 == y.2.2.2.2.1) && ((x.2.2.2.2.2.1 == y.2.2.2.2.2.1) && ((x.2.2.2.2.2.2.1 == y.2.2.2.2.2.2.1) && ((x.2.2.2.2.2.2.2.1 == y.2.2.2.2.2.2.2.1) && ((x.2.2.2.2.2.2.2.2.1 == y.2.2.2.2.2.2.2.2.1) && ((x.2.2.2.2.2.2.2.2.2 == y.2.2.2.2.2.2.2.2.2) && true)))))))))
def A7n{α:Type}{l r:List α}(h:l.length=r.length):(l.zip r).length=l.length:=by rw[List.length_zip];omega
def neG(p:Gt×Gt):Bool:=!eqG p.1 p.2
def A0p(a b:List Gt):Bool:=decide (a.length=b.length) && (K1 neG (a.zip b) 0).isNone
def BT(x y:Xt)(a b:List Gt):Bool:=eqX x y && A0p a b
def A4K{x y:Xt}{a b:List Gt}(h:eqX x y=false):BT x y a b=false:=by unfold BT;rw[h];rfl
def A4N{x y:Xt}{a b:List Gt}(h:¬(a.length:Int)=b.length):BT x y a b=false:=by
 unfold BT A0p;rw[E9 A2,Bool.false_and,kX]
def A4M{x y:Xt}{a b:List Gt}(hx:eqX x y=true)(h:(a.length:Int)=b.length)(c:K1 neG (a.zip b) 0=none):BT x y a b=true:=by
 unfold BT A0p;rw[hx,L1 A2,c];rfl
def A4L{x y:Xt}{a b:List Gt}(c:K1 neG (a.zip b) 0=some j):BT x y a b=false:=by
 unfold BT A0p;rw[c,Option.isNone_some,kX,kX]
def A23{p:Gt×Gt}(h:eqG p.1 p.2=false):neG p=true:=by unfold neG;rw[h];rfl
def A24{p:Gt×Gt}(h:eqG p.1 p.2=true):neG p=false:=by unfold neG;rw[h];rfl
def A7o{b:Bool}(h:(!b)=false):b=true:=by cases b<;>first|rfl|cases h
def A7p{b:Bool}(h:(!b)=true):b=false:=by cases b<;>first|rfl|cases h
noncomputable def A7C:X8:=⟨_,fun a=>.nil⟩
def sE:List U->Option (Nat×List U)
 | [.int .i64 i,.int .i64 a1,.int .i64 a2,.int .i64 a3,.int .i64 a4,.int .i64 a5,.int .i64 a6,.int .i64 a7,.str a8,u_a,.int .i64 b1,.int .i64 b2,.int .i64 b3,.int .i64 b4,.int .i64 b5,.int .i64 b6,.int .i64 b7,.str b8,u_b]=>(W7 rG u_a).bind fun a=>(W7 rG u_b).bind fun b=>if 0<=i/\i<=((el a).length:Int)/\(el a).length=(el b).length/\((el a).length:Int)<=140737488351232/\0<=i then bA (K1 neG (((el a).zip (el b)).drop i.toNat) i) [] (fun _=>[])else none
 | _=>none
def oF(i:Int)(q:Int)(a2:Int)(a3:Int)(a4:Int)(a5:Int)(d:Int)(e:Int)(l:B7)(a:(Option (List (Int×Int×Int×Int×Int×Int×Int×B7×B7×Bool))))(m:Int)(n:Int)(r:Int)(g:Int)(o:Int)(p:Int)(f:Int)(c:B7)(b:(Option (List (Int×Int×Int×Int×Int×Int×Int×B7×B7×Bool))))(k:0<=i/\i<=((el a).length:Int)/\(el a).length=(el b).length/\((el a).length:Int)<=140737488351232/\0<=i):sE [.int .i64 i,.int .i64 q,.int .i64 a2,.int .i64 a3,.int .i64 a4,.int .i64 a5,.int .i64 d,.int .i64 e,.str l,G2 rG a,.int .i64 m,.int .i64 n,.int .i64 r,.int .i64 g,.int .i64 o,.int .i64 p,.int .i64 f,.str c,G2 rG b]=bA (K1 neG (((el a).zip (el b)).drop i.toNat) i) [] (fun _=>[]):=by
 simp only[sE,M4,J0];exact A9 k
def A2U:W5:=⟨[(2,.pointer (some ⟨17,0,none⟩)),(3,.pointer (some ⟨18,0,none⟩)),(5,h 0 3)],[(17,.cells 35 [h 1 3,h 2 3,h 3 3,h 4 3,h 5 3,h 6 3,h 7 3,h 8 9,dat 19 9 20]),(18,.cells 35 [h 10 3,h 11 3,h 12 3,h 13 3,h 14 3,h 15 3,h 16 3,h 17 9,dat 20 18 20]),(19,.frz),(20,.frz)],19,[⟨.exit 0,[],[],0⟩,⟨.ret,[(4,.bool false)],[],0⟩]⟩
noncomputable def TZ:Code:=(f25.body).getD .skip
noncomputable def A2Q:Code:=match H8 [true,true,false,true,false] TZ with|some (.loop x)=>x|_=>.skip
def A2T:f25.body=some TZ:=rfl
def A2S:H8 [true,true,false,true,false] TZ=some (.loop A2Q):=D9
def A2R:Tr:=aD [h 9 20]<|cZ 19 0 20 (.lt 8 (.inbs 10) [h3 0,h 9 20]<|.br 21 (.lt 3 (.get 10 0) [h 9 20,h3 0]<|.lt 3 (.get 10 1) [h 9 20,h3 0]<|.lt 3 (.get 10 2) [h 9 20,h3 0]<|.lt 3 (.get 10 3) [h 9 20,h3 0]<|.lt 3 (.get 10 4) [h 9 20,h3 0]<|.lt 3 (.get 10 5) [h 9 20,h3 0]<|.lt 3 (.get 10 6) [h 9 20,h3 0]<|.lt 9 (.get 10 7) [h 9 20,h3 0]<|.lt 9 (.get 10 8) [h 9 20,h3 0]<|.lt 8 (.get 10 9) [h 9 20,h3 0]<|.lt 8 (.inbs 10) [h3 0,h 18 20]<|.br 32 (.lt 3 (.get 10 0) [h 18 20,h3 0]<|.lt 3 (.get 10 1) [h 18 20,h3 0]<|.lt 3 (.get 10 2) [h 18 20,h3 0]<|.lt 3 (.get 10 3) [h 18 20,h3 0]<|.lt 3 (.get 10 4) [h 18 20,h3 0]<|.lt 3 (.get 10 5) [h 18 20,h3 0]<|.lt 3 (.get 10 6) [h 18 20,h3 0]<|.lt 9 (.get 10 7) [h 18 20,h3 0]<|.lt 9 (.get 10 8) [h 18 20,h3 0]<|.lt 8 (.get 10 9) [h 18 20,h3 0]<|.lt 8 (.eqs) [h3 22,h3 33,h3 23,h3 34,h3 24,h3 35,h3 25,h3 36,h3 26,h3 37,h3 27,h3 38,h3 28,h3 39,h 29 9,h 40 9,h 30 9,h 41 9,h 31 8,h 42 8]<|Q1 43 44 (J7 1) (aA [h3 0,jI 1]<|.ret [jI (-1),h3 45,h3 1,h3 2,h3 3,h3 4,h3 5,h3 6,h3 7,h 8 9,h 9 20,h3 10,h3 11,h3 12,h3 13,h3 14,h3 15,h3 16,h 17 9,h 18 20])) (.no)) (.no)) (J7 0)
def TY:List U->Nat
 | [.int .i64 i,.int .i64 a1,.int .i64 a2,.int .i64 a3,.int .i64 a4,.int .i64 a5,.int .i64 a6,.int .i64 a7,.str a8,u_a,.int .i64 b1,.int .i64 b2,.int .i64 b3,.int .i64 b4,.int .i64 b5,.int .i64 b6,.int .i64 b7,.str b8,u_b]=>(match W7 rG u_a with|some a=>(match W7 rG u_b with|some b=>(((el a).length:Int)-i).toNat|none=>0)|none=>0)
 | _=>0
def TX(i:Int)(p:Int)(a2:Int)(a3:Int)(a4:Int)(a5:Int)(d:Int)(e:Int)(k:B7)(a:(Option (List (Int×Int×Int×Int×Int×Int×Int×B7×B7×Bool))))(l:Int)(m:Int)(q:Int)(g:Int)(n:Int)(o:Int)(f:Int)(c:B7)(b:(Option (List (Int×Int×Int×Int×Int×Int×Int×B7×B7×Bool)))):TY [.int .i64 i,.int .i64 p,.int .i64 a2,.int .i64 a3,.int .i64 a4,.int .i64 a5,.int .i64 d,.int .i64 e,.str k,G2 rG a,.int .i64 l,.int .i64 m,.int .i64 q,.int .i64 g,.int .i64 n,.int .i64 o,.int .i64 f,.str c,G2 rG b]=(((el a).length:Int)-i).toNat:=by
 simp only[TY,M4]
def A5j{G}(n:N9 G):∀ (E:Nat->U) (base:Nat),@X1 ⟨E,G⟩ prog base gl f25.ntmps A2Q (V2 prog gl n0 21 A2U sE):=by
 refine aV (dep:=60) (f:=25) (n0:=n0) (nB:=21) (H0:=H0) TY A2R (cxg (A7C.2 n) .nil) n func25 A2T A2S D9 D9 D9 ?_;intro us d outs c;have D:=c;unfold sE at c;split at c
 .skip;rename_i i B a2 a3 a4 a5 q r x F y z C v h A t p H;have o:=D6.1 c;clear c;obtain⟨a,l,c⟩:=o;replace l:=P8 l;subst l;have m:=D6.1 c;clear c;obtain⟨b,k,c⟩:=m;replace k:=P8 k;subst k;split at c
  .rename_i w;clear c D;have I:=A7n w.2.2.1;refine⟨rfl,?_⟩;unfold A2R;refine s0L ?_;show Tr.sav _ _ (.cons 18 _ (.cons 17 _ (.cons 16 _ (.cons 15 _ (.cons 14 _ (.cons 13 _ (.cons 12 _ (.cons 11 _ (.cons 10 _ (.cons 9 _ (.cons 8 _ (.cons 7 _ (.cons 6 _ (.cons 5 _ (.cons 4 _ (.cons 3 _ (.cons 2 _ (.cons 1 _ (.cons 0 _ (.nil))))))))))))))))))));refine Wk.s ?_;repeat (first|refine w4 (fun g=>?_) fun g=>?_|refine w4B (fun g=>?_) fun g=>?_|refine jA ?_|refine w1 (.get 10 0) (u:=.int .i64 _) (e:=H5 rfl A2 A2 rfl) (k':=?_)|refine w1 (.get 10 1) (u:=.int .i64 _) (e:=H5 rfl A2 A2 rfl) (k':=?_)|refine w1 (.get 10 2) (u:=.int .i64 _) (e:=H5 rfl A2 A2 rfl) (k':=?_)|refine w1 (.get 10 3) (u:=.int .i64 _) (e:=H5 rfl A2 A2 rfl) (k':=?_)|refine w1 (.get 10 4) (u:=.int .i64 _) (e:=H5 rfl A2 A2 rfl) (k':=?_)|refine w1 (.get 10 5) (u:=.int .i64 _) (e:=H5 rfl A2 A2 rfl) (k':=?_)|refine w1 (.get 10 6) (u:=.int .i64 _) (e:=H5 rfl A2 A2 rfl) (k':=?_)|refine w1 (.get 10 7) (u:=.str _) (e:=H5 rfl A2 A2 rfl) (k':=?_)|refine w1 (.get 10 8) (u:=.str _) (e:=H5 rfl A2 A2 rfl) (k':=?_)|refine w1 (.get 10 9) (u:=.bool _) (e:=H5 rfl A2 A2 rfl) (k':=?_)|refine fD ?_|refine EO ?_|(refine w7 [.int .i64 _] ?_;rotate_left)|refine mB ?_|refine bY ?_|(refine w8 ?_;first|omega)|refine uM ?_|refine mA ?_|refine w1 (.eqs) (e:=rfl) (k':=?_)|(refine w7 [.int .i64 _,.int .i64 _,.int .i64 _,.int .i64 _,.int .i64 _,.int .i64 _,.int .i64 _,.int .i64 _,.int .i64 _,.str _,G2 rG _,.int .i64 _,.int .i64 _,.int .i64 _,.int .i64 _,.int .i64 _,.int .i64 _,.int .i64 _,.str _,G2 rG _] ?_;rotate_left))
   all_goals first
    | refine W6 ?_ ?_
      .rw[oF (i+1) B a2 a3 a4 a5 q r x a y z C v h A t p b ⟨A2,A2,A2,A2,A2⟩,oF i B a2 a3 a4 a5 q r x a y z C v h A t p b w,dQ (i:=i) A2 A2 (by rw[MH A2 A2 A2];first|exact A23 ‹_›|exact A24 ‹_›|assumption|(simp only[neG];simp_all;done))]
      .rw[TX,TX];omega
    | refine M0 (d:=0) ?_
      rw[oF i B a2 a3 a4 a5 q r x a y z C v h A t p b w,fP A2];rfl
    | refine M0 (d:=1) ?_
      rw[oF i B a2 a3 a4 a5 q r x a y z C v h A t p b w,fO (i:=i) A2 A2 (by rw[MH A2 A2 A2];first|exact A23 ‹_›|exact A24 ‹_›|assumption|(simp only[neG];simp_all;done))];rfl
  .cases c
 .cases c
noncomputable def A7g:List LpE:=(25,([true,true,false,true,false],V2 prog gl n0 21 A2U sE))::[]
def A0M{G}(a:N9 G):v8 prog G gl A7g:=.cons func25 A2T A2S (A5j a) .nil
noncomputable def A5W:X8:=⟨_,fun a=>.nil⟩
def UE:List U->Option (Nat×List U)
 | [.int .i64 a1,.int .i64 a2,.int .i64 a3,.int .i64 a4,.int .i64 a5,.int .i64 a6,.int .i64 a7,.str a8,u_a,.int .i64 b1,.int .i64 b2,.int .i64 b3,.int .i64 b4,.int .i64 b5,.int .i64 b6,.int .i64 b7,.str b8,u_b]=>(W7 rG u_a).bind fun a=>(W7 rG u_b).bind fun b=>if((el a).length:Int)<=140737488351232/\((el b).length:Int)<=140737488351232 then some (0,[.bool (BT (a1,a2,a3,a4,a5,a6,a7,a8) (b1,b2,b3,b4,b5,b6,b7,b8) (el a) (el b))])else none
 | _=>none
def UD:Tr:=.lt 8 (.eqs) [h3 0,h3 9,h3 1,h3 10,h3 2,h3 11,h3 3,h3 12,h3 4,h3 13,h3 5,h3 14,h3 6,h3 15,h 7 9,h 16 9]<|Q1 18 19 I7 (aD [h 8 20]<|aD [h 17 20]<|aN [h3 20,h3 21]<|.br 22 (I7) (.lp sE [jI 0,h3 0,h3 1,h3 2,h3 3,h3 4,h3 5,h3 6,h 7 9,h 8 20,h3 9,h3 10,h3 11,h3 12,h3 13,h3 14,h3 15,h 16 9,h 17 20] 0 0 (.ret [.bool true]) (.lp sE [jI 0,h3 0,h3 1,h3 2,h3 3,h3 4,h3 5,h3 6,h 7 9,h 8 20,h3 9,h3 10,h3 11,h3 12,h3 13,h3 14,h3 15,h 16 9,h 17 20] 1 0 (I7) (.no))))
def UF{G}(l:N9 G):M7 prog G 25 [.a [3,3,3,3,3,3,3,9,20],.a [3,3,3,3,3,3,3,9,20]] UE [.s 8]:=by
 refine H6 (d:=60) UD (cxg (A5W.2 l) (A0M l)) l ⟨f25,_,func25,rfl⟩ D9 D9 ?_;intro us outs c;unfold UE at c;split at c
 .skip;rename_i C a2 a3 a4 a5 r t y o z h D w A B u q p;have n:=D6.1 c;clear c;obtain⟨a,k,c⟩:=n;replace k:=P8 k;subst k;have m:=D6.1 c;clear c;obtain⟨b,f,c⟩:=m;replace f:=P8 f;subst f;split at c
  .rename_i x;cases c;unfold UD;refine s0L ?_;show Tr.sav _ _ (.cons 17 _ (.cons 16 _ (.cons 15 _ (.cons 14 _ (.cons 13 _ (.cons 12 _ (.cons 11 _ (.cons 10 _ (.cons 9 _ (.cons 8 _ (.cons 7 _ (.cons 6 _ (.cons 5 _ (.cons 4 _ (.cons 3 _ (.cons 2 _ (.cons 1 _ (.cons 0 _ (.nil)))))))))))))))))));refine Wk.s ?_;repeat (first|(refine w7 [.bool _] ?_;rotate_left)|refine w4 (fun g=>?_) fun g=>?_|refine w4B (fun g=>?_) fun g=>?_|refine fD ?_|refine EO ?_|refine uM ?_|refine w1 (.eqs) (e:=rfl) (k':=?_)|refine BM ?_|(refine w6 sE (oF _ _ _ _ _ _ _ _ _ _ _ _ _ _ _ _ _ _ _ ⟨F7,A2,A2,A2,F7⟩) (h0:=fun g=>?_) (h1:=fun v g=>?_);skip;rotate_left;skip;rotate_right))
   all_goals
    refine l1 ?_;symm;first
    | exact A4K (A7p ‹_›)
    | exact A4N A2
    | exact A4M (A7o ‹_›) A2 ‹_›
    | exact A4L ‹_›
  .cases c
 .cases c
end Go.Proofs.YtbbicpheoakeeaaGreatDoor
