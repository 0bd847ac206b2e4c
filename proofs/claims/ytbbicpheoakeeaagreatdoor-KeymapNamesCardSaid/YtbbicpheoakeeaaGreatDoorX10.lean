import Derived.Test.YtbbicpheoakeeaaGreatDoorX9
import Derived.Shelf.Strings.Builder1
import Derived.Shelf.Strings.Builder2
import Derived.Shelf.Strings.OnBuilder
import Derived.Shelf.Small.Utf8
import Derived.Shelf.Small.Wraps
import Derived.Shelf.Strings.BuilderF
import Derived.Shelf.Strings.BuilderK
import Derived.Shelf.Utf8.RuneCount
import Derived.Shelf.Strings.Builder2Cap
import Derived.Shelf.Strconv.Itoa0
import Derived.Shelf.Strconv.Itoa1
import Derived.Shelf.LaysM
import Derived.Shelf.Strconv.Itoa2
import Derived.Shelf.Strconv.Itoa3
import Derived.Shelf.Strconv.Clone
import Derived.Shelf.Strings.Search1
import Derived.Shelf.Strings.Search2
import Derived.Shelf.Strings.Search3
import Derived.Shelf.Strings.Cut
import Derived.Shelf.Strings.Count
import Derived.Shelf.Strings.Shaped
import Derived.Shelf.Strings.Prefix
import Derived.Shelf.Strings.Split
import Derived.Shelf.Strings.Fields
import Derived.Shelf.Strings.SplitShaped
import Derived.Shelf.Unicode.Latin
import Derived.Shelf.Unicode.Decode
import Derived.Shelf.Strings.RuneCount
import Derived.Shelf.Bits.Mul64
import Derived.Shelf.Strings.Repeat
import Derived.Shelf.Unicode.DecodeSlow
import Derived.Shelf.Unicode.DecodeAny
import Derived.Shelf.Unicode.Is16White
import Derived.Shelf.Unicode.IsSpaceAny
import Derived.Shelf.Unicode.CaseLookup
import Derived.Shelf.Unicode.CaseConvert
import Derived.Shelf.Unicode.CaseTo
import Derived.Shelf.Unicode.CaseLaid
import Derived.Shelf.Unicode.Is16Any
import Derived.Shelf.Unicode.Is32Any
import Derived.Shelf.Unicode.ExclAny
import Derived.Shelf.Strings.BuilderCap
import Derived.Shelf.Slices.Turned
import Derived.Test.YtbbicpheoakeeaaGreatDoorProg
set_option linter.all false
set_option maxRecDepth 100000
set_option maxHeartbeats 4000000
namespace Go.Proofs
open Go.Shelf
def Tryz.lays158_ren:Go.Shelf.Ren:=⟨fun|158=>107|165=>72|166=>57|167=>123|169=>59|230=>124|203=>125|240=>92|241=>104|197=>119|118=>139|168=>140|270=>141|262=>142|276=>112|277=>122|260=>138|242=>150|313=>151|278=>154|274=>155|275=>156|n=>n,fun|9=>9|4=>4|3=>3|5=>5|72=>103|0=>0|76=>106|75=>105|107=>173|70=>101|20=>20|37=>26|127=>137|21=>21|105=>158|164=>155|162=>203|203=>201|119=>116|46=>119|139=>199|138=>198|51=>22|160=>208|208=>216|206=>214|80=>109|n=>n,fun|13=>9|3=>7|4=>8|n=>n⟩
def Tryz.lays158:Go.Proofs.Lays.n158 Tryz.prog Tryz.lays158_ren:={
 mixed:=C5
 f118:=K2 Tryz.func139
 f158:=K2 Tryz.func107
 f165:=K2 Tryz.func72
 f166:=K2 Tryz.func57
 f167:=K2 Tryz.func123
 f168:=K2 Tryz.func140
 f169:=K2 Tryz.func59
 f197:=K2 Tryz.func119
 f203:=K2 Tryz.func125
 f230:=K2 Tryz.func124
 f240:=K2 Tryz.func92
 f241:=K2 Tryz.func104
 f242:=K2 Tryz.func150
 f260:=K2 Tryz.func138
 f262:=K2 Tryz.func142
 f270:=K2 Tryz.func141
 f274:=K2 Tryz.func155
 f275:=K2 Tryz.func156
 f276:=K2 Tryz.func112
 f277:=K2 Tryz.func122
 f278:=K2 Tryz.func154
 f313:=K2 Tryz.func151
 t0:=Tryz.underlying0
 a0:=Tryz.isAgg0
 z0:=Tryz.sizeOf0
 v0:=Tryz.zeroValue0
 t3:=Tryz.underlying3
 a3:=Tryz.isAgg3
 z3:=Tryz.sizeOf3
 v3:=Tryz.zeroValue3
 t4:=Tryz.underlying4
 a4:=Tryz.isAgg4
 z4:=Tryz.sizeOf4
 v4:=Tryz.zeroValue4
 t5:=Tryz.underlying5
 a5:=Tryz.isAgg5
 z5:=Tryz.sizeOf5
 v5:=Tryz.zeroValue5
 t9:=Tryz.underlying9
 a9:=Tryz.isAgg9
 z9:=Tryz.sizeOf9
 v9:=Tryz.zeroValue9
 t20:=Tryz.underlying20
 a20:=Tryz.isAgg20
 z20:=Tryz.sizeOf20
 v20:=Tryz.zeroValue20
 t21:=Tryz.underlying21
 a21:=Tryz.isAgg21
 z21:=Tryz.sizeOf21
 v21:=Tryz.zeroValue21
 t37:=Tryz.underlying26
 a37:=Tryz.isAgg26
 z37:=Tryz.sizeOf26
 v37:=Tryz.zeroValue26
 t46:=Tryz.underlying119
 a46:=Tryz.isAgg119
 z46:=Tryz.sizeOf119
 v46:=Tryz.zeroValue119
 t51:=Tryz.underlying22
 a51:=Tryz.isAgg22
 z51:=Tryz.sizeOf22
 v51:=Tryz.zeroValue22
 t70:=Tryz.underlying101
 a70:=Tryz.isAgg101
 z70:=Tryz.sizeOf101
 v70:=Tryz.zeroValue101
 t72:=Tryz.underlying103
 a72:=Tryz.isAgg103
 z72:=Tryz.sizeOf103
 v72:=Tryz.zeroValue103
 t75:=Tryz.underlying105
 a75:=Tryz.isAgg105
 z75:=Tryz.sizeOf105
 v75:=Tryz.zeroValue105
 t76:=Tryz.underlying106
 a76:=Tryz.isAgg106
 z76:=Tryz.sizeOf106
 v76:=Tryz.zeroValue106
 t105:=Tryz.underlying158
 a105:=Tryz.isAgg158
 z105:=Tryz.sizeOf158
 v105:=Tryz.zeroValue158
 t107:=Tryz.underlying173
 a107:=Tryz.isAgg173
 z107:=Tryz.sizeOf173
 v107:=Tryz.zeroValue173
 t119:=Tryz.underlying116
 a119:=Tryz.isAgg116
 z119:=Tryz.sizeOf116
 t127:=Tryz.underlying137
 a127:=Tryz.isAgg137
 z127:=Tryz.sizeOf137
 v127:=Tryz.zeroValue137
 t138:=Tryz.underlying198
 a138:=Tryz.isAgg198
 z138:=Tryz.sizeOf198
 v138:=Tryz.zeroValue198
 t139:=Tryz.underlying199
 a139:=Tryz.isAgg199
 z139:=Tryz.sizeOf199
 v139:=Tryz.zeroValue199
 t160:=Tryz.underlying208
 a160:=Tryz.isAgg208
 z160:=Tryz.sizeOf208
 v160:=Tryz.zeroValue208
 t162:=Tryz.underlying203
 a162:=Tryz.isAgg203
 z162:=Tryz.sizeOf203
 v162:=Tryz.zeroValue203
 t164:=Tryz.underlying155
 a164:=Tryz.isAgg155
 z164:=Tryz.sizeOf155
 v164:=Tryz.zeroValue155
 t203:=Tryz.underlying201
 a203:=Tryz.isAgg201
 z203:=Tryz.sizeOf201
 v203:=Tryz.zeroValue201
 t206:=Tryz.underlying214
 a206:=Tryz.isAgg214
 z206:=Tryz.sizeOf214
 v206:=Tryz.zeroValue214
 t208:=Tryz.underlying216
 a208:=Tryz.isAgg216
 z208:=Tryz.sizeOf216
 v208:=Tryz.zeroValue216
 g3:=C5
 g4:=C5
 g13:=by kernel_rfl }
def Tryz.Builder_Extra_158:Builder.Extra Tryz.prog Tryz.lays158_ren:={
 sizeBuilder:=C5
 liesBuilder:=C5
 t5:=Tryz.underlying5
 a5:=Tryz.isAgg5
 z5:=Tryz.sizeOf5
 v5:=Tryz.zeroValue5
 infoByte:=C5
 cellsByte:=C5
 sizeByte:=C5
 neB5:=by decide }
open Go.RowKit in
def Tryz.strings_ToUpper_ascii(s:ByteArray)(w:World)(d:s.size<=140737488355328)(c:∀ (j:Nat) (b:UInt8),s.data.toList[j]? = some b->b.toNat<128) :
  Calls Tryz.prog 107 #[.string s] w fun e w'=>e=.returned (.string ⟨(Lib.toUpperA s.data.toList).toArray⟩)/\Below w.heap.size w w':=Any.strings_ToUpper_ascii Tryz.lays158 Tryz.Builder_Extra_158 s w d c
def Tryz.lays156_ren:Go.Shelf.Ren:=⟨fun|156=>93|165=>72|166=>57|169=>59|240=>92|241=>104|276=>112|277=>122|n=>n,fun|31=>68|9=>9|3=>3|4=>4|0=>0|20=>20|72=>103|76=>106|70=>101|37=>26|75=>105|127=>137|164=>155|5=>5|80=>109|n=>n,fun|n=>n⟩
def Tryz.lays156:Go.Proofs.Lays.n156 Tryz.prog Tryz.lays156_ren:={
 mixed:=C5
 f156:=K2 Tryz.func93
 f165:=K2 Tryz.func72
 f166:=K2 Tryz.func57
 f169:=K2 Tryz.func59
 f240:=K2 Tryz.func92
 f241:=K2 Tryz.func104
 f276:=K2 Tryz.func112
 f277:=K2 Tryz.func122
 t0:=Tryz.underlying0
 a0:=Tryz.isAgg0
 z0:=Tryz.sizeOf0
 v0:=Tryz.zeroValue0
 t3:=Tryz.underlying3
 a3:=Tryz.isAgg3
 z3:=Tryz.sizeOf3
 v3:=Tryz.zeroValue3
 t4:=Tryz.underlying4
 a4:=Tryz.isAgg4
 z4:=Tryz.sizeOf4
 v4:=Tryz.zeroValue4
 t9:=Tryz.underlying9
 a9:=Tryz.isAgg9
 z9:=Tryz.sizeOf9
 v9:=Tryz.zeroValue9
 t20:=Tryz.underlying20
 a20:=Tryz.isAgg20
 z20:=Tryz.sizeOf20
 v20:=Tryz.zeroValue20
 t31:=Tryz.underlying68
 a31:=Tryz.isAgg68
 z31:=Tryz.sizeOf68
 v31:=Tryz.zeroValue68
 t37:=Tryz.underlying26
 a37:=Tryz.isAgg26
 z37:=Tryz.sizeOf26
 v37:=Tryz.zeroValue26
 t70:=Tryz.underlying101
 a70:=Tryz.isAgg101
 z70:=Tryz.sizeOf101
 v70:=Tryz.zeroValue101
 t72:=Tryz.underlying103
 a72:=Tryz.isAgg103
 z72:=Tryz.sizeOf103
 v72:=Tryz.zeroValue103
 t75:=Tryz.underlying105
 a75:=Tryz.isAgg105
 z75:=Tryz.sizeOf105
 v75:=Tryz.zeroValue105
 t76:=Tryz.underlying106
 a76:=Tryz.isAgg106
 z76:=Tryz.sizeOf106
 v76:=Tryz.zeroValue106
 t127:=Tryz.underlying137
 a127:=Tryz.isAgg137
 z127:=Tryz.sizeOf137
 v127:=Tryz.zeroValue137
 t164:=Tryz.underlying155
 a164:=Tryz.isAgg155
 z164:=Tryz.sizeOf155
 v164:=Tryz.zeroValue155 }
def Tryz.Builder_Extra_156:Builder.Extra Tryz.prog Tryz.lays156_ren:={
 sizeBuilder:=C5
 liesBuilder:=C5
 t5:=Tryz.underlying5
 a5:=Tryz.isAgg5
 z5:=Tryz.sizeOf5
 v5:=Tryz.zeroValue5
 infoByte:=C5
 cellsByte:=C5
 sizeByte:=C5
 neB5:=by decide }
open Go.RowKit in
def Tryz.strings_Join_none(a:Option Addr)(c:Nat)(sep:ByteArray)(w:World) :
  Calls Tryz.prog 93 #[.slice a 0 c,.string sep] w fun e w'=>e=.returned (.string ⟨#[]⟩)/\w'=w:=Any.strings_Join_none Tryz.lays156 Tryz.Builder_Extra_156 a c sep w
open Go.RowKit in
def Tryz.strings_Join(f o c:Nat)(xs:List ByteArray)(sep:ByteArray)(w:World)(b:∀ (j:Nat) x,xs[j]? = some x->w.cell? ⟨f,o+j,none⟩=some (.string x))(g:f<w.heap.size)(k:xs.length<=140737488355328)(d:xs.length<=c)(hlen:(Lib.join (xs.map (·.data.toList)) sep.data.toList).length<=140737488355328) :
  Calls Tryz.prog 93 #[.slice (some ⟨f,o,none⟩) xs.length c,.string sep] w fun e w'=>e=.returned (.string ⟨(Lib.join (xs.map (·.data.toList)) sep.data.toList).toArray⟩)/\Below w.heap.size w w':=Any.strings_Join Tryz.lays156 Tryz.Builder_Extra_156 f o c xs sep w b g k d hlen
def Tryz.laysM316_ren:Go.Shelf.Ren:=⟨fun|316=>143|n=>n,fun|9=>9|3=>3|4=>4|37=>26|0=>0|127=>137|5=>5|n=>n,fun|n=>n⟩
def Tryz.laysM316:Go.Proofs.LaysM.n316 Tryz.prog Tryz.laysM316_ren:={
 mixed:=C5
 f316:=K2 Tryz.func143
 t0:=Tryz.underlying0
 a0:=Tryz.isAgg0
 z0:=Tryz.sizeOf0
 v0:=Tryz.zeroValue0
 t3:=Tryz.underlying3
 a3:=Tryz.isAgg3
 z3:=Tryz.sizeOf3
 v3:=Tryz.zeroValue3
 t4:=Tryz.underlying4
 a4:=Tryz.isAgg4
 z4:=Tryz.sizeOf4
 v4:=Tryz.zeroValue4
 t9:=Tryz.underlying9
 a9:=Tryz.isAgg9
 z9:=Tryz.sizeOf9
 v9:=Tryz.zeroValue9
 t37:=Tryz.underlying26
 a37:=Tryz.isAgg26
 z37:=Tryz.sizeOf26
 v37:=Tryz.zeroValue26
 t127:=Tryz.underlying137
 a127:=Tryz.isAgg137
 z127:=Tryz.sizeOf137
 v127:=Tryz.zeroValue137
 t5:=Tryz.underlying5
 a5:=Tryz.isAgg5
 z5:=Tryz.sizeOf5
 v5:=Tryz.zeroValue5
 i0:=C5
 i3:=C5
 i4:=C5
 i5:=C5
 i9:=C5
 i37:=C5
 i127:=by kernel_rfl }
open Go.RowKit in
def Tryz.stringslite_Clone(s:ByteArray)(w:World)(b:s.size<=281474976710656) :
  Calls Tryz.prog 143 #[.string s] w fun e w'=>e=.returned (.string s)/\Below w.heap.size w w':=Any.stringslite_Clone Tryz.laysM316 s w b
def Tryz.lays143_ren:Go.Shelf.Ren:=⟨fun|143=>65|219=>97|217=>114|225=>115|224=>116|267=>117|266=>132|314=>133|n=>n,fun|9=>9|3=>3|4=>4|5=>5|46=>119|146=>146|51=>22|n=>n,fun|1=>2|n=>n⟩
def Tryz.lays143:Go.Proofs.Lays.n143 Tryz.prog Tryz.lays143_ren:={
 mixed:=C5
 f143:=K2 Tryz.func65
 f217:=K2 Tryz.func114
 f219:=K2 Tryz.func97
 f224:=K2 Tryz.func116
 f225:=K2 Tryz.func115
 f266:=K2 Tryz.func132
 f267:=K2 Tryz.func117
 f314:=K2 Tryz.func133
 t3:=Tryz.underlying3
 a3:=Tryz.isAgg3
 z3:=Tryz.sizeOf3
 v3:=Tryz.zeroValue3
 t4:=Tryz.underlying4
 a4:=Tryz.isAgg4
 z4:=Tryz.sizeOf4
 v4:=Tryz.zeroValue4
 t5:=Tryz.underlying5
 a5:=Tryz.isAgg5
 z5:=Tryz.sizeOf5
 v5:=Tryz.zeroValue5
 t9:=Tryz.underlying9
 a9:=Tryz.isAgg9
 z9:=Tryz.sizeOf9
 v9:=Tryz.zeroValue9
 t46:=Tryz.underlying119
 a46:=Tryz.isAgg119
 z46:=Tryz.sizeOf119
 v46:=Tryz.zeroValue119
 t51:=Tryz.underlying22
 a51:=Tryz.isAgg22
 z51:=Tryz.sizeOf22
 v51:=Tryz.zeroValue22
 t146:=Tryz.underlying146
 a146:=Tryz.isAgg146
 z146:=Tryz.sizeOf146
 v146:=Tryz.zeroValue146
 g1:=by kernel_rfl }
open Go.RowKit Go.Lib in
def Tryz.strings_Index_one(s:ByteArray)(c:UInt8)(w:World) :
  Calls Tryz.prog 65 #[.string s,.string ⟨#[c]⟩] w fun e w'=>e=.returned (.int .i64 (Lib.indexByte s.data.toList c))/\w'=w:=Any.strings_Index_one Tryz.lays143 s c w
def Tryz.lays144_ren:Go.Shelf.Ren:=⟨fun|144=>78|143=>65|219=>97|217=>114|225=>115|224=>116|267=>117|266=>132|314=>133|n=>n,fun|9=>9|4=>4|3=>3|5=>5|46=>119|146=>146|51=>22|n=>n,fun|1=>2|n=>n⟩
def Tryz.lays144:Go.Proofs.Lays.n144 Tryz.prog Tryz.lays144_ren:={
 mixed:=C5
 f143:=K2 Tryz.func65
 f144:=K2 Tryz.func78
 f217:=K2 Tryz.func114
 f219:=K2 Tryz.func97
 f224:=K2 Tryz.func116
 f225:=K2 Tryz.func115
 f266:=K2 Tryz.func132
 f267:=K2 Tryz.func117
 f314:=K2 Tryz.func133
 t3:=Tryz.underlying3
 a3:=Tryz.isAgg3
 z3:=Tryz.sizeOf3
 v3:=Tryz.zeroValue3
 t4:=Tryz.underlying4
 a4:=Tryz.isAgg4
 z4:=Tryz.sizeOf4
 v4:=Tryz.zeroValue4
 t5:=Tryz.underlying5
 a5:=Tryz.isAgg5
 z5:=Tryz.sizeOf5
 v5:=Tryz.zeroValue5
 t9:=Tryz.underlying9
 a9:=Tryz.isAgg9
 z9:=Tryz.sizeOf9
 v9:=Tryz.zeroValue9
 t46:=Tryz.underlying119
 a46:=Tryz.isAgg119
 z46:=Tryz.sizeOf119
 v46:=Tryz.zeroValue119
 t51:=Tryz.underlying22
 a51:=Tryz.isAgg22
 z51:=Tryz.sizeOf22
 v51:=Tryz.zeroValue22
 t146:=Tryz.underlying146
 a146:=Tryz.isAgg146
 z146:=Tryz.sizeOf146
 v146:=Tryz.zeroValue146
 g1:=by kernel_rfl }
open Go.RowKit Go.Lib in
def Tryz.strings_Contains_one(s:ByteArray)(c:UInt8)(w:World) :
  Calls Tryz.prog 78 #[.string s,.string ⟨#[c]⟩] w fun e w'=>e=.returned (.bool (decide (0<=Lib.indexByte s.data.toList c)))/\w'=w:=Any.strings_Contains_one Tryz.lays144 s c w
def Tryz.lays138_ren:Go.Shelf.Ren:=⟨fun|138=>29|195=>63|218=>64|143=>65|219=>97|217=>114|225=>115|224=>116|267=>117|266=>132|314=>133|n=>n,fun|9=>9|3=>3|4=>4|5=>5|0=>0|46=>119|146=>146|51=>22|n=>n,fun|1=>2|n=>n⟩
def Tryz.lays138:Go.Proofs.Lays.n138 Tryz.prog Tryz.lays138_ren:={
 mixed:=C5
 f138:=K2 Tryz.func29
 f143:=K2 Tryz.func65
 f195:=K2 Tryz.func63
 f217:=K2 Tryz.func114
 f218:=K2 Tryz.func64
 f219:=K2 Tryz.func97
 f224:=K2 Tryz.func116
 f225:=K2 Tryz.func115
 f266:=K2 Tryz.func132
 f267:=K2 Tryz.func117
 f314:=K2 Tryz.func133
 t0:=Tryz.underlying0
 a0:=Tryz.isAgg0
 z0:=Tryz.sizeOf0
 v0:=Tryz.zeroValue0
 t3:=Tryz.underlying3
 a3:=Tryz.isAgg3
 z3:=Tryz.sizeOf3
 v3:=Tryz.zeroValue3
 t4:=Tryz.underlying4
 a4:=Tryz.isAgg4
 z4:=Tryz.sizeOf4
 v4:=Tryz.zeroValue4
 t5:=Tryz.underlying5
 a5:=Tryz.isAgg5
 z5:=Tryz.sizeOf5
 v5:=Tryz.zeroValue5
 t9:=Tryz.underlying9
 a9:=Tryz.isAgg9
 z9:=Tryz.sizeOf9
 v9:=Tryz.zeroValue9
 t46:=Tryz.underlying119
 a46:=Tryz.isAgg119
 z46:=Tryz.sizeOf119
 v46:=Tryz.zeroValue119
 t51:=Tryz.underlying22
 a51:=Tryz.isAgg22
 z51:=Tryz.sizeOf22
 v51:=Tryz.zeroValue22
 t146:=Tryz.underlying146
 a146:=Tryz.isAgg146
 z146:=Tryz.sizeOf146
 v146:=Tryz.zeroValue146
 g1:=by kernel_rfl }
open Go.RowKit Go.Lib in
def Tryz.strings_Count_one(s:ByteArray)(c:UInt8)(w:World) :
  Calls Tryz.prog 29 #[.string s,.string ⟨#[c]⟩] w fun e w'=>e=.returned (.int .i64 (Lib.countByte s.data.toList c))/\w'=w:=Any.strings_Count_one Tryz.lays138 s c w
def Tryz.laysM145_ren:Go.Shelf.Ren:=⟨fun|145=>91|220=>111|219=>97|217=>114|225=>115|224=>116|267=>117|266=>132|314=>133|n=>n,fun|9=>9|4=>4|59=>99|3=>3|5=>5|46=>119|146=>146|51=>22|n=>n,fun|1=>2|n=>n⟩
def Tryz.laysM145:Go.Proofs.LaysM.n145 Tryz.prog Tryz.laysM145_ren:={
 mixed:=C5
 f145:=K2 Tryz.func91
 f217:=K2 Tryz.func114
 f219:=K2 Tryz.func97
 f220:=K2 Tryz.func111
 f224:=K2 Tryz.func116
 f225:=K2 Tryz.func115
 f266:=K2 Tryz.func132
 f267:=K2 Tryz.func117
 f314:=K2 Tryz.func133
 t3:=Tryz.underlying3
 a3:=Tryz.isAgg3
 z3:=Tryz.sizeOf3
 v3:=Tryz.zeroValue3
 t4:=Tryz.underlying4
 a4:=Tryz.isAgg4
 z4:=Tryz.sizeOf4
 v4:=Tryz.zeroValue4
 t5:=Tryz.underlying5
 a5:=Tryz.isAgg5
 z5:=Tryz.sizeOf5
 v5:=Tryz.zeroValue5
 t9:=Tryz.underlying9
 a9:=Tryz.isAgg9
 z9:=Tryz.sizeOf9
 v9:=Tryz.zeroValue9
 t46:=Tryz.underlying119
 a46:=Tryz.isAgg119
 z46:=Tryz.sizeOf119
 v46:=Tryz.zeroValue119
 t51:=Tryz.underlying22
 a51:=Tryz.isAgg22
 z51:=Tryz.sizeOf22
 v51:=Tryz.zeroValue22
 t59:=Tryz.underlying99
 a59:=Tryz.isAgg99
 z59:=Tryz.sizeOf99
 v59:=Tryz.zeroValue99
 t146:=Tryz.underlying146
 a146:=Tryz.isAgg146
 z146:=Tryz.sizeOf146
 v146:=Tryz.zeroValue146
 g1:=C5
 i3:=C5
 i4:=C5
 i5:=C5
 i9:=C5
 i46:=C5
 i51:=C5
 i59:=C5
 i146:=C5
 m1:=C5
 s1_3:=fun w h=>Go.Proofs.cell_of_shapedOpen_int (zero:=#[.int .i64 0]) (t:=3) h (G6 C5) C5 rfl C5 C5 Tryz.underlying3 }
open Go.RowKit Go.Lib in
def Tryz.strings_Cut_shaped(s sep:ByteArray)(w:World)(h:w.ShapedOpen Tryz.prog)(b:s.size<4294967281) :
  Calls Tryz.prog 91 #[.string s,.string sep] w fun e w'=>e=.returned (.tuple #[.string ⟨(Lib.cut s.data.toList sep.data.toList).1.toArray⟩,.string ⟨(Lib.cut s.data.toList sep.data.toList).2.1.toArray⟩,.bool (Lib.cut s.data.toList sep.data.toList).2.2])/\∃ n,w'=w.drewN n:=Any.strings_Cut_shaped Tryz.laysM145 s sep w h b
def Tryz.lays105_ren:Go.Shelf.Ren:=⟨fun|105=>34|212=>70|99=>71|165=>72|166=>57|170=>73|169=>59|263=>101|264=>102|206=>103|240=>92|241=>104|276=>112|277=>122|n=>n,fun|9=>9|3=>3|4=>4|20=>20|0=>0|46=>119|109=>120|5=>5|72=>103|76=>106|51=>22|146=>146|53=>132|148=>148|70=>101|37=>26|75=>105|127=>137|164=>155|80=>109|n=>n,fun|n=>n⟩
def Tryz.lays105:Go.Proofs.Lays.n105 Tryz.prog Tryz.lays105_ren:={
 mixed:=C5
 f99:=K2 Tryz.func71
 f105:=K2 Tryz.func34
 f165:=K2 Tryz.func72
 f166:=K2 Tryz.func57
 f169:=K2 Tryz.func59
 f170:=K2 Tryz.func73
 f206:=K2 Tryz.func103
 f212:=K2 Tryz.func70
 f240:=K2 Tryz.func92
 f241:=K2 Tryz.func104
 f263:=K2 Tryz.func101
 f264:=K2 Tryz.func102
 f276:=K2 Tryz.func112
 f277:=K2 Tryz.func122
 t0:=Tryz.underlying0
 a0:=Tryz.isAgg0
 z0:=Tryz.sizeOf0
 v0:=Tryz.zeroValue0
 t3:=Tryz.underlying3
 a3:=Tryz.isAgg3
 z3:=Tryz.sizeOf3
 v3:=Tryz.zeroValue3
 t4:=Tryz.underlying4
 a4:=Tryz.isAgg4
 z4:=Tryz.sizeOf4
 v4:=Tryz.zeroValue4
 t5:=Tryz.underlying5
 a5:=Tryz.isAgg5
 z5:=Tryz.sizeOf5
 v5:=Tryz.zeroValue5
 t9:=Tryz.underlying9
 a9:=Tryz.isAgg9
 z9:=Tryz.sizeOf9
 v9:=Tryz.zeroValue9
 t20:=Tryz.underlying20
 a20:=Tryz.isAgg20
 z20:=Tryz.sizeOf20
 v20:=Tryz.zeroValue20
 t37:=Tryz.underlying26
 a37:=Tryz.isAgg26
 z37:=Tryz.sizeOf26
 v37:=Tryz.zeroValue26
 t46:=Tryz.underlying119
 a46:=Tryz.isAgg119
 z46:=Tryz.sizeOf119
 v46:=Tryz.zeroValue119
 t51:=Tryz.underlying22
 a51:=Tryz.isAgg22
 z51:=Tryz.sizeOf22
 v51:=Tryz.zeroValue22
 t53:=Tryz.underlying132
 a53:=Tryz.isAgg132
 z53:=Tryz.sizeOf132
 v53:=Tryz.zeroValue132
 t70:=Tryz.underlying101
 a70:=Tryz.isAgg101
 z70:=Tryz.sizeOf101
 v70:=Tryz.zeroValue101
 t72:=Tryz.underlying103
 a72:=Tryz.isAgg103
 z72:=Tryz.sizeOf103
 v72:=Tryz.zeroValue103
 t75:=Tryz.underlying105
 a75:=Tryz.isAgg105
 z75:=Tryz.sizeOf105
 v75:=Tryz.zeroValue105
 t76:=Tryz.underlying106
 a76:=Tryz.isAgg106
 z76:=Tryz.sizeOf106
 v76:=Tryz.zeroValue106
 t109:=Tryz.underlying120
 a109:=Tryz.isAgg120
 z109:=Tryz.sizeOf120
 v109:=Tryz.zeroValue120
 t127:=Tryz.underlying137
 a127:=Tryz.isAgg137
 z127:=Tryz.sizeOf137
 v127:=Tryz.zeroValue137
 t146:=Tryz.underlying146
 a146:=Tryz.isAgg146
 z146:=Tryz.sizeOf146
 v146:=Tryz.zeroValue146
 t148:=Tryz.underlying148
 a148:=Tryz.isAgg148
 z148:=Tryz.sizeOf148
 v148:=Tryz.zeroValue148
 t164:=Tryz.underlying155
 a164:=Tryz.isAgg155
 z164:=Tryz.sizeOf155
 v164:=Tryz.zeroValue155 }
def Tryz.Builder_Extra_105:Builder.Extra Tryz.prog Tryz.lays105_ren:={
 sizeBuilder:=C5
 liesBuilder:=C5
 t5:=Tryz.underlying5
 a5:=Tryz.isAgg5
 z5:=Tryz.sizeOf5
 v5:=Tryz.zeroValue5
 infoByte:=C5
 cellsByte:=C5
 sizeByte:=C5
 neB5:=by decide }
open Go.RowKit Go.Lib in
def Tryz.strings_Repeat(s:ByteArray)(c:Nat)(w:World)(b:c<=9223372036854775807)(hlen:s.size*c<=140737488355328) :
  Calls Tryz.prog 34 #[.string s,.int .i64 c] w fun e w'=>e=.returned (.string ⟨(Lib.repeatL s.data.toList c).toArray⟩)/\Below w.heap.size w w':=Any.strings_Repeat Tryz.lays105 Tryz.Builder_Extra_105 s c w b hlen
end Go.Proofs
namespace Go.Proofs.YtbbicpheoakeeaaGreatDoor
open Go Go.Sx Go.Proofs.Tryz
variable {a d4 dc i j:Int}
def gl:Nat:=13
def n0:Nat:=16
def jN:List (Nat×List Value):=[(10,[.int .u8 (0),.int .u8 (1),.int .u8 (28),.int .u8 (2),.int .u8 (29),.int .u8 (14),.int .u8 (24),.int .u8 (3),.int .u8 (30),.int .u8 (22),.int .u8 (20),.int .u8 (15),.int .u8 (25),.int .u8 (17),.int .u8 (4),.int .u8 (8),.int .u8 (31),.int .u8 (27),.int .u8 (13),.int .u8 (23),.int .u8 (21),.int .u8 (19),.int .u8 (16),.int .u8 (7),.int .u8 (26),.int .u8 (12),.int .u8 (18),.int .u8 (6),.int .u8 (11),.int .u8 (5),.int .u8 (10),.int .u8 (9)]),
 (11,[.int .u8 (0),.int .u8 (1),.int .u8 (56),.int .u8 (2),.int .u8 (57),.int .u8 (49),.int .u8 (28),.int .u8 (3),.int .u8 (61),.int .u8 (58),.int .u8 (42),.int .u8 (50),.int .u8 (38),.int .u8 (29),.int .u8 (17),.int .u8 (4),.int .u8 (62),.int .u8 (47),.int .u8 (59),.int .u8 (36),.int .u8 (45),.int .u8 (43),.int .u8 (51),.int .u8 (22),.int .u8 (53),.int .u8 (39),.int .u8 (33),.int .u8 (30),.int .u8 (24),.int .u8 (18),.int .u8 (12),.int .u8 (5),.int .u8 (63),.int .u8 (55),.int .u8 (48),.int .u8 (27),.int .u8 (60),.int .u8 (41),.int .u8 (37),.int .u8 (16),.int .u8 (46),.int .u8 (35),.int .u8 (44),.int .u8 (21),.int .u8 (52),.int .u8 (32),.int .u8 (23),.int .u8 (11),.int .u8 (54),.int .u8 (26),.int .u8 (40),.int .u8 (15),.int .u8 (34),.int .u8 (20),.int .u8 (31),.int .u8 (10),.int .u8 (25),.int .u8 (14),.int .u8 (19),.int .u8 (9),.int .u8 (13),.int .u8 (8),.int .u8 (7),.int .u8 (6)]),
 (6,[.int .u64 (1),.int .u64 (10),.int .u64 (100),.int .u64 (1000),.int .u64 (10000),.int .u64 (100000),.int .u64 (1000000),.int .u64 (10000000),.int .u64 (100000000),.int .u64 (1000000000),.int .u64 (10000000000),.int .u64 (100000000000),.int .u64 (1000000000000),.int .u64 (10000000000000),.int .u64 (100000000000000),.int .u64 (1000000000000000),.int .u64 (10000000000000000),.int .u64 (100000000000000000),.int .u64 (1000000000000000000),.int .u64 (10000000000000000000)]),
 (8,[.int .u8 (128),.int .u8 (191),.int .u8 (160),.int .u8 (191),.int .u8 (128),.int .u8 (159),.int .u8 (144),.int .u8 (191),.int .u8 (128),.int .u8 (143),.int .u8 (0),.int .u8 (0),.int .u8 (0),.int .u8 (0),.int .u8 (0),.int .u8 (0),.int .u8 (0),.int .u8 (0),.int .u8 (0),.int .u8 (0),.int .u8 (0),.int .u8 (0),.int .u8 (0),.int .u8 (0),.int .u8 (0),.int .u8 (0),.int .u8 (0),.int .u8 (0),.int .u8 (0),.int .u8 (0),.int .u8 (0),.int .u8 (0)]),
 (5,[one]),
 (4,[one]),
 (1,[.int .u8 (0),.int .u8 (0),.int .u8 (0),.int .u8 (0),.int .u8 (0),.int .u8 (0),.int .u8 (0),.int .u8 (0),.int .u8 (0),.int .u8 (1),.int .u8 (1),.int .u8 (1),.int .u8 (1),.int .u8 (1),.int .u8 (0),.int .u8 (0),.int .u8 (0),.int .u8 (0),.int .u8 (0),.int .u8 (0),.int .u8 (0),.int .u8 (0),.int .u8 (0),.int .u8 (0),.int .u8 (0),.int .u8 (0),.int .u8 (0),.int .u8 (0),.int .u8 (0),.int .u8 (0),.int .u8 (0),.int .u8 (0),.int .u8 (1),.int .u8 (0),.int .u8 (0),.int .u8 (0),.int .u8 (0),.int .u8 (0),.int .u8 (0),.int .u8 (0),.int .u8 (0),.int .u8 (0),.int .u8 (0),.int .u8 (0),.int .u8 (0),.int .u8 (0),.int .u8 (0),.int .u8 (0),.int .u8 (0),.int .u8 (0),.int .u8 (0),.int .u8 (0),.int .u8 (0),.int .u8 (0),.int .u8 (0),.int .u8 (0),.int .u8 (0),.int .u8 (0),.int .u8 (0),.int .u8 (0),.int .u8 (0),.int .u8 (0),.int .u8 (0),.int .u8 (0),.int .u8 (0),.int .u8 (0),.int .u8 (0),.int .u8 (0),.int .u8 (0),.int .u8 (0),.int .u8 (0),.int .u8 (0),.int .u8 (0),.int .u8 (0),.int .u8 (0),.int .u8 (0),.int .u8 (0),.int .u8 (0),.int .u8 (0),.int .u8 (0),.int .u8 (0),.int .u8 (0),.int .u8 (0),.int .u8 (0),.int .u8 (0),.int .u8 (0),.int .u8 (0),.int .u8 (0),.int .u8 (0),.int .u8 (0),.int .u8 (0),.int .u8 (0),.int .u8 (0),.int .u8 (0),.int .u8 (0),.int .u8 (0),.int .u8 (0),.int .u8 (0),.int .u8 (0),.int .u8 (0),.int .u8 (0),.int .u8 (0),.int .u8 (0),.int .u8 (0),.int .u8 (0),.int .u8 (0),.int .u8 (0),.int .u8 (0),.int .u8 (0),.int .u8 (0),.int .u8 (0),.int .u8 (0),.int .u8 (0),.int .u8 (0),.int .u8 (0),.int .u8 (0),.int .u8 (0),.int .u8 (0),.int .u8 (0),.int .u8 (0),.int .u8 (0),.int .u8 (0),.int .u8 (0),.int .u8 (0),.int .u8 (0),.int .u8 (0),.int .u8 (0),.int .u8 (0),.int .u8 (0),.int .u8 (0),.int .u8 (0),.int .u8 (0),.int .u8 (0),.int .u8 (0),.int .u8 (0),.int .u8 (0),.int .u8 (0),.int .u8 (0),.int .u8 (0),.int .u8 (0),.int .u8 (0),.int .u8 (0),.int .u8 (0),.int .u8 (0),.int .u8 (0),.int .u8 (0),.int .u8 (0),.int .u8 (0),.int .u8 (0),.int .u8 (0),.int .u8 (0),.int .u8 (0),.int .u8 (0),.int .u8 (0),.int .u8 (0),.int .u8 (0),.int .u8 (0),.int .u8 (0),.int .u8 (0),.int .u8 (0),.int .u8 (0),.int .u8 (0),.int .u8 (0),.int .u8 (0),.int .u8 (0),.int .u8 (0),.int .u8 (0),.int .u8 (0),.int .u8 (0),.int .u8 (0),.int .u8 (0),.int .u8 (0),.int .u8 (0),.int .u8 (0),.int .u8 (0),.int .u8 (0),.int .u8 (0),.int .u8 (0),.int .u8 (0),.int .u8 (0),.int .u8 (0),.int .u8 (0),.int .u8 (0),.int .u8 (0),.int .u8 (0),.int .u8 (0),.int .u8 (0),.int .u8 (0),.int .u8 (0),.int .u8 (0),.int .u8 (0),.int .u8 (0),.int .u8 (0),.int .u8 (0),.int .u8 (0),.int .u8 (0),.int .u8 (0),.int .u8 (0),.int .u8 (0),.int .u8 (0),.int .u8 (0),.int .u8 (0),.int .u8 (0),.int .u8 (0),.int .u8 (0),.int .u8 (0),.int .u8 (0),.int .u8 (0),.int .u8 (0),.int .u8 (0),.int .u8 (0),.int .u8 (0),.int .u8 (0),.int .u8 (0),.int .u8 (0),.int .u8 (0),.int .u8 (0),.int .u8 (0),.int .u8 (0),.int .u8 (0),.int .u8 (0),.int .u8 (0),.int .u8 (0),.int .u8 (0),.int .u8 (0),.int .u8 (0),.int .u8 (0),.int .u8 (0),.int .u8 (0),.int .u8 (0),.int .u8 (0),.int .u8 (0),.int .u8 (0),.int .u8 (0),.int .u8 (0),.int .u8 (0),.int .u8 (0),.int .u8 (0),.int .u8 (0),.int .u8 (0),.int .u8 (0),.int .u8 (0),.int .u8 (0),.int .u8 (0),.int .u8 (0),.int .u8 (0),.int .u8 (0),.int .u8 (0),.int .u8 (0),.int .u8 (0),.int .u8 (0),.int .u8 (0),.int .u8 (0),.int .u8 (0),.int .u8 (0),.int .u8 (0)]),
 (0,[.int .i64 (4),.string ⟨⟨[67,45]⟩⟩,.int .i64 (2),.string ⟨⟨[77,45]⟩⟩,.int .i64 (1),.string ⟨⟨[83,45]⟩⟩]),
 (7,[.int .u8 (240),.int .u8 (240),.int .u8 (240),.int .u8 (240),.int .u8 (240),.int .u8 (240),.int .u8 (240),.int .u8 (240),.int .u8 (240),.int .u8 (240),.int .u8 (240),.int .u8 (240),.int .u8 (240),.int .u8 (240),.int .u8 (240),.int .u8 (240),.int .u8 (240),.int .u8 (240),.int .u8 (240),.int .u8 (240),.int .u8 (240),.int .u8 (240),.int .u8 (240),.int .u8 (240),.int .u8 (240),.int .u8 (240),.int .u8 (240),.int .u8 (240),.int .u8 (240),.int .u8 (240),.int .u8 (240),.int .u8 (240),.int .u8 (240),.int .u8 (240),.int .u8 (240),.int .u8 (240),.int .u8 (240),.int .u8 (240),.int .u8 (240),.int .u8 (240),.int .u8 (240),.int .u8 (240),.int .u8 (240),.int .u8 (240),.int .u8 (240),.int .u8 (240),.int .u8 (240),.int .u8 (240),.int .u8 (240),.int .u8 (240),.int .u8 (240),.int .u8 (240),.int .u8 (240),.int .u8 (240),.int .u8 (240),.int .u8 (240),.int .u8 (240),.int .u8 (240),.int .u8 (240),.int .u8 (240),.int .u8 (240),.int .u8 (240),.int .u8 (240),.int .u8 (240),.int .u8 (240),.int .u8 (240),.int .u8 (240),.int .u8 (240),.int .u8 (240),.int .u8 (240),.int .u8 (240),.int .u8 (240),.int .u8 (240),.int .u8 (240),.int .u8 (240),.int .u8 (240),.int .u8 (240),.int .u8 (240),.int .u8 (240),.int .u8 (240),.int .u8 (240),.int .u8 (240),.int .u8 (240),.int .u8 (240),.int .u8 (240),.int .u8 (240),.int .u8 (240),.int .u8 (240),.int .u8 (240),.int .u8 (240),.int .u8 (240),.int .u8 (240),.int .u8 (240),.int .u8 (240),.int .u8 (240),.int .u8 (240),.int .u8 (240),.int .u8 (240),.int .u8 (240),.int .u8 (240),.int .u8 (240),.int .u8 (240),.int .u8 (240),.int .u8 (240),.int .u8 (240),.int .u8 (240),.int .u8 (240),.int .u8 (240),.int .u8 (240),.int .u8 (240),.int .u8 (240),.int .u8 (240),.int .u8 (240),.int .u8 (240),.int .u8 (240),.int .u8 (240),.int .u8 (240),.int .u8 (240),.int .u8 (240),.int .u8 (240),.int .u8 (240),.int .u8 (240),.int .u8 (240),.int .u8 (240),.int .u8 (240),.int .u8 (240),.int .u8 (240),.int .u8 (240),.int .u8 (241),.int .u8 (241),.int .u8 (241),.int .u8 (241),.int .u8 (241),.int .u8 (241),.int .u8 (241),.int .u8 (241),.int .u8 (241),.int .u8 (241),.int .u8 (241),.int .u8 (241),.int .u8 (241),.int .u8 (241),.int .u8 (241),.int .u8 (241),.int .u8 (241),.int .u8 (241),.int .u8 (241),.int .u8 (241),.int .u8 (241),.int .u8 (241),.int .u8 (241),.int .u8 (241),.int .u8 (241),.int .u8 (241),.int .u8 (241),.int .u8 (241),.int .u8 (241),.int .u8 (241),.int .u8 (241),.int .u8 (241),.int .u8 (241),.int .u8 (241),.int .u8 (241),.int .u8 (241),.int .u8 (241),.int .u8 (241),.int .u8 (241),.int .u8 (241),.int .u8 (241),.int .u8 (241),.int .u8 (241),.int .u8 (241),.int .u8 (241),.int .u8 (241),.int .u8 (241),.int .u8 (241),.int .u8 (241),.int .u8 (241),.int .u8 (241),.int .u8 (241),.int .u8 (241),.int .u8 (241),.int .u8 (241),.int .u8 (241),.int .u8 (241),.int .u8 (241),.int .u8 (241),.int .u8 (241),.int .u8 (241),.int .u8 (241),.int .u8 (241),.int .u8 (241),.int .u8 (241),.int .u8 (241),.int .u8 (2),.int .u8 (2),.int .u8 (2),.int .u8 (2),.int .u8 (2),.int .u8 (2),.int .u8 (2),.int .u8 (2),.int .u8 (2),.int .u8 (2),.int .u8 (2),.int .u8 (2),.int .u8 (2),.int .u8 (2),.int .u8 (2),.int .u8 (2),.int .u8 (2),.int .u8 (2),.int .u8 (2),.int .u8 (2),.int .u8 (2),.int .u8 (2),.int .u8 (2),.int .u8 (2),.int .u8 (2),.int .u8 (2),.int .u8 (2),.int .u8 (2),.int .u8 (2),.int .u8 (2),.int .u8 (19),.int .u8 (3),.int .u8 (3),.int .u8 (3),.int .u8 (3),.int .u8 (3),.int .u8 (3),.int .u8 (3),.int .u8 (3),.int .u8 (3),.int .u8 (3),.int .u8 (3),.int .u8 (3),.int .u8 (35),.int .u8 (3),.int .u8 (3),.int .u8 (52),.int .u8 (4),.int .u8 (4),.int .u8 (4),.int .u8 (68),.int .u8 (241),.int .u8 (241),.int .u8 (241),.int .u8 (241),.int .u8 (241),.int .u8 (241),.int .u8 (241),.int .u8 (241),.int .u8 (241),.int .u8 (241),.int .u8 (241)])]
def H0:Hp AB:=mkH jN
def A2R:prog.follows .mixedOrders=true:=C5
def A2Q:FY prog:=by
 have h:(prog.funcs.toList.all fun fn=>!(fn.name == "runtime.NumGoroutine"))=true:=C5;intro f fn b;have h1:=D3.1 h fn (Array.mem_def.1 (Array.mem_of_getElem? b))
 simpa using h1
def A6h:List (FuncId×EK):=[(132,.indexByteString),(64,.countString),(112,.noEscape),(122,.makeNoZero 5)]
def A7u:∀ p ∈ A6h,zK prog p.1 p.2:=by
 intro p hp;unfold A6h at hp;rcases B3.1 hp with rfl|hp
 .exact⟨⟨_,rfl,by kernel_rfl,by kernel_rfl,by kernel_rfl,.inr (.inl ⟨rfl,by kernel_rfl⟩)⟩⟩
 rcases B3.1 hp with rfl|hp
 .exact⟨⟨_,rfl,by kernel_rfl,by kernel_rfl,by kernel_rfl,.inr (.inr (.inl ⟨rfl,by kernel_rfl⟩))⟩⟩
 rcases B3.1 hp with rfl|hp
 .exact⟨⟨_,rfl,by kernel_rfl,by kernel_rfl,by kernel_rfl,.inl ⟨rfl,by kernel_rfl⟩⟩⟩
 rcases B3.1 hp with rfl|hp
 .exact⟨⟨_,rfl,by kernel_rfl,by kernel_rfl,by kernel_rfl,.inr (.inr (.inr ⟨_,_,_,rfl,rfl,by kernel_rfl,by kernel_rfl⟩))⟩⟩
 cases hp
noncomputable abbrev cx(l:List (FuncId×FnC))(b:List LpE):Cx:=⟨prog,A6h,gl,UI l,lpT b⟩
def cxg{G:Nat->Option Obj}{l:List (FuncId×FnC)}{b:List LpE}(h:jD prog G gl l)(k:u5 prog G gl b):CxG (cx l b) G:=A27 A2R A2Q A7u h k
abbrev B1B:=Int×Int×Int×Int×Int×Int×Int×List UInt8
abbrev A1h:=Option (List Int)
abbrev B5:=List UInt8
abbrev L7(G:Nat->Option Obj):Prop:=aO Tryz.prog G gl H0 n0
abbrev S0:={L:List (FuncId×FnC) // ∀ {G:Nat->Option Obj},L7 G->jD Tryz.prog G gl L}
def L0:List (FuncId×FnC):=[]
def A5l{G:Nat->Option Obj}(b:aO prog G gl H0 n0):jD prog G gl L0:=.nil
def rB:Rw Int:=r1 (P5 .u8)
def okU(c:Int):Prop:=0<=c/\c<=1114111/\¬(55296<=c/\c<=57343)
instance(c:Int):Decidable (okU c):=by unfold okU;infer_instance
def jA(c:Int):Int:=if c=32 then 0 else if c=105∨c=109 then -1 else if 97<=c/\c<=122 then c-96 else if 92<=c/\c<=95 then c-64 else -1
def chP(c:Int):Prop:=okU c/\32<=c/\¬(127<=c/\c<=159)
instance(c:Int):Decidable (chP c):=by unfold chP;infer_instance
def n9(c m:Int):Prop:=(chP c/\(m=0∨(m=2/\c≠91/\c≠79)∨(0<=jA c/\(m=4∨m=6))))∨(1114113<=c/\c<=1114134/\0<=m/\m<=7)∨((c=1114135∨c=1114137)/\(m=0∨m=2))∨(c=1114136/\(m=0∨m=1∨m=2))∨(c=1114138/\m=0)
instance(c m:Int):Decidable (n9 c m):=by unfold n9;infer_instance
def l2{b:Int}{c d:Bool}(h:a=b)(k:c=d):[U.int .u8 a,U.bool c]=[U.int .u8 b,U.bool d]:=by rw[h,k]
def l1{c d:Bool}(k:c=d):[U.bool c]=[U.bool d]:=by rw[k]
def l0{c d:Int}(k:c=d):[U.int .i64 c]=[U.int .i64 d]:=by rw[k]
def KH:List U->Option (Nat×List U)
 | [.int .i64 c]=>some (0,[.int .u8 (if 0<=jA c then jA c else 0),.bool (decide (0<=jA c))])
 | _=>none
def A2_(c:Int):KH [.int .i64 c]=some (0,[.int .u8 (if 0<=jA c then jA c else 0),.bool (decide (0<=jA c))]):=rfl
def A02(n:Nat):Tr:=.lt 3 (.bin .and) [h3 0,jI 31]<|.lt 4 (.conv .u8) [h3 n]<|.ret [h (n+1) 4,.bool true]
def R1(a0:Nat)(c:Nat)(a2:Int)(b d:Tr):Tr:=aQ [h3 a0,jI a2]<|.br c b d
def I8(a0:Nat)(c:Nat)(a2:Int)(b d:Tr):Tr:=aH [h3 a0,jI a2]<|.br c b d
def A01(n:Nat):Tr:=I8 0 n 92 (R1 0 (n+1) 95 (A02 (n+2)) (.ret [.int .u8 (0),.bool false])) (.ret [.int .u8 (0),.bool false])
def I2(a0:Nat)(c:Nat)(a2:Int)(b d:Tr):Tr:=aE [h3 a0,jI a2]<|.br c b d
def A5O:Tr:=I2 0 1 32 (.ret [.int .u8 (0),.bool true]) (I2 0 2 105 (.ret [.int .u8 (0),.bool false]) (I2 0 3 109 (.ret [.int .u8 (0),.bool false]) (I8 0 4 97 (R1 0 5 122 (A02 6) (A01 6)) (A01 5))))
def A5P{G}(b:L7 G):L2 prog G 106 [.s 3] KH [.s 4,.s 8]:=by
 refine G0 (C:=cx L0 []) (d:=60) A5O (cxg (A5l b) .nil) b ⟨f106,_,func106,rfl⟩ C5 C5 ?_;intro us outs f;unfold KH at f;split at f
 .skip;rename_i c;cases f;unfold A5O;refine w0 (.cons 0 _ (.nil)) ?_;repeat (first|(refine w7 [.int .u8 _,.bool _] ?_;rotate_left)|refine w4 (fun g=>?_) fun g=>?_|refine pA ?_|refine iJ ?_|refine eY ?_|refine iI ?_|refine nS ?_|refine w1 (.bin .and) (e:=RV 5 32 F5 F5 F5) (k':=?_))
  all_goals
   refine l2 ?_ ?_
   ·(unfold jA;(repeat' split)<;>omega)
   .symm;first|exact K8 (by(unfold jA;(repeat' split)<;>omega))|exact E7 (by(unfold jA;(repeat' split)<;>omega))
 .cases f
noncomputable def A9w:S0:=⟨_,fun b=>.cons (A5P b) (A5l b)⟩
def HT:List U->Option (Nat×List U)
 | [.int .i64 c]=>some (0,[.int .i64 (jA c)])
 | _=>none
def A2B(c:Int):HT [.int .i64 c]=some (0,[.int .i64 (jA c)]):=rfl
def I6(a0:Int):Tr:=.ret [jI a0]
def DU(n:Nat):Tr:=I8 0 n 92 (R1 0 (n+1) 95 (aS [h3 0,jI 92]<|aA [h3 (n+2),jI 28]<|.ret [h3 (n+3)]) (I6 (-1))) (I6 (-1))
def v7(a0:Nat)(c:Nat)(a2:Int)(b d:Tr):Tr:=aN [h3 a0,jI a2]<|.br c b d
def A31:Tr:=I2 0 1 32 (I6 0) (I8 0 2 97 (R1 0 3 122 (v7 0 4 105 (v7 0 5 109 (aS [h3 0,jI 97]<|aA [h3 6,jI 1]<|.ret [h3 7]) (DU 6)) (DU 5)) (DU 4)) (DU 3))
def A7d{G}(b:L7 G):L2 prog G 83 [.s 3] HT [.s 3]:=by
 refine G0 (d:=60) A31 (cxg (A9w.2 b) .nil) b ⟨f83,_,func83,rfl⟩ C5 C5 ?_;intro us outs e;unfold HT at e;split at e
 .skip;rename_i c;cases e;unfold A31;refine w0 (.cons 0 _ (.nil)) ?_;repeat (first|(refine w7 [.int .i64 _] ?_;rotate_left)|refine w4 (fun g=>?_) fun g=>?_|refine LP ?_|refine vX ?_|refine gO ?_|refine q8 ?_|refine iI ?_|refine nS ?_|refine uP ?_|refine eY ?_)
  all_goals
   refine l0 ?_
   (unfold jA;(repeat' split)<;>omega)
 .cases e
def A5Q(c:Int):(c=32/\jA c=0)∨((c=105∨c=109)/\jA c = -1)∨(97<=c/\c<=122/\c≠105/\c≠109/\jA c=c-96)∨(92<=c/\c<=95/\jA c=c-64)∨(c≠32/\¬(97<=c/\c<=122)/\¬(92<=c/\c<=95)/\jA c = -1):=by
 unfold jA
 (repeat' split)<;>omega
noncomputable def A8_:S0:=⟨_,fun b=>(.cons (A5P b) .nil)⟩
def GH:List U->Option (Nat×List U)
 | [.int .i64 c,.int .i64 m]=>if -9223372036854775808<=m/\m<=9223372036854775807 then some (0,[.bool (decide (n9 c m))])else none
 | _=>none
def A1m(c:Int)(m:Int)(b : -9223372036854775808<=m/\m<=9223372036854775807):GH [.int .i64 c,.int .i64 m]=some (0,[.bool (decide (n9 c m))]):=A9 b
def E6:Tr:=.ret [.bool false]
def m7(a0:Nat)(c:Int)(a2:Nat)(b d:Tr):Tr:=.lt 3 (.bin .and) [h3 a0,jI c]<|aN [h3 a2,jI 0]<|.br (a2+1) b d
def UY(n:Nat):Tr:=m7 1 4 n (.fn KH [h3 0] 2<|.br (n+3) (.lt 3 (.bin .andNot) [h3 1,jI 6]<|aE [h3 (n+4),jI 0]<|.ret [h (n+5) 8]) (E6)) (I2 1 (n+2) 0 (.ret [.bool true]) (I2 1 (n+3) 2 (v7 0 (n+4) 91 (aN [h3 0,jI 79]<|.ret [h (n+5) 8]) E6) E6))
def LM(n:Nat):Tr:=I2 1 n 2 (.ret [.bool true]) (aE [h3 1,jI 0]<|.ret [h (n+1) 8])
def vV(n:Nat):Tr:=I2 0 n 1114136 (I2 1 (n+1) 1 (.ret [.bool true]) (LM (n+2))) (I2 0 (n+1) 1114135 (LM (n+2)) (I2 0 (n+2) 1114137 (LM (n+3)) (I2 0 (n+3) 1114138 (aE [h3 1,jI 0]<|.ret [h (n+4) 8]) (I8 0 (n+4) 1114113 (R1 0 (n+5) 1114134 (I8 1 (n+6) 0 (aQ [h3 1,jI 7]<|.ret [h (n+7) 8]) E6) E6) E6))))
def O7(a0:Nat)(b:Nat)(c d:Tr):Tr:=aX [h a0 8]<|.br b c d
def A3a:Tr:=I8 0 2 0 (R1 0 3 1114111 (.lt 3 (.bin .shr) [h3 0,.int .u64 (11)]<|v7 4 5 27 (I8 0 6 32 (I8 0 7 127 (aQ [h3 0,jI 159]<|O7 8 9 (UY 10) (vV 10)) (UY 8)) (vV 7)) (vV 6)) (vV 4)) (vV 3)
def A7K{G}(f:L7 G):L2 prog G 76 [.s 3,.s 3] GH [.s 8]:=by
 refine G0 (d:=60) A3a (cxg (A8_.2 f) .nil) f ⟨f76,_,func76,rfl⟩ C5 C5 ?_;intro us outs b;unfold GH at b;split at b
 .skip;rename_i c m;split at b
  .rename_i k;cases b;unfold A3a;refine w0 (.cons 1 _ (.cons 0 _ (.nil))) ?_;repeat (first|refine w4 (fun g=>?_) fun g=>?_|refine w4B (fun g=>?_) fun g=>?_|(refine w7 [.bool _] ?_;rotate_left)|refine eY ?_|refine iI ?_|refine nS ?_|refine uP ?_|refine w1 (.bin .and) (e:=FF _) (k':=?_)|refine w32 KH (e:=A2_ _) (k':=?_)|refine w1 (.bin .andNot) (e:=A6x _) (k':=?_)|refine w1 (.bin .shr) (e:=RO 2048 F5 F5) (k':=?_)|refine aY ?_)
   all_goals
    have z0:=A1T m k.1 k.2;have l:=A5Q c;refine l1 ?_;first|(refine decide_eq_decide.2 ?_;unfold n9 chP okU;omega)|(symm;first|exact K8 (by unfold n9 chP okU at *;omega)|exact E7 (by unfold n9 chP okU at *;omega))
  .cases b
 .cases b
noncomputable def A9F:S0:=⟨_,fun b=>(.cons (A7d b) .nil)⟩
def jO:List U->Option (Nat×List U)
 | [.int .i64 c,.int .i64 m]=>if -9223372036854775808<=m/\m<=9223372036854775807 then some (0,[.bool (decide (n9 c m))])else none
 | _=>none
def PH(c:Int)(m:Int)(b : -9223372036854775808<=m/\m<=9223372036854775807):jO [.int .i64 c,.int .i64 m]=some (0,[.bool (decide (n9 c m))]):=A9 b
def WX(n:Nat):Tr:=I2 1 n 0 (.ret [.bool true]) (I2 1 (n+1) 2 (v7 0 (n+2) 91 (aN [h3 0,jI 79]<|.ret [h (n+3) 8]) E6) (.fn HT [h3 0] 1<|I8 (n+2) (n+3) 0 (I2 1 (n+4) 4 (.ret [.bool true]) (aE [h3 1,jI 6]<|.ret [h (n+5) 8])) E6))
def WW(n:Nat):Tr:=I2 1 n 0 (.ret [.bool true]) (aE [h3 1,jI 2]<|.ret [h (n+1) 8])
def WV(n:Nat):Tr:=I2 0 n 1114135 (WW (n+1)) (I2 0 (n+1) 1114137 (WW (n+2)) (I2 0 (n+2) 1114136 (I2 1 (n+3) 0 (.ret [.bool true]) (I2 1 (n+4) 1 (.ret [.bool true]) (aE [h3 1,jI 2]<|.ret [h (n+5) 8]))) (I2 0 (n+3) 1114138 (aE [h3 1,jI 0]<|.ret [h (n+4) 8]) E6)))
def wS(n:Nat):Tr:=I8 0 n 1114113 (R1 0 (n+1) 1114134 (I8 1 (n+2) 0 (aQ [h3 1,jI 7]<|.ret [h (n+3) 8]) E6) (WV (n+2))) (WV (n+1))
def WU(n:Nat):Tr:=I8 0 n 32 (I8 0 (n+1) 127 (aQ [h3 0,jI 159]<|O7 (n+2) (n+3) (WX (n+4)) (wS (n+4))) (WX (n+2))) (wS (n+1))
def Y3(a0:Nat)(c:Nat)(a2:Int)(b d:Tr):Tr:=aL [h3 a0,jI a2]<|.br c b d
def A3s:Tr:=I8 0 2 0 (R1 0 3 1114111 (Y3 0 4 55296 (WU 5) (aG [h3 0,jI 57343]<|.br 5 (WU 6) (wS 6))) (wS 4)) (wS 3)
def PI{G}(f:L7 G):L2 prog G 47 [.s 3,.s 3] jO [.s 8]:=by
 refine G0 (d:=60) A3s (cxg (A9F.2 f) .nil) f ⟨f47,_,func47,rfl⟩ C5 C5 ?_;intro us outs b;unfold jO at b;split at b
 .skip;rename_i c m;split at b
  .rename_i k;cases b;unfold A3s;refine w0 (.cons 1 _ (.cons 0 _ (.nil))) ?_;repeat (first|refine eY ?_|(refine w7 [.bool _] ?_;rotate_left)|refine w4 (fun g=>?_) fun g=>?_|refine iI ?_|refine nS ?_|refine uP ?_|refine w31 HT (e:=A2B _) (k':=?_)|refine aY ?_|refine dX ?_|refine wA ?_)
   all_goals
    have z0:=A1T m k.1 k.2;have l:=A5Q c;refine l1 ?_;first|(refine decide_eq_decide.2 ?_;unfold n9 chP okU;omega)|(symm;first|exact K8 (by unfold n9 chP okU at *;omega)|exact E7 (by unfold n9 chP okU at *;omega))
  .cases b
 .cases b
def msP(m w b r cl:Int):Prop:=0<=w/\w<=3/\0<=b/\b<=3/\(w=0->b<=2)/\(w=3->b<=1)/\0<=m/\m<=7/\0<=r/\r<=39/\0<=cl/\cl<=79
instance(m w b r cl:Int):Decidable (msP m w b r cl):=by unfold msP;infer_instance
def A4a(m w b r cl:Int):msP m w b r cl↔(0<=b/\0<=m/\m<=7/\0<=r/\r<=39/\0<=cl/\cl<=79)/\((w=0/\b<=2)∨(w=1/\b<=3)∨(w=2/\b<=3)∨(w=3/\b<=1)):=by
 unfold msP;omega
def YU(w:Int):(w=0/\([2,3,3,1]:List Int).getD w.toNat 0=2)∨(w=1/\([2,3,3,1]:List Int).getD w.toNat 0=3)∨(w=2/\([2,3,3,1]:List Int).getD w.toNat 0=3)∨(w=3/\([2,3,3,1]:List Int).getD w.toNat 0=1)∨w<0∨3<w:=by
 by_cases h:0<=w/\w<=3
 .have:w=0∨w=1∨w=2∨w=3:=A2;rcases this with rfl|rfl|rfl|rfl<;>decide
 .omega
noncomputable def A89:S0:=⟨_,fun b=>.nil⟩
def GG:List U->Option (Nat×List U)
 | [.int .i64 k,.int .i64 c,.int .i64 m,.int .i64 w,.int .i64 b,.int .i64 r,.int .i64 cl,.str t]=>some (0,[.bool (decide (msP m w b r cl))])
 | _=>none
def A1l(k:Int)(c:Int)(m:Int)(w:Int)(b:Int)(r:Int)(cl:Int)(t:B5):GG [.int .i64 k,.int .i64 c,.int .i64 m,.int .i64 w,.int .i64 b,.int .i64 r,.int .i64 cl,.str t]=some (0,[.bool (decide (msP m w b r cl))]):=rfl
def A3Z:Tr:=I8 3 8 0 (R1 3 9 3 (aI [h3 3,jI 4]<|.br 10 (.lt 3 (.sel) [h3 3,jI 2,jI 3,jI 3,jI 1]<|I8 4 12 0 (aQ [h3 4,h3 11]<|.br 13 (I8 2 14 0 (R1 2 15 7 (I8 5 16 0 (R1 5 17 39 (I8 6 18 0 (aQ [h3 6,jI 79]<|.ret [h 19 8]) E6) E6) E6) E6) E6) (E6)) E6) (.no)) E6) E6
def A7J{G}(f:L7 G):L2 prog G 77 [.a [3,3,3,3,3,3,3,9]] GG [.s 8]:=by
 refine G0 (d:=60) A3Z (cxg (A89.2 f) .nil) f ⟨f77,_,func77,rfl⟩ C5 C5 ?_;intro us outs l;unfold GG at l;split at l
 .skip;rename_i k c m w b r cl t;cases l;unfold A3Z;refine w0 (.cons 7 _ (.cons 6 _ (.cons 5 _ (.cons 4 _ (.cons 3 _ (.cons 2 _ (.cons 1 _ (.cons 0 _ (.nil))))))))) ?_;repeat (first|refine w4 (fun g=>?_) fun g=>?_|(refine w7 [.bool _] ?_;rotate_left)|refine iI ?_|refine nS ?_|refine A7P ?_|refine w1 (.sel) (e:=A2p [2,3,3,1] A2 (by show _<((4:Nat):Int);omega)) (k':=?_)|(refine w8 ?_;(have z0:=YU w;omega)))
  all_goals
   have n:=A4a m w b r cl;have z0:=YU w;refine l1 ?_;first|(refine decide_eq_decide.2 ⟨fun h=>n.2 ?_,fun h=>?_⟩;omega;(have:=n.1 h;omega))|(symm;first|exact K8 (n.2 A2)|exact E7 (fun h=>by have:=n.1 h;omega)|(exfalso;omega))
 .cases l
noncomputable def A9E:S0:=⟨_,fun b=>.nil⟩
def HM:List U->Option (Nat×List U)
 | [.int .i64 k,.int .i64 c,.int .i64 m,.int .i64 w,.int .i64 b,.int .i64 r,.int .i64 cl,.str t]=>some (0,[.bool (decide (msP m w b r cl))])
 | _=>none
def A17(k:Int)(c:Int)(m:Int)(w:Int)(b:Int)(r:Int)(cl:Int)(t:B5):HM [.int .i64 k,.int .i64 c,.int .i64 m,.int .i64 w,.int .i64 b,.int .i64 r,.int .i64 cl,.str t]=some (0,[.bool (decide (msP m w b r cl))]):=rfl
def WR(n:Nat):Tr:=I8 3 n 0 (R1 3 (n+1) 3 (I8 4 (n+2) 0 (R1 4 (n+3) 1 (I8 2 (n+4) 0 (R1 2 (n+5) 7 (I8 5 (n+6) 0 (R1 5 (n+7) 39 (I8 6 (n+8) 0 (aQ [h3 6,jI 79]<|.ret [h (n+9) 8]) E6) E6) E6) E6) E6) E6) E6) E6) E6
def WQ(n:Nat):Tr:=.br 13 (I8 2 n 0 (R1 2 (n+1) 7 (I8 5 (n+2) 0 (R1 5 (n+3) 39 (I8 6 (n+4) 0 (aQ [h3 6,jI 79]<|.ret [h (n+5) 8]) E6) E6) E6) E6) E6) (E6)
def A3q:Tr:=I2 3 8 0 (I2 3 9 3 (WR 10) (I8 3 10 0 (R1 3 11 3 (I8 4 12 0 (aQ [h3 4,jI 2]<|WQ 14) E6) E6) E6)) (I2 3 9 3 (WR 10) (I8 3 10 0 (R1 3 11 3 (I8 4 12 0 (aQ [h3 4,jI 3]<|WQ 14) E6) E6) E6))
def A3r{G}(e:L7 G):L2 prog G 80 [.a [3,3,3,3,3,3,3,9]] HM [.s 8]:=by
 refine G0 (d:=60) A3q (cxg (A9E.2 e) .nil) e ⟨f80,_,func80,rfl⟩ C5 C5 ?_;intro us outs f;unfold HM at f;split at f
 .skip;rename_i k c m w b r cl t;cases f;unfold A3q;refine w0 (.cons 7 _ (.cons 6 _ (.cons 5 _ (.cons 4 _ (.cons 3 _ (.cons 2 _ (.cons 1 _ (.cons 0 _ (.nil))))))))) ?_;repeat (first|(refine w7 [.bool _] ?_;rotate_left)|refine w4 (fun g=>?_) fun g=>?_|refine iI ?_|refine nS ?_|refine eY ?_)
  all_goals
   have l:=A4a m w b r cl;have z0:=YU w;refine l1 ?_;first|(refine decide_eq_decide.2 ⟨fun h=>l.2 ?_,fun h=>?_⟩;omega;(have:=l.1 h;omega))|(symm;first|exact K8 (l.2 A2)|exact E7 (fun h=>by have:=l.1 h;omega)|(exfalso;omega))
 .cases f
def KG:List U->Option (Nat×List U)
 | [.str s,.str u]=>if u=[27]then some (0,[.bool (decide (0<=Lib.indexByte s 27))])else none
 | _=>none
def A29(s:B5)(u:B5)(b:u=[27]):KG [.str s,.str u]=some (0,[.bool (decide (0<=Lib.indexByte s 27))]):=A9 b
def A8o{G}(d:L7 G):L2 prog G 78 [.s 9,.s 9] KG [.s 8]:=by
 intro us outs w vs R c b k hR;unfold KG at b;split at b
 .skip;rename_i s u;split at b
  .rename_i f;cases b;have hv:=U8 (vs2:=[.string ⟨⟨s⟩⟩,.string ⟨⟨u⟩⟩]) c rfl;subst hv;refine fS (vr:=[.bool (decide (0<=Lib.indexByte s 27))]) func78 rfl C5 rfl ?_;subst f;exact(Tryz.strings_Contains_one ⟨⟨s⟩⟩ 27 w).mono fun e w' ⟨h1,g⟩=>⟨h1,by subst g;exact RowKit.Below.refl _ _⟩
  .cases b
 .cases b
def bU(b:Bool):Option Unit:=if b then some ()else none
def aK{b:Bool}{u:Unit}(h:bU b=some u):b=true:=by cases b<;>first|rfl|cases h
def aM{b:Bool}(h:bU b=none):b=false:=by cases b<;>first|rfl|cases h
def isE(x:UInt8):Bool:=decide (x=27)
def A20{l:B5}(h:(l.length:Int)<=i):(l.drop i.toNat).any isE=false:=by rw[hZ l h];rfl
def A5F{x:UInt8}(h:((x.toNat:Nat):Int)=27):x=27:=by
 apply UInt8.toNat_inj.1;show x.toNat=27;omega
def EU(l:B5)(n:Nat):l.getD n default=l.getD n 0:=rfl
def A8Z{l:B5}(h0:0<=i)(h1:i<(l.length:Int))(b:(((l.getD i.toNat 0).toNat:Nat):Int)=27):(l.drop i.toNat).any isE=true:=by
 rw[X6 l h0 h1,P6,EU,A5F b];rfl
def A8a{l:B5}(h0:0<=i)(h1:i<(l.length:Int))(b:¬(((l.getD i.toNat 0).toNat:Nat):Int)=27):(l.drop i.toNat).any isE=(l.drop (i+1).toNat).any isE:=by
 rw[X6 l h0 h1,P6,EU];have:isE (l.getD i.toNat 0)=false:=E7 fun h=>b (by rw[h];rfl)
 rw[this,P8]
noncomputable def A9I:S0:=⟨_,fun b=>(.cons (PI b) (.cons (A3r b) .nil))⟩
def wU:List U->Option (Nat×List U)
 | [.int .i64 i,.int .i64 k,.int .i64 c,.int .i64 m,.int .i64 w,.int .i64 b,.int .i64 r,.int .i64 cl,.str t]=>if 0<=i/\i<=(t.length:Int)/\(t.length:Int)<=140737488351232 then d8 (bU ((t.drop i.toNat).any isE)) [.int .i64 k,.int .i64 c,.int .i64 m,.int .i64 w,.int .i64 b,.int .i64 r,.int .i64 cl,.str t] (fun _=>[])else none
 | _=>none
def pU(i:Int)(k:Int)(c:Int)(m:Int)(w:Int)(b:Int)(r:Int)(cl:Int)(t:B5)(d:0<=i/\i<=(t.length:Int)/\(t.length:Int)<=140737488351232):wU [.int .i64 i,.int .i64 k,.int .i64 c,.int .i64 m,.int .i64 w,.int .i64 b,.int .i64 r,.int .i64 cl,.str t]=d8 (bU ((t.drop i.toNat).any isE)) [.int .i64 k,.int .i64 c,.int .i64 m,.int .i64 w,.int .i64 b,.int .i64 r,.int .i64 cl,.str t] (fun _=>[]):=A9 d
def A30:V7:=⟨[(1,.pointer (some ⟨16,0,none⟩)),(3,h 0 3)],[(16,.cells 30 [h 1 3,h 2 3,h 3 3,h 4 3,h 5 3,h 6 3,h 7 3,h 8 9])],9,[⟨.exit 1,[(1,.pointer (some ⟨16,0,none⟩))],[(16,.cells 30 [h 0 3,h 1 3,h 2 3,h 3 3,h 4 3,h 5 3,h 6 3,h 7 9])],8⟩,⟨.ret,[(2,.bool false)],[],0⟩]⟩
noncomputable def XB:Code:=(f45.body).getD .skip
noncomputable def A3v:Code:=match H9 [true,false,true,false,true,true,true,true,true,false,false,true,false] XB with|some (.loop x)=>x|_=>.skip
def A3z:f45.body=some XB:=rfl
def A3x:H9 [true,false,true,false,true,true,true,true,true,false,false,true,false] XB=some (.loop A3v):=C5
def j9(a0:Nat)(c:Nat)(a2:Nat)(b d:Tr):Tr:=aL [h3 c,h3 a0]<|.br a2 b d
def A3w:Tr:=aD [h 8 9]<|j9 9 0 10 (.lt 4 (.idx) [h 8 9,h3 0]<|aE [h 11 4,.int .u8 (27)]<|.br 12 (I6 1) (aA [h3 0,jI 1]<|.ret [jI (-1),h3 13,h3 1,h3 2,h3 3,h3 4,h3 5,h3 6,h3 7,h 8 9])) (.ret [jI 0,h3 1,h3 2,h3 3,h3 4,h3 5,h3 6,h3 7,h 8 9])
def A3y:List U->Nat
 | [.int .i64 i,.int .i64 k,.int .i64 c,.int .i64 m,.int .i64 w,.int .i64 b,.int .i64 r,.int .i64 cl,.str t]=>((t.length:Int)-i).toNat
 | _=>0
def XA(i:Int)(k:Int)(c:Int)(m:Int)(w:Int)(b:Int)(r:Int)(cl:Int)(t:B5):A3y [.int .i64 i,.int .i64 k,.int .i64 c,.int .i64 m,.int .i64 w,.int .i64 b,.int .i64 r,.int .i64 cl,.str t]=((t.length:Int)-i).toNat:=rfl
def A7a{G}(l:L7 G):∀ (E:Nat->U) (base:Nat),@V8 ⟨E,G⟩ prog base gl f45.ntmps A3v (T7 prog gl n0 17 A30 wU):=by
 refine l7 (dep:=60) (f:=45) (n0:=n0) (nB:=17) (H0:=H0) A3y A3w (cxg (A9I.2 l) .nil) l func45 A3z A3x C5 C5 C5 ?_;intro us d outs e;have o:=e;unfold wU at e;split at e
 .skip;rename_i i k c m w b r cl t;split at e
  .rename_i n;clear e o;refine⟨rfl,?_⟩;unfold A3w;refine w0 (.cons 8 _ (.cons 7 _ (.cons 6 _ (.cons 5 _ (.cons 4 _ (.cons 3 _ (.cons 2 _ (.cons 1 _ (.cons 0 _ (.nil)))))))))) ?_;repeat (first|refine w4 (fun g=>?_) fun g=>?_|refine gO ?_|refine q8 ?_|refine iH ?_|refine dX ?_|refine A7Q ?_|refine eY ?_|(refine w7 [.int .i64 _] ?_;rotate_left)|(refine w7 [.int .i64 _,.int .i64 _,.int .i64 _,.int .i64 _,.int .i64 _,.int .i64 _,.int .i64 _,.int .i64 _,.int .i64 _,.str _] ?_;rotate_left)|(refine w7 [.int .i64 _,.int .i64 _,.int .i64 _,.int .i64 _,.int .i64 _,.int .i64 _,.int .i64 _,.int .i64 _,.str _] ?_;rotate_left))
   all_goals first
    | refine U1 ?_ ?_
      .rw[pU i k c m w b r cl t n,A8a (i:=i) A2 A2 ‹_›];exact pU (i+1) k c m w b r cl t ⟨A2,A2,n.2.2⟩
      .rw[XA,XA];omega
    | refine K6 (d:=0) ?_
      rw[pU i k c m w b r cl t n,A20 A2];rfl
    | refine K6 (d:=1) ?_
      rw[pU i k c m w b r cl t n,A8Z (i:=i) A2 A2 ‹_›];rfl
  .cases e
 .cases e
noncomputable def A5g:List LpE:=(45,([true,false,true,false,true,true,true,true,true,false,false,true,false],T7 prog gl n0 17 A30 wU))::[]
def lX{G}(b:L7 G):u5 prog G gl A5g:=.cons func45 A3z A3x (A7a b) .nil
def A3S(t:B5):(0<=Lib.indexByte t 27)↔t.any isE=true:=by
 induction t with
 | nil=>simp[Lib.indexByte]
 | cons b l d =>
   have h:=Lib.indexByte_ge l 27;rw[Lib.indexByte,P6];by_cases e:b=27
   .subst e;simp[isE]
   .have f:(b == 27)=false:=by simp[e]
    have g:isE b=false:=E7 e;rw[f,g,P8,<- d];by_cases c:Lib.indexByte l 27 = -1
    .simp[c]
    .simp[c];omega
def W8(k c m w b r cl:Int)(t:B5):Prop :=
 (k=1/\w=0/\b=0/\r=0/\cl=0/\t=[]/\n9 c m)∨(k=2/\c=0/\t=[]/\msP m w b r cl)∨(k=3/\c=0/\m=0/\w=0/\b=0/\r=0/\cl=0/\t.length<=1000/\t.any isE=false)∨(k=4/\c=0/\m=0/\b=0/\r=0/\cl=0/\t=[]/\0<=w/\w<=1)
instance(k c m w b r cl:Int)(t:B5):Decidable (W8 k c m w b r cl t):=by unfold W8;infer_instance
noncomputable def A9H:S0:=⟨_,fun b=>(.cons (PI b) (.cons (A3r b) .nil))⟩
def pT:List U->Option (Nat×List U)
 | [.int .i64 k,.int .i64 c,.int .i64 m,.int .i64 w,.int .i64 b,.int .i64 r,.int .i64 cl,.str t]=>if -9223372036854775808<=m/\m<=9223372036854775807/\(t.length:Int)<=140737488351232 then some (0,[.bool (decide (W8 k c m w b r cl t))])else none
 | _=>none
def DS(k:Int)(c:Int)(m:Int)(w:Int)(b:Int)(r:Int)(cl:Int)(t:B5)(d : -9223372036854775808<=m/\m<=9223372036854775807/\(t.length:Int)<=140737488351232):pT [.int .i64 k,.int .i64 c,.int .i64 m,.int .i64 w,.int .i64 b,.int .i64 r,.int .i64 cl,.str t]=some (0,[.bool (decide (W8 k c m w b r cl t))]):=A9 d
def A3u:Tr:=I2 0 8 1 (.lt 8 (.eqs) [h3 0,h3 0,h3 1,h3 1,h3 2,h3 2,h3 3,jI 0,h3 4,jI 0,h3 5,jI 0,h3 6,jI 0,h 7 9,.string ⟨⟨[]⟩⟩]<|.br 9 (.fn jO [h3 1,h3 2] 1<|.ret [h 10 8]) (E6)) (I2 0 9 2 (.lt 8 (.eqs) [h3 0,h3 0,h3 1,jI 0,h3 2,h3 2,h3 3,h3 3,h3 4,h3 4,h3 5,h3 5,h3 6,h3 6,h 7 9,.string ⟨⟨[]⟩⟩]<|.br 10 (.fn HM [h3 0,h3 1,h3 2,h3 3,h3 4,h3 5,h3 6,h 7 9] 1<|.ret [h 11 8]) (E6)) (I2 0 10 3 (.lp wU [jI 0,h3 0,h3 1,h3 2,h3 3,h3 4,h3 5,h3 6,h 7 9] 0 8 (.lt 8 (.eqs) [h3 11,h3 11,h3 12,jI 0,h3 13,jI 0,h3 14,jI 0,h3 15,jI 0,h3 16,jI 0,h3 17,jI 0,h 18 9,h 18 9]<|.br 19 (aD [h 18 9]<|aQ [h3 20,jI 1000]<|.ret [h 21 8]) (E6)) (.lp wU [jI 0,h3 0,h3 1,h3 2,h3 3,h3 4,h3 5,h3 6,h 7 9] 1 0 (E6) (.no))) (I2 0 11 4 (.lt 8 (.eqs) [h3 0,h3 0,h3 1,jI 0,h3 2,jI 0,h3 3,h3 3,h3 4,jI 0,h3 5,jI 0,h3 6,jI 0,h 7 9,.string ⟨⟨[]⟩⟩]<|.br 12 (I8 3 13 0 (aQ [h3 3,jI 1]<|.ret [h 14 8]) E6) (E6)) E6)))
def PP{G}(f:L7 G):L2 prog G 45 [.a [3,3,3,3,3,3,3,9]] pT [.s 8]:=by
 refine G0 (d:=60) A3u (cxg (A9H.2 f) (lX f)) f ⟨f45,_,func45,rfl⟩ C5 C5 ?_;intro us outs g;unfold pT at g;split at g
 .skip;rename_i k c m w b r cl t;split at g
  .rename_i l;cases g;unfold A3u;refine w0 (.cons 7 _ (.cons 6 _ (.cons 5 _ (.cons 4 _ (.cons 3 _ (.cons 2 _ (.cons 1 _ (.cons 0 _ (.nil))))))))) ?_;refine eY ?_;refine w4 (fun g0=>?_) fun g0=>?_
   .refine w1 (.eqs) (e:=rfl) (k':=?_);first|refine w5 (fun g1=>?_) (fun g1=>?_)|refine w5B (fun g1=>?_) (fun g1=>?_)
    .refine w7 [.bool _] ?_;refine l1 ?_;unfold W8
     (try replace g3:=aK g3)
     (try replace g3:=aM g3)
     first|(simp_all;done)|(simp_all;omega)
    refine w31 jO (e:=PH _ _ A2) (k':=?_);refine w7 [.bool _] ?_;refine l1 ?_;unfold W8
    (try replace g3:=aK g3)
    (try replace g3:=aM g3)
    first|(simp_all;done)|(simp_all;omega)
   refine eY ?_;refine w4 (fun g1=>?_) fun g1=>?_
   .refine w1 (.eqs) (e:=rfl) (k':=?_);first|refine w5 (fun g2=>?_) (fun g2=>?_)|refine w5B (fun g2=>?_) (fun g2=>?_)
    .refine w7 [.bool _] ?_;refine l1 ?_;unfold W8
     (try replace g3:=aK g3)
     (try replace g3:=aM g3)
     first|(simp_all;done)|(simp_all;omega)
    refine w31 HM (e:=A17 _ _ _ _ _ _ _ _) (k':=?_);refine w7 [.bool _] ?_;refine l1 ?_;unfold W8
    (try replace g3:=aK g3)
    (try replace g3:=aM g3)
    first|(simp_all;done)|(simp_all;omega)
   refine eY ?_;refine w4 (fun g2=>?_) fun g2=>?_
   .refine w6 wU (pU _ _ _ _ _ _ _ _ _ A2) (h0:=fun g3=>?_) (h1:=fun v3 g3=>?_)
    .show Wk _ _ (.cons _ _ (.cons _ _ (.cons _ _ (.cons _ _ (.cons _ _ (.cons _ _ (.cons _ _ (.cons _ _ _))))))));refine w1 (.eqs) (e:=rfl) (k':=?_);first|refine w5 (fun g4=>?_) (fun g4=>?_)|refine w5B (fun g4=>?_) (fun g4=>?_)
     .refine w7 [.bool _] ?_;refine l1 ?_;unfold W8
      (try replace g3:=aK g3)
      (try replace g3:=aM g3)
      first|(simp_all;done)|(simp_all;omega)
     refine iH ?_;refine nS ?_;refine w7 [.bool _] ?_;refine l1 ?_;unfold W8
     (try replace g3:=aK g3)
     (try replace g3:=aM g3)
     first|(simp_all;done)|(simp_all;omega)
    show Wk _ _ _;refine w7 [.bool _] ?_;refine l1 ?_;unfold W8
    (try replace g3:=aK g3)
    (try replace g3:=aM g3)
    first|(simp_all;done)|(simp_all;omega)
   refine eY ?_;refine w5 (fun g3=>?_) fun g3=>?_
   .refine w7 [.bool _] ?_;refine l1 ?_;unfold W8
    (try replace g3:=aK g3)
    (try replace g3:=aM g3)
    first|(simp_all;done)|(simp_all;omega)
   refine w1 (.eqs) (e:=rfl) (k':=?_);first|refine w5 (fun g4=>?_) (fun g4=>?_)|refine w5B (fun g4=>?_) (fun g4=>?_)
   .refine w7 [.bool _] ?_;refine l1 ?_;unfold W8
    (try replace g3:=aK g3)
    (try replace g3:=aM g3)
    first|(simp_all;done)|(simp_all;omega)
   refine iI ?_;refine w5 (fun g5=>?_) fun g5=>?_
   .refine w7 [.bool _] ?_;refine l1 ?_;unfold W8
    (try replace g3:=aK g3)
    (try replace g3:=aM g3)
    first|(simp_all;done)|(simp_all;omega)
   refine nS ?_;refine w7 [.bool _] ?_;refine l1 ?_;unfold W8
   (try replace g3:=aK g3)
   (try replace g3:=aM g3)
   first|(simp_all;done)|(simp_all;omega)
  .cases g
 .cases g
noncomputable def A9J:S0:=⟨_,fun b=>(.cons (PP b) .nil)⟩
def HU:List U->Option (Nat×List U)
 | [.int .i64 k,.int .i64 c,.int .i64 m,.int .i64 w,.int .i64 b,.int .i64 r,.int .i64 cl,.str t]=>if -9223372036854775808<=m/\m<=9223372036854775807/\(t.length:Int)<=140737488351232 then some (0,[.int .i64 (if W8 k c m w b r cl t then 0 else 430)])else none
 | _=>none
def A2C(k:Int)(c:Int)(m:Int)(w:Int)(b:Int)(r:Int)(cl:Int)(t:B5)(d : -9223372036854775808<=m/\m<=9223372036854775807/\(t.length:Int)<=140737488351232):HU [.int .i64 k,.int .i64 c,.int .i64 m,.int .i64 w,.int .i64 b,.int .i64 r,.int .i64 cl,.str t]=some (0,[.int .i64 (if W8 k c m w b r cl t then 0 else 430)]):=A9 d
def A32:Tr:=.fn pT [h3 0,h3 1,h3 2,h3 3,h3 4,h3 5,h3 6,h 7 9] 1<|O7 8 9 (I6 430) (I6 0)
def A7e{G}(f:L7 G):L2 prog G 43 [.a [3,3,3,3,3,3,3,9]] HU [.s 3]:=by
 refine G0 (d:=60) A32 (cxg (A9J.2 f) (lX f)) f ⟨f43,_,func43,rfl⟩ C5 C5 ?_;intro us outs l;unfold HU at l;split at l
 .skip;rename_i k c m w b r cl t;split at l
  .rename_i n;cases l;unfold A32;refine w0 (.cons 7 _ (.cons 6 _ (.cons 5 _ (.cons 4 _ (.cons 3 _ (.cons 2 _ (.cons 1 _ (.cons 0 _ (.nil))))))))) ?_;repeat (first|refine aY ?_|refine uO ?_|refine w4 (fun g=>?_) fun g=>?_|refine w4B (fun g=>?_) fun g=>?_|(refine w7 [.int .i64 _] ?_;rotate_left)|refine w31 pT (e:=DS _ _ _ _ _ _ _ _ n) (k':=?_))
   all_goals
    refine l0 ?_;first|(rw[A9 (G6 ‹_›)];done)|(rw[A6 (of_decide_eq_false ‹_›)];done)|(simp_all;done)
  .cases l
 .cases l
noncomputable def A9X:S0:=⟨_,fun b=>(.cons (A7K b) (.cons (A7J b) (.cons (A8o b) .nil)))⟩
def qI:List U->Option (Nat×List U)
 | [.int .i64 k,.int .i64 c,.int .i64 m,.int .i64 w,.int .i64 b,.int .i64 r,.int .i64 cl,.str t]=>if -9223372036854775808<=m/\m<=9223372036854775807/\(t.length:Int)<=140737488351232 then some (0,[.int .i64 (if W8 k c m w b r cl t then 0 else 430)])else none
 | _=>none
def EM(k:Int)(c:Int)(m:Int)(w:Int)(b:Int)(r:Int)(cl:Int)(t:B5)(d : -9223372036854775808<=m/\m<=9223372036854775807/\(t.length:Int)<=140737488351232):qI [.int .i64 k,.int .i64 c,.int .i64 m,.int .i64 w,.int .i64 b,.int .i64 r,.int .i64 cl,.str t]=some (0,[.int .i64 (if W8 k c m w b r cl t then 0 else 430)]):=A9 d
def A4k:Tr:=I2 0 8 1 (.fn GH [h3 1,h3 2] 1<|O7 9 10 (I6 430) (.lt 8 (.eqs) [h3 0,jI 1,h3 1,h3 1,h3 2,h3 2,h3 3,jI 0,h3 4,jI 0,h3 5,jI 0,h3 6,jI 0,h 7 9,.string ⟨⟨[]⟩⟩]<|O7 11 12 (I6 430) (I6 0))) (I2 0 9 2 (.fn GG [h3 0,h3 1,h3 2,h3 3,h3 4,h3 5,h3 6,h 7 9] 1<|O7 10 11 (I6 430) (.lt 8 (.eqs) [h3 0,h3 0,h3 1,jI 0,h3 2,h3 2,h3 3,h3 3,h3 4,h3 4,h3 5,h3 5,h3 6,h3 6,h 7 9,.string ⟨⟨[]⟩⟩]<|O7 12 13 (I6 430) (I6 0))) (I2 0 10 3 (aD [h 7 9]<|R1 11 12 1000 (.fn KG [h 7 9,.string ⟨⟨[27]⟩⟩] 1<|aX [h 13 8]<|O7 14 15 (I6 430) (.lt 8 (.eqs) [h3 0,h3 0,h3 1,jI 0,h3 2,jI 0,h3 3,jI 0,h3 4,jI 0,h3 5,jI 0,h3 6,jI 0,h 7 9,h 7 9]<|O7 16 17 (I6 430) (I6 0))) (I6 430)) (I2 0 11 4 (I8 3 12 0 (aQ [h3 3,jI 1]<|O7 13 14 (I6 430) (.lt 8 (.eqs) [h3 0,h3 0,h3 1,jI 0,h3 2,jI 0,h3 3,h3 3,h3 4,jI 0,h3 5,jI 0,h3 6,jI 0,h 7 9,.string ⟨⟨[]⟩⟩]<|O7 15 16 (I6 430) (I6 0))) (I6 430)) (I6 430))))
def ZP{G}(f:L7 G):L2 prog G 40 [.a [3,3,3,3,3,3,3,9]] qI [.s 3]:=by
 refine G0 (d:=60) A4k (cxg (A9X.2 f) (lX f)) f ⟨f40,_,func40,rfl⟩ C5 C5 ?_;intro us outs l;unfold qI at l;split at l
 .skip;rename_i k c m w b r cl t;split at l
  .rename_i n;cases l;have o:=A3S t;unfold A4k;refine w0 (.cons 7 _ (.cons 6 _ (.cons 5 _ (.cons 4 _ (.cons 3 _ (.cons 2 _ (.cons 1 _ (.cons 0 _ (.nil))))))))) ?_;repeat (first|refine w4 (fun g=>?_) fun g=>?_|refine w4B (fun g=>?_) fun g=>?_|refine aY ?_|refine uO ?_|(refine w7 [.int .i64 _] ?_;rotate_left)|refine eY ?_|refine w1 (.eqs) (e:=rfl) (k':=?_)|refine nS ?_|refine w31 GH (e:=A1m _ _ A2) (k':=?_)|refine w31 GG (e:=A1l _ _ _ _ _ _ _ _) (k':=?_)|refine iH ?_|refine w31 KG (e:=A29 _ _ rfl) (k':=?_)|refine iI ?_)
   all_goals
    refine l0 ?_;first
    | exact(A9 (by unfold W8;first|(simp_all;done)|(simp_all;omega))).symm
    | exact(A6 (fun h=>by
       unfold W8 at h;rcases h with h|h|h|h<;>first|(exfalso;omega)|(simp_all;done)|(simp_all;omega))).symm
  .cases l
 .cases l
def nE(l:B5):B5:=l.filter fun x=>!isE x
def NY{α:Type}(x:Option (List α)):aV x (some [])=x:=by
 unfold aV;cases x<;>simp[el]
def CQ{α:Type}(x:Option (List α))(u v:List α):aV (aV x (some u)) (some v)=aV x (some (u++v)):=by
 cases u with
 | nil=>rw[NY];rfl
 | cons a u=>cases v with
   | nil=>simp[aV,el]
   | cons c v=>simp[aV,el]
def GS{l:B5}(h0:0<=i)(h1:i<1000):(l.take 1000).getD i.toNat default=l.getD i.toNat default:=by
 rw[B1,B1,F2 A2]
def A6N{l:B5}(h:(l.length:Int)<=i∨1000<=i):nE ((l.take 1000).drop i.toNat)=[]:=by
 rw[hZ (l.take 1000) (by rw[G7];omega)];rfl
def B0Y{l:B5}(h0:0<=i)(h1:i<(l.length:Int))(b:i<1000)(c:¬(((l.getD i.toNat 0).toNat:Nat):Int)≠27):nE ((l.take 1000).drop i.toNat)=nE ((l.take 1000).drop (i+1).toNat):=by
 rw[X6 (l.take 1000) h0 (by rw[G7];omega),GS h0 b,EU,show l.getD i.toNat 0=27 from A5F A2];rfl
def B0Z{l:B5}(h0:0<=i)(h1:i<(l.length:Int))(c:i<1000)(b:(((l.getD i.toNat 0).toNat:Nat):Int)≠27):nE ((l.take 1000).drop i.toNat)=l.getD i.toNat 0::nE ((l.take 1000).drop (i+1).toNat):=by
 rw[X6 (l.take 1000) h0 (by rw[G7];omega),GS h0 c,EU];have:isE (l.getD i.toNat 0)=false:=E7 fun h=>b (by rw[h];rfl)
 unfold nE;rw[List.filter_cons,this];rfl
def A6M(l:B5):(nE l).length<=l.length:=List.length_filter_le _ _
noncomputable def A9h:S0:=⟨_,fun b=>(.cons (PI b) (.cons (PP b) .nil))⟩
def rI:List U->Option (Nat×List U)
 | [u_out,.int .i64 i,.int .u8 d0,.int .u8 d1,.int .u8 d2,.int .u8 d3,.int .u8 d4,.int .u8 d5,.int .u8 d6,.int .u32 dc,.str t]=>(Z3 rB u_out).bind fun out=>if 0<=i/\i<=1000/\((el out).length:Int)<=i/\(t.length:Int)<=140737488351232 then some (0,[H1 rB (aV out (some (bI (nE ((t.take 1000).drop i.toNat)))))])else none
 | _=>none
def mZ(out:A1h)(i:Int)(d0:Int)(d1:Int)(d2:Int)(d3:Int)(d4:Int)(d5:Int)(d6:Int)(dc:Int)(t:B5)(b:0<=i/\i<=1000/\((el out).length:Int)<=i/\(t.length:Int)<=140737488351232):rI [H1 rB out,.int .i64 i,.int .u8 d0,.int .u8 d1,.int .u8 d2,.int .u8 d3,.int .u8 d4,.int .u8 d5,.int .u8 d6,.int .u32 dc,.str t]=some (0,[H1 rB (aV out (some (bI (nE ((t.take 1000).drop i.toNat)))))]):=by
 simp only[rI,M8,J6];exact A9 b
def A5M:V7:=⟨[(1,.pointer (some ⟨16,0,none⟩)),(2,.pointer (some ⟨17,0,none⟩)),(4,own 18 0 11),(5,h 1 3)],[(16,.cells 24 [h 2 4,h 3 4,h 4 4,h 5 4,h 6 4,h 7 4,h 8 4,h 9 6,h 10 9]),(17,.cells 30 [.int .i64 (0),.int .i64 (0),.int .i64 (0),.int .i64 (0),.int .i64 (0),.int .i64 (0),.int .i64 (0),.string ⟨⟨[]⟩⟩]),(18,.sq 0 11 5 19),(19,.frz)],11,[⟨.exit 1,[(2,.pointer (some ⟨17,0,none⟩)),(4,own 20 0 11)],[(17,.cells 30 [.int .i64 (0),.int .i64 (0),.int .i64 (0),.int .i64 (0),.int .i64 (0),.int .i64 (0),.int .i64 (0),.string ⟨⟨[]⟩⟩]),(20,.sq 0 11 5 21),(21,.frz)],1⟩]⟩
noncomputable def A0y:Code:=(f17.body).getD .skip
noncomputable def A5I:Code:=match H9 [true,false,true,false,true,true,true,false,true,false,true,false] A0y with|some (.loop x)=>x|_=>.skip
def A5L:f17.body=some A0y:=rfl
def A5K:H9 [true,false,true,false,true,true,true,false,true,false,true,false] A0y=some (.loop A5I):=C5
def A5J:Tr:=aD [h 10 9]<|j9 11 1 12 (Y3 1 13 1000 (.lt 4 (.idx) [h 10 9,h3 1]<|aN [h 14 4,.int .u8 (27)]<|.br 15 (.lt 4 (.idx) [h 10 9,h3 1]<|.dt 11 (.snoc 1) [h 0 11,h 16 4]<|aA [h3 1,jI 1]<|.ret [jI (-1),h 17 11,h3 18,h 2 4,h 3 4,h 4 4,h 5 4,h 6 4,h 7 4,h 8 4,h 9 6,h 10 9]) (aA [h3 1,jI 1]<|.ret [jI (-1),h 0 11,h3 16,h 2 4,h 3 4,h 4 4,h 5 4,h 6 4,h 7 4,h 8 4,h 9 6,h 10 9])) (.ret [jI 0,h 0 11])) (.ret [jI 0,h 0 11])
def A0x:List U->Nat
 | [u_out,.int .i64 i,.int .u8 d0,.int .u8 d1,.int .u8 d2,.int .u8 d3,.int .u8 d4,.int .u8 d5,.int .u8 d6,.int .u32 dc,.str t]=>(match Z3 rB u_out with|some out=>(1000-i).toNat|none=>0)
 | _=>0
def A0w(out:A1h)(i:Int)(d0:Int)(d1:Int)(d2:Int)(d3:Int)(d4:Int)(d5:Int)(d6:Int)(dc:Int)(t:B5):A0x [H1 rB out,.int .i64 i,.int .u8 d0,.int .u8 d1,.int .u8 d2,.int .u8 d3,.int .u8 d4,.int .u8 d5,.int .u8 d6,.int .u32 dc,.str t]=(1000-i).toNat:=by
 simp only[A0x,M8]
def A8g{G}(l:L7 G):∀ (E:Nat->U) (base:Nat),@V8 ⟨E,G⟩ prog base gl f17.ntmps A5I (T7 prog gl n0 22 A5M rI):=by
 refine l7 (dep:=60) (f:=17) (n0:=n0) (nB:=22) (H0:=H0) A0x A5J (cxg (A9h.2 l) (lX l)) l func17 A5L A5K C5 C5 C5 ?_;intro us d outs c;have o:=c;unfold rI at c;split at c
 .skip;rename_i n i d0 d1 d2 d3 d4 d5 d6 dc t;have k:=E3.1 c;clear c;obtain⟨out,b,c⟩:=k;replace b:=S7 b;subst b;split at c
  .rename_i m;clear c o;refine⟨rfl,?_⟩;unfold A5J;refine w0 (.cons 10 _ (.cons 9 _ (.cons 8 _ (.cons 7 _ (.cons 6 _ (.cons 5 _ (.cons 4 _ (.cons 3 _ (.cons 2 _ (.cons 1 _ (.cons 0 _ (.nil)))))))))))) ?_;repeat (first|refine gO ?_|refine q8 ?_|refine w4 (fun g=>?_) fun g=>?_|refine dX ?_|refine A7Q ?_|(refine w7 [.int .i64 _,H1 rB _,.int .i64 _,.int .u8 _,.int .u8 _,.int .u8 _,.int .u8 _,.int .u8 _,.int .u8 _,.int .u8 _,.int .u32 _,.str _] ?_;rotate_left)|(refine w7 [.int .i64 _,H1 rB _] ?_;rotate_left)|refine iH ?_|refine uP ?_|refine w2 (.snoc 1) (r:=rB) (e:=KA rfl rfl F5 (by simp[*]<;>omega)) (k':=?_))
   all_goals first
    | refine U1 ?_ ?_
      .first
       | (have hx:∀ X,X=aV out (some (bI [t.getD i.toNat 0]))->rI [H1 rB X,.int .i64 (i+1),.int .u8 d0,.int .u8 d1,.int .u8 d2,.int .u8 d3,.int .u8 d4,.int .u8 d5,.int .u8 d6,.int .u32 dc,.str t]=rI [H1 rB out,.int .i64 i,.int .u8 d0,.int .u8 d1,.int .u8 d2,.int .u8 d3,.int .u8 d4,.int .u8 d5,.int .u8 d6,.int .u32 dc,.str t]:=fun X p=>by
           rw[mZ X (i+1) d0 d1 d2 d3 d4 d5 d6 dc t ⟨A2,A2,by rw[p,FI,O9,D0,tB,D8,I4];omega,m.2.2.2⟩,mZ out i d0 d1 d2 d3 d4 d5 d6 dc t m,p,CQ,<- A7C,B0Z (i:=i) A2 A2 A2 ‹_›];rfl
          exact hx _ rfl)
       | (rw[mZ out (i+1) d0 d1 d2 d3 d4 d5 d6 dc t ⟨A2,A2,A2,m.2.2.2⟩,mZ out i d0 d1 d2 d3 d4 d5 d6 dc t m,B0Y (i:=i) A2 A2 A2 ‹_›];done)
      .rw[A0w,A0w];omega
    | refine K6 (d:=0) ?_
      rw[mZ out i d0 d1 d2 d3 d4 d5 d6 dc t m,A6N (i:=i) A2];exact D9 (fun z=>some (0,[H1 rB z])) (NY out)
  .cases c
 .cases c
noncomputable def A9v:List LpE:=(17,([true,false,true,false,true,true,true,false,true,false,true,false],T7 prog gl n0 22 A5M rI))::A5g
def LG{G}(b:L7 G):u5 prog G gl A9v:=.cons func17 A5L A5K (A8g b) (lX b)
def A8V(h0:0<=a)(h1:a<256):evU (.bin .and) [.int .u8 a,.int .u8 6]=.int .u8 (a / 2%4*2):=by
 rw[sS];have k:∀ n:Nat,n<256->IntKind.u8.wrap (BitVec.ofInt IntKind.u8.bits (n:Int) &&& BitVec.ofInt IntKind.u8.bits 6).toNat=(n:Int) / 2%4*2:=F5;obtain⟨n,rfl⟩:∃ n:Nat,a=n:=⟨a.toNat,A2⟩;exact D9 _ (k n A2)
def A8W(h0:0<=a)(h1:a<256):evU (.bin .and) [.int .u8 a,.int .u8 2]=.int .u8 (a / 2%2*2):=by
 rw[sS];have k:∀ n:Nat,n<256->IntKind.u8.wrap (BitVec.ofInt IntKind.u8.bits (n:Int) &&& BitVec.ofInt IntKind.u8.bits 2).toNat=(n:Int) / 2%2*2:=F5;obtain⟨n,rfl⟩:∃ n:Nat,a=n:=⟨a.toNat,A2⟩;exact D9 _ (k n A2)
def el0(l:B5):el (aV none (some (bI l)))=bI l:=by rw[FI];rfl
def B0D(l:B5):∀ n ∈ el (aV none (some (bI l))),0<=n/\n<256:=fun n h=>by rw[el0]at h;exact A1O h
def iB0(l:B5):iB (el (aV none (some (bI l))))=l:=by rw[el0,A41]
def dC1(d4 dc:Int):Int:=if d4%2=0 then 1114113+d4 / 2%26 else dc
def dC2(x:Int):Int:=if x<1114113/\¬chP x then 97+x%26 else x
def dM(c m:Int):Int:=if n9 c (m%8)then m%8 else if n9 c (m%8 / 2%4*2)then m%8 / 2%4*2 else if n9 c (m / 2%2*2)then m / 2%2*2 else 0
def dC3(c m:Int):Int:=if n9 c (m%8)∨n9 c (m%8 / 2%4*2)∨n9 c (m / 2%2*2)∨n9 c 0 then c else 97
def diK(q:Int):Int:=if q=1 then 2 else if q=2 then 3 else if q=3 then 4 else 1
def diC(q d3 d4 dc:Int):Int:=if q=0 then dC3 (dC2 (dC1 d4 dc)) d3 else 0
def diM(q d3 d4 dc:Int):Int:=if q=0 then dM (dC2 (dC1 d4 dc)) d3 else if q=1 then d3%8 else 0
def diW(q d1:Int):Int:=if q=1 then d1%4 else if q=3 then d1%2 else 0
def diB(q d1 d2 d3 d5 d6:Int):Int:=if q=1 then(if W8 2 0 (d3%8) (d1%4) (d2%4) (d5%40) (d6%80) []then d2%4 else d2%4%2)else 0
def diR(q d5:Int):Int:=if q=1 then d5%40 else 0
def diL(q d6:Int):Int:=if q=1 then d6%80 else 0
def diT(q:Int)(t:B5):B5:=if q=2 then nE (t.take 1000)else[]
def l8{e a2 a3 a4 a5 f c g d l m n k b:Int}{s t:B5}(h1:e=g)(r:a2=d)(h3:a3=l)(o:a4=m)(u:a5=n)(p:f=k)(q:c=b)(v:s=t):[U.int .i64 e,.int .i64 a2,.int .i64 a3,.int .i64 a4,.int .i64 a5,.int .i64 f,.int .i64 c,.str s]=[U.int .i64 g,.int .i64 d,.int .i64 l,.int .i64 m,.int .i64 n,.int .i64 k,.int .i64 b,.str t]:=by rw[h1,r,h3,o,u,p,q,v]
def A8m(h:d4%2=0):dC1 d4 dc=1114113+d4 / 2%26:=A9 h
def A8l(h:¬d4%2=0):dC1 d4 dc=dc:=A6 h
noncomputable def A9k:S0:=⟨_,fun b=>.nil⟩
def CM:List U->Option (Nat×List U)
 | [.int .i64 c]=>some (0,[.bool (decide (chP c))])
 | _=>none
def A3F(c:Int):CM [.int .i64 c]=some (0,[.bool (decide (chP c))]):=rfl
def A1D(n:Nat):Tr:=I8 0 n 32 (I8 0 (n+1) 127 (aQ [h3 0,jI 159]<|aX [h (n+2) 8]<|.ret [h (n+3) 8]) (.ret [.bool true])) E6
def A5U:Tr:=I8 0 1 0 (R1 0 2 1114111 (Y3 0 3 55296 (A1D 4) (aG [h3 0,jI 57343]<|.br 4 (A1D 5) (E6))) E6) E6
def A8u{G}(b:L7 G):L2 prog G 46 [.s 3] CM [.s 8]:=by
 refine G0 (d:=60) A5U (cxg (A9k.2 b) (LG b)) b ⟨f46,_,func46,rfl⟩ C5 C5 ?_;intro us outs e;unfold CM at e;split at e
 .skip;rename_i c;cases e;unfold A5U;refine w0 (.cons 0 _ (.nil)) ?_;repeat (first|(refine w7 [.bool _] ?_;rotate_left)|refine w4 (fun g=>?_) fun g=>?_|refine iI ?_|refine nS ?_|refine aY ?_|refine dX ?_|refine wA ?_)
  all_goals
   refine l1 ?_;first|(refine decide_eq_decide.2 ?_;unfold chP okU;omega)|(symm;first|exact K8 (by unfold chP okU;omega)|exact E7 (by unfold chP okU;omega))
 .cases e
noncomputable def A9g:S0:=⟨_,fun b=>(.cons (PI b) (.cons (PP b) (.cons (A8u b) .nil)))⟩
def CG:List U->Option (Nat×List U)
 | [.int .u8 d0,.int .u8 d1,.int .u8 d2,.int .u8 d3,.int .u8 d4,.int .u8 d5,.int .u8 d6,.int .u32 dc,.str t]=>if 0<=d0/\d0<256/\0<=d1/\d1<256/\0<=d2/\d2<256/\0<=d3/\d3<256/\0<=d4/\d4<256/\0<=d5/\d5<256/\0<=d6/\d6<256/\0<=dc/\dc<4294967296/\(t.length:Int)<=140737488351232 then some (0,[.int .i64 (diK (d0%4)),.int .i64 (diC (d0%4) d3 d4 dc),.int .i64 (diM (d0%4) d3 d4 dc),.int .i64 (diW (d0%4) d1),.int .i64 (diB (d0%4) d1 d2 d3 d5 d6),.int .i64 (diR (d0%4) d5),.int .i64 (diL (d0%4) d6),.str (diT (d0%4) t)])else none
 | _=>none
def A25(d0:Int)(d1:Int)(d2:Int)(d3:Int)(d4:Int)(d5:Int)(d6:Int)(dc:Int)(t:B5)(b:0<=d0/\d0<256/\0<=d1/\d1<256/\0<=d2/\d2<256/\0<=d3/\d3<256/\0<=d4/\d4<256/\0<=d5/\d5<256/\0<=d6/\d6<256/\0<=dc/\dc<4294967296/\(t.length:Int)<=140737488351232):CG [.int .u8 d0,.int .u8 d1,.int .u8 d2,.int .u8 d3,.int .u8 d4,.int .u8 d5,.int .u8 d6,.int .u32 dc,.str t]=some (0,[.int .i64 (diK (d0%4)),.int .i64 (diC (d0%4) d3 d4 dc),.int .i64 (diM (d0%4) d3 d4 dc),.int .i64 (diW (d0%4) d1),.int .i64 (diB (d0%4) d1 d2 d3 d5 d6),.int .i64 (diR (d0%4) d5),.int .i64 (diL (d0%4) d6),.str (diT (d0%4) t)]):=A9 b
def j8(a0:Nat)(b:Nat):Tr:=.ret [jI 1,h3 a0,h3 b,jI 0,jI 0,jI 0,jI 0,.string ⟨⟨[]⟩⟩]
def fH(a0:Nat)(c:Nat)(a2:Nat)(b d:Tr):Tr:=.fn jO [h3 a0,h3 c] 1<|.br a2 b d
def vG(a0:Nat)(b:Nat)(c d:Tr):Tr:=.lt 4 (.bin .rem) [h 3 4,.int .u8 (8)]<|.lt 3 (.conv .i64) [h b 4]<|.lt 4 (.bin .rem) [h 3 4,.int .u8 (8)]<|.lt 4 (.bin .and) [h (b+2) 4,.int .u8 (6)]<|.lt 3 (.conv .i64) [h (b+3) 4]<|.lt 4 (.bin .and) [h 3 4,.int .u8 (2)]<|.lt 3 (.conv .i64) [h (b+5) 4]<|.fn jO [h3 a0,h3 (b+1)] 1<|.br (b+7) c d
def A0u(n:Nat):Tr:=vG 19 n (j8 19 (n+1)) (fH 19 (n+4) (n+8) (j8 19 (n+4)) (fH 19 (n+6) (n+9) (j8 19 (n+6)) (.fn jO [h3 19,jI 0] 1<|.br (n+10) (.ret [jI 1,h3 19,jI 0,jI 0,jI 0,jI 0,jI 0,.string ⟨⟨[]⟩⟩]) (.ret [jI 1,jI 97,jI 0,jI 0,jI 0,jI 0,jI 0,.string ⟨⟨[]⟩⟩]))))
def A0t(n:Nat):Tr:=vG 13 n (j8 13 (n+1)) (fH 13 (n+4) (n+8) (j8 13 (n+4)) (fH 13 (n+6) (n+9) (j8 13 (n+6)) (.fn jO [h3 13,jI 0] 1<|.br (n+10) (.ret [jI 1,h3 13,jI 0,jI 0,jI 0,jI 0,jI 0,.string ⟨⟨[]⟩⟩]) (.ret [jI 1,jI 97,jI 0,jI 0,jI 0,jI 0,jI 0,.string ⟨⟨[]⟩⟩]))))
def A5H:Tr:=.lt 4 (.bin .rem) [h 0 4,.int .u8 (4)]<|aE [h 9 4,.int .u8 (1)]<|.br 10 (.lt 4 (.bin .rem) [h 1 4,.int .u8 (4)]<|.lt 3 (.conv .i64) [h 11 4]<|.lt 4 (.bin .rem) [h 2 4,.int .u8 (4)]<|.lt 3 (.conv .i64) [h 13 4]<|.lt 4 (.bin .rem) [h 3 4,.int .u8 (8)]<|.lt 3 (.conv .i64) [h 15 4]<|.lt 4 (.bin .rem) [h 5 4,.int .u8 (40)]<|.lt 3 (.conv .i64) [h 17 4]<|.lt 4 (.bin .rem) [h 6 4,.int .u8 (80)]<|.lt 3 (.conv .i64) [h 19 4]<|.fn pT [jI 2,jI 0,h3 16,h3 12,h3 14,h3 18,h3 20,.string ⟨⟨[]⟩⟩] 1<|O7 21 22 (.lt 3 (.bin .rem) [h3 14,jI 2]<|.ret [jI 2,jI 0,h3 16,h3 12,h3 23,h3 18,h3 20,.string ⟨⟨[]⟩⟩]) (.ret [jI 2,jI 0,h3 16,h3 12,h3 14,h3 18,h3 20,.string ⟨⟨[]⟩⟩])) (aE [h 9 4,.int .u8 (2)]<|.br 11 (.dt 11 (.nilw 1) []<|.fn rI [h 12 11,jI 0,h 0 4,h 1 4,h 2 4,h 3 4,h 4 4,h 5 4,h 6 4,h 7 6,h 8 9] 1<|.lt 9 (.str) [h 13 11]<|.ret [jI 3,jI 0,jI 0,jI 0,jI 0,jI 0,jI 0,h 14 9]) (aE [h 9 4,.int .u8 (3)]<|.br 12 (.lt 4 (.bin .rem) [h 1 4,.int .u8 (2)]<|.lt 3 (.conv .i64) [h 13 4]<|.ret [jI 4,jI 0,jI 0,h3 14,jI 0,jI 0,jI 0,.string ⟨⟨[]⟩⟩]) (.lt 3 (.conv .i64) [h 7 6]<|.lt 4 (.bin .rem) [h 4 4,.int .u8 (2)]<|aE [h 14 4,.int .u8 (0)]<|.br 15 (.lt 4 (.bin .quo) [h 4 4,.int .u8 (2)]<|.lt 3 (.conv .i64) [h 16 4]<|.lt 3 (.bin .rem) [h3 17,jI 26]<|aA [jI 1114113,h3 18]<|Y3 19 20 1114113 (.fn CM [h3 19] 1<|O7 21 22 (.lt 3 (.bin .rem) [h3 19,jI 26]<|aA [jI 97,h3 23]<|vG 24 25 (j8 24 26) (fH 24 29 33 (j8 24 29) (fH 24 31 34 (j8 24 31) (.fn jO [h3 24,jI 0] 1<|.br 35 (.ret [jI 1,h3 24,jI 0,jI 0,jI 0,jI 0,jI 0,.string ⟨⟨[]⟩⟩]) (.ret [jI 1,jI 97,jI 0,jI 0,jI 0,jI 0,jI 0,.string ⟨⟨[]⟩⟩]))))) (A0u 23)) (A0u 21)) (Y3 13 16 1114113 (.fn CM [h3 13] 1<|O7 17 18 (.lt 3 (.bin .rem) [h3 13,jI 26]<|aA [jI 97,h3 19]<|vG 20 21 (j8 20 22) (fH 20 25 29 (j8 20 25) (fH 20 27 30 (j8 20 27) (.fn jO [h3 20,jI 0] 1<|.br 31 (.ret [jI 1,h3 20,jI 0,jI 0,jI 0,jI 0,jI 0,.string ⟨⟨[]⟩⟩]) (.ret [jI 1,jI 97,jI 0,jI 0,jI 0,jI 0,jI 0,.string ⟨⟨[]⟩⟩]))))) (A0t 19)) (A0t 17)))))
def A8e{G}(b:L7 G):L2 prog G 17 [.a [4,4,4,4,4,4,4,6,9]] CG [.a [3,3,3,3,3,3,3,9]]:=by
 refine G0 (d:=60) A5H (cxg (A9g.2 b) (LG b)) b ⟨f17,_,func17,rfl⟩ C5 C5 ?_;intro us outs k;unfold CG at k;split at k
 .skip;rename_i d0 d1 d2 d3 d4 d5 d6 dc t;split at k
  .rename_i o;cases k;have p:nE (t.take 1000)=nE ((t.take 1000).drop (0:Int).toNat):=rfl;have n:((el (none:A1h)).length:Int)=0:=rfl;unfold A5H;refine w0 (.cons 8 _ (.cons 7 _ (.cons 6 _ (.cons 5 _ (.cons 4 _ (.cons 3 _ (.cons 2 _ (.cons 1 _ (.cons 0 _ (.nil)))))))))) ?_;repeat (first|refine w4 (fun g=>?_) fun g=>?_|refine w4B (fun g=>?_) fun g=>?_|refine pA ?_|refine iJ ?_|refine A5t ?_|refine w1 (.bin .rem) (e:=FD _ _ _ A2) (k':=?_)|(refine w7 [.int .i64 _,.int .i64 _,.int .i64 _,.int .i64 _,.int .i64 _,.int .i64 _,.int .i64 _,.str _] ?_;rotate_left)|refine w31 jO (e:=PH _ _ A2) (k':=?_)|refine aY ?_|refine uO ?_|refine gO ?_|refine q8 ?_|refine w1 (.bin .and) (e:=A8V A2 A2) (k':=?_)|refine w1 (.bin .and) (e:=A8W A2 A2) (k':=?_)|refine eY ?_|refine A7M ?_|refine w1 (.bin .quo) (e:=NO _ _ _ A2) (k':=?_)|refine dX ?_|refine w31 CM (e:=A3F _) (k':=?_)|refine w31 pT (e:=DS _ _ _ _ _ _ _ _ ⟨A2,A2,by show(0:Int)<=_;omega⟩) (k':=?_)|refine w2 (.nilw 1) (r:=rB) (e:=KB rfl) (k':=?_)|refine w31 rI (e:=mZ _ _ _ _ _ _ _ _ _ _ _ ⟨A2,A2,A2,A2⟩) (k':=?_)|refine w1 (.str) (e:=RN rfl (B0D _)) (k':=?_))
   all_goals
    first
    | (have c:d0%4=1:=A2
       rw[c];first
       | exact l8 rfl rfl rfl rfl (A9 (D5.1 ‹_›)).symm rfl rfl rfl
       | exact l8 rfl rfl rfl rfl (A6 ‹_›).symm rfl rfl rfl)
    | (have c:d0%4=2:=A2
       rw[c];exact l8 rfl rfl rfl rfl rfl rfl rfl (iB0 _))
    | (have c:d0%4=3:=A2
       rw[c];exact l8 rfl rfl rfl rfl rfl rfl rfl rfl)
    | (have c:d0%4=0:=A2
       rw[c];obtain⟨X,h1⟩:∃ X,X=dC1 d4 dc:=⟨_,rfl⟩;obtain⟨Y,m⟩:∃ Y,Y=dC2 X:=⟨_,rfl⟩;have l:=h1;have f:=m;first|rw[A8m ‹_›]at l|rw[A8l ‹_›]at l
       rw[l]at f;unfold dC2 at f;first|rw[A9 ⟨by assumption,by assumption⟩]at f|rw[A6 (fun g=>absurd g.1 ‹_›)]at f|rw[A6 (fun g=>absurd g.2 ‹_›)]at f
       refine l8 rfl ?_ ?_ rfl rfl rfl rfl rfl
       .show _=dC3 (dC2 (dC1 d4 dc)) d3;rw[<- h1,<- m,f];unfold dC3;first
        | exact(A9 (.inl ‹_›)).symm
        | exact(A9 (.inr (.inl ‹_›))).symm
        | exact(A9 (.inr (.inr (.inl ‹_›)))).symm
        | exact(A9 (.inr (.inr (.inr ‹_›)))).symm
        | exact(A6 fun q=>q.elim ‹_› fun q=>q.elim ‹_› fun q=>q.elim ‹_› ‹_›).symm
       .show _=dM (dC2 (dC1 d4 dc)) d3;rw[<- h1,<- m,f];unfold dM
        (repeat (first|rw[A9 ‹_›]|rw[A6 ‹_›]));done)
  .cases k
 .cases k
def A5D(s:B5)(n:Nat):(ByteArray.mk ⟨s⟩).get! n=s.getD n 0:=by
 show(Array.mk s)[n]! = _;rw[getElem!_def];simp only[I3,B1];cases s[n]?<;>rfl
def A13{s:B5}{k:Int}(h:((s.getD k.toNat 0).toNat:Int)<128):pM s k=((s.getD k.toNat 0).toNat:Int)/\PE s k=k+1:=by
 have e:Utf8.decode ⟨⟨s⟩⟩ k.toNat=((s.getD k.toNat 0).toNat,1):=by
  unfold Utf8.decode;simp only[jJ,A5D];rw[A9 A2]
 unfold pM PE;rw[e];exact⟨rfl,rfl⟩
def A14{s:B5}{k:Int}(h:¬((s.getD k.toNat 0).toNat:Int)<128):128<=pM s k:=by
 unfold pM Utf8.decode;simp only[jJ,A5D];rw[A6 A2];have hr:128<=Utf8.runeError:=F5;split
 .split
  .omega
  .exact dK.2 hr
 .split
  .split
   .simp_all;omega
   .exact dK.2 hr
  .split
   .split
    .simp_all;omega
    .exact dK.2 hr
   .exact dK.2 hr
def OF(x:UInt8):Bool:=decide (x.toNat<32∨126<x.toNat)
def NW(s:B5):Prop:=s≠[]/\s.length<=100/\s.any OF=false
instance(s:B5):Decidable (NW s):=by unfold NW;infer_instance
def WL{s:B5}{k:Int}(h0:0<=k)(h1:k<s.length):(pM s k<32∨126<pM s k↔OF (s.getD k.toNat default)=true)/\(¬(pM s k<32∨126<pM s k)->PE s k=k+1):=by
 show(_↔OF (s.getD k.toNat 0)=true)/\_;unfold OF;rw[decide_eq_true_iff];by_cases h:((s.getD k.toNat 0).toNat:Int)<128
 .obtain⟨b,c⟩:=A13 h;rw[b,c];exact⟨A2,fun _=>rfl⟩
 .have:=A14 h;exact⟨A2,fun k=>by omega⟩
def yI{α:Type}{p:α->Bool}{l:List α}(h:K5 p l i=none):l.any p=false:=by
 induction l generalizing i with
 | nil=>rfl
 | cons a l b =>
   unfold K5 at h;cases hp:p a with
   | true=>rw[hp]at h;cases h
   | false=>rw[hp]at h;rw[P6,hp,b h];rfl
def rD{α:Type}{p:α->Bool}{l:List α}(h:K5 p l i=some j):l.any p=true/\i<=j:=by
 induction l generalizing i with
 | nil=>cases h
 | cons a l b =>
   unfold K5 at h;cases hp:p a with
   | true=>rw[hp]at h;cases h;rw[P6,hp];exact⟨rfl,Int.le_refl _⟩
   | false=>rw[hp]at h;rw[P6,(b h).1,Bool.or_true];exact⟨rfl,by have:=(b h).2;omega⟩
def A6w(b:Bool):evU (.bin .eql) [.bool b,.bool true]=.bool b:=by cases b<;>rfl
noncomputable def A9c:S0:=⟨_,fun b=>(.cons (ZP b) .nil)⟩
def qP:List U->Option (Nat×List U)
 | [.int .i64 k,.int .i64 c,.int .i64 m,.int .i64 w,.int .i64 b,.int .i64 r,.int .i64 cl,.str t]=>if -9223372036854775808<=m/\m<=9223372036854775807/\(t.length:Int)<=140737488351232 then some (0,[.bool (decide (k=1/\W8 k c m w b r cl t))])else none
 | _=>none
def ES(k:Int)(c:Int)(m:Int)(w:Int)(b:Int)(r:Int)(cl:Int)(t:B5)(d : -9223372036854775808<=m/\m<=9223372036854775807/\(t.length:Int)<=140737488351232):qP [.int .i64 k,.int .i64 c,.int .i64 m,.int .i64 w,.int .i64 b,.int .i64 r,.int .i64 cl,.str t]=some (0,[.bool (decide (k=1/\W8 k c m w b r cl t))]):=A9 d
def A40:Tr:=I2 0 8 1 (.fn qI [h3 0,h3 1,h3 2,h3 3,h3 4,h3 5,h3 6,h 7 9] 1<|aE [h3 9,jI 0]<|.ret [h 10 8]) E6
def A0Q{G}(l:L7 G):L2 prog G 52 [.a [3,3,3,3,3,3,3,9]] qP [.s 8]:=by
 refine G0 (d:=60) A40 (cxg (A9c.2 l) .nil) l ⟨f52,_,func52,rfl⟩ C5 C5 ?_;intro us outs f;unfold qP at f;split at f
 .skip;rename_i k c m w b r cl t;split at f
  .rename_i n;cases f;unfold A40;refine w0 (.cons 7 _ (.cons 6 _ (.cons 5 _ (.cons 4 _ (.cons 3 _ (.cons 2 _ (.cons 1 _ (.cons 0 _ (.nil))))))))) ?_;repeat (first|refine eY ?_|(refine w7 [.bool _] ?_;rotate_left)|refine w4 (fun g=>?_) fun g=>?_|refine w31 qI (e:=EM _ _ _ _ _ _ _ _ n) (k':=?_))
   all_goals
    refine l1 ?_;first|(symm;exact E7 (by simp_all))|(refine decide_eq_decide.2 ?_;by_cases h:W8 k c m w b r cl t<;>simp_all;done)
  .cases f
 .cases f
noncomputable def A9G:S0:=⟨_,fun b=>(.cons (PP b) .nil)⟩
def BA:List U->Option (Nat×List U)
 | [.int .i64 k,.int .i64 c,.int .i64 m,.int .i64 w,.int .i64 b,.int .i64 r,.int .i64 cl,.str t]=>if -9223372036854775808<=m/\m<=9223372036854775807/\(t.length:Int)<=140737488351232 then some (0,[.bool (decide (k=1/\W8 k c m w b r cl t))])else none
 | _=>none
def A18(k:Int)(c:Int)(m:Int)(w:Int)(b:Int)(r:Int)(cl:Int)(t:B5)(d : -9223372036854775808<=m/\m<=9223372036854775807/\(t.length:Int)<=140737488351232):BA [.int .i64 k,.int .i64 c,.int .i64 m,.int .i64 w,.int .i64 b,.int .i64 r,.int .i64 cl,.str t]=some (0,[.bool (decide (k=1/\W8 k c m w b r cl t))]):=A9 d
def A3t:Tr:=I2 0 8 1 (.fn pT [h3 0,h3 1,h3 2,h3 3,h3 4,h3 5,h3 6,h 7 9] 1<|.ret [h 9 8]) E6
def A7Z{G}(l:L7 G):L2 prog G 54 [.a [3,3,3,3,3,3,3,9]] BA [.s 8]:=by
 refine G0 (d:=60) A3t (cxg (A9G.2 l) .nil) l ⟨f54,_,func54,rfl⟩ C5 C5 ?_;intro us outs f;unfold BA at f;split at f
 .skip;rename_i k c m w b r cl t;split at f
  .rename_i n;cases f;unfold A3t;refine w0 (.cons 7 _ (.cons 6 _ (.cons 5 _ (.cons 4 _ (.cons 3 _ (.cons 2 _ (.cons 1 _ (.cons 0 _ (.nil))))))))) ?_;repeat (first|(refine w7 [.bool _] ?_;rotate_left)|refine eY ?_|refine w4 (fun g=>?_) fun g=>?_|refine w31 pT (e:=DS _ _ _ _ _ _ _ _ n) (k':=?_))
   all_goals
    refine l1 ?_;first|(symm;exact E7 (by simp_all))|(refine decide_eq_decide.2 ?_;simp_all;done)
  .cases f
 .cases f
noncomputable def A9b:S0:=⟨_,fun b=>.nil⟩
def xX:List U->Option (Nat×List U)
 | [.str s,.int .i64 p]=>if 0<=p/\p<=(s.length:Int)/\(s.length:Int)<=140737488351232 then d8 (K5 OF (s.drop p.toNat) p) [] (fun j=>[.int .i64 j])else none
 | _=>none
def qN(s:B5)(p:Int)(b:0<=p/\p<=(s.length:Int)/\(s.length:Int)<=140737488351232):xX [.str s,.int .i64 p]=d8 (K5 OF (s.drop p.toNat) p) [] (fun j=>[.int .i64 j]):=A9 b
def A4z:V7:=⟨[(1,.func (.func 95) ⟨[]⟩ ⟨[]⟩),(2,.bool true),(10,.pointer (some ⟨16,0,none⟩))],[(16,.iter [h 0 9,h 1 3])],2,[⟨.exit 0,[],[],0⟩,⟨.ret,[(6,h 0 3)],[],1⟩]⟩
noncomputable def A0J:Code:=(f113.body).getD .skip
noncomputable def A4u:Code:=match H9 [true,false,true,false] A0J with|some (.loop x)=>x|_=>.skip
def A4y:f113.body=some A0J:=rfl
def A4w:H9 [true,false,true,false] A0J=some (.loop A4u):=C5
def A4v:Tr:=aD [h 0 9]<|j9 2 1 3 (.lt 2 (.rune) [h 0 9,h3 1]<|.lt 3 (.rpos) [h 0 9,h3 1]<|aL [h 4 2,.int .i32 (32)]<|.br 6 (.ret [jI 1,h3 1]) (aG [h 4 2,.int .i32 (126)]<|aE [h 7 8,.bool true]<|.br 8 (.ret [jI 1,h3 1]) (.ret [jI (-1),h 0 9,h3 5]))) (I6 0)
def A4x:List U->Nat
 | [.str s,.int .i64 p]=>((s.length:Int)-p).toNat
 | _=>0
def A0I(s:B5)(p:Int):A4x [.str s,.int .i64 p]=((s.length:Int)-p).toNat:=rfl
def A8F{G}(k:L7 G):∀ (E:Nat->U) (base:Nat),@V8 ⟨E,G⟩ prog base gl f113.ntmps A4u (T7 prog gl n0 17 A4z xX):=by
 refine l7 (dep:=60) (f:=113) (n0:=n0) (nB:=17) (H0:=H0) A4x A4v (cxg (A9b.2 k) .nil) k func113 A4y A4w C5 C5 C5 ?_;intro us d outs c;have m:=c;unfold xX at c;split at c
 .skip;rename_i s p;split at c
  .rename_i b;clear c m;have zr:p<(s.length:Int)->_:=fun h=>WL b.1 h
   refine⟨rfl,?_⟩;unfold A4v;refine w0 (.cons 1 _ (.cons 0 _ (.nil))) ?_;repeat (first|refine w4 (fun g=>?_) fun g=>?_|refine dX ?_|(refine w7 [.int .i64 _,.int .i64 _] ?_;rotate_left)|refine iH ?_|refine w1 (.rune) (e:=A2q A2) (k':=?_)|refine w1 (.rpos) (e:=A2r A2) (k':=?_)|refine wA ?_|refine w1 (.bin .eql) (e:=A6w _) (k':=?_)|(refine w7 [.int .i64 _,.str _,.int .i64 _] ?_;rotate_left)|(refine w7 [.int .i64 _] ?_;rotate_left))
   all_goals first
    | refine U1 ?_ ?_
      .have l:=zr ‹_›;have n:=l.2 A2;rw[n,qN s (p+1) ⟨A2,A2,b.2.2⟩,qN s p b,bK (i:=p) b.1 ‹_› (by cases q:OF (s.getD p.toNat default)with|false=>rfl|true=>exact absurd (l.1.2 q) A2)]
      .have l:=zr ‹_›;have n:=l.2 A2;rw[n,A0I,A0I];omega
    | refine K6 (d:=0) ?_
      rw[qN s p b,dS A2];rfl
    | refine K6 (d:=1) ?_
      rw[qN s p b,dR b.1 ‹_› ((zr ‹_›).1.1 A2)];rfl
  .cases c
 .cases c
noncomputable def A9s:List LpE:=(113,([true,false,true,false],T7 prog gl n0 17 A4z xX))::[]
def A1e{G}(b:L7 G):u5 prog G gl A9s:=.cons func113 A4y A4w (A8F b) .nil
noncomputable def A9A:S0:=⟨_,fun b=>.nil⟩
def GI:List U->Option (Nat×List U)
 | [.str s]=>if(s.length:Int)<=140737488351232 then some (0,[.bool (decide (NW s))])else none
 | _=>none
def A1o(s:B5)(b:(s.length:Int)<=140737488351232):GI [.str s]=some (0,[.bool (decide (NW s))]):=A9 b
def A3b:Tr:=aN [h 0 9,.string ⟨⟨[]⟩⟩]<|.br 1 (aD [h 0 9]<|R1 2 3 100 (.lp xX [h 0 9,jI 0] 0 0 (.ret [.bool true]) (.lp xX [h 0 9,jI 0] 1 1 (aL [h3 4,jI 0]<|.ret [h 5 8]) (.no))) E6) (E6)
def A3c{G}(c:L7 G):L2 prog G 61 [.s 9] GI [.s 8]:=by
 refine G0 (d:=60) A3b (cxg (A9A.2 c) (A1e c)) c ⟨f61,_,func61,rfl⟩ C5 C5 ?_;intro us outs b;unfold GI at b;split at b
 .skip;rename_i s;split at b
  .rename_i e;cases b;unfold A3b;refine w0 (.cons 0 _ (.nil)) ?_;repeat (first|(refine w7 [.bool _] ?_;rotate_left)|refine w4 (fun g=>?_) fun g=>?_|refine LQ ?_|refine iH ?_|refine nS ?_|(refine w6 xX (qN _ _ ⟨A2,A2,e⟩) (h0:=fun g=>?_) (h1:=fun v g=>?_);skip;rotate_left;show Wk _ _ (.cons _ _ _);rotate_right)|refine dX ?_)
   all_goals
    refine l1 ?_;symm;first
    | (refine E7 (fun h=>?_);have:=h.1;simp_all;done)
    | exact E7 (fun h=>by have:=h.2.1;omega)
    | exact K8 ⟨by assumption,A2,yI (l:=s) ‹_›⟩
    | (have b:=rD (l:=s) ‹_›
       first
       | exact(E7 (fun h=>by rw[h.2.2]at b;cases b.1)).trans (E7 A2).symm
       | exact E7 (fun h=>by rw[h.2.2]at b;cases b.1))
  .cases b
 .cases b
def rG:Rw (Int×Int×Int×Int×Int×Int×Int×B5×B5×Bool):=rC (P5 .i64) (rC (P5 .i64) (rC (P5 .i64) (rC (P5 .i64) (rC (P5 .i64) (rC (P5 .i64) (rC (P5 .i64) (rC sY (rC sY (r1 KR)))))))))
def rP:Rw (Int×Int×Int×Int×Int×Int×Int×B5×Int×Int×Int×Int×Int×Int×Int×B5×B5×Bool):=rC (P5 .i64) (rC (P5 .i64) (rC (P5 .i64) (rC (P5 .i64) (rC (P5 .i64) (rC (P5 .i64) (rC (P5 .i64) (rC sY (rC (P5 .i64) (rC (P5 .i64) (rC (P5 .i64) (rC (P5 .i64) (rC (P5 .i64) (rC (P5 .i64) (rC (P5 .i64) (rC sY (rC sY (r1 KR)))))))))))))))))
abbrev Xt:=B1B
abbrev Gt:=(Int×Int×Int×Int×Int×Int×Int×B5×B5×Bool)
abbrev Pt:=(Int×Int×Int×Int×Int×Int×Int×B5×Int×Int×Int×Int×Int×Int×Int×B5×B5×Bool)
def gK(g:Gt):Xt:=(g.1,g.2.1,g.2.2.1,g.2.2.2.1,g.2.2.2.2.1,g.2.2.2.2.2.1,g.2.2.2.2.2.2.1,g.2.2.2.2.2.2.2.1)
def gC(g:Gt):B5:=g.2.2.2.2.2.2.2.2.1
def gR(g:Gt):Bool:=g.2.2.2.2.2.2.2.2.2
def pOf(g:Gt):Pt:=(g.1,g.2.1,g.2.2.1,g.2.2.2.1,g.2.2.2.2.1,g.2.2.2.2.2.1,g.2.2.2.2.2.2.1,g.2.2.2.2.2.2.2.1,g)
def pK(a:Pt):Xt:=(a.1,a.2.1,a.2.2.1,a.2.2.2.1,a.2.2.2.2.1,a.2.2.2.2.2.1,a.2.2.2.2.2.2.1,a.2.2.2.2.2.2.2.1)
def pG(a:Pt):Gt:=a.2.2.2.2.2.2.2.2
def pQ(a b:Pt):Bool:=(a.1 == b.1 && (a.2.1 == b.2.1 && (a.2.2.1 == b.2.2.1 && (a.2.2.2.1 == b.2.2.2.1 && (a.2.2.2.2.1 == b.2.2.2.2.1 && (a.2.2.2.2.2.1 == b.2.2.2.2.2.1 && (a.2.2.2.2.2.2.1 == b.2.2.2.2.2.2.1 && (a.2.2.2.2.2.2.2.1 == b.2.2.2.2.2.2.2.1 && true))))))))
def ixS(M:Option (List Pt)):List Gt->Option (List Pt)
 | []=>M
 | g::l=>ixS (OY pQ M (pOf g)) l
def A0M{M:Option (List Pt)}{l:List Gt}(h0:0<=i)(h1:i<(l.length:Int)):ixS M (l.drop i.toNat)=ixS (OY pQ M (pOf (l.getD i.toNat default))) (l.drop (i+1).toNat):=by
 rw[X6 l h0 h1];rfl
def A1z{M:Option (List Pt)}{a:Pt}(h:M≠none):OY pQ M a≠none:=by
 cases M with
 | none=>exact absurd rfl h
 | some x=>intro h;cases h
noncomputable def A9a:S0:=⟨_,fun b=>.nil⟩
def lI:List U->Option (Nat×List U)
 | [u_l,.int .i64 n,.int .i64 i,u_M]=>(Z3 rG u_l).bind fun l=>(Z3 rP u_M).bind fun M=>if n=((el l).length:Int)/\0<=i/\i<=n/\n<=140737488351232/\M≠none then some (0,[H1 rP (ixS M ((el l).drop i.toNat))])else none
 | _=>none
def qM(l:(Option (List (Int×Int×Int×Int×Int×Int×Int×B5×B5×Bool))))(n:Int)(i:Int)(M:(Option (List (Int×Int×Int×Int×Int×Int×Int×B5×Int×Int×Int×Int×Int×Int×Int×B5×B5×Bool))))(b:n=((el l).length:Int)/\0<=i/\i<=n/\n<=140737488351232/\M≠none):lI [H1 rG l,.int .i64 n,.int .i64 i,H1 rP M]=some (0,[H1 rP (ixS M ((el l).drop i.toNat))]):=by
 simp only[lI,M8,J6];exact A9 b
def RA:V7:=⟨[(3,.map (some 19)),(8,dat 20 0 20),(9,h 1 3),(10,h 2 3)],[(19,.mp 3 28 60),(20,.frz)],4,[⟨.exit 0,[(3,.map (some 19))],[(19,.mp 0 28 60)],1⟩]⟩
noncomputable def A0H:Code:=(f41.body).getD .skip
noncomputable def A4s:Code:=match H9 [true,true,false,true,false] A0H with|some (.loop x)=>x|_=>.skip
def QZ:f41.body=some A0H:=rfl
def QY:H9 [true,true,false,true,false] A0H=some (.loop A4s):=C5
def A4t:Tr:=j9 1 2 4 (.lt 8 (.inbs 10) [h3 2,h 0 20]<|.br 5 (.lt 3 (.get 10 0) [h 0 20,h3 2]<|.lt 3 (.get 10 1) [h 0 20,h3 2]<|.lt 3 (.get 10 2) [h 0 20,h3 2]<|.lt 3 (.get 10 3) [h 0 20,h3 2]<|.lt 3 (.get 10 4) [h 0 20,h3 2]<|.lt 3 (.get 10 5) [h 0 20,h3 2]<|.lt 3 (.get 10 6) [h 0 20,h3 2]<|.lt 9 (.get 10 7) [h 0 20,h3 2]<|.lt 9 (.get 10 8) [h 0 20,h3 2]<|.lt 8 (.get 10 9) [h 0 20,h3 2]<|.dt 28 (.mput 18 8) [h 3 28,h3 6,h3 7,h3 8,h3 9,h3 10,h3 11,h3 12,h 13 9,h3 6,h3 7,h3 8,h3 9,h3 10,h3 11,h3 12,h 13 9,h 14 9,h 15 8]<|aA [h3 2,jI 1]<|.ret [jI (-1),h 0 20,h3 1,h3 17,h 16 28]) (.no)) (.ret [jI 0,h 3 28])
def A0F:List U->Nat
 | [u_l,.int .i64 n,.int .i64 i,u_M]=>(match Z3 rG u_l with|some l=>(match Z3 rP u_M with|some M=>(n-i).toNat|none=>0)|none=>0)
 | _=>0
def A0E(l:(Option (List (Int×Int×Int×Int×Int×Int×Int×B5×B5×Bool))))(n:Int)(i:Int)(M:(Option (List (Int×Int×Int×Int×Int×Int×Int×B5×Int×Int×Int×Int×Int×Int×Int×B5×B5×Bool)))):A0F [H1 rG l,.int .i64 n,.int .i64 i,H1 rP M]=(n-i).toNat:=by
 simp only[A0F,M8]
def A0G{G}(q:L7 G):∀ (E:Nat->U) (base:Nat),@V8 ⟨E,G⟩ prog base gl f41.ntmps A4s (T7 prog gl n0 21 RA lI):=by
 refine l7 (dep:=60) (f:=41) (n0:=n0) (nB:=21) (H0:=H0) A0F A4t (cxg (A9a.2 q) .nil) q func41 QZ QY C5 C5 C5 ?_;intro us d outs c;have t:=c;unfold lI at c;split at c
 .skip;rename_i v n i w;have s:=E3.1 c;clear c;obtain⟨l,m,c⟩:=s;replace m:=S7 m;subst m;have p:=E3.1 c;clear c;obtain⟨M,k,c⟩:=p;replace k:=S7 k;subst k;split at c
  .rename_i o;clear c t;refine⟨rfl,?_⟩;unfold A4t;refine w0 (.cons 3 _ (.cons 2 _ (.cons 1 _ (.cons 0 _ (.nil))))) ?_;repeat (first|refine w4 (fun g=>?_) fun g=>?_|refine gO ?_|refine q8 ?_|refine dX ?_|refine kH ?_|refine w1 (.get 10 0) (u:=.int .i64 _) (e:=J8 rfl A2 A2 rfl) (k':=?_)|refine w1 (.get 10 1) (u:=.int .i64 _) (e:=J8 rfl A2 A2 rfl) (k':=?_)|refine w1 (.get 10 2) (u:=.int .i64 _) (e:=J8 rfl A2 A2 rfl) (k':=?_)|refine w1 (.get 10 3) (u:=.int .i64 _) (e:=J8 rfl A2 A2 rfl) (k':=?_)|refine w1 (.get 10 4) (u:=.int .i64 _) (e:=J8 rfl A2 A2 rfl) (k':=?_)|refine w1 (.get 10 5) (u:=.int .i64 _) (e:=J8 rfl A2 A2 rfl) (k':=?_)|refine w1 (.get 10 6) (u:=.int .i64 _) (e:=J8 rfl A2 A2 rfl) (k':=?_)|refine w1 (.get 10 7) (u:=.str _) (e:=J8 rfl A2 A2 rfl) (k':=?_)|refine w1 (.get 10 8) (u:=.str _) (e:=J8 rfl A2 A2 rfl) (k':=?_)|refine w1 (.get 10 9) (u:=.bool _) (e:=J8 rfl A2 A2 rfl) (k':=?_)|refine w2 (.mput 18 8) (r:=rP) (e:=A0i (fun a b=>(a.1 == b.1 && (a.2.1 == b.2.1 && (a.2.2.1 == b.2.2.1 && (a.2.2.2.1 == b.2.2.2.1 && (a.2.2.2.2.1 == b.2.2.2.2.1 && (a.2.2.2.2.2.1 == b.2.2.2.2.2.1 && (a.2.2.2.2.2.2.1 == b.2.2.2.2.2.2.1 && (a.2.2.2.2.2.2.2.1 == b.2.2.2.2.2.2.2.1 && true))))))))) (_,_,_,_,_,_,_,_,_,_,_,_,_,_,_,_,_,_) rfl rfl (fun _=>rfl) o.2.2.2.2) (k':=?_)|(refine w7 [.int .i64 _,H1 rG _,.int .i64 _,.int .i64 _,H1 rP _] ?_;rotate_left)|(refine w8 ?_;first|omega)|(refine w7 [.int .i64 _,H1 rP _] ?_;rotate_left))
   all_goals first
    | refine U1 ?_ ?_
      .rw[qM l n i M o,A0M (l:=el l) o.2.1 A2];exact qM l n (i+1) _ ⟨o.1,A2,A2,o.2.2.2.1,A1z o.2.2.2.2⟩
      .rw[A0E,A0E];omega
    | refine K6 (d:=0) ?_
      rw[qM l n i M o,hZ (el l) A2];rfl
  .cases c
 .cases c
end Go.Proofs.YtbbicpheoakeeaaGreatDoor
