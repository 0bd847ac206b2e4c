import Derived.Test.YtbbicpheoakeeaaGreatDoorX9
import Derived.Shelf.Strings.Builder1
import Derived.Shelf.Strings.Builder2
import Derived.Shelf.Strings.OnBuilder
import Derived.Shelf.Small.Utf8
import Derived.Shelf.Small.Wraps
import Derived.Shelf.Strings.BuilderF
import Derived.Shelf.Strings.BuilderK
import Derived.Shelf.Utf8.RuneCount
import Derived.Shelf.Strings.Builder2Cap
import Derived.Shelf.Strconv.Itoa0
import Derived.Shelf.Strconv.Itoa1
import Derived.Shelf.LaysM
import Derived.Shelf.Strconv.Itoa2
import Derived.Shelf.Strconv.Itoa3
import Derived.Shelf.Strconv.Clone
import Derived.Shelf.Strings.Search1
import Derived.Shelf.Strings.Search2
import Derived.Shelf.Strings.Search3
import Derived.Shelf.Strings.Cut
import Derived.Shelf.Strings.Count
import Derived.Shelf.Strings.Shaped
import Derived.Shelf.Strings.Prefix
import Derived.Shelf.Strings.Split
import Derived.Shelf.Strings.Fields
import Derived.Shelf.Strings.SplitShaped
import Derived.Shelf.Unicode.Latin
import Derived.Shelf.Unicode.Decode
import Derived.Shelf.Strings.RuneCount
import Derived.Shelf.Bits.Mul64
import Derived.Shelf.Strings.Repeat
import Derived.Shelf.Unicode.DecodeSlow
import Derived.Shelf.Unicode.DecodeAny
import Derived.Shelf.Unicode.Is16White
import Derived.Shelf.Unicode.IsSpaceAny
import Derived.Shelf.Unicode.CaseLookup
import Derived.Shelf.Unicode.CaseConvert
import Derived.Shelf.Unicode.CaseTo
import Derived.Shelf.Unicode.CaseLaid
import Derived.Shelf.Unicode.Is16Any
import Derived.Shelf.Unicode.Is32Any
import Derived.Shelf.Unicode.ExclAny
import Derived.Shelf.Strings.BuilderCap
import Derived.Shelf.Slices.Turned
import Derived.Test.YtbbicpheoakeeaaGreatDoorProg
set_option linter.all false
set_option maxRecDepth 100000
set_option maxHeartbeats 4000000
namespace Go.Proofs
open Go.Shelf
def Tryz.lays158_ren:Go.Shelf.Ren:=⟨fun|158=>107|165=>72|166=>57|167=>123|169=>59|230=>124|203=>125|240=>92|241=>104|197=>119|118=>139|168=>140|270=>141|262=>142|276=>112|277=>122|260=>138|242=>150|313=>151|278=>154|274=>155|275=>156|n=>n,fun|9=>9|4=>4|3=>3|5=>5|72=>103|0=>0|76=>106|75=>105|107=>173|70=>101|20=>20|37=>26|127=>137|21=>21|105=>158|164=>155|162=>203|203=>201|119=>116|46=>119|139=>199|138=>198|51=>22|160=>208|208=>216|206=>214|80=>109|n=>n,fun|13=>9|3=>7|4=>8|n=>n⟩
def Tryz.lays158:Go.Proofs.Lays.n158 Tryz.prog Tryz.lays158_ren:={
 mixed:=C9
 f118:=L3 Tryz.func139
 f158:=L3 Tryz.func107
 f165:=L3 Tryz.func72
 f166:=L3 Tryz.func57
 f167:=L3 Tryz.func123
 f168:=L3 Tryz.func140
 f169:=L3 Tryz.func59
 f197:=L3 Tryz.func119
 f203:=L3 Tryz.func125
 f230:=L3 Tryz.func124
 f240:=L3 Tryz.func92
 f241:=L3 Tryz.func104
 f242:=L3 Tryz.func150
 f260:=L3 Tryz.func138
 f262:=L3 Tryz.func142
 f270:=L3 Tryz.func141
 f274:=L3 Tryz.func155
 f275:=L3 Tryz.func156
 f276:=L3 Tryz.func112
 f277:=L3 Tryz.func122
 f278:=L3 Tryz.func154
 f313:=L3 Tryz.func151
 t0:=Tryz.underlying0
 a0:=Tryz.isAgg0
 z0:=Tryz.sizeOf0
 v0:=Tryz.zeroValue0
 t3:=Tryz.underlying3
 a3:=Tryz.isAgg3
 z3:=Tryz.sizeOf3
 v3:=Tryz.zeroValue3
 t4:=Tryz.underlying4
 a4:=Tryz.isAgg4
 z4:=Tryz.sizeOf4
 v4:=Tryz.zeroValue4
 t5:=Tryz.underlying5
 a5:=Tryz.isAgg5
 z5:=Tryz.sizeOf5
 v5:=Tryz.zeroValue5
 t9:=Tryz.underlying9
 a9:=Tryz.isAgg9
 z9:=Tryz.sizeOf9
 v9:=Tryz.zeroValue9
 t20:=Tryz.underlying20
 a20:=Tryz.isAgg20
 z20:=Tryz.sizeOf20
 v20:=Tryz.zeroValue20
 t21:=Tryz.underlying21
 a21:=Tryz.isAgg21
 z21:=Tryz.sizeOf21
 v21:=Tryz.zeroValue21
 t37:=Tryz.underlying26
 a37:=Tryz.isAgg26
 z37:=Tryz.sizeOf26
 v37:=Tryz.zeroValue26
 t46:=Tryz.underlying119
 a46:=Tryz.isAgg119
 z46:=Tryz.sizeOf119
 v46:=Tryz.zeroValue119
 t51:=Tryz.underlying22
 a51:=Tryz.isAgg22
 z51:=Tryz.sizeOf22
 v51:=Tryz.zeroValue22
 t70:=Tryz.underlying101
 a70:=Tryz.isAgg101
 z70:=Tryz.sizeOf101
 v70:=Tryz.zeroValue101
 t72:=Tryz.underlying103
 a72:=Tryz.isAgg103
 z72:=Tryz.sizeOf103
 v72:=Tryz.zeroValue103
 t75:=Tryz.underlying105
 a75:=Tryz.isAgg105
 z75:=Tryz.sizeOf105
 v75:=Tryz.zeroValue105
 t76:=Tryz.underlying106
 a76:=Tryz.isAgg106
 z76:=Tryz.sizeOf106
 v76:=Tryz.zeroValue106
 t105:=Tryz.underlying158
 a105:=Tryz.isAgg158
 z105:=Tryz.sizeOf158
 v105:=Tryz.zeroValue158
 t107:=Tryz.underlying173
 a107:=Tryz.isAgg173
 z107:=Tryz.sizeOf173
 v107:=Tryz.zeroValue173
 t119:=Tryz.underlying116
 a119:=Tryz.isAgg116
 z119:=Tryz.sizeOf116
 t127:=Tryz.underlying137
 a127:=Tryz.isAgg137
 z127:=Tryz.sizeOf137
 v127:=Tryz.zeroValue137
 t138:=Tryz.underlying198
 a138:=Tryz.isAgg198
 z138:=Tryz.sizeOf198
 v138:=Tryz.zeroValue198
 t139:=Tryz.underlying199
 a139:=Tryz.isAgg199
 z139:=Tryz.sizeOf199
 v139:=Tryz.zeroValue199
 t160:=Tryz.underlying208
 a160:=Tryz.isAgg208
 z160:=Tryz.sizeOf208
 v160:=Tryz.zeroValue208
 t162:=Tryz.underlying203
 a162:=Tryz.isAgg203
 z162:=Tryz.sizeOf203
 v162:=Tryz.zeroValue203
 t164:=Tryz.underlying155
 a164:=Tryz.isAgg155
 z164:=Tryz.sizeOf155
 v164:=Tryz.zeroValue155
 t203:=Tryz.underlying201
 a203:=Tryz.isAgg201
 z203:=Tryz.sizeOf201
 v203:=Tryz.zeroValue201
 t206:=Tryz.underlying214
 a206:=Tryz.isAgg214
 z206:=Tryz.sizeOf214
 v206:=Tryz.zeroValue214
 t208:=Tryz.underlying216
 a208:=Tryz.isAgg216
 z208:=Tryz.sizeOf216
 v208:=Tryz.zeroValue216
 g3:=C9
 g4:=C9
 g13:=by kernel_rfl }
def Tryz.Builder_Extra_158:Builder.Extra Tryz.prog Tryz.lays158_ren:={
 sizeBuilder:=C9
 liesBuilder:=C9
 t5:=Tryz.underlying5
 a5:=Tryz.isAgg5
 z5:=Tryz.sizeOf5
 v5:=Tryz.zeroValue5
 infoByte:=C9
 cellsByte:=C9
 sizeByte:=C9
 neB5:=by decide }
open Go.RowKit in
def Tryz.strings_ToUpper_ascii(s:ByteArray)(w:World)(d:s.size<=140737488355328)(c:∀ (j:Nat) (b:UInt8),s.data.toList[j]? = some b->b.toNat<128) :
  Calls Tryz.prog 107 #[.string s] w fun e w'=>e=.returned (.string ⟨(Lib.toUpperA s.data.toList).toArray⟩)/\Below w.heap.size w w':=Any.strings_ToUpper_ascii Tryz.lays158 Tryz.Builder_Extra_158 s w d c
def Tryz.lays156_ren:Go.Shelf.Ren:=⟨fun|156=>93|165=>72|166=>57|169=>59|240=>92|241=>104|276=>112|277=>122|n=>n,fun|31=>68|9=>9|3=>3|4=>4|0=>0|20=>20|72=>103|76=>106|70=>101|37=>26|75=>105|127=>137|164=>155|5=>5|80=>109|n=>n,fun|n=>n⟩
def Tryz.lays156:Go.Proofs.Lays.n156 Tryz.prog Tryz.lays156_ren:={
 mixed:=C9
 f156:=L3 Tryz.func93
 f165:=L3 Tryz.func72
 f166:=L3 Tryz.func57
 f169:=L3 Tryz.func59
 f240:=L3 Tryz.func92
 f241:=L3 Tryz.func104
 f276:=L3 Tryz.func112
 f277:=L3 Tryz.func122
 t0:=Tryz.underlying0
 a0:=Tryz.isAgg0
 z0:=Tryz.sizeOf0
 v0:=Tryz.zeroValue0
 t3:=Tryz.underlying3
 a3:=Tryz.isAgg3
 z3:=Tryz.sizeOf3
 v3:=Tryz.zeroValue3
 t4:=Tryz.underlying4
 a4:=Tryz.isAgg4
 z4:=Tryz.sizeOf4
 v4:=Tryz.zeroValue4
 t9:=Tryz.underlying9
 a9:=Tryz.isAgg9
 z9:=Tryz.sizeOf9
 v9:=Tryz.zeroValue9
 t20:=Tryz.underlying20
 a20:=Tryz.isAgg20
 z20:=Tryz.sizeOf20
 v20:=Tryz.zeroValue20
 t31:=Tryz.underlying68
 a31:=Tryz.isAgg68
 z31:=Tryz.sizeOf68
 v31:=Tryz.zeroValue68
 t37:=Tryz.underlying26
 a37:=Tryz.isAgg26
 z37:=Tryz.sizeOf26
 v37:=Tryz.zeroValue26
 t70:=Tryz.underlying101
 a70:=Tryz.isAgg101
 z70:=Tryz.sizeOf101
 v70:=Tryz.zeroValue101
 t72:=Tryz.underlying103
 a72:=Tryz.isAgg103
 z72:=Tryz.sizeOf103
 v72:=Tryz.zeroValue103
 t75:=Tryz.underlying105
 a75:=Tryz.isAgg105
 z75:=Tryz.sizeOf105
 v75:=Tryz.zeroValue105
 t76:=Tryz.underlying106
 a76:=Tryz.isAgg106
 z76:=Tryz.sizeOf106
 v76:=Tryz.zeroValue106
 t127:=Tryz.underlying137
 a127:=Tryz.isAgg137
 z127:=Tryz.sizeOf137
 v127:=Tryz.zeroValue137
 t164:=Tryz.underlying155
 a164:=Tryz.isAgg155
 z164:=Tryz.sizeOf155
 v164:=Tryz.zeroValue155 }
def Tryz.Builder_Extra_156:Builder.Extra Tryz.prog Tryz.lays156_ren:={
 sizeBuilder:=C9
 liesBuilder:=C9
 t5:=Tryz.underlying5
 a5:=Tryz.isAgg5
 z5:=Tryz.sizeOf5
 v5:=Tryz.zeroValue5
 infoByte:=C9
 cellsByte:=C9
 sizeByte:=C9
 neB5:=by decide }
open Go.RowKit in
def Tryz.strings_Join_none(a:Option Addr)(c:Nat)(sep:ByteArray)(w:World) :
  Calls Tryz.prog 93 #[.slice a 0 c,.string sep] w fun e w'=>e=.returned (.string ⟨#[]⟩)/\w'=w:=Any.strings_Join_none Tryz.lays156 Tryz.Builder_Extra_156 a c sep w
open Go.RowKit in
def Tryz.strings_Join(f o c:Nat)(xs:List ByteArray)(sep:ByteArray)(w:World)(b:∀ (j:Nat) x,xs[j]? = some x->w.cell? ⟨f,o+j,none⟩=some (.string x))(g:f<w.heap.size)(k:xs.length<=140737488355328)(d:xs.length<=c)(hlen:(Lib.join (xs.map (·.data.toList)) sep.data.toList).length<=140737488355328) :
  Calls Tryz.prog 93 #[.slice (some ⟨f,o,none⟩) xs.length c,.string sep] w fun e w'=>e=.returned (.string ⟨(Lib.join (xs.map (·.data.toList)) sep.data.toList).toArray⟩)/\Below w.heap.size w w':=Any.strings_Join Tryz.lays156 Tryz.Builder_Extra_156 f o c xs sep w b g k d hlen
def Tryz.laysM316_ren:Go.Shelf.Ren:=⟨fun|316=>143|n=>n,fun|9=>9|3=>3|4=>4|37=>26|0=>0|127=>137|5=>5|n=>n,fun|n=>n⟩
def Tryz.laysM316:Go.Proofs.LaysM.n316 Tryz.prog Tryz.laysM316_ren:={
 mixed:=C9
 f316:=L3 Tryz.func143
 t0:=Tryz.underlying0
 a0:=Tryz.isAgg0
 z0:=Tryz.sizeOf0
 v0:=Tryz.zeroValue0
 t3:=Tryz.underlying3
 a3:=Tryz.isAgg3
 z3:=Tryz.sizeOf3
 v3:=Tryz.zeroValue3
 t4:=Tryz.underlying4
 a4:=Tryz.isAgg4
 z4:=Tryz.sizeOf4
 v4:=Tryz.zeroValue4
 t9:=Tryz.underlying9
 a9:=Tryz.isAgg9
 z9:=Tryz.sizeOf9
 v9:=Tryz.zeroValue9
 t37:=Tryz.underlying26
 a37:=Tryz.isAgg26
 z37:=Tryz.sizeOf26
 v37:=Tryz.zeroValue26
 t127:=Tryz.underlying137
 a127:=Tryz.isAgg137
 z127:=Tryz.sizeOf137
 v127:=Tryz.zeroValue137
 t5:=Tryz.underlying5
 a5:=Tryz.isAgg5
 z5:=Tryz.sizeOf5
 v5:=Tryz.zeroValue5
 i0:=C9
 i3:=C9
 i4:=C9
 i5:=C9
 i9:=C9
 i37:=C9
 i127:=by kernel_rfl }
open Go.RowKit in
def Tryz.stringslite_Clone(s:ByteArray)(w:World)(b:s.size<=281474976710656) :
  Calls Tryz.prog 143 #[.string s] w fun e w'=>e=.returned (.string s)/\Below w.heap.size w w':=Any.stringslite_Clone Tryz.laysM316 s w b
def Tryz.lays143_ren:Go.Shelf.Ren:=⟨fun|143=>65|219=>97|217=>114|225=>115|224=>116|267=>117|266=>132|314=>133|n=>n,fun|9=>9|3=>3|4=>4|5=>5|46=>119|146=>146|51=>22|n=>n,fun|1=>2|n=>n⟩
def Tryz.lays143:Go.Proofs.Lays.n143 Tryz.prog Tryz.lays143_ren:={
 mixed:=C9
 f143:=L3 Tryz.func65
 f217:=L3 Tryz.func114
 f219:=L3 Tryz.func97
 f224:=L3 Tryz.func116
 f225:=L3 Tryz.func115
 f266:=L3 Tryz.func132
 f267:=L3 Tryz.func117
 f314:=L3 Tryz.func133
 t3:=Tryz.underlying3
 a3:=Tryz.isAgg3
 z3:=Tryz.sizeOf3
 v3:=Tryz.zeroValue3
 t4:=Tryz.underlying4
 a4:=Tryz.isAgg4
 z4:=Tryz.sizeOf4
 v4:=Tryz.zeroValue4
 t5:=Tryz.underlying5
 a5:=Tryz.isAgg5
 z5:=Tryz.sizeOf5
 v5:=Tryz.zeroValue5
 t9:=Tryz.underlying9
 a9:=Tryz.isAgg9
 z9:=Tryz.sizeOf9
 v9:=Tryz.zeroValue9
 t46:=Tryz.underlying119
 a46:=Tryz.isAgg119
 z46:=Tryz.sizeOf119
 v46:=Tryz.zeroValue119
 t51:=Tryz.underlying22
 a51:=Tryz.isAgg22
 z51:=Tryz.sizeOf22
 v51:=Tryz.zeroValue22
 t146:=Tryz.underlying146
 a146:=Tryz.isAgg146
 z146:=Tryz.sizeOf146
 v146:=Tryz.zeroValue146
 g1:=by kernel_rfl }
open Go.RowKit Go.Lib in
def Tryz.strings_Index_one(s:ByteArray)(c:UInt8)(w:World) :
  Calls Tryz.prog 65 #[.string s,.string ⟨#[c]⟩] w fun e w'=>e=.returned (.int .i64 (Lib.indexByte s.data.toList c))/\w'=w:=Any.strings_Index_one Tryz.lays143 s c w
def Tryz.lays144_ren:Go.Shelf.Ren:=⟨fun|144=>78|143=>65|219=>97|217=>114|225=>115|224=>116|267=>117|266=>132|314=>133|n=>n,fun|9=>9|4=>4|3=>3|5=>5|46=>119|146=>146|51=>22|n=>n,fun|1=>2|n=>n⟩
def Tryz.lays144:Go.Proofs.Lays.n144 Tryz.prog Tryz.lays144_ren:={
 mixed:=C9
 f143:=L3 Tryz.func65
 f144:=L3 Tryz.func78
 f217:=L3 Tryz.func114
 f219:=L3 Tryz.func97
 f224:=L3 Tryz.func116
 f225:=L3 Tryz.func115
 f266:=L3 Tryz.func132
 f267:=L3 Tryz.func117
 f314:=L3 Tryz.func133
 t3:=Tryz.underlying3
 a3:=Tryz.isAgg3
 z3:=Tryz.sizeOf3
 v3:=Tryz.zeroValue3
 t4:=Tryz.underlying4
 a4:=Tryz.isAgg4
 z4:=Tryz.sizeOf4
 v4:=Tryz.zeroValue4
 t5:=Tryz.underlying5
 a5:=Tryz.isAgg5
 z5:=Tryz.sizeOf5
 v5:=Tryz.zeroValue5
 t9:=Tryz.underlying9
 a9:=Tryz.isAgg9
 z9:=Tryz.sizeOf9
 v9:=Tryz.zeroValue9
 t46:=Tryz.underlying119
 a46:=Tryz.isAgg119
 z46:=Tryz.sizeOf119
 v46:=Tryz.zeroValue119
 t51:=Tryz.underlying22
 a51:=Tryz.isAgg22
 z51:=Tryz.sizeOf22
 v51:=Tryz.zeroValue22
 t146:=Tryz.underlying146
 a146:=Tryz.isAgg146
 z146:=Tryz.sizeOf146
 v146:=Tryz.zeroValue146
 g1:=by kernel_rfl }
open Go.RowKit Go.Lib in
def Tryz.strings_Contains_one(s:ByteArray)(c:UInt8)(w:World) :
  Calls Tryz.prog 78 #[.string s,.string ⟨#[c]⟩] w fun e w'=>e=.returned (.bool (decide (0<=Lib.indexByte s.data.toList c)))/\w'=w:=Any.strings_Contains_one Tryz.lays144 s c w
def Tryz.lays138_ren:Go.Shelf.Ren:=⟨fun|138=>29|195=>63|218=>64|143=>65|219=>97|217=>114|225=>115|224=>116|267=>117|266=>132|314=>133|n=>n,fun|9=>9|3=>3|4=>4|5=>5|0=>0|46=>119|146=>146|51=>22|n=>n,fun|1=>2|n=>n⟩
def Tryz.lays138:Go.Proofs.Lays.n138 Tryz.prog Tryz.lays138_ren:={
 mixed:=C9
 f138:=L3 Tryz.func29
 f143:=L3 Tryz.func65
 f195:=L3 Tryz.func63
 f217:=L3 Tryz.func114
 f218:=L3 Tryz.func64
 f219:=L3 Tryz.func97
 f224:=L3 Tryz.func116
 f225:=L3 Tryz.func115
 f266:=L3 Tryz.func132
 f267:=L3 Tryz.func117
 f314:=L3 Tryz.func133
 t0:=Tryz.underlying0
 a0:=Tryz.isAgg0
 z0:=Tryz.sizeOf0
 v0:=Tryz.zeroValue0
 t3:=Tryz.underlying3
 a3:=Tryz.isAgg3
 z3:=Tryz.sizeOf3
 v3:=Tryz.zeroValue3
 t4:=Tryz.underlying4
 a4:=Tryz.isAgg4
 z4:=Tryz.sizeOf4
 v4:=Tryz.zeroValue4
 t5:=Tryz.underlying5
 a5:=Tryz.isAgg5
 z5:=Tryz.sizeOf5
 v5:=Tryz.zeroValue5
 t9:=Tryz.underlying9
 a9:=Tryz.isAgg9
 z9:=Tryz.sizeOf9
 v9:=Tryz.zeroValue9
 t46:=Tryz.underlying119
 a46:=Tryz.isAgg119
 z46:=Tryz.sizeOf119
 v46:=Tryz.zeroValue119
 t51:=Tryz.underlying22
 a51:=Tryz.isAgg22
 z51:=Tryz.sizeOf22
 v51:=Tryz.zeroValue22
 t146:=Tryz.underlying146
 a146:=Tryz.isAgg146
 z146:=Tryz.sizeOf146
 v146:=Tryz.zeroValue146
 g1:=by kernel_rfl }
open Go.RowKit Go.Lib in
def Tryz.strings_Count_one(s:ByteArray)(c:UInt8)(w:World) :
  Calls Tryz.prog 29 #[.string s,.string ⟨#[c]⟩] w fun e w'=>e=.returned (.int .i64 (Lib.countByte s.data.toList c))/\w'=w:=Any.strings_Count_one Tryz.lays138 s c w
def Tryz.laysM145_ren:Go.Shelf.Ren:=⟨fun|145=>91|220=>111|219=>97|217=>114|225=>115|224=>116|267=>117|266=>132|314=>133|n=>n,fun|9=>9|4=>4|59=>99|3=>3|5=>5|46=>119|146=>146|51=>22|n=>n,fun|1=>2|n=>n⟩
def Tryz.laysM145:Go.Proofs.LaysM.n145 Tryz.prog Tryz.laysM145_ren:={
 mixed:=C9
 f145:=L3 Tryz.func91
 f217:=L3 Tryz.func114
 f219:=L3 Tryz.func97
 f220:=L3 Tryz.func111
 f224:=L3 Tryz.func116
 f225:=L3 Tryz.func115
 f266:=L3 Tryz.func132
 f267:=L3 Tryz.func117
 f314:=L3 Tryz.func133
 t3:=Tryz.underlying3
 a3:=Tryz.isAgg3
 z3:=Tryz.sizeOf3
 v3:=Tryz.zeroValue3
 t4:=Tryz.underlying4
 a4:=Tryz.isAgg4
 z4:=Tryz.sizeOf4
 v4:=Tryz.zeroValue4
 t5:=Tryz.underlying5
 a5:=Tryz.isAgg5
 z5:=Tryz.sizeOf5
 v5:=Tryz.zeroValue5
 t9:=Tryz.underlying9
 a9:=Tryz.isAgg9
 z9:=Tryz.sizeOf9
 v9:=Tryz.zeroValue9
 t46:=Tryz.underlying119
 a46:=Tryz.isAgg119
 z46:=Tryz.sizeOf119
 v46:=Tryz.zeroValue119
 t51:=Tryz.underlying22
 a51:=Tryz.isAgg22
 z51:=Tryz.sizeOf22
 v51:=Tryz.zeroValue22
 t59:=Tryz.underlying99
 a59:=Tryz.isAgg99
 z59:=Tryz.sizeOf99
 v59:=Tryz.zeroValue99
 t146:=Tryz.underlying146
 a146:=Tryz.isAgg146
 z146:=Tryz.sizeOf146
 v146:=Tryz.zeroValue146
 g1:=C9
 i3:=C9
 i4:=C9
 i5:=C9
 i9:=C9
 i46:=C9
 i51:=C9
 i59:=C9
 i146:=C9
 m1:=C9
 s1_3:=fun w h=>Go.Proofs.cell_of_shapedOpen_int (zero:=#[.int .i64 0]) (t:=3) h (G5 C9) C9 rfl C9 C9 Tryz.underlying3 }
open Go.RowKit Go.Lib in
def Tryz.strings_Cut_shaped(s sep:ByteArray)(w:World)(h:w.ShapedOpen Tryz.prog)(b:s.size<4294967281) :
  Calls Tryz.prog 91 #[.string s,.string sep] w fun e w'=>e=.returned (.tuple #[.string ⟨(Lib.cut s.data.toList sep.data.toList).1.toArray⟩,.string ⟨(Lib.cut s.data.toList sep.data.toList).2.1.toArray⟩,.bool (Lib.cut s.data.toList sep.data.toList).2.2])/\∃ n,w'=w.drewN n:=Any.strings_Cut_shaped Tryz.laysM145 s sep w h b
def Tryz.lays105_ren:Go.Shelf.Ren:=⟨fun|105=>34|212=>70|99=>71|165=>72|166=>57|170=>73|169=>59|263=>101|264=>102|206=>103|240=>92|241=>104|276=>112|277=>122|n=>n,fun|9=>9|3=>3|4=>4|20=>20|0=>0|46=>119|109=>120|5=>5|72=>103|76=>106|51=>22|146=>146|53=>132|148=>148|70=>101|37=>26|75=>105|127=>137|164=>155|80=>109|n=>n,fun|n=>n⟩
def Tryz.lays105:Go.Proofs.Lays.n105 Tryz.prog Tryz.lays105_ren:={
 mixed:=C9
 f99:=L3 Tryz.func71
 f105:=L3 Tryz.func34
 f165:=L3 Tryz.func72
 f166:=L3 Tryz.func57
 f169:=L3 Tryz.func59
 f170:=L3 Tryz.func73
 f206:=L3 Tryz.func103
 f212:=L3 Tryz.func70
 f240:=L3 Tryz.func92
 f241:=L3 Tryz.func104
 f263:=L3 Tryz.func101
 f264:=L3 Tryz.func102
 f276:=L3 Tryz.func112
 f277:=L3 Tryz.func122
 t0:=Tryz.underlying0
 a0:=Tryz.isAgg0
 z0:=Tryz.sizeOf0
 v0:=Tryz.zeroValue0
 t3:=Tryz.underlying3
 a3:=Tryz.isAgg3
 z3:=Tryz.sizeOf3
 v3:=Tryz.zeroValue3
 t4:=Tryz.underlying4
 a4:=Tryz.isAgg4
 z4:=Tryz.sizeOf4
 v4:=Tryz.zeroValue4
 t5:=Tryz.underlying5
 a5:=Tryz.isAgg5
 z5:=Tryz.sizeOf5
 v5:=Tryz.zeroValue5
 t9:=Tryz.underlying9
 a9:=Tryz.isAgg9
 z9:=Tryz.sizeOf9
 v9:=Tryz.zeroValue9
 t20:=Tryz.underlying20
 a20:=Tryz.isAgg20
 z20:=Tryz.sizeOf20
 v20:=Tryz.zeroValue20
 t37:=Tryz.underlying26
 a37:=Tryz.isAgg26
 z37:=Tryz.sizeOf26
 v37:=Tryz.zeroValue26
 t46:=Tryz.underlying119
 a46:=Tryz.isAgg119
 z46:=Tryz.sizeOf119
 v46:=Tryz.zeroValue119
 t51:=Tryz.underlying22
 a51:=Tryz.isAgg22
 z51:=Tryz.sizeOf22
 v51:=Tryz.zeroValue22
 t53:=Tryz.underlying132
 a53:=Tryz.isAgg132
 z53:=Tryz.sizeOf132
 v53:=Tryz.zeroValue132
 t70:=Tryz.underlying101
 a70:=Tryz.isAgg101
 z70:=Tryz.sizeOf101
 v70:=Tryz.zeroValue101
 t72:=Tryz.underlying103
 a72:=Tryz.isAgg103
 z72:=Tryz.sizeOf103
 v72:=Tryz.zeroValue103
 t75:=Tryz.underlying105
 a75:=Tryz.isAgg105
 z75:=Tryz.sizeOf105
 v75:=Tryz.zeroValue105
 t76:=Tryz.underlying106
 a76:=Tryz.isAgg106
 z76:=Tryz.sizeOf106
 v76:=Tryz.zeroValue106
 t109:=Tryz.underlying120
 a109:=Tryz.isAgg120
 z109:=Tryz.sizeOf120
 v109:=Tryz.zeroValue120
 t127:=Tryz.underlying137
 a127:=Tryz.isAgg137
 z127:=Tryz.sizeOf137
 v127:=Tryz.zeroValue137
 t146:=Tryz.underlying146
 a146:=Tryz.isAgg146
 z146:=Tryz.sizeOf146
 v146:=Tryz.zeroValue146
 t148:=Tryz.underlying148
 a148:=Tryz.isAgg148
 z148:=Tryz.sizeOf148
 v148:=Tryz.zeroValue148
 t164:=Tryz.underlying155
 a164:=Tryz.isAgg155
 z164:=Tryz.sizeOf155
 v164:=Tryz.zeroValue155 }
def Tryz.Builder_Extra_105:Builder.Extra Tryz.prog Tryz.lays105_ren:={
 sizeBuilder:=C9
 liesBuilder:=C9
 t5:=Tryz.underlying5
 a5:=Tryz.isAgg5
 z5:=Tryz.sizeOf5
 v5:=Tryz.zeroValue5
 infoByte:=C9
 cellsByte:=C9
 sizeByte:=C9
 neB5:=by decide }
open Go.RowKit Go.Lib in
def Tryz.strings_Repeat(s:ByteArray)(c:Nat)(w:World)(b:c<=9223372036854775807)(hlen:s.size*c<=140737488355328) :
  Calls Tryz.prog 34 #[.string s,.int .i64 c] w fun e w'=>e=.returned (.string ⟨(Lib.repeatL s.data.toList c).toArray⟩)/\Below w.heap.size w w':=Any.strings_Repeat Tryz.lays105 Tryz.Builder_Extra_105 s c w b hlen
end Go.Proofs
namespace Go.Proofs.YtbbicpheoakeeaaGreatDoor
open Go Go.Sx Go.Proofs.Tryz
variable {a d4 dc i j:Int}
def gl:Nat:=13
def n0:Nat:=16
def kN:List (Nat×List Value):=[(10,[.int .u8 (0),.int .u8 (1),.int .u8 (28),.int .u8 (2),.int .u8 (29),.int .u8 (14),.int .u8 (24),.int .u8 (3),.int .u8 (30),.int .u8 (22),.int .u8 (20),.int .u8 (15),.int .u8 (25),.int .u8 (17),.int .u8 (4),.int .u8 (8),.int .u8 (31),.int .u8 (27),.int .u8 (13),.int .u8 (23),.int .u8 (21),.int .u8 (19),.int .u8 (16),.int .u8 (7),.int .u8 (26),.int .u8 (12),.int .u8 (18),.int .u8 (6),.int .u8 (11),.int .u8 (5),.int .u8 (10),.int .u8 (9)]),
 (11,[.int .u8 (0),.int .u8 (1),.int .u8 (56),.int .u8 (2),.int .u8 (57),.int .u8 (49),.int .u8 (28),.int .u8 (3),.int .u8 (61),.int .u8 (58),.int .u8 (42),.int .u8 (50),.int .u8 (38),.int .u8 (29),.int .u8 (17),.int .u8 (4),.int .u8 (62),.int .u8 (47),.int .u8 (59),.int .u8 (36),.int .u8 (45),.int .u8 (43),.int .u8 (51),.int .u8 (22),.int .u8 (53),.int .u8 (39),.int .u8 (33),.int .u8 (30),.int .u8 (24),.int .u8 (18),.int .u8 (12),.int .u8 (5),.int .u8 (63),.int .u8 (55),.int .u8 (48),.int .u8 (27),.int .u8 (60),.int .u8 (41),.int .u8 (37),.int .u8 (16),.int .u8 (46),.int .u8 (35),.int .u8 (44),.int .u8 (21),.int .u8 (52),.int .u8 (32),.int .u8 (23),.int .u8 (11),.int .u8 (54),.int .u8 (26),.int .u8 (40),.int .u8 (15),.int .u8 (34),.int .u8 (20),.int .u8 (31),.int .u8 (10),.int .u8 (25),.int .u8 (14),.int .u8 (19),.int .u8 (9),.int .u8 (13),.int .u8 (8),.int .u8 (7),.int .u8 (6)]),
 (6,[.int .u64 (1),.int .u64 (10),.int .u64 (100),.int .u64 (1000),.int .u64 (10000),.int .u64 (100000),.int .u64 (1000000),.int .u64 (10000000),.int .u64 (100000000),.int .u64 (1000000000),.int .u64 (10000000000),.int .u64 (100000000000),.int .u64 (1000000000000),.int .u64 (10000000000000),.int .u64 (100000000000000),.int .u64 (1000000000000000),.int .u64 (10000000000000000),.int .u64 (100000000000000000),.int .u64 (1000000000000000000),.int .u64 (10000000000000000000)]),
 (8,[.int .u8 (128),.int .u8 (191),.int .u8 (160),.int .u8 (191),.int .u8 (128),.int .u8 (159),.int .u8 (144),.int .u8 (191),.int .u8 (128),.int .u8 (143),.int .u8 (0),.int .u8 (0),.int .u8 (0),.int .u8 (0),.int .u8 (0),.int .u8 (0),.int .u8 (0),.int .u8 (0),.int .u8 (0),.int .u8 (0),.int .u8 (0),.int .u8 (0),.int .u8 (0),.int .u8 (0),.int .u8 (0),.int .u8 (0),.int .u8 (0),.int .u8 (0),.int .u8 (0),.int .u8 (0),.int .u8 (0),.int .u8 (0)]),
 (5,[one]),
 (4,[one]),
 (1,[.int .u8 (0),.int .u8 (0),.int .u8 (0),.int .u8 (0),.int .u8 (0),.int .u8 (0),.int .u8 (0),.int .u8 (0),.int .u8 (0),.int .u8 (1),.int .u8 (1),.int .u8 (1),.int .u8 (1),.int .u8 (1),.int .u8 (0),.int .u8 (0),.int .u8 (0),.int .u8 (0),.int .u8 (0),.int .u8 (0),.int .u8 (0),.int .u8 (0),.int .u8 (0),.int .u8 (0),.int .u8 (0),.int .u8 (0),.int .u8 (0),.int .u8 (0),.int .u8 (0),.int .u8 (0),.int .u8 (0),.int .u8 (0),.int .u8 (1),.int .u8 (0),.int .u8 (0),.int .u8 (0),.int .u8 (0),.int .u8 (0),.int .u8 (0),.int .u8 (0),.int .u8 (0),.int .u8 (0),.int .u8 (0),.int .u8 (0),.int .u8 (0),.int .u8 (0),.int .u8 (0),.int .u8 (0),.int .u8 (0),.int .u8 (0),.int .u8 (0),.int .u8 (0),.int .u8 (0),.int .u8 (0),.int .u8 (0),.int .u8 (0),.int .u8 (0),.int .u8 (0),.int .u8 (0),.int .u8 (0),.int .u8 (0),.int .u8 (0),.int .u8 (0),.int .u8 (0),.int .u8 (0),.int .u8 (0),.int .u8 (0),.int .u8 (0),.int .u8 (0),.int .u8 (0),.int .u8 (0),.int .u8 (0),.int .u8 (0),.int .u8 (0),.int .u8 (0),.int .u8 (0),.int .u8 (0),.int .u8 (0),.int .u8 (0),.int .u8 (0),.int .u8 (0),.int .u8 (0),.int .u8 (0),.int .u8 (0),.int .u8 (0),.int .u8 (0),.int .u8 (0),.int .u8 (0),.int .u8 (0),.int .u8 (0),.int .u8 (0),.int .u8 (0),.int .u8 (0),.int .u8 (0),.int .u8 (0),.int .u8 (0),.int .u8 (0),.int .u8 (0),.int .u8 (0),.int .u8 (0),.int .u8 (0),.int .u8 (0),.int .u8 (0),.int .u8 (0),.int .u8 (0),.int .u8 (0),.int .u8 (0),.int .u8 (0),.int .u8 (0),.int .u8 (0),.int .u8 (0),.int .u8 (0),.int .u8 (0),.int .u8 (0),.int .u8 (0),.int .u8 (0),.int .u8 (0),.int .u8 (0),.int .u8 (0),.int .u8 (0),.int .u8 (0),.int .u8 (0),.int .u8 (0),.int .u8 (0),.int .u8 (0),.int .u8 (0),.int .u8 (0),.int .u8 (0),.int .u8 (0),.int .u8 (0),.int .u8 (0),.int .u8 (0),.int .u8 (0),.int .u8 (0),.int .u8 (0),.int .u8 (0),.int .u8 (0),.int .u8 (0),.int .u8 (0),.int .u8 (0),.int .u8 (0),.int .u8 (0),.int .u8 (0),.int .u8 (0),.int .u8 (0),.int .u8 (0),.int .u8 (0),.int .u8 (0),.int .u8 (0),.int .u8 (0),.int .u8 (0),.int .u8 (0),.int .u8 (0),.int .u8 (0),.int .u8 (0),.int .u8 (0),.int .u8 (0),.int .u8 (0),.int .u8 (0),.int .u8 (0),.int .u8 (0),.int .u8 (0),.int .u8 (0),.int .u8 (0),.int .u8 (0),.int .u8 (0),.int .u8 (0),.int .u8 (0),.int .u8 (0),.int .u8 (0),.int .u8 (0),.int .u8 (0),.int .u8 (0),.int .u8 (0),.int .u8 (0),.int .u8 (0),.int .u8 (0),.int .u8 (0),.int .u8 (0),.int .u8 (0),.int .u8 (0),.int .u8 (0),.int .u8 (0),.int .u8 (0),.int .u8 (0),.int .u8 (0),.int .u8 (0),.int .u8 (0),.int .u8 (0),.int .u8 (0),.int .u8 (0),.int .u8 (0),.int .u8 (0),.int .u8 (0),.int .u8 (0),.int .u8 (0),.int .u8 (0),.int .u8 (0),.int .u8 (0),.int .u8 (0),.int .u8 (0),.int .u8 (0),.int .u8 (0),.int .u8 (0),.int .u8 (0),.int .u8 (0),.int .u8 (0),.int .u8 (0),.int .u8 (0),.int .u8 (0),.int .u8 (0),.int .u8 (0),.int .u8 (0),.int .u8 (0),.int .u8 (0),.int .u8 (0),.int .u8 (0),.int .u8 (0),.int .u8 (0),.int .u8 (0),.int .u8 (0),.int .u8 (0),.int .u8 (0),.int .u8 (0),.int .u8 (0),.int .u8 (0),.int .u8 (0),.int .u8 (0),.int .u8 (0),.int .u8 (0),.int .u8 (0),.int .u8 (0),.int .u8 (0),.int .u8 (0),.int .u8 (0),.int .u8 (0),.int .u8 (0),.int .u8 (0),.int .u8 (0),.int .u8 (0),.int .u8 (0),.int .u8 (0),.int .u8 (0),.int .u8 (0),.int .u8 (0),.int .u8 (0),.int .u8 (0),.int .u8 (0),.int .u8 (0),.int .u8 (0),.int .u8 (0),.int .u8 (0),.int .u8 (0),.int .u8 (0),.int .u8 (0),.int .u8 (0)]),
 (0,[.int .i64 (4),.string ⟨⟨[67,45]⟩⟩,.int .i64 (2),.string ⟨⟨[77,45]⟩⟩,.int .i64 (1),.string ⟨⟨[83,45]⟩⟩]),
 (7,[.int .u8 (240),.int .u8 (240),.int .u8 (240),.int .u8 (240),.int .u8 (240),.int .u8 (240),.int .u8 (240),.int .u8 (240),.int .u8 (240),.int .u8 (240),.int .u8 (240),.int .u8 (240),.int .u8 (240),.int .u8 (240),.int .u8 (240),.int .u8 (240),.int .u8 (240),.int .u8 (240),.int .u8 (240),.int .u8 (240),.int .u8 (240),.int .u8 (240),.int .u8 (240),.int .u8 (240),.int .u8 (240),.int .u8 (240),.int .u8 (240),.int .u8 (240),.int .u8 (240),.int .u8 (240),.int .u8 (240),.int .u8 (240),.int .u8 (240),.int .u8 (240),.int .u8 (240),.int .u8 (240),.int .u8 (240),.int .u8 (240),.int .u8 (240),.int .u8 (240),.int .u8 (240),.int .u8 (240),.int .u8 (240),.int .u8 (240),.int .u8 (240),.int .u8 (240),.int .u8 (240),.int .u8 (240),.int .u8 (240),.int .u8 (240),.int .u8 (240),.int .u8 (240),.int .u8 (240),.int .u8 (240),.int .u8 (240),.int .u8 (240),.int .u8 (240),.int .u8 (240),.int .u8 (240),.int .u8 (240),.int .u8 (240),.int .u8 (240),.int .u8 (240),.int .u8 (240),.int .u8 (240),.int .u8 (240),.int .u8 (240),.int .u8 (240),.int .u8 (240),.int .u8 (240),.int .u8 (240),.int .u8 (240),.int .u8 (240),.int .u8 (240),.int .u8 (240),.int .u8 (240),.int .u8 (240),.int .u8 (240),.int .u8 (240),.int .u8 (240),.int .u8 (240),.int .u8 (240),.int .u8 (240),.int .u8 (240),.int .u8 (240),.int .u8 (240),.int .u8 (240),.int .u8 (240),.int .u8 (240),.int .u8 (240),.int .u8 (240),.int .u8 (240),.int .u8 (240),.int .u8 (240),.int .u8 (240),.int .u8 (240),.int .u8 (240),.int .u8 (240),.int .u8 (240),.int .u8 (240),.int .u8 (240),.int .u8 (240),.int .u8 (240),.int .u8 (240),.int .u8 (240),.int .u8 (240),.int .u8 (240),.int .u8 (240),.int .u8 (240),.int .u8 (240),.int .u8 (240),.int .u8 (240),.int .u8 (240),.int .u8 (240),.int .u8 (240),.int .u8 (240),.int .u8 (240),.int .u8 (240),.int .u8 (240),.int .u8 (240),.int .u8 (240),.int .u8 (240),.int .u8 (240),.int .u8 (240),.int .u8 (240),.int .u8 (240),.int .u8 (240),.int .u8 (240),.int .u8 (241),.int .u8 (241),.int .u8 (241),.int .u8 (241),.int .u8 (241),.int .u8 (241),.int .u8 (241),.int .u8 (241),.int .u8 (241),.int .u8 (241),.int .u8 (241),.int .u8 (241),.int .u8 (241),.int .u8 (241),.int .u8 (241),.int .u8 (241),.int .u8 (241),.int .u8 (241),.int .u8 (241),.int .u8 (241),.int .u8 (241),.int .u8 (241),.int .u8 (241),.int .u8 (241),.int .u8 (241),.int .u8 (241),.int .u8 (241),.int .u8 (241),.int .u8 (241),.int .u8 (241),.int .u8 (241),.int .u8 (241),.int .u8 (241),.int .u8 (241),.int .u8 (241),.int .u8 (241),.int .u8 (241),.int .u8 (241),.int .u8 (241),.int .u8 (241),.int .u8 (241),.int .u8 (241),.int .u8 (241),.int .u8 (241),.int .u8 (241),.int .u8 (241),.int .u8 (241),.int .u8 (241),.int .u8 (241),.int .u8 (241),.int .u8 (241),.int .u8 (241),.int .u8 (241),.int .u8 (241),.int .u8 (241),.int .u8 (241),.int .u8 (241),.int .u8 (241),.int .u8 (241),.int .u8 (241),.int .u8 (241),.int .u8 (241),.int .u8 (241),.int .u8 (241),.int .u8 (241),.int .u8 (241),.int .u8 (2),.int .u8 (2),.int .u8 (2),.int .u8 (2),.int .u8 (2),.int .u8 (2),.int .u8 (2),.int .u8 (2),.int .u8 (2),.int .u8 (2),.int .u8 (2),.int .u8 (2),.int .u8 (2),.int .u8 (2),.int .u8 (2),.int .u8 (2),.int .u8 (2),.int .u8 (2),.int .u8 (2),.int .u8 (2),.int .u8 (2),.int .u8 (2),.int .u8 (2),.int .u8 (2),.int .u8 (2),.int .u8 (2),.int .u8 (2),.int .u8 (2),.int .u8 (2),.int .u8 (2),.int .u8 (19),.int .u8 (3),.int .u8 (3),.int .u8 (3),.int .u8 (3),.int .u8 (3),.int .u8 (3),.int .u8 (3),.int .u8 (3),.int .u8 (3),.int .u8 (3),.int .u8 (3),.int .u8 (3),.int .u8 (35),.int .u8 (3),.int .u8 (3),.int .u8 (52),.int .u8 (4),.int .u8 (4),.int .u8 (4),.int .u8 (68),.int .u8 (241),.int .u8 (241),.int .u8 (241),.int .u8 (241),.int .u8 (241),.int .u8 (241),.int .u8 (241),.int .u8 (241),.int .u8 (241),.int .u8 (241),.int .u8 (241)])]
def H0:Hp AB:=mkH kN
def A4y:prog.follows .mixedOrders=true:=C9
def A4x:IZ prog:=by
 have h:(prog.funcs.toList.all fun fn=>!(fn.name == "runtime.NumGoroutine"))=true:=C9;intro f fn b;have h1:=D5.1 h fn (Array.mem_def.1 (Array.mem_of_getElem? b))
 simpa using h1
def A98:List (FuncId×EK):=[(132,.indexByteString),(64,.countString),(112,.noEscape),(122,.makeNoZero 5)]
def B1c:∀ p ∈ A98,BY prog p.1 p.2:=by
 intro p hp;unfold A98 at hp;rcases B3.1 hp with rfl|hp
 .exact⟨⟨_,rfl,by kernel_rfl,by kernel_rfl,by kernel_rfl,.inr (.inl ⟨rfl,by kernel_rfl⟩)⟩⟩
 rcases B3.1 hp with rfl|hp
 .exact⟨⟨_,rfl,by kernel_rfl,by kernel_rfl,by kernel_rfl,.inr (.inr (.inl ⟨rfl,by kernel_rfl⟩))⟩⟩
 rcases B3.1 hp with rfl|hp
 .exact⟨⟨_,rfl,by kernel_rfl,by kernel_rfl,by kernel_rfl,.inl ⟨rfl,by kernel_rfl⟩⟩⟩
 rcases B3.1 hp with rfl|hp
 .exact⟨⟨_,rfl,by kernel_rfl,by kernel_rfl,by kernel_rfl,.inr (.inr (.inr ⟨_,_,_,rfl,rfl,by kernel_rfl,by kernel_rfl⟩))⟩⟩
 cases hp
noncomputable abbrev cx(l:List (FuncId×FnC))(b:List LpE):Cx:=⟨prog,A98,gl,XW l,lpT b⟩
def cxg{G:Nat->Option Obj}{l:List (FuncId×FnC)}{b:List LpE}(h:kB prog G gl l)(k:W5 prog G gl b):CxG (cx l b) G:=A5e A4y A4x B1c h k
abbrev B6A:=Int×Int×Int×Int×Int×Int×Int×List UInt8
abbrev CV:=Option (List Int)
abbrev B0:=List UInt8
abbrev K4(G:Nat->Option Obj):Prop:=bN Tryz.prog G gl H0 n0
abbrev O9:={L:List (FuncId×FnC) // ∀ {G:Nat->Option Obj},K4 G->kB Tryz.prog G gl L}
def L0:List (FuncId×FnC):=[]
def A8z{G:Nat->Option Obj}(b:bN prog G gl H0 n0):kB prog G gl L0:=.nil
def rB:Rw Int:=r1 (Q7 .u8)
def okU(c:Int):Prop:=0<=c/\c<=1114111/\¬(55296<=c/\c<=57343)
instance(c:Int):Decidable (okU c):=by unfold okU;infer_instance
def jY(c:Int):Int:=if c=32 then 0 else if c=105∨c=109 then -1 else if 97<=c/\c<=122 then c-96 else if 92<=c/\c<=95 then c-64 else -1
def chP(c:Int):Prop:=okU c/\32<=c/\¬(127<=c/\c<=159)
instance(c:Int):Decidable (chP c):=by unfold chP;infer_instance
def aM(c m:Int):Prop:=(chP c/\(m=0∨(m=2/\c≠91/\c≠79)∨(0<=jY c/\(m=4∨m=6))))∨(1114113<=c/\c<=1114134/\0<=m/\m<=7)∨((c=1114135∨c=1114137)/\(m=0∨m=2))∨(c=1114136/\(m=0∨m=1∨m=2))∨(c=1114138/\m=0)
instance(c m:Int):Decidable (aM c m):=by unfold aM;infer_instance
def l2{b:Int}{c d:Bool}(h:a=b)(k:c=d):[U.int .u8 a,U.bool c]=[U.int .u8 b,U.bool d]:=by rw[h,k]
def l1{c d:Bool}(k:c=d):[U.bool c]=[U.bool d]:=by rw[k]
def l0{c d:Int}(k:c=d):[U.int .i64 c]=[U.int .i64 d]:=by rw[k]
def NH:List U->Option (Nat×List U)
 | [.int .i64 c]=>some (0,[.int .u8 (if 0<=jY c then jY c else 0),.bool (decide (0<=jY c))])
 | _=>none
def A5h(c:Int):NH [.int .i64 c]=some (0,[.int .u8 (if 0<=jY c then jY c else 0),.bool (decide (0<=jY c))]):=rfl
def A3Q(n:Nat):Tr:=.lt 3 (.bin .and) [h3 0,jI 31]<|.lt 4 (.conv .u8) [h3 n]<|.ret [h (n+1) 4,.bool true]
def S2(a0:Nat)(b:Nat)(a2:Int)(d c:Tr):Tr:=aQ [h3 a0,jI a2]<|.br b d c
def J6(a0:Nat)(b:Nat)(a2:Int)(d c:Tr):Tr:=aH [h3 a0,jI a2]<|.br b d c
def A3P(n:Nat):Tr:=J6 0 n 92 (S2 0 (n+1) 95 (A3Q (n+2)) (.ret [.int .u8 (0),.bool false])) (.ret [.int .u8 (0),.bool false])
def J1(a0:Nat)(b:Nat)(a2:Int)(d c:Tr):Tr:=aE [h3 a0,jI a2]<|.br b d c
def A8c:Tr:=J1 0 1 32 (.ret [.int .u8 (0),.bool true]) (J1 0 2 105 (.ret [.int .u8 (0),.bool false]) (J1 0 3 109 (.ret [.int .u8 (0),.bool false]) (J6 0 4 97 (S2 0 5 122 (A3Q 6) (A3P 6)) (A3P 5))))
def A8d{G}(b:K4 G):L6 prog G 106 [.s 3] NH [.s 4,.s 8]:=by
 refine F3 (C:=cx L0 []) (d:=60) A8c (cxg (A8z b) .nil) b ⟨f106,_,func106,rfl⟩ C9 C9 ?_;intro us outs f;unfold NH at f;split at f
 .skip;rename_i c;cases f;unfold A8c;refine w0 (.cons 0 _ (.nil)) ?_;repeat (first|(refine w7 [.int .u8 _,.bool _] ?_;rotate_left)|refine w4 (fun g=>?_) fun g=>?_|refine qS ?_|refine jE ?_|refine eH ?_|refine jD ?_|refine pF ?_|refine w1 (.bin .and) (e:=VF 5 32 E3 E3 E3) (k':=?_))
  all_goals
   refine l2 ?_ ?_
   ·(unfold jY;(repeat' split)<;>omega)
   .symm;first|exact H5 (by(unfold jY;(repeat' split)<;>omega))|exact D4 (by(unfold jY;(repeat' split)<;>omega))
 .cases f
noncomputable def B4I:O9:=⟨_,fun b=>.cons (A8d b) (A8z b)⟩
def KV:List U->Option (Nat×List U)
 | [.int .i64 c]=>some (0,[.int .i64 (jY c)])
 | _=>none
def A4i(c:Int):KV [.int .i64 c]=some (0,[.int .i64 (jY c)]):=rfl
def I2(a0:Int):Tr:=.ret [jI a0]
def GN(n:Nat):Tr:=J6 0 n 92 (S2 0 (n+1) 95 (aS [h3 0,jI 92]<|aA [h3 (n+2),jI 28]<|.ret [h3 (n+3)]) (I2 (-1))) (I2 (-1))
def u5(a0:Nat)(b:Nat)(a2:Int)(d c:Tr):Tr:=aN [h3 a0,jI a2]<|.br b d c
def A6v:Tr:=J1 0 1 32 (I2 0) (J6 0 2 97 (S2 0 3 122 (u5 0 4 105 (u5 0 5 109 (aS [h3 0,jI 97]<|aA [h3 6,jI 1]<|.ret [h3 7]) (GN 6)) (GN 5)) (GN 4)) (GN 3))
def B1J{G}(b:K4 G):L6 prog G 83 [.s 3] KV [.s 3]:=by
 refine F3 (d:=60) A6v (cxg (B4I.2 b) .nil) b ⟨f83,_,func83,rfl⟩ C9 C9 ?_;intro us outs e;unfold KV at e;split at e
 .skip;rename_i c;cases e;unfold A6v;refine w0 (.cons 0 _ (.nil)) ?_;repeat (first|(refine w7 [.int .i64 _] ?_;rotate_left)|refine w4 (fun g=>?_) fun g=>?_|refine OO ?_|refine yJ ?_|refine bW ?_|refine W4 ?_|refine jD ?_|refine pF ?_|refine wT ?_|refine eH ?_)
  all_goals
   refine l0 ?_
   (unfold jY;(repeat' split)<;>omega)
 .cases e
def A8e(c:Int):(c=32/\jY c=0)∨((c=105∨c=109)/\jY c = -1)∨(97<=c/\c<=122/\c≠105/\c≠109/\jY c=c-96)∨(92<=c/\c<=95/\jY c=c-64)∨(c≠32/\¬(97<=c/\c<=122)/\¬(92<=c/\c<=95)/\jY c = -1):=by
 unfold jY
 (repeat' split)<;>omega
noncomputable def B3E:O9:=⟨_,fun b=>(.cons (A8d b) .nil)⟩
def JI:List U->Option (Nat×List U)
 | [.int .i64 c,.int .i64 m]=>if -9223372036854775808<=m/\m<=9223372036854775807 then some (0,[.bool (decide (aM c m))])else none
 | _=>none
def A4E(c:Int)(m:Int)(b : -9223372036854775808<=m/\m<=9223372036854775807):JI [.int .i64 c,.int .i64 m]=some (0,[.bool (decide (aM c m))]):=A8 b
def F6:Tr:=.ret [.bool false]
def dP:Tr:=.ret [.bool true]
def t8(a0:Nat)(b:Int)(a2:Nat)(d c:Tr):Tr:=.lt 3 (.bin .and) [h3 a0,jI b]<|aN [h3 a2,jI 0]<|.br (a2+1) d c
def YS(n:Nat):Tr:=t8 1 4 n (.fn NH [h3 0] 2<|.br (n+3) (.lt 3 (.bin .andNot) [h3 1,jI 6]<|aE [h3 (n+4),jI 0]<|.ret [h (n+5) 8]) (F6)) (J1 1 (n+2) 0 dP (J1 1 (n+3) 2 (u5 0 (n+4) 91 (aN [h3 0,jI 79]<|.ret [h (n+5) 8]) F6) F6))
def OL(n:Nat):Tr:=J1 1 n 2 dP (aE [h3 1,jI 0]<|.ret [h (n+1) 8])
def yH(n:Nat):Tr:=J1 0 n 1114136 (J1 1 (n+1) 1 dP (OL (n+2))) (J1 0 (n+1) 1114135 (OL (n+2)) (J1 0 (n+2) 1114137 (OL (n+3)) (J1 0 (n+3) 1114138 (aE [h3 1,jI 0]<|.ret [h (n+4) 8]) (J6 0 (n+4) 1114113 (S2 0 (n+5) 1114134 (J6 1 (n+6) 0 (aQ [h3 1,jI 7]<|.ret [h (n+7) 8]) F6) F6) F6))))
def L2(a0:Nat)(b:Nat)(c d:Tr):Tr:=aX [h a0 8]<|.br b c d
def A58:Tr:=J6 0 2 0 (S2 0 3 1114111 (.lt 3 (.bin .shr) [h3 0,.int .u64 (11)]<|u5 4 5 27 (J6 0 6 32 (J6 0 7 127 (aQ [h3 0,jI 159]<|L2 8 9 (YS 10) (yH 10)) (YS 8)) (yH 7)) (yH 6)) (yH 4)) (yH 3)
def B0u{G}(f:K4 G):L6 prog G 76 [.s 3,.s 3] JI [.s 8]:=by
 refine F3 (d:=60) A58 (cxg (B3E.2 f) .nil) f ⟨f76,_,func76,rfl⟩ C9 C9 ?_;intro us outs b;unfold JI at b;split at b
 .skip;rename_i c m;split at b
  .rename_i k;cases b;unfold A58;refine w0 (.cons 1 _ (.cons 0 _ (.nil))) ?_;repeat (first|refine w4 (fun g=>?_) fun g=>?_|refine w4B (fun g=>?_) fun g=>?_|(refine w7 [.bool _] ?_;rotate_left)|refine eH ?_|refine jD ?_|refine pF ?_|refine wT ?_|refine w1 (.bin .and) (e:=ID _) (k':=?_)|refine w32 NH (e:=A5h _) (k':=?_)|refine w1 (.bin .andNot) (e:=B0O _) (k':=?_)|refine w1 (.bin .shr) (e:=UZ 2048 E3 E3) (k':=?_)|refine Z5 ?_)
   all_goals
    have z0:=A3s m k.1 k.2;have l:=A8e c;refine l1 ?_;first|(refine decide_eq_decide.2 ?_;unfold aM chP okU;omega)|(symm;first|exact H5 (by unfold aM chP okU at *;omega)|exact D4 (by unfold aM chP okU at *;omega))
  .cases b
 .cases b
noncomputable def B3Q:O9:=⟨_,fun b=>(.cons (B1J b) .nil)⟩
def kO:List U->Option (Nat×List U)
 | [.int .i64 c,.int .i64 m]=>if -9223372036854775808<=m/\m<=9223372036854775807 then some (0,[.bool (decide (aM c m))])else none
 | _=>none
def SM(c:Int)(m:Int)(b : -9223372036854775808<=m/\m<=9223372036854775807):kO [.int .i64 c,.int .i64 m]=some (0,[.bool (decide (aM c m))]):=A8 b
def A0x(n:Nat):Tr:=J1 1 n 0 dP (J1 1 (n+1) 2 (u5 0 (n+2) 91 (aN [h3 0,jI 79]<|.ret [h (n+3) 8]) F6) (.fn KV [h3 0] 1<|J6 (n+2) (n+3) 0 (J1 1 (n+4) 4 dP (aE [h3 1,jI 6]<|.ret [h (n+5) 8])) F6))
def A0w(n:Nat):Tr:=J1 1 n 0 dP (aE [h3 1,jI 2]<|.ret [h (n+1) 8])
def A0v(n:Nat):Tr:=J1 0 n 1114135 (A0w (n+1)) (J1 0 (n+1) 1114137 (A0w (n+2)) (J1 0 (n+2) 1114136 (J1 1 (n+3) 0 dP (J1 1 (n+4) 1 dP (aE [h3 1,jI 2]<|.ret [h (n+5) 8]))) (J1 0 (n+3) 1114138 (aE [h3 1,jI 0]<|.ret [h (n+4) 8]) F6)))
def zC(n:Nat):Tr:=J6 0 n 1114113 (S2 0 (n+1) 1114134 (J6 1 (n+2) 0 (aQ [h3 1,jI 7]<|.ret [h (n+3) 8]) F6) (A0v (n+2))) (A0v (n+1))
def A0u(n:Nat):Tr:=J6 0 n 32 (J6 0 (n+1) 127 (aQ [h3 0,jI 159]<|L2 (n+2) (n+3) (A0x (n+4)) (zC (n+4))) (A0x (n+2))) (zC (n+1))
def Y0(a0:Nat)(b:Nat)(a2:Int)(d c:Tr):Tr:=aL [h3 a0,jI a2]<|.br b d c
def A6i:Tr:=J6 0 2 0 (S2 0 3 1114111 (Y0 0 4 55296 (A0u 5) (aG [h3 0,jI 57343]<|.br 5 (A0u 6) (zC 6))) (zC 4)) (zC 3)
def SN{G}(f:K4 G):L6 prog G 47 [.s 3,.s 3] kO [.s 8]:=by
 refine F3 (d:=60) A6i (cxg (B3Q.2 f) .nil) f ⟨f47,_,func47,rfl⟩ C9 C9 ?_;intro us outs b;unfold kO at b;split at b
 .skip;rename_i c m;split at b
  .rename_i k;cases b;unfold A6i;refine w0 (.cons 1 _ (.cons 0 _ (.nil))) ?_;repeat (first|refine eH ?_|(refine w7 [.bool _] ?_;rotate_left)|refine w4 (fun g=>?_) fun g=>?_|refine jD ?_|refine pF ?_|refine wT ?_|refine w31 KV (e:=A4i _) (k':=?_)|refine Z5 ?_|refine aK ?_|refine oM ?_)
   all_goals
    have z0:=A3s m k.1 k.2;have l:=A8e c;refine l1 ?_;first|(refine decide_eq_decide.2 ?_;unfold aM chP okU;omega)|(symm;first|exact H5 (by unfold aM chP okU at *;omega)|exact D4 (by unfold aM chP okU at *;omega))
  .cases b
 .cases b
def msP(m w b r cl:Int):Prop:=0<=w/\w<=3/\0<=b/\b<=3/\(w=0->b<=2)/\(w=3->b<=1)/\0<=m/\m<=7/\0<=r/\r<=39/\0<=cl/\cl<=79
instance(m w b r cl:Int):Decidable (msP m w b r cl):=by unfold msP;infer_instance
def A7O(m w b r cl:Int):msP m w b r cl↔(0<=b/\0<=m/\m<=7/\0<=r/\r<=39/\0<=cl/\cl<=79)/\((w=0/\b<=2)∨(w=1/\b<=3)∨(w=2/\b<=3)∨(w=3/\b<=1)):=by
 unfold msP;omega
def A1o(w:Int):(w=0/\([2,3,3,1]:List Int).getD w.toNat 0=2)∨(w=1/\([2,3,3,1]:List Int).getD w.toNat 0=3)∨(w=2/\([2,3,3,1]:List Int).getD w.toNat 0=3)∨(w=3/\([2,3,3,1]:List Int).getD w.toNat 0=1)∨w<0∨3<w:=by
 by_cases h:0<=w/\w<=3
 .have:w=0∨w=1∨w=2∨w=3:=A2;rcases this with rfl|rfl|rfl|rfl<;>decide
 .omega
noncomputable def B3D:O9:=⟨_,fun b=>.nil⟩
def JH:List U->Option (Nat×List U)
 | [.int .i64 k,.int .i64 c,.int .i64 m,.int .i64 w,.int .i64 b,.int .i64 r,.int .i64 cl,.str t]=>some (0,[.bool (decide (msP m w b r cl))])
 | _=>none
def A4D(k:Int)(c:Int)(m:Int)(w:Int)(b:Int)(r:Int)(cl:Int)(t:B0):JH [.int .i64 k,.int .i64 c,.int .i64 m,.int .i64 w,.int .i64 b,.int .i64 r,.int .i64 cl,.str t]=some (0,[.bool (decide (msP m w b r cl))]):=rfl
def A57:Tr:=J6 3 8 0 (S2 3 9 3 (aI [h3 3,jI 4]<|.br 10 (.lt 3 (.sel) [h3 3,jI 2,jI 3,jI 3,jI 1]<|J6 4 12 0 (aQ [h3 4,h3 11]<|.br 13 (J6 2 14 0 (S2 2 15 7 (J6 5 16 0 (S2 5 17 39 (J6 6 18 0 (aQ [h3 6,jI 79]<|.ret [h 19 8]) F6) F6) F6) F6) F6) (F6)) F6) (.no)) F6) F6
def B0t{G}(f:K4 G):L6 prog G 77 [.a [3,3,3,3,3,3,3,9]] JH [.s 8]:=by
 refine F3 (d:=60) A57 (cxg (B3D.2 f) .nil) f ⟨f77,_,func77,rfl⟩ C9 C9 ?_;intro us outs l;unfold JH at l;split at l
 .skip;rename_i k c m w b r cl t;cases l;unfold A57;refine w0 (.cons 7 _ (.cons 6 _ (.cons 5 _ (.cons 4 _ (.cons 3 _ (.cons 2 _ (.cons 1 _ (.cons 0 _ (.nil))))))))) ?_;repeat (first|refine w4 (fun g=>?_) fun g=>?_|(refine w7 [.bool _] ?_;rotate_left)|refine jD ?_|refine pF ?_|refine A88 ?_|refine w1 (.sel) (e:=A5N [2,3,3,1] A2 (by show _<((4:Nat):Int);omega)) (k':=?_)|(refine w8 ?_;(have z0:=A1o w;omega)))
  all_goals
   have n:=A7O m w b r cl;have z0:=A1o w;refine l1 ?_;first|(refine decide_eq_decide.2 ⟨fun h=>n.2 ?_,fun h=>?_⟩;omega;(have:=n.1 h;omega))|(symm;first|exact H5 (n.2 A2)|exact D4 (fun h=>by have:=n.1 h;omega)|(exfalso;omega))
 .cases l
noncomputable def B3P:O9:=⟨_,fun b=>.nil⟩
def KN:List U->Option (Nat×List U)
 | [.int .i64 k,.int .i64 c,.int .i64 m,.int .i64 w,.int .i64 b,.int .i64 r,.int .i64 cl,.str t]=>some (0,[.bool (decide (msP m w b r cl))])
 | _=>none
def A4d(k:Int)(c:Int)(m:Int)(w:Int)(b:Int)(r:Int)(cl:Int)(t:B0):KN [.int .i64 k,.int .i64 c,.int .i64 m,.int .i64 w,.int .i64 b,.int .i64 r,.int .i64 cl,.str t]=some (0,[.bool (decide (msP m w b r cl))]):=rfl
def A0q(n:Nat):Tr:=J6 3 n 0 (S2 3 (n+1) 3 (J6 4 (n+2) 0 (S2 4 (n+3) 1 (J6 2 (n+4) 0 (S2 2 (n+5) 7 (J6 5 (n+6) 0 (S2 5 (n+7) 39 (J6 6 (n+8) 0 (aQ [h3 6,jI 79]<|.ret [h (n+9) 8]) F6) F6) F6) F6) F6) F6) F6) F6) F6
def A0p(n:Nat):Tr:=.br 13 (J6 2 n 0 (S2 2 (n+1) 7 (J6 5 (n+2) 0 (S2 5 (n+3) 39 (J6 6 (n+4) 0 (aQ [h3 6,jI 79]<|.ret [h (n+5) 8]) F6) F6) F6) F6) F6) (F6)
def A6g:Tr:=J1 3 8 0 (J1 3 9 3 (A0q 10) (J6 3 10 0 (S2 3 11 3 (J6 4 12 0 (aQ [h3 4,jI 2]<|A0p 14) F6) F6) F6)) (J1 3 9 3 (A0q 10) (J6 3 10 0 (S2 3 11 3 (J6 4 12 0 (aQ [h3 4,jI 3]<|A0p 14) F6) F6) F6))
def A6h{G}(e:K4 G):L6 prog G 80 [.a [3,3,3,3,3,3,3,9]] KN [.s 8]:=by
 refine F3 (d:=60) A6g (cxg (B3P.2 e) .nil) e ⟨f80,_,func80,rfl⟩ C9 C9 ?_;intro us outs f;unfold KN at f;split at f
 .skip;rename_i k c m w b r cl t;cases f;unfold A6g;refine w0 (.cons 7 _ (.cons 6 _ (.cons 5 _ (.cons 4 _ (.cons 3 _ (.cons 2 _ (.cons 1 _ (.cons 0 _ (.nil))))))))) ?_;repeat (first|(refine w7 [.bool _] ?_;rotate_left)|refine w4 (fun g=>?_) fun g=>?_|refine jD ?_|refine pF ?_|refine eH ?_)
  all_goals
   have l:=A7O m w b r cl;have z0:=A1o w;refine l1 ?_;first|(refine decide_eq_decide.2 ⟨fun h=>l.2 ?_,fun h=>?_⟩;omega;(have:=l.1 h;omega))|(symm;first|exact H5 (l.2 A2)|exact D4 (fun h=>by have:=l.1 h;omega)|(exfalso;omega))
 .cases f
def NG:List U->Option (Nat×List U)
 | [.str s,.str u]=>if u=[27]then some (0,[.bool (decide (0<=Lib.indexByte s 27))])else none
 | _=>none
def A5g(s:B0)(u:B0)(b:u=[27]):NG [.str s,.str u]=some (0,[.bool (decide (0<=Lib.indexByte s 27))]):=A8 b
def B2p{G}(f:K4 G):L6 prog G 78 [.s 9,.s 9] NG [.s 8]:=by
 intro us outs w vs R c b k hR;unfold NG at b;split at b
 .skip;rename_i s u;split at b
  .rename_i g;cases b;have hv:=V6 (vs2:=[.string ⟨⟨s⟩⟩,.string ⟨⟨u⟩⟩]) c rfl;subst hv;refine gW (vr:=[.bool (decide (0<=Lib.indexByte s 27))]) func78 rfl C9 rfl ?_;subst g;exact(Tryz.strings_Contains_one ⟨⟨s⟩⟩ 27 w).mono fun e w' ⟨h1,d⟩=>⟨h1,by subst d;exact RowKit.Below.refl _ _⟩
  .cases b
 .cases b
def bU(b:Bool):Option Unit:=if b then some ()else none
def bL{b:Bool}{u:Unit}(h:bU b=some u):b=true:=by cases b<;>first|rfl|cases h
def bM{b:Bool}(h:bU b=none):b=false:=by cases b<;>first|rfl|cases h
def isE(x:UInt8):Bool:=decide (x=27)
def A5Y{l:B0}(h:(l.length:Int)<=i):(l.drop i.toNat).any isE=false:=by rw[bJ l h];rfl
def A8L{x:UInt8}(h:((x.toNat:Nat):Int)=27):x=27:=by
 apply UInt8.toNat_inj.1;show x.toNat=27;omega
def HQ(l:B0)(n:Nat):l.getD n default=l.getD n 0:=rfl
def B2a{l:B0}(h0:0<=i)(h1:i<(l.length:Int))(b:(((l.getD i.toNat 0).toNat:Nat):Int)=27):(l.drop i.toNat).any isE=true:=by
 rw[R5 l h0 h1,Q8,HQ,A8L b];rfl
def B2b{l:B0}(h0:0<=i)(h1:i<(l.length:Int))(b:¬(((l.getD i.toNat 0).toNat:Nat):Int)=27):(l.drop i.toNat).any isE=(l.drop (i+1).toNat).any isE:=by
 rw[R5 l h0 h1,Q8,HQ];have:isE (l.getD i.toNat 0)=false:=D4 fun h=>b (by rw[h];rfl)
 rw[this,R0]
noncomputable def B3U:O9:=⟨_,fun b=>(.cons (SN b) (.cons (A6h b) .nil))⟩
def zD:List U->Option (Nat×List U)
 | [.int .i64 i,.int .i64 k,.int .i64 c,.int .i64 m,.int .i64 w,.int .i64 b,.int .i64 r,.int .i64 cl,.str t]=>if 0<=i/\i<=(t.length:Int)/\(t.length:Int)<=140737488351232 then R9 (bU ((t.drop i.toNat).any isE)) [.int .i64 k,.int .i64 c,.int .i64 m,.int .i64 w,.int .i64 b,.int .i64 r,.int .i64 cl,.str t] (fun _=>[])else none
 | _=>none
def rT(i:Int)(k:Int)(c:Int)(m:Int)(w:Int)(b:Int)(r:Int)(cl:Int)(t:B0)(d:0<=i/\i<=(t.length:Int)/\(t.length:Int)<=140737488351232):zD [.int .i64 i,.int .i64 k,.int .i64 c,.int .i64 m,.int .i64 w,.int .i64 b,.int .i64 r,.int .i64 cl,.str t]=R9 (bU ((t.drop i.toNat).any isE)) [.int .i64 k,.int .i64 c,.int .i64 m,.int .i64 w,.int .i64 b,.int .i64 r,.int .i64 cl,.str t] (fun _=>[]):=A8 d
def A6r:R1:=⟨[(1,.pointer (some ⟨16,0,none⟩)),(3,h 0 3)],[(16,.cells 30 [h 1 3,h 2 3,h 3 3,h 4 3,h 5 3,h 6 3,h 7 3,h 8 9])],9,[⟨.exit 1,[(1,.pointer (some ⟨16,0,none⟩))],[(16,.cells 30 [h 0 3,h 1 3,h 2 3,h 3 3,h 4 3,h 5 3,h 6 3,h 7 9])],8⟩,⟨.ret,[(2,.bool false)],[],0⟩]⟩
noncomputable def A02:Code:=(f45.body).getD .skip
noncomputable def A6m:Code:=match G6 [true,false,true,false,true,true,true,true,true,false,false,true,false] A02 with|some (.loop x)=>x|_=>.skip
def A6q:f45.body=some A02:=rfl
def A6o:G6 [true,false,true,false,true,true,true,true,true,false,false,true,false] A02=some (.loop A6m):=C9
def nM(a0:Nat)(b:Nat)(a2:Nat)(d c:Tr):Tr:=aD [h b 9]<|aL [h3 a0,h3 a2]<|.br (a2+1) d c
def A6n:Tr:=nM 0 8 9 (.lt 4 (.idx) [h 8 9,h3 0]<|aE [h 11 4,.int .u8 (27)]<|.br 12 (I2 1) (aA [h3 0,jI 1]<|.ret [jI (-1),h3 13,h3 1,h3 2,h3 3,h3 4,h3 5,h3 6,h3 7,h 8 9])) (.ret [jI 0,h3 1,h3 2,h3 3,h3 4,h3 5,h3 6,h3 7,h 8 9])
def A6p:List U->Nat
 | [.int .i64 i,.int .i64 k,.int .i64 c,.int .i64 m,.int .i64 w,.int .i64 b,.int .i64 r,.int .i64 cl,.str t]=>((t.length:Int)-i).toNat
 | _=>0
def A01(i:Int)(k:Int)(c:Int)(m:Int)(w:Int)(b:Int)(r:Int)(cl:Int)(t:B0):A6p [.int .i64 i,.int .i64 k,.int .i64 c,.int .i64 m,.int .i64 w,.int .i64 b,.int .i64 r,.int .i64 cl,.str t]=((t.length:Int)-i).toNat:=rfl
def B1E{G}(l:K4 G):∀ (E:Nat->U) (base:Nat),@Q1 ⟨E,G⟩ prog base gl f45.ntmps A6m (M1 prog gl n0 17 A6r zD):=by
 refine R4 (dep:=60) (f:=45) (n0:=n0) (nB:=17) (H0:=H0) A6p A6n (cxg (B3U.2 l) .nil) l func45 A6q A6o C9 C9 C9 ?_;intro us d outs e;have o:=e;unfold zD at e;split at e
 .skip;rename_i i k c m w b r cl t;split at e
  .rename_i n;clear e o;refine⟨rfl,?_⟩;unfold A6n;refine w0 (.cons 8 _ (.cons 7 _ (.cons 6 _ (.cons 5 _ (.cons 4 _ (.cons 3 _ (.cons 2 _ (.cons 1 _ (.cons 0 _ (.nil)))))))))) ?_;repeat (first|refine w4 (fun g=>?_) fun g=>?_|refine bW ?_|refine W4 ?_|refine eG ?_|refine aK ?_|refine A89 ?_|refine eH ?_|(refine w7 [.int .i64 _] ?_;rotate_left)|(refine w7 [.int .i64 _,.int .i64 _,.int .i64 _,.int .i64 _,.int .i64 _,.int .i64 _,.int .i64 _,.int .i64 _,.int .i64 _,.str _] ?_;rotate_left)|(refine w7 [.int .i64 _,.int .i64 _,.int .i64 _,.int .i64 _,.int .i64 _,.int .i64 _,.int .i64 _,.int .i64 _,.str _] ?_;rotate_left))
   all_goals first
    | refine M2 ?_ ?_
      .rw[rT i k c m w b r cl t n,B2b (i:=i) A2 A2 ‹_›];exact rT (i+1) k c m w b r cl t ⟨A2,A2,n.2.2⟩
      .rw[A01,A01];omega
    | refine H7 (d:=0) ?_
      rw[rT i k c m w b r cl t n,A5Y A2];rfl
    | refine H7 (d:=1) ?_
      rw[rT i k c m w b r cl t n,B2a (i:=i) A2 A2 ‹_›];rfl
  .cases e
 .cases e
noncomputable def A8u:List LpE:=(45,([true,false,true,false,true,true,true,true,true,false,false,true,false],M1 prog gl n0 17 A6r zD))::[]
def nA{G}(b:K4 G):W5 prog G gl A8u:=.cons func45 A6q A6o (B1E b) .nil
def A5z(t:B0):(0<=Lib.indexByte t 27)↔t.any isE=true:=by
 induction t with
 | nil=>simp[Lib.indexByte]
 | cons b l g =>
   have h:=Lib.indexByte_ge l 27;rw[Lib.indexByte,Q8];by_cases e:b=27
   .subst e;simp[isE]
   .have d:(b == 27)=false:=by simp[e]
    have f:isE b=false:=D4 e;rw[d,f,R0,<- g];by_cases c:Lib.indexByte l 27 = -1
    .simp[c]
    .simp[c];omega
def Y3(k c m w b r cl:Int)(t:B0):Prop :=
 (k=1/\w=0/\b=0/\r=0/\cl=0/\t=[]/\aM c m)∨(k=2/\c=0/\t=[]/\msP m w b r cl)∨(k=3/\c=0/\m=0/\w=0/\b=0/\r=0/\cl=0/\t.length<=1000/\t.any isE=false)∨(k=4/\c=0/\m=0/\b=0/\r=0/\cl=0/\t=[]/\0<=w/\w<=1)
instance(k c m w b r cl:Int)(t:B0):Decidable (Y3 k c m w b r cl t):=by unfold Y3;infer_instance
noncomputable def B3T:O9:=⟨_,fun b=>(.cons (SN b) (.cons (A6h b) .nil))⟩
def rR:List U->Option (Nat×List U)
 | [.int .i64 k,.int .i64 c,.int .i64 m,.int .i64 w,.int .i64 b,.int .i64 r,.int .i64 cl,.str t]=>if -9223372036854775808<=m/\m<=9223372036854775807/\(t.length:Int)<=140737488351232 then some (0,[.bool (decide (Y3 k c m w b r cl t))])else none
 | _=>none
def GL(k:Int)(c:Int)(m:Int)(w:Int)(b:Int)(r:Int)(cl:Int)(t:B0)(d : -9223372036854775808<=m/\m<=9223372036854775807/\(t.length:Int)<=140737488351232):rR [.int .i64 k,.int .i64 c,.int .i64 m,.int .i64 w,.int .i64 b,.int .i64 r,.int .i64 cl,.str t]=some (0,[.bool (decide (Y3 k c m w b r cl t))]):=A8 d
def A6l:Tr:=J1 0 8 1 (.lt 8 (.eqs) [h3 0,h3 0,h3 1,h3 1,h3 2,h3 2,h3 3,jI 0,h3 4,jI 0,h3 5,jI 0,h3 6,jI 0,h 7 9,.string ⟨⟨[]⟩⟩]<|.br 9 (.fn kO [h3 1,h3 2] 1<|.ret [h 10 8]) (F6)) (J1 0 9 2 (.lt 8 (.eqs) [h3 0,h3 0,h3 1,jI 0,h3 2,h3 2,h3 3,h3 3,h3 4,h3 4,h3 5,h3 5,h3 6,h3 6,h 7 9,.string ⟨⟨[]⟩⟩]<|.br 10 (.fn KN [h3 0,h3 1,h3 2,h3 3,h3 4,h3 5,h3 6,h 7 9] 1<|.ret [h 11 8]) (F6)) (J1 0 10 3 (.lp zD [jI 0,h3 0,h3 1,h3 2,h3 3,h3 4,h3 5,h3 6,h 7 9] 0 8 (.lt 8 (.eqs) [h3 11,h3 11,h3 12,jI 0,h3 13,jI 0,h3 14,jI 0,h3 15,jI 0,h3 16,jI 0,h3 17,jI 0,h 18 9,h 18 9]<|.br 19 (aD [h 18 9]<|aQ [h3 20,jI 1000]<|.ret [h 21 8]) (F6)) (.lp zD [jI 0,h3 0,h3 1,h3 2,h3 3,h3 4,h3 5,h3 6,h 7 9] 1 0 (F6) (.no))) (J1 0 11 4 (.lt 8 (.eqs) [h3 0,h3 0,h3 1,jI 0,h3 2,jI 0,h3 3,h3 3,h3 4,jI 0,h3 5,jI 0,h3 6,jI 0,h 7 9,.string ⟨⟨[]⟩⟩]<|.br 12 (J6 3 13 0 (aQ [h3 3,jI 1]<|.ret [h 14 8]) F6) (F6)) F6)))
def SV{G}(f:K4 G):L6 prog G 45 [.a [3,3,3,3,3,3,3,9]] rR [.s 8]:=by
 refine F3 (d:=60) A6l (cxg (B3T.2 f) (nA f)) f ⟨f45,_,func45,rfl⟩ C9 C9 ?_;intro us outs g;unfold rR at g;split at g
 .skip;rename_i k c m w b r cl t;split at g
  .rename_i l;cases g;unfold A6l;refine w0 (.cons 7 _ (.cons 6 _ (.cons 5 _ (.cons 4 _ (.cons 3 _ (.cons 2 _ (.cons 1 _ (.cons 0 _ (.nil))))))))) ?_;refine eH ?_;refine w4 (fun g0=>?_) fun g0=>?_
   .refine w1 (.eqs) (e:=rfl) (k':=?_);first|refine w5 (fun g1=>?_) (fun g1=>?_)|refine w5B (fun g1=>?_) (fun g1=>?_)
    .refine w7 [.bool _] ?_;refine l1 ?_;unfold Y3
     (try replace g3:=bL g3)
     (try replace g3:=bM g3)
     first|(simp_all;done)|(simp_all;omega)
    refine w31 kO (e:=SM _ _ A2) (k':=?_);refine w7 [.bool _] ?_;refine l1 ?_;unfold Y3
    (try replace g3:=bL g3)
    (try replace g3:=bM g3)
    first|(simp_all;done)|(simp_all;omega)
   refine eH ?_;refine w4 (fun g1=>?_) fun g1=>?_
   .refine w1 (.eqs) (e:=rfl) (k':=?_);first|refine w5 (fun g2=>?_) (fun g2=>?_)|refine w5B (fun g2=>?_) (fun g2=>?_)
    .refine w7 [.bool _] ?_;refine l1 ?_;unfold Y3
     (try replace g3:=bL g3)
     (try replace g3:=bM g3)
     first|(simp_all;done)|(simp_all;omega)
    refine w31 KN (e:=A4d _ _ _ _ _ _ _ _) (k':=?_);refine w7 [.bool _] ?_;refine l1 ?_;unfold Y3
    (try replace g3:=bL g3)
    (try replace g3:=bM g3)
    first|(simp_all;done)|(simp_all;omega)
   refine eH ?_;refine w4 (fun g2=>?_) fun g2=>?_
   .refine w6 zD (rT _ _ _ _ _ _ _ _ _ A2) (h0:=fun g3=>?_) (h1:=fun v3 g3=>?_)
    .show Wk _ _ (.cons _ _ (.cons _ _ (.cons _ _ (.cons _ _ (.cons _ _ (.cons _ _ (.cons _ _ (.cons _ _ _))))))));refine w1 (.eqs) (e:=rfl) (k':=?_);first|refine w5 (fun g4=>?_) (fun g4=>?_)|refine w5B (fun g4=>?_) (fun g4=>?_)
     .refine w7 [.bool _] ?_;refine l1 ?_;unfold Y3
      (try replace g3:=bL g3)
      (try replace g3:=bM g3)
      first|(simp_all;done)|(simp_all;omega)
     refine eG ?_;refine pF ?_;refine w7 [.bool _] ?_;refine l1 ?_;unfold Y3
     (try replace g3:=bL g3)
     (try replace g3:=bM g3)
     first|(simp_all;done)|(simp_all;omega)
    show Wk _ _ _;refine w7 [.bool _] ?_;refine l1 ?_;unfold Y3
    (try replace g3:=bL g3)
    (try replace g3:=bM g3)
    first|(simp_all;done)|(simp_all;omega)
   refine eH ?_;refine w5 (fun g3=>?_) fun g3=>?_
   .refine w7 [.bool _] ?_;refine l1 ?_;unfold Y3
    (try replace g3:=bL g3)
    (try replace g3:=bM g3)
    first|(simp_all;done)|(simp_all;omega)
   refine w1 (.eqs) (e:=rfl) (k':=?_);first|refine w5 (fun g4=>?_) (fun g4=>?_)|refine w5B (fun g4=>?_) (fun g4=>?_)
   .refine w7 [.bool _] ?_;refine l1 ?_;unfold Y3
    (try replace g3:=bL g3)
    (try replace g3:=bM g3)
    first|(simp_all;done)|(simp_all;omega)
   refine jD ?_;refine w5 (fun g5=>?_) fun g5=>?_
   .refine w7 [.bool _] ?_;refine l1 ?_;unfold Y3
    (try replace g3:=bL g3)
    (try replace g3:=bM g3)
    first|(simp_all;done)|(simp_all;omega)
   refine pF ?_;refine w7 [.bool _] ?_;refine l1 ?_;unfold Y3
   (try replace g3:=bL g3)
   (try replace g3:=bM g3)
   first|(simp_all;done)|(simp_all;omega)
  .cases g
 .cases g
noncomputable def B3W:O9:=⟨_,fun b=>(.cons (SV b) .nil)⟩
def A6x:List U->Option (Nat×List U)
 | [.int .i64 k,.int .i64 c,.int .i64 m,.int .i64 w,.int .i64 b,.int .i64 r,.int .i64 cl,.str t]=>if -9223372036854775808<=m/\m<=9223372036854775807/\(t.length:Int)<=140737488351232 then some (0,[.int .i64 (if Y3 k c m w b r cl t then 0 else 430)])else none
 | _=>none
def A6w:Tr:=.fn rR [h3 0,h3 1,h3 2,h3 3,h3 4,h3 5,h3 6,h 7 9] 1<|L2 8 9 (I2 430) (I2 0)
def B1K{G}(f:K4 G):L6 prog G 43 [.a [3,3,3,3,3,3,3,9]] A6x [.s 3]:=by
 refine F3 (d:=60) A6w (cxg (B3W.2 f) (nA f)) f ⟨f43,_,func43,rfl⟩ C9 C9 ?_;intro us outs l;unfold A6x at l;split at l
 .skip;rename_i k c m w b r cl t;split at l
  .rename_i n;cases l;unfold A6w;refine w0 (.cons 7 _ (.cons 6 _ (.cons 5 _ (.cons 4 _ (.cons 3 _ (.cons 2 _ (.cons 1 _ (.cons 0 _ (.nil))))))))) ?_;repeat (first|refine Z5 ?_|refine lF ?_|refine w4 (fun g=>?_) fun g=>?_|refine w4B (fun g=>?_) fun g=>?_|(refine w7 [.int .i64 _] ?_;rotate_left)|refine w31 rR (e:=GL _ _ _ _ _ _ _ _ n) (k':=?_))
   all_goals
    refine l0 ?_;first|(rw[A8 (G5 ‹_›)];done)|(rw[A6 (of_decide_eq_false ‹_›)];done)|(simp_all;done)
  .cases l
 .cases l
noncomputable def B3l:O9:=⟨_,fun b=>(.cons (B0u b) (.cons (B0t b) (.cons (B2p b) .nil)))⟩
def sI:List U->Option (Nat×List U)
 | [.int .i64 k,.int .i64 c,.int .i64 m,.int .i64 w,.int .i64 b,.int .i64 r,.int .i64 cl,.str t]=>if -9223372036854775808<=m/\m<=9223372036854775807/\(t.length:Int)<=140737488351232 then some (0,[.int .i64 (if Y3 k c m w b r cl t then 0 else 430)])else none
 | _=>none
def HI(k:Int)(c:Int)(m:Int)(w:Int)(b:Int)(r:Int)(cl:Int)(t:B0)(d : -9223372036854775808<=m/\m<=9223372036854775807/\(t.length:Int)<=140737488351232):sI [.int .i64 k,.int .i64 c,.int .i64 m,.int .i64 w,.int .i64 b,.int .i64 r,.int .i64 cl,.str t]=some (0,[.int .i64 (if Y3 k c m w b r cl t then 0 else 430)]):=A8 d
def A7h:Tr:=J1 0 8 1 (.fn JI [h3 1,h3 2] 1<|L2 9 10 (I2 430) (.lt 8 (.eqs) [h3 0,jI 1,h3 1,h3 1,h3 2,h3 2,h3 3,jI 0,h3 4,jI 0,h3 5,jI 0,h3 6,jI 0,h 7 9,.string ⟨⟨[]⟩⟩]<|L2 11 12 (I2 430) (I2 0))) (J1 0 9 2 (.fn JH [h3 0,h3 1,h3 2,h3 3,h3 4,h3 5,h3 6,h 7 9] 1<|L2 10 11 (I2 430) (.lt 8 (.eqs) [h3 0,h3 0,h3 1,jI 0,h3 2,h3 2,h3 3,h3 3,h3 4,h3 4,h3 5,h3 5,h3 6,h3 6,h 7 9,.string ⟨⟨[]⟩⟩]<|L2 12 13 (I2 430) (I2 0))) (J1 0 10 3 (aD [h 7 9]<|S2 11 12 1000 (.fn NG [h 7 9,.string ⟨⟨[27]⟩⟩] 1<|aX [h 13 8]<|L2 14 15 (I2 430) (.lt 8 (.eqs) [h3 0,h3 0,h3 1,jI 0,h3 2,jI 0,h3 3,jI 0,h3 4,jI 0,h3 5,jI 0,h3 6,jI 0,h 7 9,h 7 9]<|L2 16 17 (I2 430) (I2 0))) (I2 430)) (J1 0 11 4 (J6 3 12 0 (aQ [h3 3,jI 1]<|L2 13 14 (I2 430) (.lt 8 (.eqs) [h3 0,h3 0,h3 1,jI 0,h3 2,jI 0,h3 3,h3 3,h3 4,jI 0,h3 5,jI 0,h3 6,jI 0,h 7 9,.string ⟨⟨[]⟩⟩]<|L2 15 16 (I2 430) (I2 0))) (I2 430)) (I2 430))))
def A2D{G}(f:K4 G):L6 prog G 40 [.a [3,3,3,3,3,3,3,9]] sI [.s 3]:=by
 refine F3 (d:=60) A7h (cxg (B3l.2 f) (nA f)) f ⟨f40,_,func40,rfl⟩ C9 C9 ?_;intro us outs l;unfold sI at l;split at l
 .skip;rename_i k c m w b r cl t;split at l
  .rename_i o;cases l;have n:=A5z t;unfold A7h;refine w0 (.cons 7 _ (.cons 6 _ (.cons 5 _ (.cons 4 _ (.cons 3 _ (.cons 2 _ (.cons 1 _ (.cons 0 _ (.nil))))))))) ?_;repeat (first|refine w4 (fun g=>?_) fun g=>?_|refine w4B (fun g=>?_) fun g=>?_|refine Z5 ?_|refine lF ?_|(refine w7 [.int .i64 _] ?_;rotate_left)|refine eH ?_|refine w1 (.eqs) (e:=rfl) (k':=?_)|refine pF ?_|refine w31 JI (e:=A4E _ _ A2) (k':=?_)|refine w31 JH (e:=A4D _ _ _ _ _ _ _ _) (k':=?_)|refine eG ?_|refine w31 NG (e:=A5g _ _ rfl) (k':=?_)|refine jD ?_)
   all_goals
    refine l0 ?_;first
    | exact(A8 (by unfold Y3;first|(simp_all;done)|(simp_all;omega))).symm
    | exact(A6 (fun h=>by
       unfold Y3 at h;rcases h with h|h|h|h<;>first|(exfalso;omega)|(simp_all;done)|(simp_all;omega))).symm
  .cases l
 .cases l
def nE(l:B0):B0:=l.filter fun x=>!isE x
def IQ{α:Type}(x:Option (List α)):o9 x (some [])=x:=by
 unfold o9;cases x<;>simp[el]
def uY{α:Type}(x:Option (List α))(u v:List α):o9 (o9 x (some u)) (some v)=o9 x (some (u++v)):=by
 cases u with
 | nil=>rw[IQ];rfl
 | cons a u=>cases v with
   | nil=>simp[o9,el]
   | cons c v=>simp[o9,el]
def JS{l:B0}(h0:0<=i)(h1:i<1000):(l.take 1000).getD i.toNat default=l.getD i.toNat default:=by
 rw[B2,B2,F0 A2]
def A9n{l:B0}(h:(l.length:Int)<=i∨1000<=i):nE ((l.take 1000).drop i.toNat)=[]:=by
 rw[bJ (l.take 1000) (by rw[H3];omega)];rfl
def B4_{l:B0}(h0:0<=i)(h1:i<(l.length:Int))(b:i<1000)(c:¬(((l.getD i.toNat 0).toNat:Nat):Int)≠27):nE ((l.take 1000).drop i.toNat)=nE ((l.take 1000).drop (i+1).toNat):=by
 rw[R5 (l.take 1000) h0 (by rw[H3];omega),JS h0 b,HQ,show l.getD i.toNat 0=27 from A8L A2];rfl
def B5A{l:B0}(h0:0<=i)(h1:i<(l.length:Int))(c:i<1000)(b:(((l.getD i.toNat 0).toNat:Nat):Int)≠27):nE ((l.take 1000).drop i.toNat)=l.getD i.toNat 0::nE ((l.take 1000).drop (i+1).toNat):=by
 rw[R5 (l.take 1000) h0 (by rw[H3];omega),JS h0 c,HQ];have:isE (l.getD i.toNat 0)=false:=D4 fun h=>b (by rw[h];rfl)
 unfold nE;rw[List.filter_cons,this];rfl
def A9m(l:B0):(nE l).length<=l.length:=List.length_filter_le _ _
noncomputable def B3x:O9:=⟨_,fun b=>(.cons (SN b) (.cons (SV b) .nil))⟩
def tG:List U->Option (Nat×List U)
 | [u_out,.int .i64 i,.int .u8 d0,.int .u8 d1,.int .u8 d2,.int .u8 d3,.int .u8 d4,.int .u8 d5,.int .u8 d6,.int .u32 dc,.str t]=>(P4 rB u_out).bind fun out=>if 0<=i/\i<=1000/\((el out).length:Int)<=i/\(t.length:Int)<=140737488351232 then some (0,[E8 rB (o9 out (some (bI (nE ((t.take 1000).drop i.toNat)))))])else none
 | _=>none
def oH(out:CV)(i:Int)(d0:Int)(d1:Int)(d2:Int)(d3:Int)(d4:Int)(d5:Int)(d6:Int)(dc:Int)(t:B0)(b:0<=i/\i<=1000/\((el out).length:Int)<=i/\(t.length:Int)<=140737488351232):tG [E8 rB out,.int .i64 i,.int .u8 d0,.int .u8 d1,.int .u8 d2,.int .u8 d3,.int .u8 d4,.int .u8 d5,.int .u8 d6,.int .u32 dc,.str t]=some (0,[E8 rB (o9 out (some (bI (nE ((t.take 1000).drop i.toNat)))))]):=by
 simp only[tG,I0,F1];exact A8 b
def A8U:R1:=⟨[(1,.pointer (some ⟨16,0,none⟩)),(2,.pointer (some ⟨17,0,none⟩)),(4,own 18 0 11),(5,h 1 3)],[(16,.cells 24 [h 2 4,h 3 4,h 4 4,h 5 4,h 6 4,h 7 4,h 8 4,h 9 6,h 10 9]),(17,.cells 30 [.int .i64 (0),.int .i64 (0),.int .i64 (0),.int .i64 (0),.int .i64 (0),.int .i64 (0),.int .i64 (0),.string ⟨⟨[]⟩⟩]),(18,.sq 0 11 5 19),(19,.frz)],11,[⟨.exit 1,[(2,.pointer (some ⟨17,0,none⟩)),(4,own 20 0 11)],[(17,.cells 30 [.int .i64 (0),.int .i64 (0),.int .i64 (0),.int .i64 (0),.int .i64 (0),.int .i64 (0),.int .i64 (0),.string ⟨⟨[]⟩⟩]),(20,.sq 0 11 5 21),(21,.frz)],1⟩]⟩
noncomputable def A3J:Code:=(f17.body).getD .skip
noncomputable def A8Q:Code:=match G6 [true,false,true,false,true,true,true,false,true,false,true,false] A3J with|some (.loop x)=>x|_=>.skip
def A8T:f17.body=some A3J:=rfl
def A8S:G6 [true,false,true,false,true,true,true,false,true,false,true,false] A3J=some (.loop A8Q):=C9
def A8R:Tr:=nM 1 10 11 (Y0 1 13 1000 (.lt 4 (.idx) [h 10 9,h3 1]<|aN [h 14 4,.int .u8 (27)]<|.br 15 (.lt 4 (.idx) [h 10 9,h3 1]<|.dt 11 (.snoc 1) [h 0 11,h 16 4]<|aA [h3 1,jI 1]<|.ret [jI (-1),h 17 11,h3 18,h 2 4,h 3 4,h 4 4,h 5 4,h 6 4,h 7 4,h 8 4,h 9 6,h 10 9]) (aA [h3 1,jI 1]<|.ret [jI (-1),h 0 11,h3 16,h 2 4,h 3 4,h 4 4,h 5 4,h 6 4,h 7 4,h 8 4,h 9 6,h 10 9])) (.ret [jI 0,h 0 11])) (.ret [jI 0,h 0 11])
def A3I:List U->Nat
 | [u_out,.int .i64 i,.int .u8 d0,.int .u8 d1,.int .u8 d2,.int .u8 d3,.int .u8 d4,.int .u8 d5,.int .u8 d6,.int .u32 dc,.str t]=>(match P4 rB u_out with|some out=>(1000-i).toNat|none=>0)
 | _=>0
def A3H(out:CV)(i:Int)(d0:Int)(d1:Int)(d2:Int)(d3:Int)(d4:Int)(d5:Int)(d6:Int)(dc:Int)(t:B0):A3I [E8 rB out,.int .i64 i,.int .u8 d0,.int .u8 d1,.int .u8 d2,.int .u8 d3,.int .u8 d4,.int .u8 d5,.int .u8 d6,.int .u32 dc,.str t]=(1000-i).toNat:=by
 simp only[A3I,I0]
def B2h{G}(l:K4 G):∀ (E:Nat->U) (base:Nat),@Q1 ⟨E,G⟩ prog base gl f17.ntmps A8Q (M1 prog gl n0 22 A8U tG):=by
 refine R4 (dep:=60) (f:=17) (n0:=n0) (nB:=22) (H0:=H0) A3I A8R (cxg (B3x.2 l) (nA l)) l func17 A8T A8S C9 C9 C9 ?_;intro us d outs c;have n:=c;unfold tG at c;split at c
 .skip;rename_i o i d0 d1 d2 d3 d4 d5 d6 dc t;have k:=C3.1 c;clear c;obtain⟨out,b,c⟩:=k;replace b:=L1 b;subst b;split at c
  .rename_i m;clear c n;refine⟨rfl,?_⟩;unfold A8R;refine w0 (.cons 10 _ (.cons 9 _ (.cons 8 _ (.cons 7 _ (.cons 6 _ (.cons 5 _ (.cons 4 _ (.cons 3 _ (.cons 2 _ (.cons 1 _ (.cons 0 _ (.nil)))))))))))) ?_;repeat (first|refine bW ?_|refine W4 ?_|refine w4 (fun g=>?_) fun g=>?_|refine aK ?_|refine A89 ?_|(refine w7 [.int .i64 _,E8 rB _,.int .i64 _,.int .u8 _,.int .u8 _,.int .u8 _,.int .u8 _,.int .u8 _,.int .u8 _,.int .u8 _,.int .u32 _,.str _] ?_;rotate_left)|(refine w7 [.int .i64 _,E8 rB _] ?_;rotate_left)|refine eG ?_|refine wT ?_|refine w2 (.snoc 1) (r:=rB) (e:=mR rfl rfl E3 (by simp[*]<;>omega)) (k':=?_))
   all_goals first
    | refine M2 ?_ ?_
      .first
       | (have hx:∀ X,X=o9 out (some (bI [t.getD i.toNat 0]))->tG [E8 rB X,.int .i64 (i+1),.int .u8 d0,.int .u8 d1,.int .u8 d2,.int .u8 d3,.int .u8 d4,.int .u8 d5,.int .u8 d6,.int .u32 dc,.str t]=tG [E8 rB out,.int .i64 i,.int .u8 d0,.int .u8 d1,.int .u8 d2,.int .u8 d3,.int .u8 d4,.int .u8 d5,.int .u8 d6,.int .u32 dc,.str t]:=fun X p=>by
           rw[oH X (i+1) d0 d1 d2 d3 d4 d5 d6 dc t ⟨A2,A2,by rw[p,bH,O5,B7,vB,C8,J3];omega,m.2.2.2⟩,oH out i d0 d1 d2 d3 d4 d5 d6 dc t m,p,uY,<- B0f,B5A (i:=i) A2 A2 A2 ‹_›];rfl
          exact hx _ rfl)
       | (rw[oH out (i+1) d0 d1 d2 d3 d4 d5 d6 dc t ⟨A2,A2,A2,m.2.2.2⟩,oH out i d0 d1 d2 d3 d4 d5 d6 dc t m,B4_ (i:=i) A2 A2 A2 ‹_›];done)
      .rw[A3H,A3H];omega
    | refine H7 (d:=0) ?_
      rw[oH out i d0 d1 d2 d3 d4 d5 d6 dc t m,A9n (i:=i) A2];exact E1 (fun z=>some (0,[E8 rB z])) (IQ out)
  .cases c
 .cases c
noncomputable def B4F:List LpE:=(17,([true,false,true,false,true,true,true,false,true,false,true,false],M1 prog gl n0 22 A8U tG))::A8u
def OF{G}(b:K4 G):W5 prog G gl B4F:=.cons func17 A8T A8S (B2h b) (nA b)
def B2W(h0:0<=a)(h1:a<256):evU (.bin .and) [.int .u8 a,.int .u8 6]=.int .u8 (a / 2%4*2):=by
 rw[uT];have k:∀ n:Nat,n<256->IntKind.u8.wrap (BitVec.ofInt IntKind.u8.bits (n:Int) &&& BitVec.ofInt IntKind.u8.bits 6).toNat=(n:Int) / 2%4*2:=E3;obtain⟨n,rfl⟩:∃ n:Nat,a=n:=⟨a.toNat,A2⟩;exact E1 _ (k n A2)
def B2X(h0:0<=a)(h1:a<256):evU (.bin .and) [.int .u8 a,.int .u8 2]=.int .u8 (a / 2%2*2):=by
 rw[uT];have k:∀ n:Nat,n<256->IntKind.u8.wrap (BitVec.ofInt IntKind.u8.bits (n:Int) &&& BitVec.ofInt IntKind.u8.bits 2).toNat=(n:Int) / 2%2*2:=E3;obtain⟨n,rfl⟩:∃ n:Nat,a=n:=⟨a.toNat,A2⟩;exact E1 _ (k n A2)
def el0(l:B0):el (o9 none (some (bI l)))=bI l:=by rw[bH];rfl
def B4k(l:B0):∀ n ∈ el (o9 none (some (bI l))),0<=n/\n<256:=fun n h=>by rw[el0]at h;exact A3n h
def iB0(l:B0):iB (el (o9 none (some (bI l))))=l:=by rw[el0,A7y]
def dC1(d4 dc:Int):Int:=if d4%2=0 then 1114113+d4 / 2%26 else dc
def dC2(x:Int):Int:=if x<1114113/\¬chP x then 97+x%26 else x
def dM(c m:Int):Int:=if aM c (m%8)then m%8 else if aM c (m%8 / 2%4*2)then m%8 / 2%4*2 else if aM c (m / 2%2*2)then m / 2%2*2 else 0
def dC3(c m:Int):Int:=if aM c (m%8)∨aM c (m%8 / 2%4*2)∨aM c (m / 2%2*2)∨aM c 0 then c else 97
def diK(q:Int):Int:=if q=1 then 2 else if q=2 then 3 else if q=3 then 4 else 1
def diC(q d3 d4 dc:Int):Int:=if q=0 then dC3 (dC2 (dC1 d4 dc)) d3 else 0
def diM(q d3 d4 dc:Int):Int:=if q=0 then dM (dC2 (dC1 d4 dc)) d3 else if q=1 then d3%8 else 0
def diW(q d1:Int):Int:=if q=1 then d1%4 else if q=3 then d1%2 else 0
def diB(q d1 d2 d3 d5 d6:Int):Int:=if q=1 then(if Y3 2 0 (d3%8) (d1%4) (d2%4) (d5%40) (d6%80) []then d2%4 else d2%4%2)else 0
def diR(q d5:Int):Int:=if q=1 then d5%40 else 0
def diL(q d6:Int):Int:=if q=1 then d6%80 else 0
def diT(q:Int)(t:B0):B0:=if q=2 then nE (t.take 1000)else[]
def l8{f a2 a3 a4 a5 c k b m d e g n l:Int}{s t:B0}(h1:f=b)(o:a2=m)(h3:a3=d)(u:a4=e)(v:a5=g)(p:c=n)(q:k=l)(r:s=t):[U.int .i64 f,.int .i64 a2,.int .i64 a3,.int .i64 a4,.int .i64 a5,.int .i64 c,.int .i64 k,.str s]=[U.int .i64 b,.int .i64 m,.int .i64 d,.int .i64 e,.int .i64 g,.int .i64 n,.int .i64 l,.str t]:=by rw[h1,o,h3,u,v,p,q,r]
def B2m(h:d4%2=0):dC1 d4 dc=1114113+d4 / 2%26:=A8 h
def B2l(h:¬d4%2=0):dC1 d4 dc=dc:=A6 h
noncomputable def B31:O9:=⟨_,fun b=>.nil⟩
def FB:List U->Option (Nat×List U)
 | [.int .i64 c]=>some (0,[.bool (decide (chP c))])
 | _=>none
def A5n(c:Int):FB [.int .i64 c]=some (0,[.bool (decide (chP c))]):=rfl
def A3c(n:Nat):Tr:=J6 0 n 32 (J6 0 (n+1) 127 (aQ [h3 0,jI 159]<|aX [h (n+2) 8]<|.ret [h (n+3) 8]) dP) F6
def A8i:Tr:=J6 0 1 0 (S2 0 2 1114111 (Y0 0 3 55296 (A3c 4) (aG [h3 0,jI 57343]<|.br 4 (A3c 5) (F6))) F6) F6
def B2w{G}(b:K4 G):L6 prog G 46 [.s 3] FB [.s 8]:=by
 refine F3 (d:=60) A8i (cxg (B31.2 b) (OF b)) b ⟨f46,_,func46,rfl⟩ C9 C9 ?_;intro us outs e;unfold FB at e;split at e
 .skip;rename_i c;cases e;unfold A8i;refine w0 (.cons 0 _ (.nil)) ?_;repeat (first|(refine w7 [.bool _] ?_;rotate_left)|refine w4 (fun g=>?_) fun g=>?_|refine jD ?_|refine pF ?_|refine Z5 ?_|refine aK ?_|refine oM ?_)
  all_goals
   refine l1 ?_;first|(refine decide_eq_decide.2 ?_;unfold chP okU;omega)|(symm;first|exact H5 (by unfold chP okU;omega)|exact D4 (by unfold chP okU;omega))
 .cases e
noncomputable def B3w:O9:=⟨_,fun b=>(.cons (SN b) (.cons (SV b) (.cons (B2w b) .nil)))⟩
def BC:List U->Option (Nat×List U)
 | [.int .u8 d0,.int .u8 d1,.int .u8 d2,.int .u8 d3,.int .u8 d4,.int .u8 d5,.int .u8 d6,.int .u32 dc,.str t]=>if 0<=d0/\d0<256/\0<=d1/\d1<256/\0<=d2/\d2<256/\0<=d3/\d3<256/\0<=d4/\d4<256/\0<=d5/\d5<256/\0<=d6/\d6<256/\0<=dc/\dc<4294967296/\(t.length:Int)<=140737488351232 then some (0,[.int .i64 (diK (d0%4)),.int .i64 (diC (d0%4) d3 d4 dc),.int .i64 (diM (d0%4) d3 d4 dc),.int .i64 (diW (d0%4) d1),.int .i64 (diB (d0%4) d1 d2 d3 d5 d6),.int .i64 (diR (d0%4) d5),.int .i64 (diL (d0%4) d6),.str (diT (d0%4) t)])else none
 | _=>none
def VL(d0:Int)(d1:Int)(d2:Int)(d3:Int)(d4:Int)(d5:Int)(d6:Int)(dc:Int)(t:B0)(b:0<=d0/\d0<256/\0<=d1/\d1<256/\0<=d2/\d2<256/\0<=d3/\d3<256/\0<=d4/\d4<256/\0<=d5/\d5<256/\0<=d6/\d6<256/\0<=dc/\dc<4294967296/\(t.length:Int)<=140737488351232):BC [.int .u8 d0,.int .u8 d1,.int .u8 d2,.int .u8 d3,.int .u8 d4,.int .u8 d5,.int .u8 d6,.int .u32 dc,.str t]=some (0,[.int .i64 (diK (d0%4)),.int .i64 (diC (d0%4) d3 d4 dc),.int .i64 (diM (d0%4) d3 d4 dc),.int .i64 (diW (d0%4) d1),.int .i64 (diB (d0%4) d1 d2 d3 d5 d6),.int .i64 (diR (d0%4) d5),.int .i64 (diL (d0%4) d6),.str (diT (d0%4) t)]):=A8 b
def s5(a0:Nat)(b:Nat):Tr:=.ret [jI 1,h3 a0,h3 b,jI 0,jI 0,jI 0,jI 0,.string ⟨⟨[]⟩⟩]
def gH(a0:Nat)(b:Nat)(a2:Nat)(d c:Tr):Tr:=.fn kO [h3 a0,h3 b] 1<|.br a2 d c
def xN(a0:Nat)(b:Nat)(c d:Tr):Tr:=.lt 4 (.bin .rem) [h 3 4,.int .u8 (8)]<|.lt 3 (.conv .i64) [h b 4]<|.lt 4 (.bin .rem) [h 3 4,.int .u8 (8)]<|.lt 4 (.bin .and) [h (b+2) 4,.int .u8 (6)]<|.lt 3 (.conv .i64) [h (b+3) 4]<|.lt 4 (.bin .and) [h 3 4,.int .u8 (2)]<|.lt 3 (.conv .i64) [h (b+5) 4]<|.fn kO [h3 a0,h3 (b+1)] 1<|.br (b+7) c d
def A3F(n:Nat):Tr:=xN 19 n (s5 19 (n+1)) (gH 19 (n+4) (n+8) (s5 19 (n+4)) (gH 19 (n+6) (n+9) (s5 19 (n+6)) (.fn kO [h3 19,jI 0] 1<|.br (n+10) (.ret [jI 1,h3 19,jI 0,jI 0,jI 0,jI 0,jI 0,.string ⟨⟨[]⟩⟩]) (.ret [jI 1,jI 97,jI 0,jI 0,jI 0,jI 0,jI 0,.string ⟨⟨[]⟩⟩]))))
def A3E(n:Nat):Tr:=xN 13 n (s5 13 (n+1)) (gH 13 (n+4) (n+8) (s5 13 (n+4)) (gH 13 (n+6) (n+9) (s5 13 (n+6)) (.fn kO [h3 13,jI 0] 1<|.br (n+10) (.ret [jI 1,h3 13,jI 0,jI 0,jI 0,jI 0,jI 0,.string ⟨⟨[]⟩⟩]) (.ret [jI 1,jI 97,jI 0,jI 0,jI 0,jI 0,jI 0,.string ⟨⟨[]⟩⟩]))))
def A8O:Tr:=.lt 4 (.bin .rem) [h 0 4,.int .u8 (4)]<|aE [h 9 4,.int .u8 (1)]<|.br 10 (.lt 4 (.bin .rem) [h 1 4,.int .u8 (4)]<|.lt 3 (.conv .i64) [h 11 4]<|.lt 4 (.bin .rem) [h 2 4,.int .u8 (4)]<|.lt 3 (.conv .i64) [h 13 4]<|.lt 4 (.bin .rem) [h 3 4,.int .u8 (8)]<|.lt 3 (.conv .i64) [h 15 4]<|.lt 4 (.bin .rem) [h 5 4,.int .u8 (40)]<|.lt 3 (.conv .i64) [h 17 4]<|.lt 4 (.bin .rem) [h 6 4,.int .u8 (80)]<|.lt 3 (.conv .i64) [h 19 4]<|.fn rR [jI 2,jI 0,h3 16,h3 12,h3 14,h3 18,h3 20,.string ⟨⟨[]⟩⟩] 1<|L2 21 22 (.lt 3 (.bin .rem) [h3 14,jI 2]<|.ret [jI 2,jI 0,h3 16,h3 12,h3 23,h3 18,h3 20,.string ⟨⟨[]⟩⟩]) (.ret [jI 2,jI 0,h3 16,h3 12,h3 14,h3 18,h3 20,.string ⟨⟨[]⟩⟩])) (aE [h 9 4,.int .u8 (2)]<|.br 11 (.dt 11 (.nilw 1) []<|.fn tG [h 12 11,jI 0,h 0 4,h 1 4,h 2 4,h 3 4,h 4 4,h 5 4,h 6 4,h 7 6,h 8 9] 1<|.lt 9 (.str) [h 13 11]<|.ret [jI 3,jI 0,jI 0,jI 0,jI 0,jI 0,jI 0,h 14 9]) (aE [h 9 4,.int .u8 (3)]<|.br 12 (.lt 4 (.bin .rem) [h 1 4,.int .u8 (2)]<|.lt 3 (.conv .i64) [h 13 4]<|.ret [jI 4,jI 0,jI 0,h3 14,jI 0,jI 0,jI 0,.string ⟨⟨[]⟩⟩]) (.lt 3 (.conv .i64) [h 7 6]<|.lt 4 (.bin .rem) [h 4 4,.int .u8 (2)]<|aE [h 14 4,.int .u8 (0)]<|.br 15 (.lt 4 (.bin .quo) [h 4 4,.int .u8 (2)]<|.lt 3 (.conv .i64) [h 16 4]<|.lt 3 (.bin .rem) [h3 17,jI 26]<|aA [jI 1114113,h3 18]<|Y0 19 20 1114113 (.fn FB [h3 19] 1<|L2 21 22 (.lt 3 (.bin .rem) [h3 19,jI 26]<|aA [jI 97,h3 23]<|xN 24 25 (s5 24 26) (gH 24 29 33 (s5 24 29) (gH 24 31 34 (s5 24 31) (.fn kO [h3 24,jI 0] 1<|.br 35 (.ret [jI 1,h3 24,jI 0,jI 0,jI 0,jI 0,jI 0,.string ⟨⟨[]⟩⟩]) (.ret [jI 1,jI 97,jI 0,jI 0,jI 0,jI 0,jI 0,.string ⟨⟨[]⟩⟩]))))) (A3F 23)) (A3F 21)) (Y0 13 16 1114113 (.fn FB [h3 13] 1<|L2 17 18 (.lt 3 (.bin .rem) [h3 13,jI 26]<|aA [jI 97,h3 19]<|xN 20 21 (s5 20 22) (gH 20 25 29 (s5 20 25) (gH 20 27 30 (s5 20 27) (.fn kO [h3 20,jI 0] 1<|.br 31 (.ret [jI 1,h3 20,jI 0,jI 0,jI 0,jI 0,jI 0,.string ⟨⟨[]⟩⟩]) (.ret [jI 1,jI 97,jI 0,jI 0,jI 0,jI 0,jI 0,.string ⟨⟨[]⟩⟩]))))) (A3E 19)) (A3E 17)))))
def A8P{G}(f:K4 G):L6 prog G 17 [.a [4,4,4,4,4,4,4,6,9]] BC [.a [3,3,3,3,3,3,3,9]]:=by
 refine F3 (d:=60) A8O (cxg (B3w.2 f) (OF f)) f ⟨f17,_,func17,rfl⟩ C9 C9 ?_;intro us outs k;unfold BC at k;split at k
 .skip;rename_i d0 d1 d2 d3 d4 d5 d6 dc t;split at k
  .rename_i o;cases k;have p:nE (t.take 1000)=nE ((t.take 1000).drop (0:Int).toNat):=rfl;have n:((el (none:CV)).length:Int)=0:=rfl;unfold A8O;refine w0 (.cons 8 _ (.cons 7 _ (.cons 6 _ (.cons 5 _ (.cons 4 _ (.cons 3 _ (.cons 2 _ (.cons 1 _ (.cons 0 _ (.nil)))))))))) ?_;repeat (first|refine w4 (fun g=>?_) fun g=>?_|refine w4B (fun g=>?_) fun g=>?_|refine qS ?_|refine jE ?_|refine A4I ?_|refine w1 (.bin .rem) (e:=AV _ _ _ A2) (k':=?_)|(refine w7 [.int .i64 _,.int .i64 _,.int .i64 _,.int .i64 _,.int .i64 _,.int .i64 _,.int .i64 _,.str _] ?_;rotate_left)|refine w31 kO (e:=SM _ _ A2) (k':=?_)|refine Z5 ?_|refine lF ?_|refine bW ?_|refine W4 ?_|refine w1 (.bin .and) (e:=B2W A2 A2) (k':=?_)|refine w1 (.bin .and) (e:=B2X A2 A2) (k':=?_)|refine eH ?_|refine A87 ?_|refine w1 (.bin .quo) (e:=IB _ _ _ A2) (k':=?_)|refine aK ?_|refine w31 FB (e:=A5n _) (k':=?_)|refine w31 rR (e:=GL _ _ _ _ _ _ _ _ ⟨A2,A2,by show(0:Int)<=_;omega⟩) (k':=?_)|refine w2 (.nilw 1) (r:=rB) (e:=tD rfl) (k':=?_)|refine w31 tG (e:=oH _ _ _ _ _ _ _ _ _ _ _ ⟨A2,A2,A2,A2⟩) (k':=?_)|refine w1 (.str) (e:=UY rfl (B4k _)) (k':=?_))
   all_goals
    first
    | (have c:d0%4=1:=A2
       rw[c];first
       | exact l8 rfl rfl rfl rfl (A8 (B5.1 ‹_›)).symm rfl rfl rfl
       | exact l8 rfl rfl rfl rfl (A6 ‹_›).symm rfl rfl rfl)
    | (have c:d0%4=2:=A2
       rw[c];exact l8 rfl rfl rfl rfl rfl rfl rfl (iB0 _))
    | (have c:d0%4=3:=A2
       rw[c];exact l8 rfl rfl rfl rfl rfl rfl rfl rfl)
    | (have c:d0%4=0:=A2
       rw[c];obtain⟨X,h1⟩:∃ X,X=dC1 d4 dc:=⟨_,rfl⟩;obtain⟨Y,l⟩:∃ Y,Y=dC2 X:=⟨_,rfl⟩;have m:=h1;have b:=l;first|rw[B2m ‹_›]at m|rw[B2l ‹_›]at m
       rw[m]at b;unfold dC2 at b;first|rw[A8 ⟨by assumption,by assumption⟩]at b|rw[A6 (fun g=>absurd g.1 ‹_›)]at b|rw[A6 (fun g=>absurd g.2 ‹_›)]at b
       refine l8 rfl ?_ ?_ rfl rfl rfl rfl rfl
       .show _=dC3 (dC2 (dC1 d4 dc)) d3;rw[<- h1,<- l,b];unfold dC3;first
        | exact(A8 (.inl ‹_›)).symm
        | exact(A8 (.inr (.inl ‹_›))).symm
        | exact(A8 (.inr (.inr (.inl ‹_›)))).symm
        | exact(A8 (.inr (.inr (.inr ‹_›)))).symm
        | exact(A6 fun q=>q.elim ‹_› fun q=>q.elim ‹_› fun q=>q.elim ‹_› ‹_›).symm
       .show _=dM (dC2 (dC1 d4 dc)) d3;rw[<- h1,<- l,b];unfold dM
        (repeat (first|rw[A8 ‹_›]|rw[A6 ‹_›]));done)
  .cases k
 .cases k
def A8A(s:B0)(n:Nat):(ByteArray.mk ⟨s⟩).get! n=s.getD n 0:=by
 show(Array.mk s)[n]! = _;rw[getElem!_def];simp only[J2,B2];cases s[n]?<;>rfl
def A4W{s:B0}{k:Int}(h:((s.getD k.toNat 0).toNat:Int)<128):rE s k=((s.getD k.toNat 0).toNat:Int)/\SJ s k=k+1:=by
 have e:Utf8.decode ⟨⟨s⟩⟩ k.toNat=((s.getD k.toNat 0).toNat,1):=by
  unfold Utf8.decode;simp only[kJ,A8A];rw[A8 A2]
 unfold rE SJ;rw[e];exact⟨rfl,rfl⟩
def A4X{s:B0}{k:Int}(h:¬((s.getD k.toNat 0).toNat:Int)<128):128<=rE s k:=by
 unfold rE Utf8.decode;simp only[kJ,A8A];rw[A6 A2];have hr:128<=Utf8.runeError:=E3;split
 .split
  .omega
  .exact bV.2 hr
 .split
  .split
   .simp_all;omega
   .exact bV.2 hr
  .split
   .split
    .simp_all;omega
    .exact bV.2 hr
   .exact bV.2 hr
def mW(x:UInt8):Bool:=decide (x.toNat<32∨126<x.toNat)
def tJ(s:B0):Prop:=s≠[]/\s.length<=100/\s.any mW=false
instance(s:B0):Decidable (tJ s):=by unfold tJ;infer_instance
def A0H{s:B0}{k:Int}(h0:0<=k)(h1:k<s.length):(rE s k<32∨126<rE s k↔mW (s.getD k.toNat default)=true)/\(¬(rE s k<32∨126<rE s k)->SJ s k=k+1):=by
 show(_↔mW (s.getD k.toNat 0)=true)/\_;unfold mW;rw[decide_eq_true_iff];by_cases h:((s.getD k.toNat 0).toNat:Int)<128
 .obtain⟨b,c⟩:=A4W h;rw[b,c];exact⟨A2,fun _=>rfl⟩
 .have:=A4X h;exact⟨A2,fun k=>by omega⟩
def iT{α:Type}{p:α->Bool}{l:List α}(h:H8 p l i=none):l.any p=false:=by
 induction l generalizing i with
 | nil=>rfl
 | cons a l b =>
   unfold H8 at h;cases hp:p a with
   | true=>rw[hp]at h;cases h
   | false=>rw[hp]at h;rw[Q8,hp,b h];rfl
def fR{α:Type}{p:α->Bool}{l:List α}(h:H8 p l i=some j):l.any p=true/\i<=j:=by
 induction l generalizing i with
 | nil=>cases h
 | cons a l b =>
   unfold H8 at h;cases hp:p a with
   | true=>rw[hp]at h;cases h;rw[Q8,hp];exact⟨rfl,Int.le_refl _⟩
   | false=>rw[hp]at h;rw[Q8,(b h).1,Bool.or_true];exact⟨rfl,by have:=(b h).2;omega⟩
def B0M(b:Bool):evU (.bin .eql) [.bool b,.bool true]=.bool b:=by cases b<;>rfl
noncomputable def B3q:O9:=⟨_,fun b=>(.cons (A2D b) .nil)⟩
def sP:List U->Option (Nat×List U)
 | [.int .i64 k,.int .i64 c,.int .i64 m,.int .i64 w,.int .i64 b,.int .i64 r,.int .i64 cl,.str t]=>if -9223372036854775808<=m/\m<=9223372036854775807/\(t.length:Int)<=140737488351232 then some (0,[.bool (decide (k=1/\Y3 k c m w b r cl t))])else none
 | _=>none
def HO(k:Int)(c:Int)(m:Int)(w:Int)(b:Int)(r:Int)(cl:Int)(t:B0)(d : -9223372036854775808<=m/\m<=9223372036854775807/\(t.length:Int)<=140737488351232):sP [.int .i64 k,.int .i64 c,.int .i64 m,.int .i64 w,.int .i64 b,.int .i64 r,.int .i64 cl,.str t]=some (0,[.bool (decide (k=1/\Y3 k c m w b r cl t))]):=A8 d
def A7x:Tr:=J1 0 8 1 (.fn sI [h3 0,h3 1,h3 2,h3 3,h3 4,h3 5,h3 6,h 7 9] 1<|aE [h3 9,jI 0]<|.ret [h 10 8]) F6
def A2f{G}(l:K4 G):L6 prog G 52 [.a [3,3,3,3,3,3,3,9]] sP [.s 8]:=by
 refine F3 (d:=60) A7x (cxg (B3q.2 l) .nil) l ⟨f52,_,func52,rfl⟩ C9 C9 ?_;intro us outs f;unfold sP at f;split at f
 .skip;rename_i k c m w b r cl t;split at f
  .rename_i n;cases f;unfold A7x;refine w0 (.cons 7 _ (.cons 6 _ (.cons 5 _ (.cons 4 _ (.cons 3 _ (.cons 2 _ (.cons 1 _ (.cons 0 _ (.nil))))))))) ?_;repeat (first|refine eH ?_|(refine w7 [.bool _] ?_;rotate_left)|refine w4 (fun g=>?_) fun g=>?_|refine w31 sI (e:=HI _ _ _ _ _ _ _ _ n) (k':=?_))
   all_goals
    refine l1 ?_;first|(symm;exact D4 (by simp_all))|(refine decide_eq_decide.2 ?_;by_cases h:Y3 k c m w b r cl t<;>simp_all;done)
  .cases f
 .cases f
noncomputable def B3S:O9:=⟨_,fun b=>(.cons (SV b) .nil)⟩
def oW:List U->Option (Nat×List U)
 | [.int .i64 k,.int .i64 c,.int .i64 m,.int .i64 w,.int .i64 b,.int .i64 r,.int .i64 cl,.str t]=>if -9223372036854775808<=m/\m<=9223372036854775807/\(t.length:Int)<=140737488351232 then some (0,[.bool (decide (k=1/\Y3 k c m w b r cl t))])else none
 | _=>none
def GK(k:Int)(c:Int)(m:Int)(w:Int)(b:Int)(r:Int)(cl:Int)(t:B0)(d : -9223372036854775808<=m/\m<=9223372036854775807/\(t.length:Int)<=140737488351232):oW [.int .i64 k,.int .i64 c,.int .i64 m,.int .i64 w,.int .i64 b,.int .i64 r,.int .i64 cl,.str t]=some (0,[.bool (decide (k=1/\Y3 k c m w b r cl t))]):=A8 d
def A6k:Tr:=J1 0 8 1 (.fn rR [h3 0,h3 1,h3 2,h3 3,h3 4,h3 5,h3 6,h 7 9] 1<|.ret [h 9 8]) F6
def KP{G}(l:K4 G):L6 prog G 54 [.a [3,3,3,3,3,3,3,9]] oW [.s 8]:=by
 refine F3 (d:=60) A6k (cxg (B3S.2 l) .nil) l ⟨f54,_,func54,rfl⟩ C9 C9 ?_;intro us outs f;unfold oW at f;split at f
 .skip;rename_i k c m w b r cl t;split at f
  .rename_i n;cases f;unfold A6k;refine w0 (.cons 7 _ (.cons 6 _ (.cons 5 _ (.cons 4 _ (.cons 3 _ (.cons 2 _ (.cons 1 _ (.cons 0 _ (.nil))))))))) ?_;repeat (first|(refine w7 [.bool _] ?_;rotate_left)|refine eH ?_|refine w4 (fun g=>?_) fun g=>?_|refine w31 rR (e:=GL _ _ _ _ _ _ _ _ n) (k':=?_))
   all_goals
    refine l1 ?_;first|(symm;exact D4 (by simp_all))|(refine decide_eq_decide.2 ?_;simp_all;done)
  .cases f
 .cases f
noncomputable def B3p:O9:=⟨_,fun b=>.nil⟩
def AI:List U->Option (Nat×List U)
 | [.str s,.int .i64 p]=>if 0<=p/\p<=(s.length:Int)/\(s.length:Int)<=140737488351232 then R9 (H8 mW (s.drop p.toNat) p) [] (fun j=>[.int .i64 j])else none
 | _=>none
def sN(s:B0)(p:Int)(b:0<=p/\p<=(s.length:Int)/\(s.length:Int)<=140737488351232):AI [.str s,.int .i64 p]=R9 (H8 mW (s.drop p.toNat) p) [] (fun j=>[.int .i64 j]):=A8 b
def A7w:R1:=⟨[(1,.func (.func 95) ⟨[]⟩ ⟨[]⟩),(2,.bool true),(10,.pointer (some ⟨16,0,none⟩))],[(16,.iter [h 0 9,h 1 3])],2,[⟨.exit 0,[],[],0⟩,⟨.ret,[(6,h 0 3)],[],1⟩]⟩
noncomputable def A2Y:Code:=(f113.body).getD .skip
noncomputable def A7r:Code:=match G6 [true,false,true,false] A2Y with|some (.loop x)=>x|_=>.skip
def A7v:f113.body=some A2Y:=rfl
def A7t:G6 [true,false,true,false] A2Y=some (.loop A7r):=C9
def A7s:Tr:=nM 1 0 2 (.lt 2 (.rune) [h 0 9,h3 1]<|.lt 3 (.rpos) [h 0 9,h3 1]<|aL [h 4 2,.int .i32 (32)]<|.br 6 (.ret [jI 1,h3 1]) (aG [h 4 2,.int .i32 (126)]<|aE [h 7 8,.bool true]<|.br 8 (.ret [jI 1,h3 1]) (.ret [jI (-1),h 0 9,h3 5]))) (I2 0)
def A7u:List U->Nat
 | [.str s,.int .i64 p]=>((s.length:Int)-p).toNat
 | _=>0
def A2X(s:B0)(p:Int):A7u [.str s,.int .i64 p]=((s.length:Int)-p).toNat:=rfl
def B19{G}(k:K4 G):∀ (E:Nat->U) (base:Nat),@Q1 ⟨E,G⟩ prog base gl f113.ntmps A7r (M1 prog gl n0 17 A7w AI):=by
 refine R4 (dep:=60) (f:=113) (n0:=n0) (nB:=17) (H0:=H0) A7u A7s (cxg (B3p.2 k) .nil) k func113 A7v A7t C9 C9 C9 ?_;intro us d outs c;have m:=c;unfold AI at c;split at c
 .skip;rename_i s p;split at c
  .rename_i b;clear c m;have zr:p<(s.length:Int)->_:=fun h=>A0H b.1 h
   refine⟨rfl,?_⟩;unfold A7s;refine w0 (.cons 1 _ (.cons 0 _ (.nil))) ?_;repeat (first|refine w4 (fun g=>?_) fun g=>?_|refine aK ?_|(refine w7 [.int .i64 _,.int .i64 _] ?_;rotate_left)|refine eG ?_|refine w1 (.rune) (e:=A5O A2) (k':=?_)|refine w1 (.rpos) (e:=A5P A2) (k':=?_)|refine oM ?_|refine w1 (.bin .eql) (e:=B0M _) (k':=?_)|(refine w7 [.int .i64 _,.str _,.int .i64 _] ?_;rotate_left)|(refine w7 [.int .i64 _] ?_;rotate_left))
   all_goals first
    | refine M2 ?_ ?_
      .have l:=zr ‹_›;have n:=l.2 A2;rw[n,sN s (p+1) ⟨A2,A2,b.2.2⟩,sN s p b,W1 (i:=p) b.1 ‹_› (by cases q:mW (s.getD p.toNat default)with|false=>rfl|true=>exact absurd (l.1.2 q) A2)]
      .have l:=zr ‹_›;have n:=l.2 A2;rw[n,A2X,A2X];omega
    | refine H7 (d:=0) ?_
      rw[sN s p b,Z2 A2];rfl
    | refine H7 (d:=1) ?_
      rw[sN s p b,Z1 b.1 ‹_› ((zr ‹_›).1.1 A2)];rfl
  .cases c
 .cases c
noncomputable def B4B:List LpE:=(113,([true,false,true,false],M1 prog gl n0 17 A7w AI))::[]
def A36{G}(b:K4 G):W5 prog G gl B4B:=.cons func113 A7v A7t (B19 b) .nil
noncomputable def B3F:O9:=⟨_,fun b=>.nil⟩
def JJ:List U->Option (Nat×List U)
 | [.str s]=>if(s.length:Int)<=140737488351232 then some (0,[.bool (decide (tJ s))])else none
 | _=>none
def A4G(s:B0)(b:(s.length:Int)<=140737488351232):JJ [.str s]=some (0,[.bool (decide (tJ s))]):=A8 b
def A59:Tr:=aN [h 0 9,.string ⟨⟨[]⟩⟩]<|.br 1 (aD [h 0 9]<|S2 2 3 100 (.lp AI [h 0 9,jI 0] 0 0 (dP) (.lp AI [h 0 9,jI 0] 1 1 (aL [h3 4,jI 0]<|.ret [h 5 8]) (.no))) F6) (F6)
def A5_{G}(c:K4 G):L6 prog G 61 [.s 9] JJ [.s 8]:=by
 refine F3 (d:=60) A59 (cxg (B3F.2 c) (A36 c)) c ⟨f61,_,func61,rfl⟩ C9 C9 ?_;intro us outs b;unfold JJ at b;split at b
 .skip;rename_i s;split at b
  .rename_i e;cases b;unfold A59;refine w0 (.cons 0 _ (.nil)) ?_;repeat (first|(refine w7 [.bool _] ?_;rotate_left)|refine w4 (fun g=>?_) fun g=>?_|refine OP ?_|refine eG ?_|refine pF ?_|(refine w6 AI (sN _ _ ⟨A2,A2,e⟩) (h0:=fun g=>?_) (h1:=fun v g=>?_);skip;rotate_left;show Wk _ _ (.cons _ _ _);rotate_right)|refine aK ?_)
   all_goals
    refine l1 ?_;symm;first
    | (refine D4 (fun h=>?_);have:=h.1;simp_all;done)
    | exact D4 (fun h=>by have:=h.2.1;omega)
    | exact H5 ⟨by assumption,A2,iT (l:=s) ‹_›⟩
    | (have b:=fR (l:=s) ‹_›
       first
       | exact(D4 (fun h=>by rw[h.2.2]at b;cases b.1)).trans (D4 A2).symm
       | exact D4 (fun h=>by rw[h.2.2]at b;cases b.1))
  .cases b
 .cases b
def rG:Rw (Int×Int×Int×Int×Int×Int×Int×B0×B0×Bool):=rC (Q7 .i64) (rC (Q7 .i64) (rC (Q7 .i64) (rC (Q7 .i64) (rC (Q7 .i64) (rC (Q7 .i64) (rC (Q7 .i64) (rC xB (rC xB (r1 VT)))))))))
def rP:Rw (Int×Int×Int×Int×Int×Int×Int×B0×Int×Int×Int×Int×Int×Int×Int×B0×B0×Bool):=rC (Q7 .i64) (rC (Q7 .i64) (rC (Q7 .i64) (rC (Q7 .i64) (rC (Q7 .i64) (rC (Q7 .i64) (rC (Q7 .i64) (rC xB (rC (Q7 .i64) (rC (Q7 .i64) (rC (Q7 .i64) (rC (Q7 .i64) (rC (Q7 .i64) (rC (Q7 .i64) (rC (Q7 .i64) (rC xB (rC xB (r1 VT)))))))))))))))))
abbrev Xt:=B6A
abbrev Gt:=(Int×Int×Int×Int×Int×Int×Int×B0×B0×Bool)
abbrev Pt:=(Int×Int×Int×Int×Int×Int×Int×B0×Int×Int×Int×Int×Int×Int×Int×B0×B0×Bool)
def gK(g:Gt):Xt:=(g.1,g.2.1,g.2.2.1,g.2.2.2.1,g.2.2.2.2.1,g.2.2.2.2.2.1,g.2.2.2.2.2.2.1,g.2.2.2.2.2.2.2.1)
def gC(g:Gt):B0:=g.2.2.2.2.2.2.2.2.1
def gR(g:Gt):Bool:=g.2.2.2.2.2.2.2.2.2
def pOf(g:Gt):Pt:=(g.1,g.2.1,g.2.2.1,g.2.2.2.1,g.2.2.2.2.1,g.2.2.2.2.2.1,g.2.2.2.2.2.2.1,g.2.2.2.2.2.2.2.1,g)
def pK(a:Pt):Xt:=(a.1,a.2.1,a.2.2.1,a.2.2.2.1,a.2.2.2.2.1,a.2.2.2.2.2.1,a.2.2.2.2.2.2.1,a.2.2.2.2.2.2.2.1)
def pG(a:Pt):Gt:=a.2.2.2.2.2.2.2.2
def pQ(a b:Pt):Bool:=(a.1 == b.1 && (a.2.1 == b.2.1 && (a.2.2.1 == b.2.2.1 && (a.2.2.2.1 == b.2.2.2.1 && (a.2.2.2.2.1 == b.2.2.2.2.1 && (a.2.2.2.2.2.1 == b.2.2.2.2.2.1 && (a.2.2.2.2.2.2.1 == b.2.2.2.2.2.2.1 && (a.2.2.2.2.2.2.2.1 == b.2.2.2.2.2.2.2.1 && true))))))))
def ixS(M:Option (List Pt)):List Gt->Option (List Pt)
 | []=>M
 | g::l=>ixS (SE pQ M (pOf g)) l
def A2b{M:Option (List Pt)}{l:List Gt}(h0:0<=i)(h1:i<(l.length:Int)):ixS M (l.drop i.toNat)=ixS (SE pQ M (pOf (l.getD i.toNat default))) (l.drop (i+1).toNat):=by
 rw[R5 l h0 h1];rfl
def A4S{M:Option (List Pt)}{a:Pt}(h:M≠none):SE pQ M a≠none:=by
 cases M with
 | none=>exact absurd rfl h
 | some x=>intro h;cases h
noncomputable def B3o:O9:=⟨_,fun b=>.nil⟩
def mJ:List U->Option (Nat×List U)
 | [u_l,.int .i64 n,.int .i64 i,u_M]=>(P4 rG u_l).bind fun l=>(P4 rP u_M).bind fun M=>if n=((el l).length:Int)/\0<=i/\i<=n/\n<=140737488351232/\M≠none then some (0,[E8 rP (ixS M ((el l).drop i.toNat))])else none
 | _=>none
def sM(l:(Option (List (Int×Int×Int×Int×Int×Int×Int×B0×B0×Bool))))(n:Int)(i:Int)(M:(Option (List (Int×Int×Int×Int×Int×Int×Int×B0×Int×Int×Int×Int×Int×Int×Int×B0×B0×Bool))))(b:n=((el l).length:Int)/\0<=i/\i<=n/\n<=140737488351232/\M≠none):mJ [E8 rG l,.int .i64 n,.int .i64 i,E8 rP M]=some (0,[E8 rP (ixS M ((el l).drop i.toNat))]):=by
 simp only[mJ,I0,F1];exact A8 b
def UL:R1:=⟨[(3,.map (some 19)),(8,dat 20 0 20),(9,h 1 3),(10,h 2 3)],[(19,.mp 3 28 60),(20,.frz)],4,[⟨.exit 0,[(3,.map (some 19))],[(19,.mp 0 28 60)],1⟩]⟩
noncomputable def A2W:Code:=(f41.body).getD .skip
noncomputable def A7p:Code:=match G6 [true,true,false,true,false] A2W with|some (.loop x)=>x|_=>.skip
def UK:f41.body=some A2W:=rfl
def UJ:G6 [true,true,false,true,false] A2W=some (.loop A7p):=C9
def eF(a0:Nat)(b:Nat)(a2:Nat)(c:Tr):Tr:=.lt 8 (.inbs 10) [h3 a0,h b 20]<|.br a2 c .no
def Z6(a0:Nat)(b:Nat)(a2:Nat)(d c:Tr):Tr:=aL [h3 a0,h3 b]<|.br a2 d c
def A7q:Tr:=Z6 2 1 4 (eF 2 0 5 (.lt 3 (.get 10 0) [h 0 20,h3 2]<|.lt 3 (.get 10 1) [h 0 20,h3 2]<|.lt 3 (.get 10 2) [h 0 20,h3 2]<|.lt 3 (.get 10 3) [h 0 20,h3 2]<|.lt 3 (.get 10 4) [h 0 20,h3 2]<|.lt 3 (.get 10 5) [h 0 20,h3 2]<|.lt 3 (.get 10 6) [h 0 20,h3 2]<|.lt 9 (.get 10 7) [h 0 20,h3 2]<|.lt 9 (.get 10 8) [h 0 20,h3 2]<|.lt 8 (.get 10 9) [h 0 20,h3 2]<|.dt 28 (.mput 18 8) [h 3 28,h3 6,h3 7,h3 8,h3 9,h3 10,h3 11,h3 12,h 13 9,h3 6,h3 7,h3 8,h3 9,h3 10,h3 11,h3 12,h 13 9,h 14 9,h 15 8]<|aA [h3 2,jI 1]<|.ret [jI (-1),h 0 20,h3 1,h3 17,h 16 28])) (.ret [jI 0,h 3 28])
def A2U:List U->Nat
 | [u_l,.int .i64 n,.int .i64 i,u_M]=>(match P4 rG u_l with|some l=>(match P4 rP u_M with|some M=>(n-i).toNat|none=>0)|none=>0)
 | _=>0
def A2T(l:(Option (List (Int×Int×Int×Int×Int×Int×Int×B0×B0×Bool))))(n:Int)(i:Int)(M:(Option (List (Int×Int×Int×Int×Int×Int×Int×B0×Int×Int×Int×Int×Int×Int×Int×B0×B0×Bool)))):A2U [E8 rG l,.int .i64 n,.int .i64 i,E8 rP M]=(n-i).toNat:=by
 simp only[A2U,I0]
def A2V{G}(p:K4 G):∀ (E:Nat->U) (base:Nat),@Q1 ⟨E,G⟩ prog base gl f41.ntmps A7p (M1 prog gl n0 21 UL mJ):=by
 refine R4 (dep:=60) (f:=41) (n0:=n0) (nB:=21) (H0:=H0) A2U A7q (cxg (B3o.2 p) .nil) p func41 UK UJ C9 C9 C9 ?_;intro us d outs c;have t:=c;unfold mJ at c;split at c
 .skip;rename_i w n i v;have s:=C3.1 c;clear c;obtain⟨l,m,c⟩:=s;replace m:=L1 m;subst m;have q:=C3.1 c;clear c;obtain⟨M,k,c⟩:=q;replace k:=L1 k;subst k;split at c
  .rename_i o;clear c t;refine⟨rfl,?_⟩;unfold A7q;refine w0 (.cons 3 _ (.cons 2 _ (.cons 1 _ (.cons 0 _ (.nil))))) ?_;repeat (first|refine w4 (fun g=>?_) fun g=>?_|refine bW ?_|refine W4 ?_|refine aK ?_|refine dV ?_|refine w1 (.get 10 0) (u:=.int .i64 _) (e:=E5 rfl A2 A2 rfl) (k':=?_)|refine w1 (.get 10 1) (u:=.int .i64 _) (e:=E5 rfl A2 A2 rfl) (k':=?_)|refine w1 (.get 10 2) (u:=.int .i64 _) (e:=E5 rfl A2 A2 rfl) (k':=?_)|refine w1 (.get 10 3) (u:=.int .i64 _) (e:=E5 rfl A2 A2 rfl) (k':=?_)|refine w1 (.get 10 4) (u:=.int .i64 _) (e:=E5 rfl A2 A2 rfl) (k':=?_)|refine w1 (.get 10 5) (u:=.int .i64 _) (e:=E5 rfl A2 A2 rfl) (k':=?_)|refine w1 (.get 10 6) (u:=.int .i64 _) (e:=E5 rfl A2 A2 rfl) (k':=?_)|refine w1 (.get 10 7) (u:=.str _) (e:=E5 rfl A2 A2 rfl) (k':=?_)|refine w1 (.get 10 8) (u:=.str _) (e:=E5 rfl A2 A2 rfl) (k':=?_)|refine w1 (.get 10 9) (u:=.bool _) (e:=E5 rfl A2 A2 rfl) (k':=?_)|refine w2 (.mput 18 8) (r:=rP) (e:=A23 (fun a b=>(a.1 == b.1 && (a.2.1 == b.2.1 && (a.2.2.1 == b.2.2.1 && (a.2.2.2.1 == b.2.2.2.1 && (a.2.2.2.2.1 == b.2.2.2.2.1 && (a.2.2.2.2.2.1 == b.2.2.2.2.2.1 && (a.2.2.2.2.2.2.1 == b.2.2.2.2.2.2.1 && (a.2.2.2.2.2.2.2.1 == b.2.2.2.2.2.2.2.1 && true))))))))) (_,_,_,_,_,_,_,_,_,_,_,_,_,_,_,_,_,_) rfl rfl (fun _=>rfl) o.2.2.2.2) (k':=?_)|(refine w7 [.int .i64 _,E8 rG _,.int .i64 _,.int .i64 _,E8 rP _] ?_;rotate_left)|(refine w8 ?_;first|omega)|(refine w7 [.int .i64 _,E8 rP _] ?_;rotate_left))
   all_goals first
    | refine M2 ?_ ?_
      .rw[sM l n i M o,A2b (l:=el l) o.2.1 A2];exact sM l n (i+1) _ ⟨o.1,A2,A2,o.2.2.2.1,A4S o.2.2.2.2⟩
      .rw[A2T,A2T];omega
    | refine H7 (d:=0) ?_
      rw[sM l n i M o,bJ (el l) A2];rfl
  .cases c
 .cases c
end Go.Proofs.YtbbicpheoakeeaaGreatDoor
