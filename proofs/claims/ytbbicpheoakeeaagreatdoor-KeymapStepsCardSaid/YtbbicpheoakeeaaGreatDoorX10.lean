import Derived.Test.YtbbicpheoakeeaaGreatDoorX9
import Derived.Shelf.Strings.Builder1
import Derived.Shelf.Strings.Builder2
import Derived.Shelf.Strings.OnBuilder
import Derived.Shelf.Small.Utf8
import Derived.Shelf.Small.Wraps
import Derived.Shelf.Strings.BuilderF
import Derived.Shelf.Strings.BuilderK
import Derived.Shelf.Utf8.RuneCount
import Derived.Shelf.Strings.Builder2Cap
import Derived.Shelf.Strconv.Itoa0
import Derived.Shelf.Strconv.Itoa1
import Derived.Shelf.LaysM
import Derived.Shelf.Strconv.Itoa2
import Derived.Shelf.Strconv.Itoa3
import Derived.Shelf.Strconv.Clone
import Derived.Shelf.Strings.Search1
import Derived.Shelf.Strings.Search2
import Derived.Shelf.Strings.Search3
import Derived.Shelf.Strings.Cut
import Derived.Shelf.Strings.Count
import Derived.Shelf.Strings.Shaped
import Derived.Shelf.Strings.Prefix
import Derived.Shelf.Strings.Split
import Derived.Shelf.Strings.Fields
import Derived.Shelf.Strings.SplitShaped
import Derived.Shelf.Unicode.Latin
import Derived.Shelf.Unicode.Decode
import Derived.Shelf.Strings.RuneCount
import Derived.Shelf.Bits.Mul64
import Derived.Shelf.Strings.Repeat
import Derived.Shelf.Unicode.DecodeSlow
import Derived.Shelf.Unicode.DecodeAny
import Derived.Shelf.Unicode.Is16White
import Derived.Shelf.Unicode.IsSpaceAny
import Derived.Shelf.Unicode.CaseLookup
import Derived.Shelf.Unicode.CaseConvert
import Derived.Shelf.Unicode.CaseTo
import Derived.Shelf.Unicode.CaseLaid
import Derived.Shelf.Unicode.Is16Any
import Derived.Shelf.Unicode.Is32Any
import Derived.Shelf.Unicode.ExclAny
import Derived.Shelf.Strings.BuilderCap
import Derived.Shelf.Slices.Turned
import Derived.Test.YtbbicpheoakeeaaGreatDoorProg
set_option linter.all false
set_option maxRecDepth 100000
set_option maxHeartbeats 4000000
namespace Go.Proofs
open Go.Shelf
def Tryz.lays158_ren:Go.Shelf.Ren:=⟨fun|158=>107|165=>72|166=>57|167=>123|169=>59|230=>124|203=>125|240=>92|241=>104|197=>119|118=>139|168=>140|270=>141|262=>142|276=>112|277=>122|260=>138|242=>150|313=>151|278=>154|274=>155|275=>156|n=>n,fun|9=>9|4=>4|3=>3|5=>5|72=>103|0=>0|76=>106|75=>105|107=>173|70=>101|20=>20|37=>26|127=>137|21=>21|105=>158|164=>155|162=>203|203=>201|119=>116|46=>119|139=>199|138=>198|51=>22|160=>208|208=>216|206=>214|80=>109|n=>n,fun|13=>9|3=>7|4=>8|n=>n⟩
def Tryz.lays158:Go.Proofs.Lays.n158 Tryz.prog Tryz.lays158_ren:={
 mixed:=C4
 f118:=K8 Tryz.func139
 f158:=K8 Tryz.func107
 f165:=K8 Tryz.func72
 f166:=K8 Tryz.func57
 f167:=K8 Tryz.func123
 f168:=K8 Tryz.func140
 f169:=K8 Tryz.func59
 f197:=K8 Tryz.func119
 f203:=K8 Tryz.func125
 f230:=K8 Tryz.func124
 f240:=K8 Tryz.func92
 f241:=K8 Tryz.func104
 f242:=K8 Tryz.func150
 f260:=K8 Tryz.func138
 f262:=K8 Tryz.func142
 f270:=K8 Tryz.func141
 f274:=K8 Tryz.func155
 f275:=K8 Tryz.func156
 f276:=K8 Tryz.func112
 f277:=K8 Tryz.func122
 f278:=K8 Tryz.func154
 f313:=K8 Tryz.func151
 t0:=Tryz.underlying0
 a0:=Tryz.isAgg0
 z0:=Tryz.sizeOf0
 v0:=Tryz.zeroValue0
 t3:=Tryz.underlying3
 a3:=Tryz.isAgg3
 z3:=Tryz.sizeOf3
 v3:=Tryz.zeroValue3
 t4:=Tryz.underlying4
 a4:=Tryz.isAgg4
 z4:=Tryz.sizeOf4
 v4:=Tryz.zeroValue4
 t5:=Tryz.underlying5
 a5:=Tryz.isAgg5
 z5:=Tryz.sizeOf5
 v5:=Tryz.zeroValue5
 t9:=Tryz.underlying9
 a9:=Tryz.isAgg9
 z9:=Tryz.sizeOf9
 v9:=Tryz.zeroValue9
 t20:=Tryz.underlying20
 a20:=Tryz.isAgg20
 z20:=Tryz.sizeOf20
 v20:=Tryz.zeroValue20
 t21:=Tryz.underlying21
 a21:=Tryz.isAgg21
 z21:=Tryz.sizeOf21
 v21:=Tryz.zeroValue21
 t37:=Tryz.underlying26
 a37:=Tryz.isAgg26
 z37:=Tryz.sizeOf26
 v37:=Tryz.zeroValue26
 t46:=Tryz.underlying119
 a46:=Tryz.isAgg119
 z46:=Tryz.sizeOf119
 v46:=Tryz.zeroValue119
 t51:=Tryz.underlying22
 a51:=Tryz.isAgg22
 z51:=Tryz.sizeOf22
 v51:=Tryz.zeroValue22
 t70:=Tryz.underlying101
 a70:=Tryz.isAgg101
 z70:=Tryz.sizeOf101
 v70:=Tryz.zeroValue101
 t72:=Tryz.underlying103
 a72:=Tryz.isAgg103
 z72:=Tryz.sizeOf103
 v72:=Tryz.zeroValue103
 t75:=Tryz.underlying105
 a75:=Tryz.isAgg105
 z75:=Tryz.sizeOf105
 v75:=Tryz.zeroValue105
 t76:=Tryz.underlying106
 a76:=Tryz.isAgg106
 z76:=Tryz.sizeOf106
 v76:=Tryz.zeroValue106
 t105:=Tryz.underlying158
 a105:=Tryz.isAgg158
 z105:=Tryz.sizeOf158
 v105:=Tryz.zeroValue158
 t107:=Tryz.underlying173
 a107:=Tryz.isAgg173
 z107:=Tryz.sizeOf173
 v107:=Tryz.zeroValue173
 t119:=Tryz.underlying116
 a119:=Tryz.isAgg116
 z119:=Tryz.sizeOf116
 t127:=Tryz.underlying137
 a127:=Tryz.isAgg137
 z127:=Tryz.sizeOf137
 v127:=Tryz.zeroValue137
 t138:=Tryz.underlying198
 a138:=Tryz.isAgg198
 z138:=Tryz.sizeOf198
 v138:=Tryz.zeroValue198
 t139:=Tryz.underlying199
 a139:=Tryz.isAgg199
 z139:=Tryz.sizeOf199
 v139:=Tryz.zeroValue199
 t160:=Tryz.underlying208
 a160:=Tryz.isAgg208
 z160:=Tryz.sizeOf208
 v160:=Tryz.zeroValue208
 t162:=Tryz.underlying203
 a162:=Tryz.isAgg203
 z162:=Tryz.sizeOf203
 v162:=Tryz.zeroValue203
 t164:=Tryz.underlying155
 a164:=Tryz.isAgg155
 z164:=Tryz.sizeOf155
 v164:=Tryz.zeroValue155
 t203:=Tryz.underlying201
 a203:=Tryz.isAgg201
 z203:=Tryz.sizeOf201
 v203:=Tryz.zeroValue201
 t206:=Tryz.underlying214
 a206:=Tryz.isAgg214
 z206:=Tryz.sizeOf214
 v206:=Tryz.zeroValue214
 t208:=Tryz.underlying216
 a208:=Tryz.isAgg216
 z208:=Tryz.sizeOf216
 v208:=Tryz.zeroValue216
 g3:=C4
 g4:=C4
 g13:=by kernel_rfl }
def Tryz.Builder_Extra_158:Builder.Extra Tryz.prog Tryz.lays158_ren:={
 sizeBuilder:=C4
 liesBuilder:=C4
 t5:=Tryz.underlying5
 a5:=Tryz.isAgg5
 z5:=Tryz.sizeOf5
 v5:=Tryz.zeroValue5
 infoByte:=C4
 cellsByte:=C4
 sizeByte:=C4
 neB5:=by decide }
open Go.RowKit in
def Tryz.strings_ToUpper_ascii(s:ByteArray)(w:World)(d:s.size<=140737488355328)(c:∀ (j:Nat) (b:UInt8),s.data.toList[j]? = some b->b.toNat<128) :
  Calls Tryz.prog 107 #[.string s] w fun e w'=>e=.returned (.string ⟨(Lib.toUpperA s.data.toList).toArray⟩)/\Below w.heap.size w w':=Any.strings_ToUpper_ascii Tryz.lays158 Tryz.Builder_Extra_158 s w d c
def Tryz.lays156_ren:Go.Shelf.Ren:=⟨fun|156=>93|165=>72|166=>57|169=>59|240=>92|241=>104|276=>112|277=>122|n=>n,fun|31=>68|9=>9|3=>3|4=>4|0=>0|20=>20|72=>103|76=>106|70=>101|37=>26|75=>105|127=>137|164=>155|5=>5|80=>109|n=>n,fun|n=>n⟩
def Tryz.lays156:Go.Proofs.Lays.n156 Tryz.prog Tryz.lays156_ren:={
 mixed:=C4
 f156:=K8 Tryz.func93
 f165:=K8 Tryz.func72
 f166:=K8 Tryz.func57
 f169:=K8 Tryz.func59
 f240:=K8 Tryz.func92
 f241:=K8 Tryz.func104
 f276:=K8 Tryz.func112
 f277:=K8 Tryz.func122
 t0:=Tryz.underlying0
 a0:=Tryz.isAgg0
 z0:=Tryz.sizeOf0
 v0:=Tryz.zeroValue0
 t3:=Tryz.underlying3
 a3:=Tryz.isAgg3
 z3:=Tryz.sizeOf3
 v3:=Tryz.zeroValue3
 t4:=Tryz.underlying4
 a4:=Tryz.isAgg4
 z4:=Tryz.sizeOf4
 v4:=Tryz.zeroValue4
 t9:=Tryz.underlying9
 a9:=Tryz.isAgg9
 z9:=Tryz.sizeOf9
 v9:=Tryz.zeroValue9
 t20:=Tryz.underlying20
 a20:=Tryz.isAgg20
 z20:=Tryz.sizeOf20
 v20:=Tryz.zeroValue20
 t31:=Tryz.underlying68
 a31:=Tryz.isAgg68
 z31:=Tryz.sizeOf68
 v31:=Tryz.zeroValue68
 t37:=Tryz.underlying26
 a37:=Tryz.isAgg26
 z37:=Tryz.sizeOf26
 v37:=Tryz.zeroValue26
 t70:=Tryz.underlying101
 a70:=Tryz.isAgg101
 z70:=Tryz.sizeOf101
 v70:=Tryz.zeroValue101
 t72:=Tryz.underlying103
 a72:=Tryz.isAgg103
 z72:=Tryz.sizeOf103
 v72:=Tryz.zeroValue103
 t75:=Tryz.underlying105
 a75:=Tryz.isAgg105
 z75:=Tryz.sizeOf105
 v75:=Tryz.zeroValue105
 t76:=Tryz.underlying106
 a76:=Tryz.isAgg106
 z76:=Tryz.sizeOf106
 v76:=Tryz.zeroValue106
 t127:=Tryz.underlying137
 a127:=Tryz.isAgg137
 z127:=Tryz.sizeOf137
 v127:=Tryz.zeroValue137
 t164:=Tryz.underlying155
 a164:=Tryz.isAgg155
 z164:=Tryz.sizeOf155
 v164:=Tryz.zeroValue155 }
def Tryz.Builder_Extra_156:Builder.Extra Tryz.prog Tryz.lays156_ren:={
 sizeBuilder:=C4
 liesBuilder:=C4
 t5:=Tryz.underlying5
 a5:=Tryz.isAgg5
 z5:=Tryz.sizeOf5
 v5:=Tryz.zeroValue5
 infoByte:=C4
 cellsByte:=C4
 sizeByte:=C4
 neB5:=by decide }
open Go.RowKit in
def Tryz.strings_Join_none(a:Option Addr)(c:Nat)(sep:ByteArray)(w:World) :
  Calls Tryz.prog 93 #[.slice a 0 c,.string sep] w fun e w'=>e=.returned (.string ⟨#[]⟩)/\w'=w:=Any.strings_Join_none Tryz.lays156 Tryz.Builder_Extra_156 a c sep w
open Go.RowKit in
def Tryz.strings_Join(f o c:Nat)(xs:List ByteArray)(sep:ByteArray)(w:World)(b:∀ (j:Nat) x,xs[j]? = some x->w.cell? ⟨f,o+j,none⟩=some (.string x))(g:f<w.heap.size)(k:xs.length<=140737488355328)(d:xs.length<=c)(hlen:(Lib.join (xs.map (·.data.toList)) sep.data.toList).length<=140737488355328) :
  Calls Tryz.prog 93 #[.slice (some ⟨f,o,none⟩) xs.length c,.string sep] w fun e w'=>e=.returned (.string ⟨(Lib.join (xs.map (·.data.toList)) sep.data.toList).toArray⟩)/\Below w.heap.size w w':=Any.strings_Join Tryz.lays156 Tryz.Builder_Extra_156 f o c xs sep w b g k d hlen
def Tryz.laysM316_ren:Go.Shelf.Ren:=⟨fun|316=>143|n=>n,fun|9=>9|3=>3|4=>4|37=>26|0=>0|127=>137|5=>5|n=>n,fun|n=>n⟩
def Tryz.laysM316:Go.Proofs.LaysM.n316 Tryz.prog Tryz.laysM316_ren:={
 mixed:=C4
 f316:=K8 Tryz.func143
 t0:=Tryz.underlying0
 a0:=Tryz.isAgg0
 z0:=Tryz.sizeOf0
 v0:=Tryz.zeroValue0
 t3:=Tryz.underlying3
 a3:=Tryz.isAgg3
 z3:=Tryz.sizeOf3
 v3:=Tryz.zeroValue3
 t4:=Tryz.underlying4
 a4:=Tryz.isAgg4
 z4:=Tryz.sizeOf4
 v4:=Tryz.zeroValue4
 t9:=Tryz.underlying9
 a9:=Tryz.isAgg9
 z9:=Tryz.sizeOf9
 v9:=Tryz.zeroValue9
 t37:=Tryz.underlying26
 a37:=Tryz.isAgg26
 z37:=Tryz.sizeOf26
 v37:=Tryz.zeroValue26
 t127:=Tryz.underlying137
 a127:=Tryz.isAgg137
 z127:=Tryz.sizeOf137
 v127:=Tryz.zeroValue137
 t5:=Tryz.underlying5
 a5:=Tryz.isAgg5
 z5:=Tryz.sizeOf5
 v5:=Tryz.zeroValue5
 i0:=C4
 i3:=C4
 i4:=C4
 i5:=C4
 i9:=C4
 i37:=C4
 i127:=by kernel_rfl }
open Go.RowKit in
def Tryz.stringslite_Clone(s:ByteArray)(w:World)(b:s.size<=281474976710656) :
  Calls Tryz.prog 143 #[.string s] w fun e w'=>e=.returned (.string s)/\Below w.heap.size w w':=Any.stringslite_Clone Tryz.laysM316 s w b
def Tryz.lays143_ren:Go.Shelf.Ren:=⟨fun|143=>65|219=>97|217=>114|225=>115|224=>116|267=>117|266=>132|314=>133|n=>n,fun|9=>9|3=>3|4=>4|5=>5|46=>119|146=>146|51=>22|n=>n,fun|1=>2|n=>n⟩
def Tryz.lays143:Go.Proofs.Lays.n143 Tryz.prog Tryz.lays143_ren:={
 mixed:=C4
 f143:=K8 Tryz.func65
 f217:=K8 Tryz.func114
 f219:=K8 Tryz.func97
 f224:=K8 Tryz.func116
 f225:=K8 Tryz.func115
 f266:=K8 Tryz.func132
 f267:=K8 Tryz.func117
 f314:=K8 Tryz.func133
 t3:=Tryz.underlying3
 a3:=Tryz.isAgg3
 z3:=Tryz.sizeOf3
 v3:=Tryz.zeroValue3
 t4:=Tryz.underlying4
 a4:=Tryz.isAgg4
 z4:=Tryz.sizeOf4
 v4:=Tryz.zeroValue4
 t5:=Tryz.underlying5
 a5:=Tryz.isAgg5
 z5:=Tryz.sizeOf5
 v5:=Tryz.zeroValue5
 t9:=Tryz.underlying9
 a9:=Tryz.isAgg9
 z9:=Tryz.sizeOf9
 v9:=Tryz.zeroValue9
 t46:=Tryz.underlying119
 a46:=Tryz.isAgg119
 z46:=Tryz.sizeOf119
 v46:=Tryz.zeroValue119
 t51:=Tryz.underlying22
 a51:=Tryz.isAgg22
 z51:=Tryz.sizeOf22
 v51:=Tryz.zeroValue22
 t146:=Tryz.underlying146
 a146:=Tryz.isAgg146
 z146:=Tryz.sizeOf146
 v146:=Tryz.zeroValue146
 g1:=by kernel_rfl }
open Go.RowKit Go.Lib in
def Tryz.strings_Index_one(s:ByteArray)(c:UInt8)(w:World) :
  Calls Tryz.prog 65 #[.string s,.string ⟨#[c]⟩] w fun e w'=>e=.returned (.int .i64 (Lib.indexByte s.data.toList c))/\w'=w:=Any.strings_Index_one Tryz.lays143 s c w
def Tryz.lays144_ren:Go.Shelf.Ren:=⟨fun|144=>78|143=>65|219=>97|217=>114|225=>115|224=>116|267=>117|266=>132|314=>133|n=>n,fun|9=>9|4=>4|3=>3|5=>5|46=>119|146=>146|51=>22|n=>n,fun|1=>2|n=>n⟩
def Tryz.lays144:Go.Proofs.Lays.n144 Tryz.prog Tryz.lays144_ren:={
 mixed:=C4
 f143:=K8 Tryz.func65
 f144:=K8 Tryz.func78
 f217:=K8 Tryz.func114
 f219:=K8 Tryz.func97
 f224:=K8 Tryz.func116
 f225:=K8 Tryz.func115
 f266:=K8 Tryz.func132
 f267:=K8 Tryz.func117
 f314:=K8 Tryz.func133
 t3:=Tryz.underlying3
 a3:=Tryz.isAgg3
 z3:=Tryz.sizeOf3
 v3:=Tryz.zeroValue3
 t4:=Tryz.underlying4
 a4:=Tryz.isAgg4
 z4:=Tryz.sizeOf4
 v4:=Tryz.zeroValue4
 t5:=Tryz.underlying5
 a5:=Tryz.isAgg5
 z5:=Tryz.sizeOf5
 v5:=Tryz.zeroValue5
 t9:=Tryz.underlying9
 a9:=Tryz.isAgg9
 z9:=Tryz.sizeOf9
 v9:=Tryz.zeroValue9
 t46:=Tryz.underlying119
 a46:=Tryz.isAgg119
 z46:=Tryz.sizeOf119
 v46:=Tryz.zeroValue119
 t51:=Tryz.underlying22
 a51:=Tryz.isAgg22
 z51:=Tryz.sizeOf22
 v51:=Tryz.zeroValue22
 t146:=Tryz.underlying146
 a146:=Tryz.isAgg146
 z146:=Tryz.sizeOf146
 v146:=Tryz.zeroValue146
 g1:=by kernel_rfl }
open Go.RowKit Go.Lib in
def Tryz.strings_Contains_one(s:ByteArray)(c:UInt8)(w:World) :
  Calls Tryz.prog 78 #[.string s,.string ⟨#[c]⟩] w fun e w'=>e=.returned (.bool (decide (0<=Lib.indexByte s.data.toList c)))/\w'=w:=Any.strings_Contains_one Tryz.lays144 s c w
def Tryz.lays138_ren:Go.Shelf.Ren:=⟨fun|138=>29|195=>63|218=>64|143=>65|219=>97|217=>114|225=>115|224=>116|267=>117|266=>132|314=>133|n=>n,fun|9=>9|3=>3|4=>4|5=>5|0=>0|46=>119|146=>146|51=>22|n=>n,fun|1=>2|n=>n⟩
def Tryz.lays138:Go.Proofs.Lays.n138 Tryz.prog Tryz.lays138_ren:={
 mixed:=C4
 f138:=K8 Tryz.func29
 f143:=K8 Tryz.func65
 f195:=K8 Tryz.func63
 f217:=K8 Tryz.func114
 f218:=K8 Tryz.func64
 f219:=K8 Tryz.func97
 f224:=K8 Tryz.func116
 f225:=K8 Tryz.func115
 f266:=K8 Tryz.func132
 f267:=K8 Tryz.func117
 f314:=K8 Tryz.func133
 t0:=Tryz.underlying0
 a0:=Tryz.isAgg0
 z0:=Tryz.sizeOf0
 v0:=Tryz.zeroValue0
 t3:=Tryz.underlying3
 a3:=Tryz.isAgg3
 z3:=Tryz.sizeOf3
 v3:=Tryz.zeroValue3
 t4:=Tryz.underlying4
 a4:=Tryz.isAgg4
 z4:=Tryz.sizeOf4
 v4:=Tryz.zeroValue4
 t5:=Tryz.underlying5
 a5:=Tryz.isAgg5
 z5:=Tryz.sizeOf5
 v5:=Tryz.zeroValue5
 t9:=Tryz.underlying9
 a9:=Tryz.isAgg9
 z9:=Tryz.sizeOf9
 v9:=Tryz.zeroValue9
 t46:=Tryz.underlying119
 a46:=Tryz.isAgg119
 z46:=Tryz.sizeOf119
 v46:=Tryz.zeroValue119
 t51:=Tryz.underlying22
 a51:=Tryz.isAgg22
 z51:=Tryz.sizeOf22
 v51:=Tryz.zeroValue22
 t146:=Tryz.underlying146
 a146:=Tryz.isAgg146
 z146:=Tryz.sizeOf146
 v146:=Tryz.zeroValue146
 g1:=by kernel_rfl }
open Go.RowKit Go.Lib in
def Tryz.strings_Count_one(s:ByteArray)(c:UInt8)(w:World) :
  Calls Tryz.prog 29 #[.string s,.string ⟨#[c]⟩] w fun e w'=>e=.returned (.int .i64 (Lib.countByte s.data.toList c))/\w'=w:=Any.strings_Count_one Tryz.lays138 s c w
def Tryz.laysM145_ren:Go.Shelf.Ren:=⟨fun|145=>91|220=>111|219=>97|217=>114|225=>115|224=>116|267=>117|266=>132|314=>133|n=>n,fun|9=>9|4=>4|59=>99|3=>3|5=>5|46=>119|146=>146|51=>22|n=>n,fun|1=>2|n=>n⟩
def Tryz.laysM145:Go.Proofs.LaysM.n145 Tryz.prog Tryz.laysM145_ren:={
 mixed:=C4
 f145:=K8 Tryz.func91
 f217:=K8 Tryz.func114
 f219:=K8 Tryz.func97
 f220:=K8 Tryz.func111
 f224:=K8 Tryz.func116
 f225:=K8 Tryz.func115
 f266:=K8 Tryz.func132
 f267:=K8 Tryz.func117
 f314:=K8 Tryz.func133
 t3:=Tryz.underlying3
 a3:=Tryz.isAgg3
 z3:=Tryz.sizeOf3
 v3:=Tryz.zeroValue3
 t4:=Tryz.underlying4
 a4:=Tryz.isAgg4
 z4:=Tryz.sizeOf4
 v4:=Tryz.zeroValue4
 t5:=Tryz.underlying5
 a5:=Tryz.isAgg5
 z5:=Tryz.sizeOf5
 v5:=Tryz.zeroValue5
 t9:=Tryz.underlying9
 a9:=Tryz.isAgg9
 z9:=Tryz.sizeOf9
 v9:=Tryz.zeroValue9
 t46:=Tryz.underlying119
 a46:=Tryz.isAgg119
 z46:=Tryz.sizeOf119
 v46:=Tryz.zeroValue119
 t51:=Tryz.underlying22
 a51:=Tryz.isAgg22
 z51:=Tryz.sizeOf22
 v51:=Tryz.zeroValue22
 t59:=Tryz.underlying99
 a59:=Tryz.isAgg99
 z59:=Tryz.sizeOf99
 v59:=Tryz.zeroValue99
 t146:=Tryz.underlying146
 a146:=Tryz.isAgg146
 z146:=Tryz.sizeOf146
 v146:=Tryz.zeroValue146
 g1:=C4
 i3:=C4
 i4:=C4
 i5:=C4
 i9:=C4
 i46:=C4
 i51:=C4
 i59:=C4
 i146:=C4
 m1:=C4
 s1_3:=fun w h=>Go.Proofs.cell_of_shapedOpen_int (zero:=#[.int .i64 0]) (t:=3) h (H5 C4) C4 rfl C4 C4 Tryz.underlying3 }
open Go.RowKit Go.Lib in
def Tryz.strings_Cut_shaped(s sep:ByteArray)(w:World)(h:w.ShapedOpen Tryz.prog)(b:s.size<4294967281) :
  Calls Tryz.prog 91 #[.string s,.string sep] w fun e w'=>e=.returned (.tuple #[.string ⟨(Lib.cut s.data.toList sep.data.toList).1.toArray⟩,.string ⟨(Lib.cut s.data.toList sep.data.toList).2.1.toArray⟩,.bool (Lib.cut s.data.toList sep.data.toList).2.2])/\∃ n,w'=w.drewN n:=Any.strings_Cut_shaped Tryz.laysM145 s sep w h b
def Tryz.lays105_ren:Go.Shelf.Ren:=⟨fun|105=>34|212=>70|99=>71|165=>72|166=>57|170=>73|169=>59|263=>101|264=>102|206=>103|240=>92|241=>104|276=>112|277=>122|n=>n,fun|9=>9|3=>3|4=>4|20=>20|0=>0|46=>119|109=>120|5=>5|72=>103|76=>106|51=>22|146=>146|53=>132|148=>148|70=>101|37=>26|75=>105|127=>137|164=>155|80=>109|n=>n,fun|n=>n⟩
def Tryz.lays105:Go.Proofs.Lays.n105 Tryz.prog Tryz.lays105_ren:={
 mixed:=C4
 f99:=K8 Tryz.func71
 f105:=K8 Tryz.func34
 f165:=K8 Tryz.func72
 f166:=K8 Tryz.func57
 f169:=K8 Tryz.func59
 f170:=K8 Tryz.func73
 f206:=K8 Tryz.func103
 f212:=K8 Tryz.func70
 f240:=K8 Tryz.func92
 f241:=K8 Tryz.func104
 f263:=K8 Tryz.func101
 f264:=K8 Tryz.func102
 f276:=K8 Tryz.func112
 f277:=K8 Tryz.func122
 t0:=Tryz.underlying0
 a0:=Tryz.isAgg0
 z0:=Tryz.sizeOf0
 v0:=Tryz.zeroValue0
 t3:=Tryz.underlying3
 a3:=Tryz.isAgg3
 z3:=Tryz.sizeOf3
 v3:=Tryz.zeroValue3
 t4:=Tryz.underlying4
 a4:=Tryz.isAgg4
 z4:=Tryz.sizeOf4
 v4:=Tryz.zeroValue4
 t5:=Tryz.underlying5
 a5:=Tryz.isAgg5
 z5:=Tryz.sizeOf5
 v5:=Tryz.zeroValue5
 t9:=Tryz.underlying9
 a9:=Tryz.isAgg9
 z9:=Tryz.sizeOf9
 v9:=Tryz.zeroValue9
 t20:=Tryz.underlying20
 a20:=Tryz.isAgg20
 z20:=Tryz.sizeOf20
 v20:=Tryz.zeroValue20
 t37:=Tryz.underlying26
 a37:=Tryz.isAgg26
 z37:=Tryz.sizeOf26
 v37:=Tryz.zeroValue26
 t46:=Tryz.underlying119
 a46:=Tryz.isAgg119
 z46:=Tryz.sizeOf119
 v46:=Tryz.zeroValue119
 t51:=Tryz.underlying22
 a51:=Tryz.isAgg22
 z51:=Tryz.sizeOf22
 v51:=Tryz.zeroValue22
 t53:=Tryz.underlying132
 a53:=Tryz.isAgg132
 z53:=Tryz.sizeOf132
 v53:=Tryz.zeroValue132
 t70:=Tryz.underlying101
 a70:=Tryz.isAgg101
 z70:=Tryz.sizeOf101
 v70:=Tryz.zeroValue101
 t72:=Tryz.underlying103
 a72:=Tryz.isAgg103
 z72:=Tryz.sizeOf103
 v72:=Tryz.zeroValue103
 t75:=Tryz.underlying105
 a75:=Tryz.isAgg105
 z75:=Tryz.sizeOf105
 v75:=Tryz.zeroValue105
 t76:=Tryz.underlying106
 a76:=Tryz.isAgg106
 z76:=Tryz.sizeOf106
 v76:=Tryz.zeroValue106
 t109:=Tryz.underlying120
 a109:=Tryz.isAgg120
 z109:=Tryz.sizeOf120
 v109:=Tryz.zeroValue120
 t127:=Tryz.underlying137
 a127:=Tryz.isAgg137
 z127:=Tryz.sizeOf137
 v127:=Tryz.zeroValue137
 t146:=Tryz.underlying146
 a146:=Tryz.isAgg146
 z146:=Tryz.sizeOf146
 v146:=Tryz.zeroValue146
 t148:=Tryz.underlying148
 a148:=Tryz.isAgg148
 z148:=Tryz.sizeOf148
 v148:=Tryz.zeroValue148
 t164:=Tryz.underlying155
 a164:=Tryz.isAgg155
 z164:=Tryz.sizeOf155
 v164:=Tryz.zeroValue155 }
def Tryz.Builder_Extra_105:Builder.Extra Tryz.prog Tryz.lays105_ren:={
 sizeBuilder:=C4
 liesBuilder:=C4
 t5:=Tryz.underlying5
 a5:=Tryz.isAgg5
 z5:=Tryz.sizeOf5
 v5:=Tryz.zeroValue5
 infoByte:=C4
 cellsByte:=C4
 sizeByte:=C4
 neB5:=by decide }
open Go.RowKit Go.Lib in
def Tryz.strings_Repeat(s:ByteArray)(c:Nat)(w:World)(b:c<=9223372036854775807)(hlen:s.size*c<=140737488355328) :
  Calls Tryz.prog 34 #[.string s,.int .i64 c] w fun e w'=>e=.returned (.string ⟨(Lib.repeatL s.data.toList c).toArray⟩)/\Below w.heap.size w w':=Any.strings_Repeat Tryz.lays105 Tryz.Builder_Extra_105 s c w b hlen
end Go.Proofs
namespace Go.Proofs.YtbbicpheoakeeaaGreatDoor
open Go Go.Sx Go.Proofs.Tryz
variable {a d4 dc i j:Int}
def gl:Nat:=13
def n0:Nat:=16
def kE:List (Nat×List Value):=[(10,[.int .u8 (0),.int .u8 (1),.int .u8 (28),.int .u8 (2),.int .u8 (29),.int .u8 (14),.int .u8 (24),.int .u8 (3),.int .u8 (30),.int .u8 (22),.int .u8 (20),.int .u8 (15),.int .u8 (25),.int .u8 (17),.int .u8 (4),.int .u8 (8),.int .u8 (31),.int .u8 (27),.int .u8 (13),.int .u8 (23),.int .u8 (21),.int .u8 (19),.int .u8 (16),.int .u8 (7),.int .u8 (26),.int .u8 (12),.int .u8 (18),.int .u8 (6),.int .u8 (11),.int .u8 (5),.int .u8 (10),.int .u8 (9)]),
 (11,[.int .u8 (0),.int .u8 (1),.int .u8 (56),.int .u8 (2),.int .u8 (57),.int .u8 (49),.int .u8 (28),.int .u8 (3),.int .u8 (61),.int .u8 (58),.int .u8 (42),.int .u8 (50),.int .u8 (38),.int .u8 (29),.int .u8 (17),.int .u8 (4),.int .u8 (62),.int .u8 (47),.int .u8 (59),.int .u8 (36),.int .u8 (45),.int .u8 (43),.int .u8 (51),.int .u8 (22),.int .u8 (53),.int .u8 (39),.int .u8 (33),.int .u8 (30),.int .u8 (24),.int .u8 (18),.int .u8 (12),.int .u8 (5),.int .u8 (63),.int .u8 (55),.int .u8 (48),.int .u8 (27),.int .u8 (60),.int .u8 (41),.int .u8 (37),.int .u8 (16),.int .u8 (46),.int .u8 (35),.int .u8 (44),.int .u8 (21),.int .u8 (52),.int .u8 (32),.int .u8 (23),.int .u8 (11),.int .u8 (54),.int .u8 (26),.int .u8 (40),.int .u8 (15),.int .u8 (34),.int .u8 (20),.int .u8 (31),.int .u8 (10),.int .u8 (25),.int .u8 (14),.int .u8 (19),.int .u8 (9),.int .u8 (13),.int .u8 (8),.int .u8 (7),.int .u8 (6)]),
 (6,[.int .u64 (1),.int .u64 (10),.int .u64 (100),.int .u64 (1000),.int .u64 (10000),.int .u64 (100000),.int .u64 (1000000),.int .u64 (10000000),.int .u64 (100000000),.int .u64 (1000000000),.int .u64 (10000000000),.int .u64 (100000000000),.int .u64 (1000000000000),.int .u64 (10000000000000),.int .u64 (100000000000000),.int .u64 (1000000000000000),.int .u64 (10000000000000000),.int .u64 (100000000000000000),.int .u64 (1000000000000000000),.int .u64 (10000000000000000000)]),
 (8,[.int .u8 (128),.int .u8 (191),.int .u8 (160),.int .u8 (191),.int .u8 (128),.int .u8 (159),.int .u8 (144),.int .u8 (191),.int .u8 (128),.int .u8 (143),.int .u8 (0),.int .u8 (0),.int .u8 (0),.int .u8 (0),.int .u8 (0),.int .u8 (0),.int .u8 (0),.int .u8 (0),.int .u8 (0),.int .u8 (0),.int .u8 (0),.int .u8 (0),.int .u8 (0),.int .u8 (0),.int .u8 (0),.int .u8 (0),.int .u8 (0),.int .u8 (0),.int .u8 (0),.int .u8 (0),.int .u8 (0),.int .u8 (0)]),
 (5,[one]),
 (4,[one]),
 (1,[.int .u8 (0),.int .u8 (0),.int .u8 (0),.int .u8 (0),.int .u8 (0),.int .u8 (0),.int .u8 (0),.int .u8 (0),.int .u8 (0),.int .u8 (1),.int .u8 (1),.int .u8 (1),.int .u8 (1),.int .u8 (1),.int .u8 (0),.int .u8 (0),.int .u8 (0),.int .u8 (0),.int .u8 (0),.int .u8 (0),.int .u8 (0),.int .u8 (0),.int .u8 (0),.int .u8 (0),.int .u8 (0),.int .u8 (0),.int .u8 (0),.int .u8 (0),.int .u8 (0),.int .u8 (0),.int .u8 (0),.int .u8 (0),.int .u8 (1),.int .u8 (0),.int .u8 (0),.int .u8 (0),.int .u8 (0),.int .u8 (0),.int .u8 (0),.int .u8 (0),.int .u8 (0),.int .u8 (0),.int .u8 (0),.int .u8 (0),.int .u8 (0),.int .u8 (0),.int .u8 (0),.int .u8 (0),.int .u8 (0),.int .u8 (0),.int .u8 (0),.int .u8 (0),.int .u8 (0),.int .u8 (0),.int .u8 (0),.int .u8 (0),.int .u8 (0),.int .u8 (0),.int .u8 (0),.int .u8 (0),.int .u8 (0),.int .u8 (0),.int .u8 (0),.int .u8 (0),.int .u8 (0),.int .u8 (0),.int .u8 (0),.int .u8 (0),.int .u8 (0),.int .u8 (0),.int .u8 (0),.int .u8 (0),.int .u8 (0),.int .u8 (0),.int .u8 (0),.int .u8 (0),.int .u8 (0),.int .u8 (0),.int .u8 (0),.int .u8 (0),.int .u8 (0),.int .u8 (0),.int .u8 (0),.int .u8 (0),.int .u8 (0),.int .u8 (0),.int .u8 (0),.int .u8 (0),.int .u8 (0),.int .u8 (0),.int .u8 (0),.int .u8 (0),.int .u8 (0),.int .u8 (0),.int .u8 (0),.int .u8 (0),.int .u8 (0),.int .u8 (0),.int .u8 (0),.int .u8 (0),.int .u8 (0),.int .u8 (0),.int .u8 (0),.int .u8 (0),.int .u8 (0),.int .u8 (0),.int .u8 (0),.int .u8 (0),.int .u8 (0),.int .u8 (0),.int .u8 (0),.int .u8 (0),.int .u8 (0),.int .u8 (0),.int .u8 (0),.int .u8 (0),.int .u8 (0),.int .u8 (0),.int .u8 (0),.int .u8 (0),.int .u8 (0),.int .u8 (0),.int .u8 (0),.int .u8 (0),.int .u8 (0),.int .u8 (0),.int .u8 (0),.int .u8 (0),.int .u8 (0),.int .u8 (0),.int .u8 (0),.int .u8 (0),.int .u8 (0),.int .u8 (0),.int .u8 (0),.int .u8 (0),.int .u8 (0),.int .u8 (0),.int .u8 (0),.int .u8 (0),.int .u8 (0),.int .u8 (0),.int .u8 (0),.int .u8 (0),.int .u8 (0),.int .u8 (0),.int .u8 (0),.int .u8 (0),.int .u8 (0),.int .u8 (0),.int .u8 (0),.int .u8 (0),.int .u8 (0),.int .u8 (0),.int .u8 (0),.int .u8 (0),.int .u8 (0),.int .u8 (0),.int .u8 (0),.int .u8 (0),.int .u8 (0),.int .u8 (0),.int .u8 (0),.int .u8 (0),.int .u8 (0),.int .u8 (0),.int .u8 (0),.int .u8 (0),.int .u8 (0),.int .u8 (0),.int .u8 (0),.int .u8 (0),.int .u8 (0),.int .u8 (0),.int .u8 (0),.int .u8 (0),.int .u8 (0),.int .u8 (0),.int .u8 (0),.int .u8 (0),.int .u8 (0),.int .u8 (0),.int .u8 (0),.int .u8 (0),.int .u8 (0),.int .u8 (0),.int .u8 (0),.int .u8 (0),.int .u8 (0),.int .u8 (0),.int .u8 (0),.int .u8 (0),.int .u8 (0),.int .u8 (0),.int .u8 (0),.int .u8 (0),.int .u8 (0),.int .u8 (0),.int .u8 (0),.int .u8 (0),.int .u8 (0),.int .u8 (0),.int .u8 (0),.int .u8 (0),.int .u8 (0),.int .u8 (0),.int .u8 (0),.int .u8 (0),.int .u8 (0),.int .u8 (0),.int .u8 (0),.int .u8 (0),.int .u8 (0),.int .u8 (0),.int .u8 (0),.int .u8 (0),.int .u8 (0),.int .u8 (0),.int .u8 (0),.int .u8 (0),.int .u8 (0),.int .u8 (0),.int .u8 (0),.int .u8 (0),.int .u8 (0),.int .u8 (0),.int .u8 (0),.int .u8 (0),.int .u8 (0),.int .u8 (0),.int .u8 (0),.int .u8 (0),.int .u8 (0),.int .u8 (0),.int .u8 (0),.int .u8 (0),.int .u8 (0),.int .u8 (0),.int .u8 (0),.int .u8 (0),.int .u8 (0),.int .u8 (0),.int .u8 (0),.int .u8 (0),.int .u8 (0),.int .u8 (0),.int .u8 (0),.int .u8 (0),.int .u8 (0),.int .u8 (0),.int .u8 (0),.int .u8 (0),.int .u8 (0),.int .u8 (0),.int .u8 (0),.int .u8 (0)]),
 (0,[.int .i64 (4),.string ⟨⟨[67,45]⟩⟩,.int .i64 (2),.string ⟨⟨[77,45]⟩⟩,.int .i64 (1),.string ⟨⟨[83,45]⟩⟩]),
 (7,[.int .u8 (240),.int .u8 (240),.int .u8 (240),.int .u8 (240),.int .u8 (240),.int .u8 (240),.int .u8 (240),.int .u8 (240),.int .u8 (240),.int .u8 (240),.int .u8 (240),.int .u8 (240),.int .u8 (240),.int .u8 (240),.int .u8 (240),.int .u8 (240),.int .u8 (240),.int .u8 (240),.int .u8 (240),.int .u8 (240),.int .u8 (240),.int .u8 (240),.int .u8 (240),.int .u8 (240),.int .u8 (240),.int .u8 (240),.int .u8 (240),.int .u8 (240),.int .u8 (240),.int .u8 (240),.int .u8 (240),.int .u8 (240),.int .u8 (240),.int .u8 (240),.int .u8 (240),.int .u8 (240),.int .u8 (240),.int .u8 (240),.int .u8 (240),.int .u8 (240),.int .u8 (240),.int .u8 (240),.int .u8 (240),.int .u8 (240),.int .u8 (240),.int .u8 (240),.int .u8 (240),.int .u8 (240),.int .u8 (240),.int .u8 (240),.int .u8 (240),.int .u8 (240),.int .u8 (240),.int .u8 (240),.int .u8 (240),.int .u8 (240),.int .u8 (240),.int .u8 (240),.int .u8 (240),.int .u8 (240),.int .u8 (240),.int .u8 (240),.int .u8 (240),.int .u8 (240),.int .u8 (240),.int .u8 (240),.int .u8 (240),.int .u8 (240),.int .u8 (240),.int .u8 (240),.int .u8 (240),.int .u8 (240),.int .u8 (240),.int .u8 (240),.int .u8 (240),.int .u8 (240),.int .u8 (240),.int .u8 (240),.int .u8 (240),.int .u8 (240),.int .u8 (240),.int .u8 (240),.int .u8 (240),.int .u8 (240),.int .u8 (240),.int .u8 (240),.int .u8 (240),.int .u8 (240),.int .u8 (240),.int .u8 (240),.int .u8 (240),.int .u8 (240),.int .u8 (240),.int .u8 (240),.int .u8 (240),.int .u8 (240),.int .u8 (240),.int .u8 (240),.int .u8 (240),.int .u8 (240),.int .u8 (240),.int .u8 (240),.int .u8 (240),.int .u8 (240),.int .u8 (240),.int .u8 (240),.int .u8 (240),.int .u8 (240),.int .u8 (240),.int .u8 (240),.int .u8 (240),.int .u8 (240),.int .u8 (240),.int .u8 (240),.int .u8 (240),.int .u8 (240),.int .u8 (240),.int .u8 (240),.int .u8 (240),.int .u8 (240),.int .u8 (240),.int .u8 (240),.int .u8 (240),.int .u8 (240),.int .u8 (240),.int .u8 (240),.int .u8 (240),.int .u8 (240),.int .u8 (241),.int .u8 (241),.int .u8 (241),.int .u8 (241),.int .u8 (241),.int .u8 (241),.int .u8 (241),.int .u8 (241),.int .u8 (241),.int .u8 (241),.int .u8 (241),.int .u8 (241),.int .u8 (241),.int .u8 (241),.int .u8 (241),.int .u8 (241),.int .u8 (241),.int .u8 (241),.int .u8 (241),.int .u8 (241),.int .u8 (241),.int .u8 (241),.int .u8 (241),.int .u8 (241),.int .u8 (241),.int .u8 (241),.int .u8 (241),.int .u8 (241),.int .u8 (241),.int .u8 (241),.int .u8 (241),.int .u8 (241),.int .u8 (241),.int .u8 (241),.int .u8 (241),.int .u8 (241),.int .u8 (241),.int .u8 (241),.int .u8 (241),.int .u8 (241),.int .u8 (241),.int .u8 (241),.int .u8 (241),.int .u8 (241),.int .u8 (241),.int .u8 (241),.int .u8 (241),.int .u8 (241),.int .u8 (241),.int .u8 (241),.int .u8 (241),.int .u8 (241),.int .u8 (241),.int .u8 (241),.int .u8 (241),.int .u8 (241),.int .u8 (241),.int .u8 (241),.int .u8 (241),.int .u8 (241),.int .u8 (241),.int .u8 (241),.int .u8 (241),.int .u8 (241),.int .u8 (241),.int .u8 (241),.int .u8 (2),.int .u8 (2),.int .u8 (2),.int .u8 (2),.int .u8 (2),.int .u8 (2),.int .u8 (2),.int .u8 (2),.int .u8 (2),.int .u8 (2),.int .u8 (2),.int .u8 (2),.int .u8 (2),.int .u8 (2),.int .u8 (2),.int .u8 (2),.int .u8 (2),.int .u8 (2),.int .u8 (2),.int .u8 (2),.int .u8 (2),.int .u8 (2),.int .u8 (2),.int .u8 (2),.int .u8 (2),.int .u8 (2),.int .u8 (2),.int .u8 (2),.int .u8 (2),.int .u8 (2),.int .u8 (19),.int .u8 (3),.int .u8 (3),.int .u8 (3),.int .u8 (3),.int .u8 (3),.int .u8 (3),.int .u8 (3),.int .u8 (3),.int .u8 (3),.int .u8 (3),.int .u8 (3),.int .u8 (3),.int .u8 (35),.int .u8 (3),.int .u8 (3),.int .u8 (52),.int .u8 (4),.int .u8 (4),.int .u8 (4),.int .u8 (68),.int .u8 (241),.int .u8 (241),.int .u8 (241),.int .u8 (241),.int .u8 (241),.int .u8 (241),.int .u8 (241),.int .u8 (241),.int .u8 (241),.int .u8 (241),.int .u8 (241)])]
def H0:Hp AB:=mkH kE
def A4d:prog.follows .mixedOrders=true:=C4
def A4c:IN prog:=by
 have h:(prog.funcs.toList.all fun fn=>!(fn.name == "runtime.NumGoroutine"))=true:=C4;intro f fn b;have h1:=D6.1 h fn (Array.mem_def.1 (Array.mem_of_getElem? b))
 simpa using h1
def A9O:List (FuncId×EK):=[(132,.indexByteString),(64,.countString),(112,.noEscape),(122,.makeNoZero 5)]
def B0p:∀ p ∈ A9O,BJ prog p.1 p.2:=by
 intro p hp;unfold A9O at hp;rcases B4.1 hp with rfl|hp
 .exact⟨⟨_,rfl,by kernel_rfl,by kernel_rfl,by kernel_rfl,.inr (.inl ⟨rfl,by kernel_rfl⟩)⟩⟩
 rcases B4.1 hp with rfl|hp
 .exact⟨⟨_,rfl,by kernel_rfl,by kernel_rfl,by kernel_rfl,.inr (.inr (.inl ⟨rfl,by kernel_rfl⟩))⟩⟩
 rcases B4.1 hp with rfl|hp
 .exact⟨⟨_,rfl,by kernel_rfl,by kernel_rfl,by kernel_rfl,.inl ⟨rfl,by kernel_rfl⟩⟩⟩
 rcases B4.1 hp with rfl|hp
 .exact⟨⟨_,rfl,by kernel_rfl,by kernel_rfl,by kernel_rfl,.inr (.inr (.inr ⟨_,_,_,rfl,rfl,by kernel_rfl,by kernel_rfl⟩))⟩⟩
 cases hp
noncomputable abbrev cx(l:List (FuncId×FnC))(b:List LpE):Cx:=⟨prog,A9O,gl,XP l,lpT b⟩
def cxg{G:Nat->Option Obj}{l:List (FuncId×FnC)}{b:List LpE}(h:jU prog G gl l)(k:U2 prog G gl b):CxG (cx l b) G:=A5N A4d A4c B0p h k
abbrev B4N:=Int×Int×Int×Int×Int×Int×Int×List UInt8
abbrev CG:=Option (List Int)
abbrev B1:=List UInt8
abbrev K2(G:Nat->Option Obj):Prop:=bF Tryz.prog G gl H0 n0
abbrev P2:={L:List (FuncId×FnC) // ∀ {G:Nat->Option Obj},K2 G->jU Tryz.prog G gl L}
def L0:List (FuncId×FnC):=[]
def A8H{G:Nat->Option Obj}(b:bF prog G gl H0 n0):jU prog G gl L0:=.nil
def rB:Rw Int:=r1 (L5 .u8)
def okU(c:Int):Prop:=0<=c/\c<=1114111/\¬(55296<=c/\c<=57343)
instance(c:Int):Decidable (okU c):=by unfold okU;infer_instance
def jR(c:Int):Int:=if c=32 then 0 else if c=105∨c=109 then -1 else if 97<=c/\c<=122 then c-96 else if 92<=c/\c<=95 then c-64 else -1
def chP(c:Int):Prop:=okU c/\32<=c/\¬(127<=c/\c<=159)
instance(c:Int):Decidable (chP c):=by unfold chP;infer_instance
def aB(c m:Int):Prop:=(chP c/\(m=0∨(m=2/\c≠91/\c≠79)∨(0<=jR c/\(m=4∨m=6))))∨(1114113<=c/\c<=1114134/\0<=m/\m<=7)∨((c=1114135∨c=1114137)/\(m=0∨m=2))∨(c=1114136/\(m=0∨m=1∨m=2))∨(c=1114138/\m=0)
instance(c m:Int):Decidable (aB c m):=by unfold aB;infer_instance
def l2{b:Int}{c d:Bool}(h:a=b)(k:c=d):[U.int .u8 a,U.bool c]=[U.int .u8 b,U.bool d]:=by rw[h,k]
def l1{c d:Bool}(k:c=d):[U.bool c]=[U.bool d]:=by rw[k]
def l0{c d:Int}(k:c=d):[U.int .i64 c]=[U.int .i64 d]:=by rw[k]
def MW:List U->Option (Nat×List U)
 | [.int .i64 c]=>some (0,[.int .u8 (if 0<=jR c then jR c else 0),.bool (decide (0<=jR c))])
 | _=>none
def A5Q(c:Int):MW [.int .i64 c]=some (0,[.int .u8 (if 0<=jR c then jR c else 0),.bool (decide (0<=jR c))]):=rfl
def A27(n:Nat):Tr:=.lt 3 (.bin .and) [h3 0,jI 31]<|.lt 4 (.conv .u8) [h3 n]<|.ret [h (n+1) 4,.bool true]
def S1(a0:Nat)(d:Nat)(a2:Int)(c b:Tr):Tr:=aQ [h3 a0,jI a2]<|.br d c b
def K9(a0:Nat)(d:Nat)(a2:Int)(c b:Tr):Tr:=aH [h3 a0,jI a2]<|.br d c b
def A26(n:Nat):Tr:=K9 0 n 92 (S1 0 (n+1) 95 (A27 (n+2)) (.ret [.int .u8 (0),.bool false])) (.ret [.int .u8 (0),.bool false])
def J9(a0:Nat)(d:Nat)(a2:Int)(c b:Tr):Tr:=aE [h3 a0,jI a2]<|.br d c b
def A7u:Tr:=J9 0 1 32 (.ret [.int .u8 (0),.bool true]) (J9 0 2 105 (.ret [.int .u8 (0),.bool false]) (J9 0 3 109 (.ret [.int .u8 (0),.bool false]) (K9 0 4 97 (S1 0 5 122 (A27 6) (A26 6)) (A26 5))))
def A7v{G}(b:K2 G):L8 prog G 106 [.s 3] MW [.s 4,.s 8]:=by
 refine G3 (C:=cx L0 []) (d:=60) A7u (cxg (A8H b) .nil) b ⟨f106,_,func106,rfl⟩ C4 C4 ?_;intro us outs f;unfold MW at f;split at f
 .skip;rename_i c;cases f;unfold A7u;refine w0 (.cons 0 _ (.nil)) ?_;repeat (first|(refine w7 [.int .u8 _,.bool _] ?_;rotate_left)|refine w4 (fun g=>?_) fun g=>?_|refine CM ?_|refine tO ?_|refine fS ?_|refine lE ?_|refine qJ ?_|refine w1 (.bin .and) (e:=UX 5 32 F0 F0 F0) (k':=?_))
  all_goals
   refine l2 ?_ ?_
   ·(unfold jR;(repeat' split)<;>omega)
   .symm;first|exact J7 (by(unfold jR;(repeat' split)<;>omega))|exact E3 (by(unfold jR;(repeat' split)<;>omega))
 .cases f
noncomputable def B3A:P2:=⟨_,fun b=>.cons (A7v b) (A8H b)⟩
def KK:List U->Option (Nat×List U)
 | [.int .i64 c]=>some (0,[.int .i64 (jR c)])
 | _=>none
def A4R(c:Int):KK [.int .i64 c]=some (0,[.int .i64 (jR c)]):=rfl
def I9(a0:Int):Tr:=.ret [jI a0]
def GK(n:Nat):Tr:=K9 0 n 92 (S1 0 (n+1) 95 (aS [h3 0,jI 92]<|aA [h3 (n+2),jI 28]<|.ret [h3 (n+3)]) (I9 (-1))) (I9 (-1))
def Z1(a0:Nat)(d:Nat)(a2:Int)(c b:Tr):Tr:=aN [h3 a0,jI a2]<|.br d c b
def A6Z:Tr:=J9 0 1 32 (I9 0) (K9 0 2 97 (S1 0 3 122 (Z1 0 4 105 (Z1 0 5 109 (aS [h3 0,jI 97]<|aA [h3 6,jI 1]<|.ret [h3 7]) (GK 6)) (GK 5)) (GK 4)) (GK 3))
def B0Y{G}(b:K2 G):L8 prog G 83 [.s 3] KK [.s 3]:=by
 refine G3 (d:=60) A6Z (cxg (B3A.2 b) .nil) b ⟨f83,_,func83,rfl⟩ C4 C4 ?_;intro us outs e;unfold KK at e;split at e
 .skip;rename_i c;cases e;unfold A6Z;refine w0 (.cons 0 _ (.nil)) ?_;repeat (first|(refine w7 [.int .i64 _] ?_;rotate_left)|refine w4 (fun g=>?_) fun g=>?_|refine YL ?_|refine JG ?_|refine aM ?_|refine U8 ?_|refine lE ?_|refine qJ ?_|refine tN ?_|refine fS ?_)
  all_goals
   refine l0 ?_
   (unfold jR;(repeat' split)<;>omega)
 .cases e
def A7w(c:Int):(c=32/\jR c=0)∨((c=105∨c=109)/\jR c = -1)∨(97<=c/\c<=122/\c≠105/\c≠109/\jR c=c-96)∨(92<=c/\c<=95/\jR c=c-64)∨(c≠32/\¬(97<=c/\c<=122)/\¬(92<=c/\c<=95)/\jR c = -1):=by
 unfold jR
 (repeat' split)<;>omega
noncomputable def B2D:P2:=⟨_,fun b=>(.cons (A7v b) .nil)⟩
def IX:List U->Option (Nat×List U)
 | [.int .i64 c,.int .i64 m]=>if -9223372036854775808<=m/\m<=9223372036854775807 then some (0,[.bool (decide (aB c m))])else none
 | _=>none
def A30(c:Int)(m:Int)(b : -9223372036854775808<=m/\m<=9223372036854775807):IX [.int .i64 c,.int .i64 m]=some (0,[.bool (decide (aB c m))]):=B0 b
def H7:Tr:=.ret [.bool false]
def dH:Tr:=.ret [.bool true]
def lD(a0:Nat)(d:Int)(a2:Nat)(c b:Tr):Tr:=.lt 3 (.bin .and) [h3 a0,jI d]<|aN [h3 a2,jI 0]<|.br (a2+1) c b
def YG(n:Nat):Tr:=lD 1 4 n (.fn MW [h3 0] 2<|.br (n+3) (.lt 3 (.bin .andNot) [h3 1,jI 6]<|aE [h3 (n+4),jI 0]<|.ret [h (n+5) 8]) (H7)) (J9 1 (n+2) 0 dH (J9 1 (n+3) 2 (Z1 0 (n+4) 91 (aN [h3 0,jI 79]<|.ret [h (n+5) 8]) H7) H7))
def NZ(n:Nat):Tr:=J9 1 n 2 dH (aE [h3 1,jI 0]<|.ret [h (n+1) 8])
def xS(n:Nat):Tr:=J9 0 n 1114136 (J9 1 (n+1) 1 dH (NZ (n+2))) (J9 0 (n+1) 1114135 (NZ (n+2)) (J9 0 (n+2) 1114137 (NZ (n+3)) (J9 0 (n+3) 1114138 (aE [h3 1,jI 0]<|.ret [h (n+4) 8]) (K9 0 (n+4) 1114113 (S1 0 (n+5) 1114134 (K9 1 (n+6) 0 (aQ [h3 1,jI 7]<|.ret [h (n+7) 8]) H7) H7) H7))))
def M7(a0:Nat)(c:Nat)(d b:Tr):Tr:=aX [h a0 8]<|.br c d b
def A5q:Tr:=K9 0 2 0 (S1 0 3 1114111 (.lt 3 (.bin .shr) [h3 0,.int .u64 (11)]<|Z1 4 5 27 (K9 0 6 32 (K9 0 7 127 (aQ [h3 0,jI 159]<|M7 8 9 (YG 10) (xS 10)) (YG 8)) (xS 7)) (xS 6)) (xS 4)) (xS 3)
def B0A{G}(f:K2 G):L8 prog G 76 [.s 3,.s 3] IX [.s 8]:=by
 refine G3 (d:=60) A5q (cxg (B2D.2 f) .nil) f ⟨f76,_,func76,rfl⟩ C4 C4 ?_;intro us outs b;unfold IX at b;split at b
 .skip;rename_i c m;split at b
  .rename_i k;cases b;unfold A5q;refine w0 (.cons 1 _ (.cons 0 _ (.nil))) ?_;repeat (first|refine w4 (fun g=>?_) fun g=>?_|refine w4B (fun g=>?_) fun g=>?_|(refine w7 [.bool _] ?_;rotate_left)|refine fS ?_|refine lE ?_|refine qJ ?_|refine tN ?_|refine w1 (.bin .and) (e:=UW _) (k':=?_)|refine w32 MW (e:=A5Q _) (k':=?_)|refine w1 (.bin .andNot) (e:=A9e _) (k':=?_)|refine w1 (.bin .shr) (e:=UT 2048 F0 F0) (k':=?_)|refine u5 ?_)
   all_goals
    have z0:=A3a m k.1 k.2;have l:=A7w c;refine l1 ?_;first|(refine decide_eq_decide.2 ?_;unfold aB chP okU;omega)|(symm;first|exact J7 (by unfold aB chP okU at *;omega)|exact E3 (by unfold aB chP okU at *;omega))
  .cases b
 .cases b
noncomputable def B2O:P2:=⟨_,fun b=>(.cons (B0Y b) .nil)⟩
def kF:List U->Option (Nat×List U)
 | [.int .i64 c,.int .i64 m]=>if -9223372036854775808<=m/\m<=9223372036854775807 then some (0,[.bool (decide (aB c m))])else none
 | _=>none
def SI(c:Int)(m:Int)(b : -9223372036854775808<=m/\m<=9223372036854775807):kF [.int .i64 c,.int .i64 m]=some (0,[.bool (decide (aB c m))]):=B0 b
def A0Y(n:Nat):Tr:=J9 1 n 0 dH (J9 1 (n+1) 2 (Z1 0 (n+2) 91 (aN [h3 0,jI 79]<|.ret [h (n+3) 8]) H7) (.fn KK [h3 0] 1<|K9 (n+2) (n+3) 0 (J9 1 (n+4) 4 dH (aE [h3 1,jI 6]<|.ret [h (n+5) 8])) H7))
def A0X(n:Nat):Tr:=J9 1 n 0 dH (aE [h3 1,jI 2]<|.ret [h (n+1) 8])
def A0W(n:Nat):Tr:=J9 0 n 1114135 (A0X (n+1)) (J9 0 (n+1) 1114137 (A0X (n+2)) (J9 0 (n+2) 1114136 (J9 1 (n+3) 0 dH (J9 1 (n+4) 1 dH (aE [h3 1,jI 2]<|.ret [h (n+5) 8]))) (J9 0 (n+3) 1114138 (aE [h3 1,jI 0]<|.ret [h (n+4) 8]) H7)))
def yN(n:Nat):Tr:=K9 0 n 1114113 (S1 0 (n+1) 1114134 (K9 1 (n+2) 0 (aQ [h3 1,jI 7]<|.ret [h (n+3) 8]) H7) (A0W (n+2))) (A0W (n+1))
def A0V(n:Nat):Tr:=K9 0 n 32 (K9 0 (n+1) 127 (aQ [h3 0,jI 159]<|M7 (n+2) (n+3) (A0Y (n+4)) (yN (n+4))) (A0Y (n+2))) (yN (n+1))
def eP(a0:Nat)(d:Nat)(a2:Int)(c b:Tr):Tr:=aL [h3 a0,jI a2]<|.br d c b
def A6N:Tr:=K9 0 2 0 (S1 0 3 1114111 (eP 0 4 55296 (A0V 5) (aG [h3 0,jI 57343]<|.br 5 (A0V 6) (yN 6))) (yN 4)) (yN 3)
def SJ{G}(f:K2 G):L8 prog G 47 [.s 3,.s 3] kF [.s 8]:=by
 refine G3 (d:=60) A6N (cxg (B2O.2 f) .nil) f ⟨f47,_,func47,rfl⟩ C4 C4 ?_;intro us outs b;unfold kF at b;split at b
 .skip;rename_i c m;split at b
  .rename_i k;cases b;unfold A6N;refine w0 (.cons 1 _ (.cons 0 _ (.nil))) ?_;repeat (first|refine fS ?_|(refine w7 [.bool _] ?_;rotate_left)|refine w4 (fun g=>?_) fun g=>?_|refine lE ?_|refine qJ ?_|refine tN ?_|refine w31 KK (e:=A4R _) (k':=?_)|refine u5 ?_|refine q9 ?_|refine wM ?_)
   all_goals
    have z0:=A3a m k.1 k.2;have l:=A7w c;refine l1 ?_;first|(refine decide_eq_decide.2 ?_;unfold aB chP okU;omega)|(symm;first|exact J7 (by unfold aB chP okU at *;omega)|exact E3 (by unfold aB chP okU at *;omega))
  .cases b
 .cases b
def msP(m w b r cl:Int):Prop:=0<=w/\w<=3/\0<=b/\b<=3/\(w=0->b<=2)/\(w=3->b<=1)/\0<=m/\m<=7/\0<=r/\r<=39/\0<=cl/\cl<=79
instance(m w b r cl:Int):Decidable (msP m w b r cl):=by unfold msP;infer_instance
def A6x(m w b r cl:Int):msP m w b r cl↔(0<=b/\0<=m/\m<=7/\0<=r/\r<=39/\0<=cl/\cl<=79)/\((w=0/\b<=2)∨(w=1/\b<=3)∨(w=2/\b<=3)∨(w=3/\b<=1)):=by
 unfold msP;omega
def A1E(w:Int):(w=0/\([2,3,3,1]:List Int).getD w.toNat 0=2)∨(w=1/\([2,3,3,1]:List Int).getD w.toNat 0=3)∨(w=2/\([2,3,3,1]:List Int).getD w.toNat 0=3)∨(w=3/\([2,3,3,1]:List Int).getD w.toNat 0=1)∨w<0∨3<w:=by
 by_cases h:0<=w/\w<=3
 .have:w=0∨w=1∨w=2∨w=3:=A2;rcases this with rfl|rfl|rfl|rfl<;>decide
 .omega
noncomputable def B2C:P2:=⟨_,fun b=>.nil⟩
def IW:List U->Option (Nat×List U)
 | [.int .i64 k,.int .i64 c,.int .i64 m,.int .i64 w,.int .i64 b,.int .i64 r,.int .i64 cl,.str t]=>some (0,[.bool (decide (msP m w b r cl))])
 | _=>none
def A3z(k:Int)(c:Int)(m:Int)(w:Int)(b:Int)(r:Int)(cl:Int)(t:B1):IW [.int .i64 k,.int .i64 c,.int .i64 m,.int .i64 w,.int .i64 b,.int .i64 r,.int .i64 cl,.str t]=some (0,[.bool (decide (msP m w b r cl))]):=rfl
def A5p:Tr:=K9 3 8 0 (S1 3 9 3 (aI [h3 3,jI 4]<|.br 10 (.lt 3 (.sel) [h3 3,jI 2,jI 3,jI 3,jI 1]<|K9 4 12 0 (aQ [h3 4,h3 11]<|.br 13 (K9 2 14 0 (S1 2 15 7 (K9 5 16 0 (S1 5 17 39 (K9 6 18 0 (aQ [h3 6,jI 79]<|.ret [h 19 8]) H7) H7) H7) H7) H7) (H7)) H7) (.no)) H7) H7
def A9_{G}(f:K2 G):L8 prog G 77 [.a [3,3,3,3,3,3,3,9]] IW [.s 8]:=by
 refine G3 (d:=60) A5p (cxg (B2C.2 f) .nil) f ⟨f77,_,func77,rfl⟩ C4 C4 ?_;intro us outs n;unfold IW at n;split at n
 .skip;rename_i k c m w b r cl t;cases n;unfold A5p;refine w0 (.cons 7 _ (.cons 6 _ (.cons 5 _ (.cons 4 _ (.cons 3 _ (.cons 2 _ (.cons 1 _ (.cons 0 _ (.nil))))))))) ?_;repeat (first|refine w4 (fun g=>?_) fun g=>?_|(refine w7 [.bool _] ?_;rotate_left)|refine lE ?_|refine qJ ?_|refine B0F ?_|refine w1 (.sel) (e:=A43 [2,3,3,1] A2 (by show _<((4:Nat):Int);omega)) (k':=?_)|(refine w8 ?_;(have z0:=A1E w;omega)))
  all_goals
   have l:=A6x m w b r cl;have z0:=A1E w;refine l1 ?_;first|(refine decide_eq_decide.2 ⟨fun h=>l.2 ?_,fun h=>?_⟩;omega;(have:=l.1 h;omega))|(symm;first|exact J7 (l.2 A2)|exact E3 (fun h=>by have:=l.1 h;omega)|(exfalso;omega))
 .cases n
noncomputable def B2N:P2:=⟨_,fun b=>.nil⟩
def KD:List U->Option (Nat×List U)
 | [.int .i64 k,.int .i64 c,.int .i64 m,.int .i64 w,.int .i64 b,.int .i64 r,.int .i64 cl,.str t]=>some (0,[.bool (decide (msP m w b r cl))])
 | _=>none
def A4L(k:Int)(c:Int)(m:Int)(w:Int)(b:Int)(r:Int)(cl:Int)(t:B1):KD [.int .i64 k,.int .i64 c,.int .i64 m,.int .i64 w,.int .i64 b,.int .i64 r,.int .i64 cl,.str t]=some (0,[.bool (decide (msP m w b r cl))]):=rfl
def A0S(n:Nat):Tr:=K9 3 n 0 (S1 3 (n+1) 3 (K9 4 (n+2) 0 (S1 4 (n+3) 1 (K9 2 (n+4) 0 (S1 2 (n+5) 7 (K9 5 (n+6) 0 (S1 5 (n+7) 39 (K9 6 (n+8) 0 (aQ [h3 6,jI 79]<|.ret [h (n+9) 8]) H7) H7) H7) H7) H7) H7) H7) H7) H7
def A0R(n:Nat):Tr:=.br 13 (K9 2 n 0 (S1 2 (n+1) 7 (K9 5 (n+2) 0 (S1 5 (n+3) 39 (K9 6 (n+4) 0 (aQ [h3 6,jI 79]<|.ret [h (n+5) 8]) H7) H7) H7) H7) H7) (H7)
def A6L:Tr:=J9 3 8 0 (J9 3 9 3 (A0S 10) (K9 3 10 0 (S1 3 11 3 (K9 4 12 0 (aQ [h3 4,jI 2]<|A0R 14) H7) H7) H7)) (J9 3 9 3 (A0S 10) (K9 3 10 0 (S1 3 11 3 (K9 4 12 0 (aQ [h3 4,jI 3]<|A0R 14) H7) H7) H7))
def A6M{G}(e:K2 G):L8 prog G 80 [.a [3,3,3,3,3,3,3,9]] KD [.s 8]:=by
 refine G3 (d:=60) A6L (cxg (B2N.2 e) .nil) e ⟨f80,_,func80,rfl⟩ C4 C4 ?_;intro us outs l;unfold KD at l;split at l
 .skip;rename_i k c m w b r cl t;cases l;unfold A6L;refine w0 (.cons 7 _ (.cons 6 _ (.cons 5 _ (.cons 4 _ (.cons 3 _ (.cons 2 _ (.cons 1 _ (.cons 0 _ (.nil))))))))) ?_;repeat (first|(refine w7 [.bool _] ?_;rotate_left)|refine w4 (fun g=>?_) fun g=>?_|refine lE ?_|refine qJ ?_|refine fS ?_)
  all_goals
   have f:=A6x m w b r cl;have z0:=A1E w;refine l1 ?_;first|(refine decide_eq_decide.2 ⟨fun h=>f.2 ?_,fun h=>?_⟩;omega;(have:=f.1 h;omega))|(symm;first|exact J7 (f.2 A2)|exact E3 (fun h=>by have:=f.1 h;omega)|(exfalso;omega))
 .cases l
def MV:List U->Option (Nat×List U)
 | [.str s,.str u]=>if u=[27]then some (0,[.bool (decide (0<=Lib.indexByte s 27))])else none
 | _=>none
def A5P(s:B1)(u:B1)(b:u=[27]):MV [.str s,.str u]=some (0,[.bool (decide (0<=Lib.indexByte s 27))]):=B0 b
def B1m{G}(d:K2 G):L8 prog G 78 [.s 9,.s 9] MV [.s 8]:=by
 intro us outs w vs R c b k hR;unfold MV at b;split at b
 .skip;rename_i s u;split at b
  .rename_i g;cases b;have hv:=V3 (vs2:=[.string ⟨⟨s⟩⟩,.string ⟨⟨u⟩⟩]) c rfl;subst hv;refine gN (vr:=[.bool (decide (0<=Lib.indexByte s 27))]) func78 rfl C4 rfl ?_;subst g;exact(Tryz.strings_Contains_one ⟨⟨s⟩⟩ 27 w).mono fun e w' ⟨h1,f⟩=>⟨h1,by subst f;exact RowKit.Below.refl _ _⟩
  .cases b
 .cases b
def bU(b:Bool):Option Unit:=if b then some ()else none
def bD{b:Bool}{u:Unit}(h:bU b=some u):b=true:=by cases b<;>first|rfl|cases h
def bE{b:Bool}(h:bU b=none):b=false:=by cases b<;>first|rfl|cases h
def isE(x:UInt8):Bool:=decide (x=27)
def A5H{l:B1}(h:(l.length:Int)<=i):(l.drop i.toNat).any isE=false:=by rw[bB l h];rfl
def A7l{x:UInt8}(h:((x.toNat:Nat):Int)=27):x=27:=by
 apply UInt8.toNat_inj.1;show x.toNat=27;omega
def HN(l:B1)(n:Nat):l.getD n default=l.getD n 0:=rfl
def B1Y{l:B1}(h0:0<=i)(h1:i<(l.length:Int))(b:(((l.getD i.toNat 0).toNat:Nat):Int)=27):(l.drop i.toNat).any isE=true:=by
 rw[R4 l h0 h1,Q7,HN,A7l b];rfl
def B1Z{l:B1}(h0:0<=i)(h1:i<(l.length:Int))(b:¬(((l.getD i.toNat 0).toNat:Nat):Int)=27):(l.drop i.toNat).any isE=(l.drop (i+1).toNat).any isE:=by
 rw[R4 l h0 h1,Q7,HN];have:isE (l.getD i.toNat 0)=false:=E3 fun h=>b (by rw[h];rfl)
 rw[this,Q9]
noncomputable def B2S:P2:=⟨_,fun b=>(.cons (SJ b) (.cons (A6M b) .nil))⟩
def yP:List U->Option (Nat×List U)
 | [.int .i64 i,.int .i64 k,.int .i64 c,.int .i64 m,.int .i64 w,.int .i64 b,.int .i64 r,.int .i64 cl,.str t]=>if 0<=i/\i<=(t.length:Int)/\(t.length:Int)<=140737488351232 then X9 (bU ((t.drop i.toNat).any isE)) [.int .i64 k,.int .i64 c,.int .i64 m,.int .i64 w,.int .i64 b,.int .i64 r,.int .i64 cl,.str t] (fun _=>[])else none
 | _=>none
def rH(i:Int)(k:Int)(c:Int)(m:Int)(w:Int)(b:Int)(r:Int)(cl:Int)(t:B1)(d:0<=i/\i<=(t.length:Int)/\(t.length:Int)<=140737488351232):yP [.int .i64 i,.int .i64 k,.int .i64 c,.int .i64 m,.int .i64 w,.int .i64 b,.int .i64 r,.int .i64 cl,.str t]=X9 (bU ((t.drop i.toNat).any isE)) [.int .i64 k,.int .i64 c,.int .i64 m,.int .i64 w,.int .i64 b,.int .i64 r,.int .i64 cl,.str t] (fun _=>[]):=B0 d
def A6X:Q0:=⟨[(1,.pointer (some ⟨16,0,none⟩)),(3,h 0 3)],[(16,.cells 30 [h 1 3,h 2 3,h 3 3,h 4 3,h 5 3,h 6 3,h 7 3,h 8 9])],9,[⟨.exit 1,[(1,.pointer (some ⟨16,0,none⟩))],[(16,.cells 30 [h 0 3,h 1 3,h 2 3,h 3 3,h 4 3,h 5 3,h 6 3,h 7 9])],8⟩,⟨.ret,[(2,.bool false)],[],0⟩]⟩
noncomputable def A0a:Code:=(f45.body).getD .skip
noncomputable def A6S:Code:=match G5 [true,false,true,false,true,true,true,true,true,false,false,true,false] A0a with|some (.loop x)=>x|_=>.skip
def A6W:f45.body=some A0a:=rfl
def A6U:G5 [true,false,true,false,true,true,true,true,true,false,false,true,false] A0a=some (.loop A6S):=C4
def U7(a0:Nat)(d:Nat)(a2:Nat)(c b:Tr):Tr:=aL [h3 a0,h3 d]<|.br a2 c b
def A6T:Tr:=aD [h 8 9]<|U7 0 9 10 (.lt 4 (.idx) [h 8 9,h3 0]<|aE [h 11 4,.int .u8 (27)]<|.br 12 (I9 1) (aA [h3 0,jI 1]<|.ret [jI (-1),h3 13,h3 1,h3 2,h3 3,h3 4,h3 5,h3 6,h3 7,h 8 9])) (.ret [jI 0,h3 1,h3 2,h3 3,h3 4,h3 5,h3 6,h3 7,h 8 9])
def A6V:List U->Nat
 | [.int .i64 i,.int .i64 k,.int .i64 c,.int .i64 m,.int .i64 w,.int .i64 b,.int .i64 r,.int .i64 cl,.str t]=>((t.length:Int)-i).toNat
 | _=>0
def A0Z(i:Int)(k:Int)(c:Int)(m:Int)(w:Int)(b:Int)(r:Int)(cl:Int)(t:B1):A6V [.int .i64 i,.int .i64 k,.int .i64 c,.int .i64 m,.int .i64 w,.int .i64 b,.int .i64 r,.int .i64 cl,.str t]=((t.length:Int)-i).toNat:=rfl
def B0V{G}(l:K2 G):∀ (E:Nat->U) (base:Nat),@L9 ⟨E,G⟩ prog base gl f45.ntmps A6S (K5 prog gl n0 17 A6X yP):=by
 refine P9 (dep:=60) (f:=45) (n0:=n0) (nB:=17) (H0:=H0) A6V A6T (cxg (B2S.2 l) .nil) l func45 A6W A6U C4 C4 C4 ?_;intro us d outs e;have o:=e;unfold yP at e;split at e
 .skip;rename_i i k c m w b r cl t;split at e
  .rename_i n;clear e o;refine⟨rfl,?_⟩;unfold A6T;refine w0 (.cons 8 _ (.cons 7 _ (.cons 6 _ (.cons 5 _ (.cons 4 _ (.cons 3 _ (.cons 2 _ (.cons 1 _ (.cons 0 _ (.nil)))))))))) ?_;repeat (first|refine w4 (fun g=>?_) fun g=>?_|refine aM ?_|refine U8 ?_|refine iX ?_|refine q9 ?_|refine A8T ?_|refine fS ?_|(refine w7 [.int .i64 _] ?_;rotate_left)|(refine w7 [.int .i64 _,.int .i64 _,.int .i64 _,.int .i64 _,.int .i64 _,.int .i64 _,.int .i64 _,.int .i64 _,.int .i64 _,.str _] ?_;rotate_left)|(refine w7 [.int .i64 _,.int .i64 _,.int .i64 _,.int .i64 _,.int .i64 _,.int .i64 _,.int .i64 _,.int .i64 _,.str _] ?_;rotate_left))
   all_goals first
    | refine L2 ?_ ?_
      .rw[rH i k c m w b r cl t n,B1Z (i:=i) A2 A2 ‹_›];exact rH (i+1) k c m w b r cl t ⟨A2,A2,n.2.2⟩
      .rw[A0Z,A0Z];omega
    | refine H9 (d:=0) ?_
      rw[rH i k c m w b r cl t n,A5H A2];rfl
    | refine H9 (d:=1) ?_
      rw[rH i k c m w b r cl t n,B1Y (i:=i) A2 A2 ‹_›];rfl
  .cases e
 .cases e
noncomputable def A8D:List LpE:=(45,([true,false,true,false,true,true,true,true,true,false,false,true,false],K5 prog gl n0 17 A6X yP))::[]
def mW{G}(b:K2 G):U2 prog G gl A8D:=.cons func45 A6W A6U (B0V b) .nil
def A5i(t:B1):(0<=Lib.indexByte t 27)↔t.any isE=true:=by
 induction t with
 | nil=>simp[Lib.indexByte]
 | cons b l d =>
   have h:=Lib.indexByte_ge l 27;rw[Lib.indexByte,Q7];by_cases e:b=27
   .subst e;simp[isE]
   .have g:(b == 27)=false:=by simp[e]
    have f:isE b=false:=E3 e;rw[g,f,Q9,<- d];by_cases c:Lib.indexByte l 27 = -1
    .simp[c]
    .simp[c];omega
def W7(k c m w b r cl:Int)(t:B1):Prop :=
 (k=1/\w=0/\b=0/\r=0/\cl=0/\t=[]/\aB c m)∨(k=2/\c=0/\t=[]/\msP m w b r cl)∨(k=3/\c=0/\m=0/\w=0/\b=0/\r=0/\cl=0/\t.length<=1000/\t.any isE=false)∨(k=4/\c=0/\m=0/\b=0/\r=0/\cl=0/\t=[]/\0<=w/\w<=1)
instance(k c m w b r cl:Int)(t:B1):Decidable (W7 k c m w b r cl t):=by unfold W7;infer_instance
noncomputable def B2R:P2:=⟨_,fun b=>(.cons (SJ b) (.cons (A6M b) .nil))⟩
def rF:List U->Option (Nat×List U)
 | [.int .i64 k,.int .i64 c,.int .i64 m,.int .i64 w,.int .i64 b,.int .i64 r,.int .i64 cl,.str t]=>if -9223372036854775808<=m/\m<=9223372036854775807/\(t.length:Int)<=140737488351232 then some (0,[.bool (decide (W7 k c m w b r cl t))])else none
 | _=>none
def GI(k:Int)(c:Int)(m:Int)(w:Int)(b:Int)(r:Int)(cl:Int)(t:B1)(d : -9223372036854775808<=m/\m<=9223372036854775807/\(t.length:Int)<=140737488351232):rF [.int .i64 k,.int .i64 c,.int .i64 m,.int .i64 w,.int .i64 b,.int .i64 r,.int .i64 cl,.str t]=some (0,[.bool (decide (W7 k c m w b r cl t))]):=B0 d
def A6R:Tr:=J9 0 8 1 (.lt 8 (.eqs) [h3 0,h3 0,h3 1,h3 1,h3 2,h3 2,h3 3,jI 0,h3 4,jI 0,h3 5,jI 0,h3 6,jI 0,h 7 9,.string ⟨⟨[]⟩⟩]<|.br 9 (.fn kF [h3 1,h3 2] 1<|.ret [h 10 8]) (H7)) (J9 0 9 2 (.lt 8 (.eqs) [h3 0,h3 0,h3 1,jI 0,h3 2,h3 2,h3 3,h3 3,h3 4,h3 4,h3 5,h3 5,h3 6,h3 6,h 7 9,.string ⟨⟨[]⟩⟩]<|.br 10 (.fn KD [h3 0,h3 1,h3 2,h3 3,h3 4,h3 5,h3 6,h 7 9] 1<|.ret [h 11 8]) (H7)) (J9 0 10 3 (.lp yP [jI 0,h3 0,h3 1,h3 2,h3 3,h3 4,h3 5,h3 6,h 7 9] 0 8 (.lt 8 (.eqs) [h3 11,h3 11,h3 12,jI 0,h3 13,jI 0,h3 14,jI 0,h3 15,jI 0,h3 16,jI 0,h3 17,jI 0,h 18 9,h 18 9]<|.br 19 (aD [h 18 9]<|aQ [h3 20,jI 1000]<|.ret [h 21 8]) (H7)) (.lp yP [jI 0,h3 0,h3 1,h3 2,h3 3,h3 4,h3 5,h3 6,h 7 9] 1 0 (H7) (.no))) (J9 0 11 4 (.lt 8 (.eqs) [h3 0,h3 0,h3 1,jI 0,h3 2,jI 0,h3 3,h3 3,h3 4,jI 0,h3 5,jI 0,h3 6,jI 0,h 7 9,.string ⟨⟨[]⟩⟩]<|.br 12 (K9 3 13 0 (aQ [h3 3,jI 1]<|.ret [h 14 8]) H7) (H7)) H7)))
def SM{G}(f:K2 G):L8 prog G 45 [.a [3,3,3,3,3,3,3,9]] rF [.s 8]:=by
 refine G3 (d:=60) A6R (cxg (B2R.2 f) (mW f)) f ⟨f45,_,func45,rfl⟩ C4 C4 ?_;intro us outs g;unfold rF at g;split at g
 .skip;rename_i k c m w b r cl t;split at g
  .rename_i l;cases g;unfold A6R;refine w0 (.cons 7 _ (.cons 6 _ (.cons 5 _ (.cons 4 _ (.cons 3 _ (.cons 2 _ (.cons 1 _ (.cons 0 _ (.nil))))))))) ?_;refine fS ?_;refine w4 (fun g0=>?_) fun g0=>?_
   .refine w1 (.eqs) (e:=rfl) (k':=?_);first|refine w5 (fun g1=>?_) (fun g1=>?_)|refine w5B (fun g1=>?_) (fun g1=>?_)
    .refine w7 [.bool _] ?_;refine l1 ?_;unfold W7
     (try replace g3:=bD g3)
     (try replace g3:=bE g3)
     first|(simp_all;done)|(simp_all;omega)
    refine w31 kF (e:=SI _ _ A2) (k':=?_);refine w7 [.bool _] ?_;refine l1 ?_;unfold W7
    (try replace g3:=bD g3)
    (try replace g3:=bE g3)
    first|(simp_all;done)|(simp_all;omega)
   refine fS ?_;refine w4 (fun g1=>?_) fun g1=>?_
   .refine w1 (.eqs) (e:=rfl) (k':=?_);first|refine w5 (fun g2=>?_) (fun g2=>?_)|refine w5B (fun g2=>?_) (fun g2=>?_)
    .refine w7 [.bool _] ?_;refine l1 ?_;unfold W7
     (try replace g3:=bD g3)
     (try replace g3:=bE g3)
     first|(simp_all;done)|(simp_all;omega)
    refine w31 KD (e:=A4L _ _ _ _ _ _ _ _) (k':=?_);refine w7 [.bool _] ?_;refine l1 ?_;unfold W7
    (try replace g3:=bD g3)
    (try replace g3:=bE g3)
    first|(simp_all;done)|(simp_all;omega)
   refine fS ?_;refine w4 (fun g2=>?_) fun g2=>?_
   .refine w6 yP (rH _ _ _ _ _ _ _ _ _ A2) (h0:=fun g3=>?_) (h1:=fun v3 g3=>?_)
    .show Wk _ _ (.cons _ _ (.cons _ _ (.cons _ _ (.cons _ _ (.cons _ _ (.cons _ _ (.cons _ _ (.cons _ _ _))))))));refine w1 (.eqs) (e:=rfl) (k':=?_);first|refine w5 (fun g4=>?_) (fun g4=>?_)|refine w5B (fun g4=>?_) (fun g4=>?_)
     .refine w7 [.bool _] ?_;refine l1 ?_;unfold W7
      (try replace g3:=bD g3)
      (try replace g3:=bE g3)
      first|(simp_all;done)|(simp_all;omega)
     refine iX ?_;refine qJ ?_;refine w7 [.bool _] ?_;refine l1 ?_;unfold W7
     (try replace g3:=bD g3)
     (try replace g3:=bE g3)
     first|(simp_all;done)|(simp_all;omega)
    show Wk _ _ _;refine w7 [.bool _] ?_;refine l1 ?_;unfold W7
    (try replace g3:=bD g3)
    (try replace g3:=bE g3)
    first|(simp_all;done)|(simp_all;omega)
   refine fS ?_;refine w5 (fun g3=>?_) fun g3=>?_
   .refine w7 [.bool _] ?_;refine l1 ?_;unfold W7
    (try replace g3:=bD g3)
    (try replace g3:=bE g3)
    first|(simp_all;done)|(simp_all;omega)
   refine w1 (.eqs) (e:=rfl) (k':=?_);first|refine w5 (fun g4=>?_) (fun g4=>?_)|refine w5B (fun g4=>?_) (fun g4=>?_)
   .refine w7 [.bool _] ?_;refine l1 ?_;unfold W7
    (try replace g3:=bD g3)
    (try replace g3:=bE g3)
    first|(simp_all;done)|(simp_all;omega)
   refine lE ?_;refine w5 (fun g5=>?_) fun g5=>?_
   .refine w7 [.bool _] ?_;refine l1 ?_;unfold W7
    (try replace g3:=bD g3)
    (try replace g3:=bE g3)
    first|(simp_all;done)|(simp_all;omega)
   refine qJ ?_;refine w7 [.bool _] ?_;refine l1 ?_;unfold W7
   (try replace g3:=bD g3)
   (try replace g3:=bE g3)
   first|(simp_all;done)|(simp_all;omega)
  .cases g
 .cases g
noncomputable def B2U:P2:=⟨_,fun b=>(.cons (SM b) .nil)⟩
def KL:List U->Option (Nat×List U)
 | [.int .i64 k,.int .i64 c,.int .i64 m,.int .i64 w,.int .i64 b,.int .i64 r,.int .i64 cl,.str t]=>if -9223372036854775808<=m/\m<=9223372036854775807/\(t.length:Int)<=140737488351232 then some (0,[.int .i64 (if W7 k c m w b r cl t then 0 else 430)])else none
 | _=>none
def A4S(k:Int)(c:Int)(m:Int)(w:Int)(b:Int)(r:Int)(cl:Int)(t:B1)(d : -9223372036854775808<=m/\m<=9223372036854775807/\(t.length:Int)<=140737488351232):KL [.int .i64 k,.int .i64 c,.int .i64 m,.int .i64 w,.int .i64 b,.int .i64 r,.int .i64 cl,.str t]=some (0,[.int .i64 (if W7 k c m w b r cl t then 0 else 430)]):=B0 d
def A6a:Tr:=.fn rF [h3 0,h3 1,h3 2,h3 3,h3 4,h3 5,h3 6,h 7 9] 1<|M7 8 9 (I9 430) (I9 0)
def A6b{G}(f:K2 G):L8 prog G 43 [.a [3,3,3,3,3,3,3,9]] KL [.s 3]:=by
 refine G3 (d:=60) A6a (cxg (B2U.2 f) (mW f)) f ⟨f43,_,func43,rfl⟩ C4 C4 ?_;intro us outs l;unfold KL at l;split at l
 .skip;rename_i k c m w b r cl t;split at l
  .rename_i n;cases l;unfold A6a;refine w0 (.cons 7 _ (.cons 6 _ (.cons 5 _ (.cons 4 _ (.cons 3 _ (.cons 2 _ (.cons 1 _ (.cons 0 _ (.nil))))))))) ?_;repeat (first|refine u5 ?_|refine qG ?_|refine w4 (fun g=>?_) fun g=>?_|refine w4B (fun g=>?_) fun g=>?_|(refine w7 [.int .i64 _] ?_;rotate_left)|refine w31 rF (e:=GI _ _ _ _ _ _ _ _ n) (k':=?_))
   all_goals
    refine l0 ?_;first|(rw[B0 (H5 ‹_›)];done)|(rw[A8 (of_decide_eq_false ‹_›)];done)|(simp_all;done)
  .cases l
 .cases l
noncomputable def B2h:P2:=⟨_,fun b=>(.cons (B0A b) (.cons (A9_ b) (.cons (B1m b) .nil)))⟩
def sG:List U->Option (Nat×List U)
 | [.int .i64 k,.int .i64 c,.int .i64 m,.int .i64 w,.int .i64 b,.int .i64 r,.int .i64 cl,.str t]=>if -9223372036854775808<=m/\m<=9223372036854775807/\(t.length:Int)<=140737488351232 then some (0,[.int .i64 (if W7 k c m w b r cl t then 0 else 430)])else none
 | _=>none
def HG(k:Int)(c:Int)(m:Int)(w:Int)(b:Int)(r:Int)(cl:Int)(t:B1)(d : -9223372036854775808<=m/\m<=9223372036854775807/\(t.length:Int)<=140737488351232):sG [.int .i64 k,.int .i64 c,.int .i64 m,.int .i64 w,.int .i64 b,.int .i64 r,.int .i64 cl,.str t]=some (0,[.int .i64 (if W7 k c m w b r cl t then 0 else 430)]):=B0 d
def A7E:Tr:=J9 0 8 1 (.fn IX [h3 1,h3 2] 1<|M7 9 10 (I9 430) (.lt 8 (.eqs) [h3 0,jI 1,h3 1,h3 1,h3 2,h3 2,h3 3,jI 0,h3 4,jI 0,h3 5,jI 0,h3 6,jI 0,h 7 9,.string ⟨⟨[]⟩⟩]<|M7 11 12 (I9 430) (I9 0))) (J9 0 9 2 (.fn IW [h3 0,h3 1,h3 2,h3 3,h3 4,h3 5,h3 6,h 7 9] 1<|M7 10 11 (I9 430) (.lt 8 (.eqs) [h3 0,h3 0,h3 1,jI 0,h3 2,h3 2,h3 3,h3 3,h3 4,h3 4,h3 5,h3 5,h3 6,h3 6,h 7 9,.string ⟨⟨[]⟩⟩]<|M7 12 13 (I9 430) (I9 0))) (J9 0 10 3 (aD [h 7 9]<|S1 11 12 1000 (.fn MV [h 7 9,.string ⟨⟨[27]⟩⟩] 1<|aX [h 13 8]<|M7 14 15 (I9 430) (.lt 8 (.eqs) [h3 0,h3 0,h3 1,jI 0,h3 2,jI 0,h3 3,jI 0,h3 4,jI 0,h3 5,jI 0,h3 6,jI 0,h 7 9,h 7 9]<|M7 16 17 (I9 430) (I9 0))) (I9 430)) (J9 0 11 4 (K9 3 12 0 (aQ [h3 3,jI 1]<|M7 13 14 (I9 430) (.lt 8 (.eqs) [h3 0,h3 0,h3 1,jI 0,h3 2,jI 0,h3 3,h3 3,h3 4,jI 0,h3 5,jI 0,h3 6,jI 0,h 7 9,.string ⟨⟨[]⟩⟩]<|M7 15 16 (I9 430) (I9 0))) (I9 430)) (I9 430))))
def A14{G}(f:K2 G):L8 prog G 40 [.a [3,3,3,3,3,3,3,9]] sG [.s 3]:=by
 refine G3 (d:=60) A7E (cxg (B2h.2 f) (mW f)) f ⟨f40,_,func40,rfl⟩ C4 C4 ?_;intro us outs l;unfold sG at l;split at l
 .skip;rename_i k c m w b r cl t;split at l
  .rename_i n;cases l;have o:=A5i t;unfold A7E;refine w0 (.cons 7 _ (.cons 6 _ (.cons 5 _ (.cons 4 _ (.cons 3 _ (.cons 2 _ (.cons 1 _ (.cons 0 _ (.nil))))))))) ?_;repeat (first|refine w4 (fun g=>?_) fun g=>?_|refine w4B (fun g=>?_) fun g=>?_|refine u5 ?_|refine qG ?_|(refine w7 [.int .i64 _] ?_;rotate_left)|refine fS ?_|refine w1 (.eqs) (e:=rfl) (k':=?_)|refine qJ ?_|refine w31 IX (e:=A30 _ _ A2) (k':=?_)|refine w31 IW (e:=A3z _ _ _ _ _ _ _ _) (k':=?_)|refine iX ?_|refine w31 MV (e:=A5P _ _ rfl) (k':=?_)|refine lE ?_)
   all_goals
    refine l0 ?_;first
    | exact(B0 (by unfold W7;first|(simp_all;done)|(simp_all;omega))).symm
    | exact(A8 (fun h=>by
       unfold W7 at h;rcases h with h|h|h|h<;>first|(exfalso;omega)|(simp_all;done)|(simp_all;omega))).symm
  .cases l
 .cases l
def nE(l:B1):B1:=l.filter fun x=>!isE x
def AS{α:Type}(x:Option (List α)):P5 x (some [])=x:=by
 unfold P5;cases x<;>simp[el]
def oG{α:Type}(x:Option (List α))(u v:List α):P5 (P5 x (some u)) (some v)=P5 x (some (u++v)):=by
 cases u with
 | nil=>rw[AS];rfl
 | cons a u=>cases v with
   | nil=>simp[P5,el]
   | cons c v=>simp[P5,el]
def JI{l:B1}(h0:0<=i)(h1:i<1000):(l.take 1000).getD i.toNat default=l.getD i.toNat default:=by
 rw[B2,B2,E8 A2]
def A82{l:B1}(h:(l.length:Int)<=i∨1000<=i):nE ((l.take 1000).drop i.toNat)=[]:=by
 rw[bB (l.take 1000) (by rw[G0];omega)];rfl
def B3h{l:B1}(h0:0<=i)(h1:i<(l.length:Int))(b:i<1000)(c:¬(((l.getD i.toNat 0).toNat:Nat):Int)≠27):nE ((l.take 1000).drop i.toNat)=nE ((l.take 1000).drop (i+1).toNat):=by
 rw[R4 (l.take 1000) h0 (by rw[G0];omega),JI h0 b,HN,show l.getD i.toNat 0=27 from A7l A2];rfl
def B3i{l:B1}(h0:0<=i)(h1:i<(l.length:Int))(b:i<1000)(c:(((l.getD i.toNat 0).toNat:Nat):Int)≠27):nE ((l.take 1000).drop i.toNat)=l.getD i.toNat 0::nE ((l.take 1000).drop (i+1).toNat):=by
 rw[R4 (l.take 1000) h0 (by rw[G0];omega),JI h0 b,HN];have:isE (l.getD i.toNat 0)=false:=E3 fun h=>c (by rw[h];rfl)
 unfold nE;rw[List.filter_cons,this];rfl
def A81(l:B1):(nE l).length<=l.length:=List.length_filter_le _ _
noncomputable def B2r:P2:=⟨_,fun b=>(.cons (SJ b) (.cons (SM b) .nil))⟩
def tE:List U->Option (Nat×List U)
 | [u_out,.int .i64 i,.int .u8 d0,.int .u8 d1,.int .u8 d2,.int .u8 d3,.int .u8 d4,.int .u8 d5,.int .u8 d6,.int .u32 dc,.str t]=>(I0 rB u_out).bind fun out=>if 0<=i/\i<=1000/\((el out).length:Int)<=i/\(t.length:Int)<=140737488351232 then some (0,[B9 rB (P5 out (some (bI (nE ((t.take 1000).drop i.toNat)))))])else none
 | _=>none
def oC(out:CG)(i:Int)(d0:Int)(d1:Int)(d2:Int)(d3:Int)(d4:Int)(d5:Int)(d6:Int)(dc:Int)(t:B1)(b:0<=i/\i<=1000/\((el out).length:Int)<=i/\(t.length:Int)<=140737488351232):tE [B9 rB out,.int .i64 i,.int .u8 d0,.int .u8 d1,.int .u8 d2,.int .u8 d3,.int .u8 d4,.int .u8 d5,.int .u8 d6,.int .u32 dc,.str t]=some (0,[B9 rB (P5 out (some (bI (nE ((t.take 1000).drop i.toNat)))))]):=by
 simp only[tE,G2,D8];exact B0 b
def A7s:Q0:=⟨[(1,.pointer (some ⟨16,0,none⟩)),(2,.pointer (some ⟨17,0,none⟩)),(4,own 18 0 11),(5,h 1 3)],[(16,.cells 24 [h 2 4,h 3 4,h 4 4,h 5 4,h 6 4,h 7 4,h 8 4,h 9 6,h 10 9]),(17,.cells 30 [.int .i64 (0),.int .i64 (0),.int .i64 (0),.int .i64 (0),.int .i64 (0),.int .i64 (0),.int .i64 (0),.string ⟨⟨[]⟩⟩]),(18,.sq 0 11 5 19),(19,.frz)],11,[⟨.exit 1,[(2,.pointer (some ⟨17,0,none⟩)),(4,own 20 0 11)],[(17,.cells 30 [.int .i64 (0),.int .i64 (0),.int .i64 (0),.int .i64 (0),.int .i64 (0),.int .i64 (0),.int .i64 (0),.string ⟨⟨[]⟩⟩]),(20,.sq 0 11 5 21),(21,.frz)],1⟩]⟩
noncomputable def A23:Code:=(f17.body).getD .skip
noncomputable def A7o:Code:=match G5 [true,false,true,false,true,true,true,false,true,false,true,false] A23 with|some (.loop x)=>x|_=>.skip
def A7r:f17.body=some A23:=rfl
def A7q:G5 [true,false,true,false,true,true,true,false,true,false,true,false] A23=some (.loop A7o):=C4
def A7p:Tr:=aD [h 10 9]<|U7 1 11 12 (eP 1 13 1000 (.lt 4 (.idx) [h 10 9,h3 1]<|aN [h 14 4,.int .u8 (27)]<|.br 15 (.lt 4 (.idx) [h 10 9,h3 1]<|.dt 11 (.snoc 1) [h 0 11,h 16 4]<|aA [h3 1,jI 1]<|.ret [jI (-1),h 17 11,h3 18,h 2 4,h 3 4,h 4 4,h 5 4,h 6 4,h 7 4,h 8 4,h 9 6,h 10 9]) (aA [h3 1,jI 1]<|.ret [jI (-1),h 0 11,h3 16,h 2 4,h 3 4,h 4 4,h 5 4,h 6 4,h 7 4,h 8 4,h 9 6,h 10 9])) (.ret [jI 0,h 0 11])) (.ret [jI 0,h 0 11])
def A22:List U->Nat
 | [u_out,.int .i64 i,.int .u8 d0,.int .u8 d1,.int .u8 d2,.int .u8 d3,.int .u8 d4,.int .u8 d5,.int .u8 d6,.int .u32 dc,.str t]=>(match I0 rB u_out with|some out=>(1000-i).toNat|none=>0)
 | _=>0
def A21(out:CG)(i:Int)(d0:Int)(d1:Int)(d2:Int)(d3:Int)(d4:Int)(d5:Int)(d6:Int)(dc:Int)(t:B1):A22 [B9 rB out,.int .i64 i,.int .u8 d0,.int .u8 d1,.int .u8 d2,.int .u8 d3,.int .u8 d4,.int .u8 d5,.int .u8 d6,.int .u32 dc,.str t]=(1000-i).toNat:=by
 simp only[A22,G2]
def B1e{G}(l:K2 G):∀ (E:Nat->U) (base:Nat),@L9 ⟨E,G⟩ prog base gl f17.ntmps A7o (K5 prog gl n0 22 A7s tE):=by
 refine P9 (dep:=60) (f:=17) (n0:=n0) (nB:=22) (H0:=H0) A22 A7p (cxg (B2r.2 l) (mW l)) l func17 A7r A7q C4 C4 C4 ?_;intro us d outs c;have n:=c;unfold tE at c;split at c
 .skip;rename_i o i d0 d1 d2 d3 d4 d5 d6 dc t;have k:=A7.1 c;clear c;obtain⟨out,b,c⟩:=k;replace b:=F7 b;subst b;split at c
  .rename_i m;clear c n;refine⟨rfl,?_⟩;unfold A7p;refine w0 (.cons 10 _ (.cons 9 _ (.cons 8 _ (.cons 7 _ (.cons 6 _ (.cons 5 _ (.cons 4 _ (.cons 3 _ (.cons 2 _ (.cons 1 _ (.cons 0 _ (.nil)))))))))))) ?_;repeat (first|refine aM ?_|refine U8 ?_|refine w4 (fun g=>?_) fun g=>?_|refine q9 ?_|refine A8T ?_|(refine w7 [.int .i64 _,B9 rB _,.int .i64 _,.int .u8 _,.int .u8 _,.int .u8 _,.int .u8 _,.int .u8 _,.int .u8 _,.int .u8 _,.int .u32 _,.str _] ?_;rotate_left)|(refine w7 [.int .i64 _,B9 rB _] ?_;rotate_left)|refine iX ?_|refine tN ?_|refine w2 (.snoc 1) (r:=rB) (e:=fJ rfl rfl F0 (by simp[*]<;>omega)) (k':=?_))
   all_goals first
    | refine L2 ?_ ?_
      .first
       | (have hx:∀ X,X=P5 out (some (bI [t.getD i.toNat 0]))->tE [B9 rB X,.int .i64 (i+1),.int .u8 d0,.int .u8 d1,.int .u8 d2,.int .u8 d3,.int .u8 d4,.int .u8 d5,.int .u8 d6,.int .u32 dc,.str t]=tE [B9 rB out,.int .i64 i,.int .u8 d0,.int .u8 d1,.int .u8 d2,.int .u8 d3,.int .u8 d4,.int .u8 d5,.int .u8 d6,.int .u32 dc,.str t]:=fun X p=>by
           rw[oC X (i+1) d0 d1 d2 d3 d4 d5 d6 dc t ⟨A2,A2,by rw[p,eD,O1,D4,RI,E6,Y5];omega,m.2.2.2⟩,oC out i d0 d1 d2 d3 d4 d5 d6 dc t m,p,oG,<- A9x,B3i (i:=i) A2 A2 A2 ‹_›];rfl
          exact hx _ rfl)
       | (rw[oC out (i+1) d0 d1 d2 d3 d4 d5 d6 dc t ⟨A2,A2,A2,m.2.2.2⟩,oC out i d0 d1 d2 d3 d4 d5 d6 dc t m,B3h (i:=i) A2 A2 A2 ‹_›];done)
      .rw[A21,A21];omega
    | refine H9 (d:=0) ?_
      rw[oC out i d0 d1 d2 d3 d4 d5 d6 dc t m,A82 (i:=i) A2];exact F4 (fun z=>some (0,[B9 rB z])) (AS out)
  .cases c
 .cases c
noncomputable def B29:List LpE:=(17,([true,false,true,false,true,true,true,false,true,false,true,false],K5 prog gl n0 22 A7s tE))::A8D
def NT{G}(b:K2 G):U2 prog G gl B29:=.cons func17 A7r A7q (B1e b) (mW b)
def B1V(h0:0<=a)(h1:a<256):evU (.bin .and) [.int .u8 a,.int .u8 6]=.int .u8 (a / 2%4*2):=by
 rw[uN];have k:∀ n:Nat,n<256->IntKind.u8.wrap (BitVec.ofInt IntKind.u8.bits (n:Int) &&& BitVec.ofInt IntKind.u8.bits 6).toNat=(n:Int) / 2%4*2:=F0;obtain⟨n,rfl⟩:∃ n:Nat,a=n:=⟨a.toNat,A2⟩;exact F4 _ (k n A2)
def B1W(h0:0<=a)(h1:a<256):evU (.bin .and) [.int .u8 a,.int .u8 2]=.int .u8 (a / 2%2*2):=by
 rw[uN];have k:∀ n:Nat,n<256->IntKind.u8.wrap (BitVec.ofInt IntKind.u8.bits (n:Int) &&& BitVec.ofInt IntKind.u8.bits 2).toNat=(n:Int) / 2%2*2:=F0;obtain⟨n,rfl⟩:∃ n:Nat,a=n:=⟨a.toNat,A2⟩;exact F4 _ (k n A2)
def el0(l:B1):el (P5 none (some (bI l)))=bI l:=by rw[eD];rfl
def B3M(l:B1):∀ n ∈ el (P5 none (some (bI l))),0<=n/\n<256:=fun n h=>by rw[el0]at h;exact A3V h
def iB0(l:B1):iB (el (P5 none (some (bI l))))=l:=by rw[el0,A7W]
def dC1(d4 dc:Int):Int:=if d4%2=0 then 1114113+d4 / 2%26 else dc
def dC2(x:Int):Int:=if x<1114113/\¬chP x then 97+x%26 else x
def dM(c m:Int):Int:=if aB c (m%8)then m%8 else if aB c (m%8 / 2%4*2)then m%8 / 2%4*2 else if aB c (m / 2%2*2)then m / 2%2*2 else 0
def dC3(c m:Int):Int:=if aB c (m%8)∨aB c (m%8 / 2%4*2)∨aB c (m / 2%2*2)∨aB c 0 then c else 97
def diK(q:Int):Int:=if q=1 then 2 else if q=2 then 3 else if q=3 then 4 else 1
def diC(q d3 d4 dc:Int):Int:=if q=0 then dC3 (dC2 (dC1 d4 dc)) d3 else 0
def diM(q d3 d4 dc:Int):Int:=if q=0 then dM (dC2 (dC1 d4 dc)) d3 else if q=1 then d3%8 else 0
def diW(q d1:Int):Int:=if q=1 then d1%4 else if q=3 then d1%2 else 0
def diB(q d1 d2 d3 d5 d6:Int):Int:=if q=1 then(if W7 2 0 (d3%8) (d1%4) (d2%4) (d5%40) (d6%80) []then d2%4 else d2%4%2)else 0
def diR(q d5:Int):Int:=if q=1 then d5%40 else 0
def diL(q d6:Int):Int:=if q=1 then d6%80 else 0
def diT(q:Int)(t:B1):B1:=if q=2 then nE (t.take 1000)else[]
def l8{f a2 a3 a4 a5 k e n g b l m d c:Int}{s t:B1}(h1:f=n)(q:a2=g)(h3:a3=b)(u:a4=l)(r:a5=m)(v:k=d)(o:e=c)(p:s=t):[U.int .i64 f,.int .i64 a2,.int .i64 a3,.int .i64 a4,.int .i64 a5,.int .i64 k,.int .i64 e,.str s]=[U.int .i64 n,.int .i64 g,.int .i64 b,.int .i64 l,.int .i64 m,.int .i64 d,.int .i64 c,.str t]:=by rw[h1,q,h3,u,r,v,o,p]
def B1k(h:d4%2=0):dC1 d4 dc=1114113+d4 / 2%26:=B0 h
def B1j(h:¬d4%2=0):dC1 d4 dc=dc:=A8 h
noncomputable def B2u:P2:=⟨_,fun b=>.nil⟩
def EN:List U->Option (Nat×List U)
 | [.int .i64 c]=>some (0,[.bool (decide (chP c))])
 | _=>none
def A5W(c:Int):EN [.int .i64 c]=some (0,[.bool (decide (chP c))]):=rfl
def A3I(n:Nat):Tr:=K9 0 n 32 (K9 0 (n+1) 127 (aQ [h3 0,jI 159]<|aX [h (n+2) 8]<|.ret [h (n+3) 8]) dH) H7
def A70:Tr:=K9 0 1 0 (S1 0 2 1114111 (eP 0 3 55296 (A3I 4) (aG [h3 0,jI 57343]<|.br 4 (A3I 5) (H7))) H7) H7
def B1s{G}(b:K2 G):L8 prog G 46 [.s 3] EN [.s 8]:=by
 refine G3 (d:=60) A70 (cxg (B2u.2 b) (NT b)) b ⟨f46,_,func46,rfl⟩ C4 C4 ?_;intro us outs e;unfold EN at e;split at e
 .skip;rename_i c;cases e;unfold A70;refine w0 (.cons 0 _ (.nil)) ?_;repeat (first|(refine w7 [.bool _] ?_;rotate_left)|refine w4 (fun g=>?_) fun g=>?_|refine lE ?_|refine qJ ?_|refine u5 ?_|refine q9 ?_|refine wM ?_)
  all_goals
   refine l1 ?_;first|(refine decide_eq_decide.2 ?_;unfold chP okU;omega)|(symm;first|exact J7 (by unfold chP okU;omega)|exact E3 (by unfold chP okU;omega))
 .cases e
noncomputable def B2q:P2:=⟨_,fun b=>(.cons (SJ b) (.cons (SM b) (.cons (B1s b) .nil)))⟩
def AM:List U->Option (Nat×List U)
 | [.int .u8 d0,.int .u8 d1,.int .u8 d2,.int .u8 d3,.int .u8 d4,.int .u8 d5,.int .u8 d6,.int .u32 dc,.str t]=>if 0<=d0/\d0<256/\0<=d1/\d1<256/\0<=d2/\d2<256/\0<=d3/\d3<256/\0<=d4/\d4<256/\0<=d5/\d5<256/\0<=d6/\d6<256/\0<=dc/\dc<4294967296/\(t.length:Int)<=140737488351232 then some (0,[.int .i64 (diK (d0%4)),.int .i64 (diC (d0%4) d3 d4 dc),.int .i64 (diM (d0%4) d3 d4 dc),.int .i64 (diW (d0%4) d1),.int .i64 (diB (d0%4) d1 d2 d3 d5 d6),.int .i64 (diR (d0%4) d5),.int .i64 (diL (d0%4) d6),.str (diT (d0%4) t)])else none
 | _=>none
def VC(d0:Int)(d1:Int)(d2:Int)(d3:Int)(d4:Int)(d5:Int)(d6:Int)(dc:Int)(t:B1)(b:0<=d0/\d0<256/\0<=d1/\d1<256/\0<=d2/\d2<256/\0<=d3/\d3<256/\0<=d4/\d4<256/\0<=d5/\d5<256/\0<=d6/\d6<256/\0<=dc/\dc<4294967296/\(t.length:Int)<=140737488351232):AM [.int .u8 d0,.int .u8 d1,.int .u8 d2,.int .u8 d3,.int .u8 d4,.int .u8 d5,.int .u8 d6,.int .u32 dc,.str t]=some (0,[.int .i64 (diK (d0%4)),.int .i64 (diC (d0%4) d3 d4 dc),.int .i64 (diM (d0%4) d3 d4 dc),.int .i64 (diW (d0%4) d1),.int .i64 (diB (d0%4) d1 d2 d3 d5 d6),.int .i64 (diR (d0%4) d5),.int .i64 (diL (d0%4) d6),.str (diT (d0%4) t)]):=B0 b
def o8(a0:Nat)(b:Nat):Tr:=.ret [jI 1,h3 a0,h3 b,jI 0,jI 0,jI 0,jI 0,.string ⟨⟨[]⟩⟩]
def fZ(a0:Nat)(d:Nat)(a2:Nat)(c b:Tr):Tr:=.fn kF [h3 a0,h3 d] 1<|.br a2 c b
def wY(a0:Nat)(b:Nat)(d c:Tr):Tr:=.lt 4 (.bin .rem) [h 3 4,.int .u8 (8)]<|.lt 3 (.conv .i64) [h b 4]<|.lt 4 (.bin .rem) [h 3 4,.int .u8 (8)]<|.lt 4 (.bin .and) [h (b+2) 4,.int .u8 (6)]<|.lt 3 (.conv .i64) [h (b+3) 4]<|.lt 4 (.bin .and) [h 3 4,.int .u8 (2)]<|.lt 3 (.conv .i64) [h (b+5) 4]<|.fn kF [h3 a0,h3 (b+1)] 1<|.br (b+7) d c
def A2z(n:Nat):Tr:=wY 19 n (o8 19 (n+1)) (fZ 19 (n+4) (n+8) (o8 19 (n+4)) (fZ 19 (n+6) (n+9) (o8 19 (n+6)) (.fn kF [h3 19,jI 0] 1<|.br (n+10) (.ret [jI 1,h3 19,jI 0,jI 0,jI 0,jI 0,jI 0,.string ⟨⟨[]⟩⟩]) (.ret [jI 1,jI 97,jI 0,jI 0,jI 0,jI 0,jI 0,.string ⟨⟨[]⟩⟩]))))
def A2y(n:Nat):Tr:=wY 13 n (o8 13 (n+1)) (fZ 13 (n+4) (n+8) (o8 13 (n+4)) (fZ 13 (n+6) (n+9) (o8 13 (n+6)) (.fn kF [h3 13,jI 0] 1<|.br (n+10) (.ret [jI 1,h3 13,jI 0,jI 0,jI 0,jI 0,jI 0,.string ⟨⟨[]⟩⟩]) (.ret [jI 1,jI 97,jI 0,jI 0,jI 0,jI 0,jI 0,.string ⟨⟨[]⟩⟩]))))
def A7m:Tr:=.lt 4 (.bin .rem) [h 0 4,.int .u8 (4)]<|aE [h 9 4,.int .u8 (1)]<|.br 10 (.lt 4 (.bin .rem) [h 1 4,.int .u8 (4)]<|.lt 3 (.conv .i64) [h 11 4]<|.lt 4 (.bin .rem) [h 2 4,.int .u8 (4)]<|.lt 3 (.conv .i64) [h 13 4]<|.lt 4 (.bin .rem) [h 3 4,.int .u8 (8)]<|.lt 3 (.conv .i64) [h 15 4]<|.lt 4 (.bin .rem) [h 5 4,.int .u8 (40)]<|.lt 3 (.conv .i64) [h 17 4]<|.lt 4 (.bin .rem) [h 6 4,.int .u8 (80)]<|.lt 3 (.conv .i64) [h 19 4]<|.fn rF [jI 2,jI 0,h3 16,h3 12,h3 14,h3 18,h3 20,.string ⟨⟨[]⟩⟩] 1<|M7 21 22 (.lt 3 (.bin .rem) [h3 14,jI 2]<|.ret [jI 2,jI 0,h3 16,h3 12,h3 23,h3 18,h3 20,.string ⟨⟨[]⟩⟩]) (.ret [jI 2,jI 0,h3 16,h3 12,h3 14,h3 18,h3 20,.string ⟨⟨[]⟩⟩])) (aE [h 9 4,.int .u8 (2)]<|.br 11 (.dt 11 (.nilw 1) []<|.fn tE [h 12 11,jI 0,h 0 4,h 1 4,h 2 4,h 3 4,h 4 4,h 5 4,h 6 4,h 7 6,h 8 9] 1<|.lt 9 (.str) [h 13 11]<|.ret [jI 3,jI 0,jI 0,jI 0,jI 0,jI 0,jI 0,h 14 9]) (aE [h 9 4,.int .u8 (3)]<|.br 12 (.lt 4 (.bin .rem) [h 1 4,.int .u8 (2)]<|.lt 3 (.conv .i64) [h 13 4]<|.ret [jI 4,jI 0,jI 0,h3 14,jI 0,jI 0,jI 0,.string ⟨⟨[]⟩⟩]) (.lt 3 (.conv .i64) [h 7 6]<|.lt 4 (.bin .rem) [h 4 4,.int .u8 (2)]<|aE [h 14 4,.int .u8 (0)]<|.br 15 (.lt 4 (.bin .quo) [h 4 4,.int .u8 (2)]<|.lt 3 (.conv .i64) [h 16 4]<|.lt 3 (.bin .rem) [h3 17,jI 26]<|aA [jI 1114113,h3 18]<|eP 19 20 1114113 (.fn EN [h3 19] 1<|M7 21 22 (.lt 3 (.bin .rem) [h3 19,jI 26]<|aA [jI 97,h3 23]<|wY 24 25 (o8 24 26) (fZ 24 29 33 (o8 24 29) (fZ 24 31 34 (o8 24 31) (.fn kF [h3 24,jI 0] 1<|.br 35 (.ret [jI 1,h3 24,jI 0,jI 0,jI 0,jI 0,jI 0,.string ⟨⟨[]⟩⟩]) (.ret [jI 1,jI 97,jI 0,jI 0,jI 0,jI 0,jI 0,.string ⟨⟨[]⟩⟩]))))) (A2z 23)) (A2z 21)) (eP 13 16 1114113 (.fn EN [h3 13] 1<|M7 17 18 (.lt 3 (.bin .rem) [h3 13,jI 26]<|aA [jI 97,h3 19]<|wY 20 21 (o8 20 22) (fZ 20 25 29 (o8 20 25) (fZ 20 27 30 (o8 20 27) (.fn kF [h3 20,jI 0] 1<|.br 31 (.ret [jI 1,h3 20,jI 0,jI 0,jI 0,jI 0,jI 0,.string ⟨⟨[]⟩⟩]) (.ret [jI 1,jI 97,jI 0,jI 0,jI 0,jI 0,jI 0,.string ⟨⟨[]⟩⟩]))))) (A2y 19)) (A2y 17)))))
def A7n{G}(c:K2 G):L8 prog G 17 [.a [4,4,4,4,4,4,4,6,9]] AM [.a [3,3,3,3,3,3,3,9]]:=by
 refine G3 (d:=60) A7m (cxg (B2q.2 c) (NT c)) c ⟨f17,_,func17,rfl⟩ C4 C4 ?_;intro us outs k;unfold AM at k;split at k
 .skip;rename_i d0 d1 d2 d3 d4 d5 d6 dc t;split at k
  .rename_i p;cases k;have o:nE (t.take 1000)=nE ((t.take 1000).drop (0:Int).toNat):=rfl;have n:((el (none:CG)).length:Int)=0:=rfl;unfold A7m;refine w0 (.cons 8 _ (.cons 7 _ (.cons 6 _ (.cons 5 _ (.cons 4 _ (.cons 3 _ (.cons 2 _ (.cons 1 _ (.cons 0 _ (.nil)))))))))) ?_;repeat (first|refine w4 (fun g=>?_) fun g=>?_|refine w4B (fun g=>?_) fun g=>?_|refine CM ?_|refine tO ?_|refine A8S ?_|refine w1 (.bin .rem) (e:=HX _ _ _ A2) (k':=?_)|(refine w7 [.int .i64 _,.int .i64 _,.int .i64 _,.int .i64 _,.int .i64 _,.int .i64 _,.int .i64 _,.str _] ?_;rotate_left)|refine w31 kF (e:=SI _ _ A2) (k':=?_)|refine u5 ?_|refine qG ?_|refine aM ?_|refine U8 ?_|refine w1 (.bin .and) (e:=B1V A2 A2) (k':=?_)|refine w1 (.bin .and) (e:=B1W A2 A2) (k':=?_)|refine fS ?_|refine B0D ?_|refine w1 (.bin .quo) (e:=QT _ _ _ A2) (k':=?_)|refine q9 ?_|refine w31 EN (e:=A5W _) (k':=?_)|refine w31 rF (e:=GI _ _ _ _ _ _ _ _ ⟨A2,A2,by show(0:Int)<=_;omega⟩) (k':=?_)|refine w2 (.nilw 1) (r:=rB) (e:=tB rfl) (k':=?_)|refine w31 tE (e:=oC _ _ _ _ _ _ _ _ _ _ _ ⟨A2,A2,A2,A2⟩) (k':=?_)|refine w1 (.str) (e:=A41 rfl (B3M _)) (k':=?_))
   all_goals
    first
    | (have f:d0%4=1:=A2
       rw[f];first
       | exact l8 rfl rfl rfl rfl (B0 (D3.1 ‹_›)).symm rfl rfl rfl
       | exact l8 rfl rfl rfl rfl (A8 ‹_›).symm rfl rfl rfl)
    | (have f:d0%4=2:=A2
       rw[f];exact l8 rfl rfl rfl rfl rfl rfl rfl (iB0 _))
    | (have f:d0%4=3:=A2
       rw[f];exact l8 rfl rfl rfl rfl rfl rfl rfl rfl)
    | (have f:d0%4=0:=A2
       rw[f];obtain⟨X,h1⟩:∃ X,X=dC1 d4 dc:=⟨_,rfl⟩;obtain⟨Y,l⟩:∃ Y,Y=dC2 X:=⟨_,rfl⟩;have m:=h1;have b:=l;first|rw[B1k ‹_›]at m|rw[B1j ‹_›]at m
       rw[m]at b;unfold dC2 at b;first|rw[B0 ⟨by assumption,by assumption⟩]at b|rw[A8 (fun g=>absurd g.1 ‹_›)]at b|rw[A8 (fun g=>absurd g.2 ‹_›)]at b
       refine l8 rfl ?_ ?_ rfl rfl rfl rfl rfl
       .show _=dC3 (dC2 (dC1 d4 dc)) d3;rw[<- h1,<- l,b];unfold dC3;first
        | exact(B0 (.inl ‹_›)).symm
        | exact(B0 (.inr (.inl ‹_›))).symm
        | exact(B0 (.inr (.inr (.inl ‹_›)))).symm
        | exact(B0 (.inr (.inr (.inr ‹_›)))).symm
        | exact(A8 fun q=>q.elim ‹_› fun q=>q.elim ‹_› fun q=>q.elim ‹_› ‹_›).symm
       .show _=dM (dC2 (dC1 d4 dc)) d3;rw[<- h1,<- l,b];unfold dM
        (repeat (first|rw[B0 ‹_›]|rw[A8 ‹_›]));done)
  .cases k
 .cases k
def A7c(s:B1)(n:Nat):(ByteArray.mk ⟨s⟩).get! n=s.getD n 0:=by
 show(Array.mk s)[n]! = _;rw[getElem!_def];simp only[J0,B2];cases s[n]?<;>rfl
def A4H{s:B1}{k:Int}(h:((s.getD k.toNat 0).toNat:Int)<128):qR s k=((s.getD k.toNat 0).toNat:Int)/\SG s k=k+1:=by
 have e:Utf8.decode ⟨⟨s⟩⟩ k.toNat=((s.getD k.toNat 0).toNat,1):=by
  unfold Utf8.decode;simp only[jZ,A7c];rw[B0 A2]
 unfold qR SG;rw[e];exact⟨rfl,rfl⟩
def A4I{s:B1}{k:Int}(h:¬((s.getD k.toNat 0).toNat:Int)<128):128<=qR s k:=by
 unfold qR Utf8.decode;simp only[jZ,A7c];rw[A8 A2];have hr:128<=Utf8.runeError:=F0;split
 .split
  .omega
  .exact bM.2 hr
 .split
  .split
   .simp_all;omega
   .exact bM.2 hr
  .split
   .split
    .simp_all;omega
    .exact bM.2 hr
   .exact bM.2 hr
def oN(x:UInt8):Bool:=decide (x.toNat<32∨126<x.toNat)
def uT(s:B1):Prop:=s≠[]/\s.length<=100/\s.any oN=false
instance(s:B1):Decidable (uT s):=by unfold uT;infer_instance
def ZV{s:B1}{k:Int}(h0:0<=k)(h1:k<s.length):(qR s k<32∨126<qR s k↔oN (s.getD k.toNat default)=true)/\(¬(qR s k<32∨126<qR s k)->SG s k=k+1):=by
 show(_↔oN (s.getD k.toNat 0)=true)/\_;unfold oN;rw[decide_eq_true_iff];by_cases h:((s.getD k.toNat 0).toNat:Int)<128
 .obtain⟨c,b⟩:=A4H h;rw[c,b];exact⟨A2,fun _=>rfl⟩
 .have:=A4I h;exact⟨A2,fun k=>by omega⟩
def iL{α:Type}{p:α->Bool}{l:List α}(h:J3 p l i=none):l.any p=false:=by
 induction l generalizing i with
 | nil=>rfl
 | cons a l b =>
   unfold J3 at h;cases hp:p a with
   | true=>rw[hp]at h;cases h
   | false=>rw[hp]at h;rw[Q7,hp,b h];rfl
def fI{α:Type}{p:α->Bool}{l:List α}(h:J3 p l i=some j):l.any p=true/\i<=j:=by
 induction l generalizing i with
 | nil=>cases h
 | cons a l b =>
   unfold J3 at h;cases hp:p a with
   | true=>rw[hp]at h;cases h;rw[Q7,hp];exact⟨rfl,Int.le_refl _⟩
   | false=>rw[hp]at h;rw[Q7,(b h).1,Bool.or_true];exact⟨rfl,by have:=(b h).2;omega⟩
def A9d(b:Bool):evU (.bin .eql) [.bool b,.bool true]=.bool b:=by cases b<;>rfl
noncomputable def B2m:P2:=⟨_,fun b=>(.cons (A14 b) .nil)⟩
def sO:List U->Option (Nat×List U)
 | [.int .i64 k,.int .i64 c,.int .i64 m,.int .i64 w,.int .i64 b,.int .i64 r,.int .i64 cl,.str t]=>if -9223372036854775808<=m/\m<=9223372036854775807/\(t.length:Int)<=140737488351232 then some (0,[.bool (decide (k=1/\W7 k c m w b r cl t))])else none
 | _=>none
def HM(k:Int)(c:Int)(m:Int)(w:Int)(b:Int)(r:Int)(cl:Int)(t:B1)(d : -9223372036854775808<=m/\m<=9223372036854775807/\(t.length:Int)<=140737488351232):sO [.int .i64 k,.int .i64 c,.int .i64 m,.int .i64 w,.int .i64 b,.int .i64 r,.int .i64 cl,.str t]=some (0,[.bool (decide (k=1/\W7 k c m w b r cl t))]):=B0 d
def A7V:Tr:=J9 0 8 1 (.fn sG [h3 0,h3 1,h3 2,h3 3,h3 4,h3 5,h3 6,h 7 9] 1<|aE [h3 9,jI 0]<|.ret [h 10 8]) H7
def A2V{G}(l:K2 G):L8 prog G 52 [.a [3,3,3,3,3,3,3,9]] sO [.s 8]:=by
 refine G3 (d:=60) A7V (cxg (B2m.2 l) .nil) l ⟨f52,_,func52,rfl⟩ C4 C4 ?_;intro us outs f;unfold sO at f;split at f
 .skip;rename_i k c m w b r cl t;split at f
  .rename_i n;cases f;unfold A7V;refine w0 (.cons 7 _ (.cons 6 _ (.cons 5 _ (.cons 4 _ (.cons 3 _ (.cons 2 _ (.cons 1 _ (.cons 0 _ (.nil))))))))) ?_;repeat (first|refine fS ?_|(refine w7 [.bool _] ?_;rotate_left)|refine w4 (fun g=>?_) fun g=>?_|refine w31 sG (e:=HG _ _ _ _ _ _ _ _ n) (k':=?_))
   all_goals
    refine l1 ?_;first|(symm;exact E3 (by simp_all))|(refine decide_eq_decide.2 ?_;by_cases h:W7 k c m w b r cl t<;>simp_all;done)
  .cases f
 .cases f
noncomputable def B2Q:P2:=⟨_,fun b=>(.cons (SM b) .nil)⟩
def yO:List U->Option (Nat×List U)
 | [.int .i64 k,.int .i64 c,.int .i64 m,.int .i64 w,.int .i64 b,.int .i64 r,.int .i64 cl,.str t]=>if -9223372036854775808<=m/\m<=9223372036854775807/\(t.length:Int)<=140737488351232 then some (0,[.bool (decide (k=1/\W7 k c m w b r cl t))])else none
 | _=>none
def SK(k:Int)(c:Int)(m:Int)(w:Int)(b:Int)(r:Int)(cl:Int)(t:B1)(d : -9223372036854775808<=m/\m<=9223372036854775807/\(t.length:Int)<=140737488351232):yO [.int .i64 k,.int .i64 c,.int .i64 m,.int .i64 w,.int .i64 b,.int .i64 r,.int .i64 cl,.str t]=some (0,[.bool (decide (k=1/\W7 k c m w b r cl t))]):=B0 d
def A6Q:Tr:=J9 0 8 1 (.fn rF [h3 0,h3 1,h3 2,h3 3,h3 4,h3 5,h3 6,h 7 9] 1<|.ret [h 9 8]) H7
def SL{G}(l:K2 G):L8 prog G 54 [.a [3,3,3,3,3,3,3,9]] yO [.s 8]:=by
 refine G3 (d:=60) A6Q (cxg (B2Q.2 l) .nil) l ⟨f54,_,func54,rfl⟩ C4 C4 ?_;intro us outs f;unfold yO at f;split at f
 .skip;rename_i k c m w b r cl t;split at f
  .rename_i n;cases f;unfold A6Q;refine w0 (.cons 7 _ (.cons 6 _ (.cons 5 _ (.cons 4 _ (.cons 3 _ (.cons 2 _ (.cons 1 _ (.cons 0 _ (.nil))))))))) ?_;repeat (first|(refine w7 [.bool _] ?_;rotate_left)|refine fS ?_|refine w4 (fun g=>?_) fun g=>?_|refine w31 rF (e:=GI _ _ _ _ _ _ _ _ n) (k':=?_))
   all_goals
    refine l1 ?_;first|(symm;exact E3 (by simp_all))|(refine decide_eq_decide.2 ?_;simp_all;done)
  .cases f
 .cases f
noncomputable def B2l:P2:=⟨_,fun b=>.nil⟩
def zU:List U->Option (Nat×List U)
 | [.str s,.int .i64 p]=>if 0<=p/\p<=(s.length:Int)/\(s.length:Int)<=140737488351232 then X9 (J3 oN (s.drop p.toNat) p) [] (fun j=>[.int .i64 j])else none
 | _=>none
def sL(s:B1)(p:Int)(b:0<=p/\p<=(s.length:Int)/\(s.length:Int)<=140737488351232):zU [.str s,.int .i64 p]=X9 (J3 oN (s.drop p.toNat) p) [] (fun j=>[.int .i64 j]):=B0 b
def A7T:Q0:=⟨[(1,.func (.func 95) ⟨[]⟩ ⟨[]⟩),(2,.bool true),(10,.pointer (some ⟨16,0,none⟩))],[(16,.iter [h 0 9,h 1 3])],2,[⟨.exit 0,[],[],0⟩,⟨.ret,[(6,h 0 3)],[],1⟩]⟩
noncomputable def A2M:Code:=(f113.body).getD .skip
noncomputable def A7O:Code:=match G5 [true,false,true,false] A2M with|some (.loop x)=>x|_=>.skip
def A7S:f113.body=some A2M:=rfl
def A7Q:G5 [true,false,true,false] A2M=some (.loop A7O):=C4
def A7P:Tr:=aD [h 0 9]<|U7 1 2 3 (.lt 2 (.rune) [h 0 9,h3 1]<|.lt 3 (.rpos) [h 0 9,h3 1]<|aL [h 4 2,.int .i32 (32)]<|.br 6 (.ret [jI 1,h3 1]) (aG [h 4 2,.int .i32 (126)]<|aE [h 7 8,.bool true]<|.br 8 (.ret [jI 1,h3 1]) (.ret [jI (-1),h 0 9,h3 5]))) (I9 0)
def A7R:List U->Nat
 | [.str s,.int .i64 p]=>((s.length:Int)-p).toNat
 | _=>0
def A2L(s:B1)(p:Int):A7R [.str s,.int .i64 p]=((s.length:Int)-p).toNat:=rfl
def B1E{G}(k:K2 G):∀ (E:Nat->U) (base:Nat),@L9 ⟨E,G⟩ prog base gl f113.ntmps A7O (K5 prog gl n0 17 A7T zU):=by
 refine P9 (dep:=60) (f:=113) (n0:=n0) (nB:=17) (H0:=H0) A7R A7P (cxg (B2l.2 k) .nil) k func113 A7S A7Q C4 C4 C4 ?_;intro us d outs c;have m:=c;unfold zU at c;split at c
 .skip;rename_i s p;split at c
  .rename_i b;clear c m;have zr:p<(s.length:Int)->_:=fun h=>ZV b.1 h
   refine⟨rfl,?_⟩;unfold A7P;refine w0 (.cons 1 _ (.cons 0 _ (.nil))) ?_;repeat (first|refine w4 (fun g=>?_) fun g=>?_|refine q9 ?_|(refine w7 [.int .i64 _,.int .i64 _] ?_;rotate_left)|refine iX ?_|refine w1 (.rune) (e:=A44 A2) (k':=?_)|refine w1 (.rpos) (e:=A45 A2) (k':=?_)|refine wM ?_|refine w1 (.bin .eql) (e:=A9d _) (k':=?_)|(refine w7 [.int .i64 _,.str _,.int .i64 _] ?_;rotate_left)|(refine w7 [.int .i64 _] ?_;rotate_left))
   all_goals first
    | refine L2 ?_ ?_
      .have l:=zr ‹_›;have n:=l.2 A2;rw[n,sL s (p+1) ⟨A2,A2,b.2.2⟩,sL s p b,Z6 (i:=p) b.1 ‹_› (by cases q:oN (s.getD p.toNat default)with|false=>rfl|true=>exact absurd (l.1.2 q) A2)]
      .have l:=zr ‹_›;have n:=l.2 A2;rw[n,A2L,A2L];omega
    | refine H9 (d:=0) ?_
      rw[sL s p b,x9 A2];rfl
    | refine H9 (d:=1) ?_
      rw[sL s p b,w9 b.1 ‹_› ((zr ‹_›).1.1 A2)];rfl
  .cases c
 .cases c
noncomputable def B26:List LpE:=(113,([true,false,true,false],K5 prog gl n0 17 A7T zU))::[]
def A3t{G}(b:K2 G):U2 prog G gl B26:=.cons func113 A7S A7Q (B1E b) .nil
noncomputable def B2E:P2:=⟨_,fun b=>.nil⟩
def IY:List U->Option (Nat×List U)
 | [.str s]=>if(s.length:Int)<=140737488351232 then some (0,[.bool (decide (uT s))])else none
 | _=>none
def A32(s:B1)(b:(s.length:Int)<=140737488351232):IY [.str s]=some (0,[.bool (decide (uT s))]):=B0 b
def A5r:Tr:=aN [h 0 9,.string ⟨⟨[]⟩⟩]<|.br 1 (aD [h 0 9]<|S1 2 3 100 (.lp zU [h 0 9,jI 0] 0 0 (dH) (.lp zU [h 0 9,jI 0] 1 1 (aL [h3 4,jI 0]<|.ret [h 5 8]) (.no))) H7) (H7)
def A5s{G}(c:K2 G):L8 prog G 61 [.s 9] IY [.s 8]:=by
 refine G3 (d:=60) A5r (cxg (B2E.2 c) (A3t c)) c ⟨f61,_,func61,rfl⟩ C4 C4 ?_;intro us outs b;unfold IY at b;split at b
 .skip;rename_i s;split at b
  .rename_i e;cases b;unfold A5r;refine w0 (.cons 0 _ (.nil)) ?_;repeat (first|(refine w7 [.bool _] ?_;rotate_left)|refine w4 (fun g=>?_) fun g=>?_|refine OC ?_|refine iX ?_|refine qJ ?_|(refine w6 zU (sL _ _ ⟨A2,A2,e⟩) (h0:=fun g=>?_) (h1:=fun v g=>?_);skip;rotate_left;show Wk _ _ (.cons _ _ _);rotate_right)|refine q9 ?_)
   all_goals
    refine l1 ?_;symm;first
    | (refine E3 (fun h=>?_);have:=h.1;simp_all;done)
    | exact E3 (fun h=>by have:=h.2.1;omega)
    | exact J7 ⟨by assumption,A2,iL (l:=s) ‹_›⟩
    | (have b:=fI (l:=s) ‹_›
       first
       | exact(E3 (fun h=>by rw[h.2.2]at b;cases b.1)).trans (E3 A2).symm
       | exact E3 (fun h=>by rw[h.2.2]at b;cases b.1))
  .cases b
 .cases b
def rG:Rw (Int×Int×Int×Int×Int×Int×Int×B1×B1×Bool):=rC (L5 .i64) (rC (L5 .i64) (rC (L5 .i64) (rC (L5 .i64) (rC (L5 .i64) (rC (L5 .i64) (rC (L5 .i64) (rC mR (rC mR (r1 AX)))))))))
def rP:Rw (Int×Int×Int×Int×Int×Int×Int×B1×Int×Int×Int×Int×Int×Int×Int×B1×B1×Bool):=rC (L5 .i64) (rC (L5 .i64) (rC (L5 .i64) (rC (L5 .i64) (rC (L5 .i64) (rC (L5 .i64) (rC (L5 .i64) (rC mR (rC (L5 .i64) (rC (L5 .i64) (rC (L5 .i64) (rC (L5 .i64) (rC (L5 .i64) (rC (L5 .i64) (rC (L5 .i64) (rC mR (rC mR (r1 AX)))))))))))))))))
abbrev Xt:=B4N
abbrev Gt:=(Int×Int×Int×Int×Int×Int×Int×B1×B1×Bool)
abbrev Pt:=(Int×Int×Int×Int×Int×Int×Int×B1×Int×Int×Int×Int×Int×Int×Int×B1×B1×Bool)
def gK(g:Gt):Xt:=(g.1,g.2.1,g.2.2.1,g.2.2.2.1,g.2.2.2.2.1,g.2.2.2.2.2.1,g.2.2.2.2.2.2.1,g.2.2.2.2.2.2.2.1)
def gC(g:Gt):B1:=g.2.2.2.2.2.2.2.2.1
def gR(g:Gt):Bool:=g.2.2.2.2.2.2.2.2.2
def pOf(g:Gt):Pt:=(g.1,g.2.1,g.2.2.1,g.2.2.2.1,g.2.2.2.2.1,g.2.2.2.2.2.1,g.2.2.2.2.2.2.1,g.2.2.2.2.2.2.2.1,g)
def pK(a:Pt):Xt:=(a.1,a.2.1,a.2.2.1,a.2.2.2.1,a.2.2.2.2.1,a.2.2.2.2.2.1,a.2.2.2.2.2.2.1,a.2.2.2.2.2.2.2.1)
def pG(a:Pt):Gt:=a.2.2.2.2.2.2.2.2
def pQ(a b:Pt):Bool:=(a.1 == b.1 && (a.2.1 == b.2.1 && (a.2.2.1 == b.2.2.1 && (a.2.2.2.1 == b.2.2.2.1 && (a.2.2.2.2.1 == b.2.2.2.2.1 && (a.2.2.2.2.2.1 == b.2.2.2.2.2.1 && (a.2.2.2.2.2.2.1 == b.2.2.2.2.2.2.1 && (a.2.2.2.2.2.2.2.1 == b.2.2.2.2.2.2.2.1 && true))))))))
def ixS(M:Option (List Pt)):List Gt->Option (List Pt)
 | []=>M
 | g::l=>ixS (SB pQ M (pOf g)) l
def A2P{M:Option (List Pt)}{l:List Gt}(h0:0<=i)(h1:i<(l.length:Int)):ixS M (l.drop i.toNat)=ixS (SB pQ M (pOf (l.getD i.toNat default))) (l.drop (i+1).toNat):=by
 rw[R4 l h0 h1];rfl
def A4D{M:Option (List Pt)}{a:Pt}(h:M≠none):SB pQ M a≠none:=by
 cases M with
 | none=>exact absurd rfl h
 | some x=>intro h;cases h
noncomputable def B2k:P2:=⟨_,fun b=>.nil⟩
def mE:List U->Option (Nat×List U)
 | [u_l,.int .i64 n,.int .i64 i,u_M]=>(I0 rG u_l).bind fun l=>(I0 rP u_M).bind fun M=>if n=((el l).length:Int)/\0<=i/\i<=n/\n<=140737488351232/\M≠none then some (0,[B9 rP (ixS M ((el l).drop i.toNat))])else none
 | _=>none
def sK(l:(Option (List (Int×Int×Int×Int×Int×Int×Int×B1×B1×Bool))))(n:Int)(i:Int)(M:(Option (List (Int×Int×Int×Int×Int×Int×Int×B1×Int×Int×Int×Int×Int×Int×Int×B1×B1×Bool))))(b:n=((el l).length:Int)/\0<=i/\i<=n/\n<=140737488351232/\M≠none):mE [B9 rG l,.int .i64 n,.int .i64 i,B9 rP M]=some (0,[B9 rP (ixS M ((el l).drop i.toNat))]):=by
 simp only[mE,G2,D8];exact B0 b
def UE:Q0:=⟨[(3,.map (some 19)),(8,dat 20 0 20),(9,h 1 3),(10,h 2 3)],[(19,.mp 3 28 60),(20,.frz)],4,[⟨.exit 0,[(3,.map (some 19))],[(19,.mp 0 28 60)],1⟩]⟩
noncomputable def A2K:Code:=(f41.body).getD .skip
noncomputable def A7M:Code:=match G5 [true,true,false,true,false] A2K with|some (.loop x)=>x|_=>.skip
def UD:f41.body=some A2K:=rfl
def UC:G5 [true,true,false,true,false] A2K=some (.loop A7M):=C4
def c8(a0:Nat)(b:Nat)(a2:Nat)(c:Tr):Tr:=.lt 8 (.inbs 10) [h3 a0,h b 20]<|.br a2 c .no
def A7N:Tr:=U7 2 1 4 (c8 2 0 5 (.lt 3 (.get 10 0) [h 0 20,h3 2]<|.lt 3 (.get 10 1) [h 0 20,h3 2]<|.lt 3 (.get 10 2) [h 0 20,h3 2]<|.lt 3 (.get 10 3) [h 0 20,h3 2]<|.lt 3 (.get 10 4) [h 0 20,h3 2]<|.lt 3 (.get 10 5) [h 0 20,h3 2]<|.lt 3 (.get 10 6) [h 0 20,h3 2]<|.lt 9 (.get 10 7) [h 0 20,h3 2]<|.lt 9 (.get 10 8) [h 0 20,h3 2]<|.lt 8 (.get 10 9) [h 0 20,h3 2]<|.dt 28 (.mput 18 8) [h 3 28,h3 6,h3 7,h3 8,h3 9,h3 10,h3 11,h3 12,h 13 9,h3 6,h3 7,h3 8,h3 9,h3 10,h3 11,h3 12,h 13 9,h 14 9,h 15 8]<|aA [h3 2,jI 1]<|.ret [jI (-1),h 0 20,h3 1,h3 17,h 16 28])) (.ret [jI 0,h 3 28])
def A2I:List U->Nat
 | [u_l,.int .i64 n,.int .i64 i,u_M]=>(match I0 rG u_l with|some l=>(match I0 rP u_M with|some M=>(n-i).toNat|none=>0)|none=>0)
 | _=>0
def A2H(l:(Option (List (Int×Int×Int×Int×Int×Int×Int×B1×B1×Bool))))(n:Int)(i:Int)(M:(Option (List (Int×Int×Int×Int×Int×Int×Int×B1×Int×Int×Int×Int×Int×Int×Int×B1×B1×Bool)))):A2I [B9 rG l,.int .i64 n,.int .i64 i,B9 rP M]=(n-i).toNat:=by
 simp only[A2I,G2]
def A2J{G}(q:K2 G):∀ (E:Nat->U) (base:Nat),@L9 ⟨E,G⟩ prog base gl f41.ntmps A7M (K5 prog gl n0 21 UE mE):=by
 refine P9 (dep:=60) (f:=41) (n0:=n0) (nB:=21) (H0:=H0) A2I A7N (cxg (B2k.2 q) .nil) q func41 UD UC C4 C4 C4 ?_;intro us d outs c;have t:=c;unfold mE at c;split at c
 .skip;rename_i v n i w;have s:=A7.1 c;clear c;obtain⟨l,k,c⟩:=s;replace k:=F7 k;subst k;have p:=A7.1 c;clear c;obtain⟨M,m,c⟩:=p;replace m:=F7 m;subst m;split at c
  .rename_i o;clear c t;refine⟨rfl,?_⟩;unfold A7N;refine w0 (.cons 3 _ (.cons 2 _ (.cons 1 _ (.cons 0 _ (.nil))))) ?_;repeat (first|refine w4 (fun g=>?_) fun g=>?_|refine aM ?_|refine U8 ?_|refine q9 ?_|refine d9 ?_|refine w1 (.get 10 0) (u:=.int .i64 _) (e:=C5 rfl A2 A2 rfl) (k':=?_)|refine w1 (.get 10 1) (u:=.int .i64 _) (e:=C5 rfl A2 A2 rfl) (k':=?_)|refine w1 (.get 10 2) (u:=.int .i64 _) (e:=C5 rfl A2 A2 rfl) (k':=?_)|refine w1 (.get 10 3) (u:=.int .i64 _) (e:=C5 rfl A2 A2 rfl) (k':=?_)|refine w1 (.get 10 4) (u:=.int .i64 _) (e:=C5 rfl A2 A2 rfl) (k':=?_)|refine w1 (.get 10 5) (u:=.int .i64 _) (e:=C5 rfl A2 A2 rfl) (k':=?_)|refine w1 (.get 10 6) (u:=.int .i64 _) (e:=C5 rfl A2 A2 rfl) (k':=?_)|refine w1 (.get 10 7) (u:=.str _) (e:=C5 rfl A2 A2 rfl) (k':=?_)|refine w1 (.get 10 8) (u:=.str _) (e:=C5 rfl A2 A2 rfl) (k':=?_)|refine w1 (.get 10 9) (u:=.bool _) (e:=C5 rfl A2 A2 rfl) (k':=?_)|refine w2 (.mput 18 8) (r:=rP) (e:=A2m (fun a b=>(a.1 == b.1 && (a.2.1 == b.2.1 && (a.2.2.1 == b.2.2.1 && (a.2.2.2.1 == b.2.2.2.1 && (a.2.2.2.2.1 == b.2.2.2.2.1 && (a.2.2.2.2.2.1 == b.2.2.2.2.2.1 && (a.2.2.2.2.2.2.1 == b.2.2.2.2.2.2.1 && (a.2.2.2.2.2.2.2.1 == b.2.2.2.2.2.2.2.1 && true))))))))) (_,_,_,_,_,_,_,_,_,_,_,_,_,_,_,_,_,_) rfl rfl (fun _=>rfl) o.2.2.2.2) (k':=?_)|(refine w7 [.int .i64 _,B9 rG _,.int .i64 _,.int .i64 _,B9 rP _] ?_;rotate_left)|(refine w8 ?_;first|omega)|(refine w7 [.int .i64 _,B9 rP _] ?_;rotate_left))
   all_goals first
    | refine L2 ?_ ?_
      .rw[sK l n i M o,A2P (l:=el l) o.2.1 A2];exact sK l n (i+1) _ ⟨o.1,A2,A2,o.2.2.2.1,A4D o.2.2.2.2⟩
      .rw[A2H,A2H];omega
    | refine H9 (d:=0) ?_
      rw[sK l n i M o,bB (el l) A2];rfl
  .cases c
 .cases c
end Go.Proofs.YtbbicpheoakeeaaGreatDoor
