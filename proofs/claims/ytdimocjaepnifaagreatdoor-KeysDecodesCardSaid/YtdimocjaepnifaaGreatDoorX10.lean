import Derived.Test.YtdimocjaepnifaaGreatDoorX9
import Derived.Shelf.Strings.Builder1
import Derived.Shelf.Strings.Builder2
import Derived.Shelf.Small.Wraps
import Derived.Shelf.Strings.BuilderF
import Derived.Shelf.Strings.BuilderK
import Derived.Shelf.Utf8.RuneCount
import Derived.Shelf.Strings.Builder2Cap
import Derived.Shelf.Strconv.Itoa0
import Derived.Shelf.Strconv.Itoa1
import Derived.Shelf.LaysM
import Derived.Shelf.Strconv.Itoa2
import Derived.Shelf.Strconv.Itoa3
import Derived.Shelf.Strings.Search1
import Derived.Shelf.Strings.Search2
import Derived.Shelf.Strings.Search3
import Derived.Shelf.Strings.Count
import Derived.Shelf.Strings.Shaped
import Derived.Shelf.Strings.Prefix
import Derived.Shelf.Strings.Split
import Derived.Shelf.Strings.Replace
import Derived.Shelf.Strings.SplitShaped
import Derived.Shelf.Unicode.Decode
import Derived.Shelf.Strings.RuneCount
import Derived.Shelf.Bits.Mul64
import Derived.Shelf.Strings.Repeat
import Derived.Shelf.Unicode.DecodeSlow
import Derived.Shelf.Unicode.DecodeAny
import Derived.Shelf.Strings.BuilderCap
import Derived.Shelf.Slices.Turned
import Derived.Shelf.Bytes.SlSearch0
import Derived.Shelf.Bytes.SlSmallAll
import Derived.Shelf.Bytes.SlEqualAll
import Derived.Shelf.Bytes.Small
import Derived.Test.YtdimocjaepnifaaGreatDoorProg
set_option linter.all false
set_option maxRecDepth 100000
set_option maxHeartbeats 4000000
namespace Go.Sx
variable {i kw n2:Nat}{cs f0 kc l outs us:List U}{u:U}
section
open Go
def A4G{α:Type}(q:α→α→Bool)(a:α):List α→List α
 | []=>[a]
 | b::l=>if q a b then a::l else b::A4G q a l
def nL{α:Type}(q:α→α→Bool)(x:Option (List α))(a:α):Option (List α) :=
 match x with
 | none=>none
 | some l=>some (A4G q a l)
def any_map{α:Type}(e:α→List U)(k:List U)(p:α→Bool)(h:∀ a,Z2 k (e a)=p a):∀ l:List α,(l.map e).any (Z2 k)=l.any p
 | []=>rfl
 | a::l=>by rw[F0,bJ,bJ,h,any_map e k p h l]
def SM{α:Type}(e:α→List U)(k:List U)(p:α→Bool)(h:∀ a,Z2 k (e a)=p a):∀ l:List α,(l.map e).find? (Z2 k)=(l.find? p).map e
 | []=>rfl
 | a::l=>by
   rw[F0,fL,fL,h];cases p a
   ·exact SM e k p h l
   ·rfl
def YT{α:Type}(e:α→List U)(kw:Nat)(q:α→α→Bool)(a:α)(h:∀ b,Z2 ((e a).take kw) (e b)=q a b):∀ l:List α,QP kw (e a) (l.map e)=(A4G q a l).map e
 | []=>rfl
 | b::l=>by
   rw[F0,QP,A4G,h,YT e kw q a h l];cases q a b<;>rfl
def SQ{α:Type}{w:Nat}{r:Rw α}{x:Option (List α)}(p:α→Bool)(hw:r.w=w)(hk:kc.length=kw)(hp:∀ a,Z2 kc (r.enc a)=p a):evU (.mhas w kw) (B1 r x::kc)=.bool ((el x).any p):=by
 subst hw hk;rw[X3];show(if r.w=r.w∧kc.length=kc.length then U.bool (((el x).map r.enc).any (Z2 kc))else .none)=_;rw[A4 ⟨rfl,rfl⟩,any_map r.enc kc p hp]
def cY{α β:Type}{w o:Nat}{r:Rw α}{x:Option (List α)}{z:β}(c:β→U)(p:α→Bool)(g:α→β)(hw:r.w=w)(hk:kc.length=kw)(hp:∀ a,Z2 kc (r.enc a)=p a)(hg:∀ a,(r.enc a).getD o .none=c (g a)):evU (.mget w kw o) (B1 r x::c z::kc)=c (((el x).find? p).elim z g):=by
 subst hw hk;rw[X3];show(if r.w=r.w∧kc.length=kc.length then(match List.find? (Z2 kc) ((el x).map r.enc)with
  | some r=>r.getD o .none
  | none=>c z)else .none)=_
 rw[A4 ⟨rfl,rfl⟩,SM r.enc kc p hp];cases (el x).find? p with
 | none=>rfl
 | some a=>exact hg a
def cX{α:Type}{w:Nat}{r:Rw α}{x:Option (List α)}(q:α→α→Bool)(a:α)(hw:r.w=w)(hc:r.enc a=cs)(hq:∀ b,Z2 ((r.enc a).take kw) (r.enc b)=q a b)(hx:x≠none):evU (.mput w kw) (B1 r x::cs)=B1 r (nL q x a):=by
 subst hw hc;cases x with
 | none=>exact absurd rfl hx
 | some l =>
   rw[X3];show(if r.w=r.w∧(r.enc a).length=r.w then U.seq false r.w (QP kw (r.enc a) ((el (some l)).map r.enc))else .none)=_;rw[A4 ⟨rfl,r.len a⟩,YT r.enc kw q a hq];show _=B1 r (some (A4G q a l));rw[X3];rfl
def Ev.appN:Nat→List U→Ev→Ev
 | _,[],E=>E
 | n,u::l,E=>Ev.appN (Nat.succ n) l (.cons n u E)
def Ev.appN_eq :∀ {E:Ev} {n:Nat},E.len=n→Ev.appN n l E=Ev.app l E:=by
 induction l with
 | nil=>intro E n h;rfl
 | cons u l ih=>intro E n h;subst h;exact ih rfl
structure Wk (L:List U→Prop) (t:Tr) (E:Ev):Prop where
 s:t.sav L E
section
variable {L:List U→Prop} {E:Ev} {k:Tr} {n t:Nat} {xs:D5}
def w0{t:Tr}(E:Ev)(h:Wk L t E)(he:us=E.toL:=by exact rfl)(ho:E.ok:=by simp[Ev.ok,Ev.len]):t.sat L us:=by subst he;exact h.s ho
def w1(op:LOp)(hx:xs.map (E6 E.get)=us:=by exact rfl)(e:evU op us=u)(k':Wk L k (.cons n u E))(ht:H1 u=t:=by exact rfl)(h10:Nat.blt t 10=true:=by exact rfl)(hn:E.len=n:=by first|exact Eq.trans (b:=Nat.succ _) rfl rfl|exact rfl):Wk L (Tr.lt t op xs k) E :=
 ⟨s1 (by rw[hx];exact e) h10 ht hn k'.s⟩
def w1x(op:LOp)(e:evU op (xs.map (E6 E.get))=u)(k':Wk L k (.cons n u E))(ht:H1 u=t:=by exact rfl)(h10:Nat.blt t 10=true:=by exact rfl)(hn:E.len=n:=by first|exact Eq.trans (b:=Nat.succ _) rfl rfl|exact rfl):Wk L (Tr.lt t op xs k) E :=
 ⟨s1 e h10 ht hn k'.s⟩
def wr{op:LOp}(hk:Wk L k (.cons n u E))(hx:xs.map (E6 E.get)=us)(he:evU op us=u)(ht:H1 u=t)(h10:Nat.blt (H1 u) 10=true)(hn:E.len=n):Wk L (Tr.lt t op xs k) E :=
 w1 op hx he hk ht (by rw[← ht];exact h10) hn
def zX(q:IntKind)(a:Int):Nat.blt (H1 (.int q a)) 10=true:=by cases q<;>rfl
def w2(op:LOp){α:Type}{r:Rw α}{x:Option (List α)}(hx:xs.map (E6 E.get)=us:=by exact rfl)(e:evU op us=B1 r x)(k':Wk L k (.cons n (B1 r x) E))(ht:10+r.w=t:=by exact rfl)(hn:E.len=n:=by first|exact Eq.trans (b:=Nat.succ _) rfl rfl|exact rfl):Wk L (Tr.dt t op xs k) E :=
 ⟨s2 (by rw[hx];exact e) ht hn k'.s⟩
def w3(spec:aR){m:Nat}(hx:xs.map (E6 E.get)=us:=by exact rfl)(e:spec us=some (0,outs))(hn:E.len=n:=by first|exact Eq.trans (b:=Nat.succ _) rfl rfl|exact rfl)(k':Wk L k (Ev.appN n outs E))(hm:outs.length=m:=by exact rfl):Wk L (Tr.fn spec xs m k) E:=⟨s3 (by rw[hx];exact e) hm (by rw[← Ev.appN_eq hn];exact k'.s)⟩
def w31(spec:aR){a:U}(hx:xs.map (E6 E.get)=us:=by exact rfl)(e:spec us=some (0,[a]))(k':Wk L k (.cons n a E))(hn:E.len=n:=by first|exact Eq.trans (b:=Nat.succ _) rfl rfl|exact rfl):Wk L (Tr.fn spec xs 1 k) E:=⟨s31 (by rw[hx];exact e) hn k'.s⟩
def w32(spec:aR){a b:U}(hx:xs.map (E6 E.get)=us:=by exact rfl)(e:spec us=some (0,[a,b]))(k':Wk L k (.cons n2 b (.cons n a E)))(hn:E.len=n:=by first|exact Eq.trans (b:=Nat.succ _) rfl rfl|exact rfl)(h2:Nat.succ n=n2:=by exact rfl):Wk L (Tr.fn spec xs 2 k) E:=⟨s32 (by rw[hx];exact e) hn h2 k'.s⟩
def w4{a b:Tr}{p:Prop}{dp:Decidable p}(ha:p→Wk L a E)(hb:¬p→Wk L b E)(he:E.get i=.bool (decide p):=by exact rfl):Wk L (Tr.br i a b) E:=⟨s4 he (fun h=>(ha h).s) fun h=>(hb h).s⟩
def w4B{a b:Tr}{c:Bool}(ha:c=true→Wk L a E)(hb:c=false→Wk L b E)(he:E.get i=.bool c:=by exact rfl):Wk L (Tr.br i a b) E:=⟨s4B he (fun h=>(ha h).s) fun h=>(hb h).s⟩
def w5{a b:Tr}{p:Prop}{dp:Decidable p}(hb:¬p→Wk L b E)(ha:p→Wk L a E)(he:E.get i=.bool (decide p):=by exact rfl):Wk L (Tr.br i a b) E:=w4 ha hb he
def w5B{a b:Tr}{c:Bool}(hb:c=false→Wk L b E)(ha:c=true→Wk L a E)(he:E.get i=.bool c:=by exact rfl):Wk L (Tr.br i a b) E:=w4B ha hb he
def w6(spec:aR){n0 n1:Nat}{k0 k1:Tr}{β:Type}{o:Option β}{f1:β→List U}(he:spec (xs.map (E6 E.get))=Z4 o f0 f1)(hn:E.len=n:=by first|exact Eq.trans (b:=Nat.succ _) rfl rfl|exact rfl)(h0:o=none→Wk L k0 (Ev.appN n f0 E))(h1:∀ b,o=some b→Wk L k1 (Ev.appN n (f1 b) E))
  (hn0:f0.length=n0:=by exact rfl) (hn1:∀ b,(f1 b).length=n1:=by exact fun _=>rfl):Wk L (Tr.lp spec xs 0 n0 k0 (.lp spec xs 1 n1 k1 .no)) E:=⟨s6 he hn0 hn1 (fun h=>by rw[← Ev.appN_eq hn];exact(h0 h).s) fun b h=>by rw[← Ev.appN_eq hn];exact(h1 b h).s⟩
def w7(r:List U)(h:L r)(he:xs.map (E6 E.get)=r:=by exact rfl):Wk L (Tr.ret xs) E:=⟨s7 r he h⟩
def w8(h:False):Wk L Tr.no E:=h.elim
variable {q j:IntKind} {a b c:Int} {s z:List UInt8} {p:Prop} {dp:Decidable p} {x y:Bool}
def V5(hk:Wk L k (.cons n (.int q (a+b)) E))(hx:xs.map (E6 E.get)=[.int q a,.int q b]:=by exact rfl)(hw:q.wrap (a+b)=a+b:=by first|exact lZ A0 A0|exact OE A0 A0|exact tP A0 A0|exact tQ A0 A0|exact BV A0 A0)(ht:H1 (.int q (a+b))=t:=by exact rfl)(hn:E.len=n:=by first|exact Eq.trans (b:=Nat.succ _) rfl rfl|exact rfl):Wk L (Tr.lt t (.bin .add) xs k) E:=wr hk hx (A8P hw) ht (zX _ _) hn
def oF(hk:Wk L k (.cons n (.int q (a-b)) E))(hx:xs.map (E6 E.get)=[.int q a,.int q b]:=by exact rfl)(hw:q.wrap (a-b)=a-b:=by first|exact lZ A0 A0|exact OE A0 A0|exact tP A0 A0|exact tQ A0 A0|exact BV A0 A0)(ht:H1 (.int q (a-b))=t:=by exact rfl)(hn:E.len=n:=by first|exact Eq.trans (b:=Nat.succ _) rfl rfl|exact rfl):Wk L (Tr.lt t (.bin .sub) xs k) E:=wr hk hx (A8C hw) ht (zX _ _) hn
def UK(hk:Wk L k (.cons n (.int q (a*b)) E))(hx:xs.map (E6 E.get)=[.int q a,.int q b]:=by exact rfl)(hw:q.wrap (a*b)=a*b:=by first|exact lZ A0 A0|exact OE A0 A0|exact tP A0 A0|exact tQ A0 A0|exact BV A0 A0)(ht:H1 (.int q (a*b))=t:=by exact rfl)(hn:E.len=n:=by first|exact Eq.trans (b:=Nat.succ _) rfl rfl|exact rfl):Wk L (Tr.lt t (.bin .mul) xs k) E:=wr hk hx (A8K hw) ht (zX _ _) hn
def UI(hk:Wk L k (.cons n (.int q (a / b)) E))(hx:xs.map (E6 E.get)=[.int q a,.int q b]:=by exact rfl)(ha:0≤a:=by omega)(hb:0<b:=by omega)(hw:q.wrap (a / b)=a / b:=by first|exact lZ A0 A0|exact OE A0 A0|exact tP A0 A0|exact tQ A0 A0|exact BV A0 A0)(ht:H1 (.int q (a / b))=t:=by exact rfl)(hn:E.len=n:=by first|exact Eq.trans (b:=Nat.succ _) rfl rfl|exact rfl):Wk L (Tr.lt t (.bin .quo) xs k) E:=wr hk hx (A8G ha hb hw) ht (zX _ _) hn
def A02(hk:Wk L k (.cons n (.int q (a%b)) E))(hx:xs.map (E6 E.get)=[.int q a,.int q b]:=by exact rfl)(ha:0≤a:=by omega)(hb:0<b:=by omega)(ht:H1 (.int q (a%b))=t:=by exact rfl)(hn:E.len=n:=by first|exact Eq.trans (b:=Nat.succ _) rfl rfl|exact rfl):Wk L (Tr.lt t (.bin .rem) xs k) E:=wr hk hx (A8F ha hb) ht (zX _ _) hn
def p8(hk:Wk L k (.cons n (.int q a) E))(hx:xs.map (E6 E.get)=[.int j a]:=by exact rfl)(hw:q.wrap a=a:=by first|exact lZ A0 A0|exact OE A0 A0|exact tP A0 A0|exact tQ A0 A0|exact BV A0 A0)(ht:H1 (.int q a)=t:=by exact rfl)(hn:E.len=n:=by first|exact Eq.trans (b:=Nat.succ _) rfl rfl|exact rfl):Wk L (Tr.lt t (.conv q) xs k) E:=wr hk hx (A5X hw) ht (zX _ _) hn
def O7(hk:Wk L k (.cons n (.int q (q.wrap (a+b))) E))(hx:xs.map (E6 E.get)=[.int q a,.int q b]:=by exact rfl)(ht:H1 (.int q (q.wrap (a+b)))=t:=by exact rfl)(hn:E.len=n:=by first|exact Eq.trans (b:=Nat.succ _) rfl rfl|exact rfl):Wk L (Tr.lt t (.bin .add) xs k) E:=wr hk hx (A5a _ _ _) ht (zX _ _) hn
def gT(hk:Wk L k (.cons n (.int q (q.wrap (a-b))) E))(hx:xs.map (E6 E.get)=[.int q a,.int q b]:=by exact rfl)(ht:H1 (.int q (q.wrap (a-b)))=t:=by exact rfl)(hn:E.len=n:=by first|exact Eq.trans (b:=Nat.succ _) rfl rfl|exact rfl):Wk L (Tr.lt t (.bin .sub) xs k) E:=wr hk hx (A5S _ _ _) ht (zX _ _) hn
def BX(hk:Wk L k (.cons n (.int q (q.wrap (a*b))) E))(hx:xs.map (E6 E.get)=[.int q a,.int q b]:=by exact rfl)(ht:H1 (.int q (q.wrap (a*b)))=t:=by exact rfl)(hn:E.len=n:=by first|exact Eq.trans (b:=Nat.succ _) rfl rfl|exact rfl):Wk L (Tr.lt t (.bin .mul) xs k) E:=wr hk hx (A5U _ _ _) ht (zX _ _) hn
def Y2(hk:Wk L k (.cons n (.int q (q.wrap a)) E))(hx:xs.map (E6 E.get)=[.int j a]:=by exact rfl)(ht:H1 (.int q (q.wrap a))=t:=by exact rfl)(hn:E.len=n:=by first|exact Eq.trans (b:=Nat.succ _) rfl rfl|exact rfl):Wk L (Tr.lt t (.conv q) xs k) E:=wr hk hx (NG _ _ _) ht (zX _ _) hn
def T4(hk:Wk L k (.cons n (.bool (decide (a=b))) E))(hx:xs.map (E6 E.get)=[.int q a,.int q b]:=by exact rfl)(hn:E.len=n:=by first|exact Eq.trans (b:=Nat.succ _) rfl rfl|exact rfl):Wk L (Tr.lt 8 (.bin .eql) xs k) E:=wr hk hx (B4X _ _ _) rfl rfl hn
def tZ(hk:Wk L k (.cons n (.bool (decide (a≠b))) E))(hx:xs.map (E6 E.get)=[.int q a,.int q b]:=by exact rfl)(hn:E.len=n:=by first|exact Eq.trans (b:=Nat.succ _) rfl rfl|exact rfl):Wk L (Tr.lt 8 (.bin .neq) xs k) E:=wr hk hx (B4M _ _ _) rfl rfl hn
def X7(hk:Wk L k (.cons n (.bool (decide (a<b))) E))(hx:xs.map (E6 E.get)=[.int q a,.int q b]:=by exact rfl)(hn:E.len=n:=by first|exact Eq.trans (b:=Nat.succ _) rfl rfl|exact rfl):Wk L (Tr.lt 8 (.bin .lss) xs k) E:=wr hk hx (B4P _ _ _) rfl rfl hn
def iY(hk:Wk L k (.cons n (.bool (decide (a≤b))) E))(hx:xs.map (E6 E.get)=[.int q a,.int q b]:=by exact rfl)(hn:E.len=n:=by first|exact Eq.trans (b:=Nat.succ _) rfl rfl|exact rfl):Wk L (Tr.lt 8 (.bin .leq) xs k) E:=wr hk hx (B4Q _ _ _) rfl rfl hn
def cM(hk:Wk L k (.cons n (.bool (decide (b<a))) E))(hx:xs.map (E6 E.get)=[.int q a,.int q b]:=by exact rfl)(hn:E.len=n:=by first|exact Eq.trans (b:=Nat.succ _) rfl rfl|exact rfl):Wk L (Tr.lt 8 (.bin .gtr) xs k) E:=wr hk hx (B4V _ _ _) rfl rfl hn
def bN(hk:Wk L k (.cons n (.bool (decide (b≤a))) E))(hx:xs.map (E6 E.get)=[.int q a,.int q b]:=by exact rfl)(hn:E.len=n:=by first|exact Eq.trans (b:=Nat.succ _) rfl rfl|exact rfl):Wk L (Tr.lt 8 (.bin .geq) xs k) E:=wr hk hx (B4W _ _ _) rfl rfl hn
def zW(hk:Wk L k (.cons n (.bool (decide (s=z))) E))(hx:xs.map (E6 E.get)=[.str s,.str z]:=by exact rfl)(hn:E.len=n:=by first|exact Eq.trans (b:=Nat.succ _) rfl rfl|exact rfl):Wk L (Tr.lt 8 (.bin .eql) xs k) E:=wr hk hx (B4H _ _) rfl rfl hn
def A2L(hk:Wk L k (.cons n (.bool (decide (s≠z))) E))(hx:xs.map (E6 E.get)=[.str s,.str z]:=by exact rfl)(hn:E.len=n:=by first|exact Eq.trans (b:=Nat.succ _) rfl rfl|exact rfl):Wk L (Tr.lt 8 (.bin .neq) xs k) E:=wr hk hx (B4E _ _) rfl rfl hn
def t6(hk:Wk L k (.cons n (.bool (decide ¬p)) E))(hx:xs.map (E6 E.get)=[.bool (@decide p dp)]:=by exact rfl)(hn:E.len=n:=by first|exact Eq.trans (b:=Nat.succ _) rfl rfl|exact rfl):Wk L (Tr.lt 8 (.un .not) xs k) E:=wr hk hx (A8J _) rfl rfl hn
def nW(hk:Wk L k (.cons n (.bool (!x)) E))(hx:xs.map (E6 E.get)=[.bool x]:=by exact rfl)(hn:E.len=n:=by first|exact Eq.trans (b:=Nat.succ _) rfl rfl|exact rfl):Wk L (Tr.lt 8 (.un .not) xs k) E:=wr hk hx (B4L _) rfl rfl hn
def wT(hk:Wk L k (.cons n (.int .i64 s.length) E))(hx:xs.map (E6 E.get)=[.str s]:=by exact rfl)(hn:E.len=n:=by first|exact Eq.trans (b:=Nat.succ _) rfl rfl|exact rfl):Wk L (Tr.lt 3 .len xs k) E:=wr hk hx (B4R _) rfl rfl hn
def A2O(hk:Wk L k (.cons n (.bool (decide (0≤a∧a<b))) E))(hx:xs.map (E6 E.get)=[.int q a,.int j b]:=by exact rfl)(hn:E.len=n:=by first|exact Eq.trans (b:=Nat.succ _) rfl rfl|exact rfl):Wk L (Tr.lt 8 .inb xs k) E:=wr hk hx (B4U _ _ _ _) rfl rfl hn
def B9f(hk:Wk L k (.cons n (.int .u8 (s.getD a.toNat 0).toNat) E))(hx:xs.map (E6 E.get)=[.str s,.int q a]:=by exact rfl)(h0:0≤a:=by omega)(h1:a<s.length:=by simp[*]<;>omega)(hn:E.len=n:=by first|exact Eq.trans (b:=Nat.succ _) rfl rfl|exact rfl):Wk L (Tr.lt 4 .idx xs k) E:=wr hk hx (mW _ _ _ h0 h1) rfl rfl hn
def A9Z(hk:Wk L k (.cons n (.str ((s.drop a.toNat).take (b.toNat-a.toNat))) E))(hx:xs.map (E6 E.get)=[.str s,.int q a,.int j b]:=by exact rfl)(h0:0≤a:=by omega)(h1:a≤b:=by omega)(h2:b≤s.length:=by simp[*]<;>omega)(hn:E.len=n:=by first|exact Eq.trans (b:=Nat.succ _) rfl rfl|exact rfl):Wk L (Tr.lt 9 .sub xs k) E:=wr hk hx (wB _ _ _ _ _ h0 h1 h2) rfl rfl hn
def A03(hk:Wk L k (.cons n (.int q (min a b)) E))(hx:xs.map (E6 E.get)=[.int q a,.int j b]:=by exact rfl)(ht:H1 (.int q (min a b))=t:=by exact rfl)(hn:E.len=n:=by first|exact Eq.trans (b:=Nat.succ _) rfl rfl|exact rfl):Wk L (Tr.lt t .min xs k) E:=wr hk hx (B4N _ _ _ _) ht (zX _ _) hn
def B3N(hk:Wk L k (.cons n (.int q (max a b)) E))(hx:xs.map (E6 E.get)=[.int q a,.int j b]:=by exact rfl)(ht:H1 (.int q (max a b))=t:=by exact rfl)(hn:E.len=n:=by first|exact Eq.trans (b:=Nat.succ _) rfl rfl|exact rfl):Wk L (Tr.lt t .max xs k) E:=wr hk hx (B4O _ _ _ _) ht (zX _ _) hn
variable {α:Type} {r:Rw α} {o:Option (List α)} {w:Nat}
def P7(hk:Wk L k (.cons n (.int .i64 ((el o).length:Int)) E))(hx:xs.map (E6 E.get)=[B1 r o]:=by exact rfl)(hn:E.len=n:=by first|exact Eq.trans (b:=Nat.succ _) rfl rfl|exact rfl):Wk L (Tr.lt 3 .len xs k) E:=wr hk hx (A8L _ _) rfl rfl hn
def Y1(hk:Wk L k (.cons n (.bool (decide (0≤a∧a<((el o).length:Int)))) E))(hx:xs.map (E6 E.get)=[.int q a,B1 r o]:=by exact rfl)(hw:r.w=w:=by exact rfl)(hn:E.len=n:=by first|exact Eq.trans (b:=Nat.succ _) rfl rfl|exact rfl):Wk L (Tr.lt 8 (.inbs w) xs k) E:=wr hk hx (A5V hw) rfl rfl hn
end
abbrev aA:D5→Tr→Tr:=.lt 3 (.bin .add)
abbrev aS:D5→Tr→Tr:=.lt 3 (.bin .sub)
abbrev aE:D5→Tr→Tr:=.lt 8 (.bin .eql)
abbrev aN:D5→Tr→Tr:=.lt 8 (.bin .neq)
abbrev aL:D5→Tr→Tr:=.lt 8 (.bin .lss)
abbrev aQ:D5→Tr→Tr:=.lt 8 (.bin .leq)
abbrev aG:D5→Tr→Tr:=.lt 8 (.bin .gtr)
abbrev aH:D5→Tr→Tr:=.lt 8 (.bin .geq)
abbrev aI:D5→Tr→Tr:=.lt 8 (.inb)
abbrev aD:D5→Tr→Tr:=.lt 3 .len
abbrev aX:D5→Tr→Tr:=.lt 8 (.un .not)
abbrev aC:D5→Tr→Tr:=.lt 9 (.bin .add)
abbrev h3(i:Nat):Value:=h i 3
end
section
open Go
def B72(n:Nat):n &&& 2=n / 2%2*2:=by
 have h:=Nat.and_mod_two_pow (a:=n) (b:=2) (n:=2);have l:n &&& 2≤2:=lW;have g:∀ m:Nat,m<4→m &&& 2=m / 2%2*2:=C7;have k:=g (n%4) A0;have e:(2:Nat)%2 ^ 2=2:=C7;have e2:(2:Nat) ^ 2=4:=C7;rw[e,e2,k]at h;omega
def NI(a:Int):evU (.bin .and) [.int .i64 a,.int .i64 2]=.int .i64 (a / 2%2*2):=by
 rw[EN];congr 1
 have e1:(BitVec.ofInt 64 a &&& BitVec.ofInt 64 2).toNat=(a%2 ^ 64).toNat &&& 2:=by
  rw[o9,R9];rfl
 show IntKind.i64.wrap (((BitVec.ofInt 64 a &&& BitVec.ofInt 64 2).toNat:Nat):Int)=_;rw[e1,B72,gH A0 (by show _<(2:Int) ^ 63;omega)];omega
def B71(n:Nat):n &&& 4=n / 4%2*4:=by
 have h:=Nat.and_mod_two_pow (a:=n) (b:=4) (n:=3);have l:n &&& 4≤4:=lW;have g:∀ m:Nat,m<8→m &&& 4=m / 4%2*4:=C7;have k:=g (n%8) A0;have e:(4:Nat)%2 ^ 3=4:=C7;have e2:(2:Nat) ^ 3=8:=C7;rw[e,e2,k]at h;omega
def BM(a:Int):evU (.bin .and) [.int .i64 a,.int .i64 4]=.int .i64 (a / 4%2*4):=by
 rw[EN];congr 1
 have e1:(BitVec.ofInt 64 a &&& BitVec.ofInt 64 4).toNat=(a%2 ^ 64).toNat &&& 4:=by
  rw[o9,R9];rfl
 show IntKind.i64.wrap (((BitVec.ofInt 64 a &&& BitVec.ofInt 64 4).toNat:Nat):Int)=_;rw[e1,B71,gH A0 (by show _<(2:Int) ^ 63;omega)];omega
def an6(x:BitVec 64):x &&& ~~~(6#64)=0#64↔x.toNat≤7∧x.toNat%2=0:=by
 constructor
 ·intro h;have e:x=(x &&& 6#64) ||| (x &&& ~~~(6#64)):=by
   rw[← BitVec.and_or_distrib_left];have:(6#64 ||| ~~~(6#64))=BitVec.allOnes 64:=C7;rw[this,BitVec.and_allOnes]
  rw[h,BitVec.or_zero]at e;have e2:x.toNat=x.toNat &&& 6:=by
   have:=G0 BitVec.toNat e;rw[o9]at this;exact this
  have h6:x.toNat≤6:=by rw[e2];exact lW
  refine⟨A0,?_⟩;have:∀ n:Nat,n≤6→n=n &&& 6→n%2=0:=C7;exact this _ h6 e2
 ·intro ⟨h,k⟩;have e:x=BitVec.ofNat 64 x.toNat:=by simp
  have:∀ n:Nat,n≤7→n%2=0→(BitVec.ofNat 64 n) &&& ~~~(6#64)=0#64:=C7;rw[e];exact this _ h k
def A80(a:Int):Int:=IntKind.i64.wrap ((BitVec.ofInt 64 a &&& ~~~(6#64)).toNat:Nat)
def A6P(a:Int)(h : -9223372036854775808≤a)(h2:a≤9223372036854775807):A80 a=0↔0≤a∧a≤7∧a%2=0:=by
 have e:A80 a=0↔(BitVec.ofInt 64 a &&& ~~~(6#64)).toNat=0:=by
  have:=(BitVec.ofInt 64 a &&& ~~~(6#64)).isLt;unfold A80;generalize (BitVec.ofInt 64 a &&& ~~~(6#64)).toNat=m at *;simp only[IntKind.wrap,IntKind.bits,IntKind.signed,Nat.reduceSub]<;>simp<;>omega
 have e2:(BitVec.ofInt 64 a).toNat=(a%2 ^ 64).toNat:=by rw[R9];rfl
 have e3:(BitVec.ofInt 64 a &&& ~~~(6#64)).toNat=0↔BitVec.ofInt 64 a &&& ~~~(6#64)=0#64:=by
  constructor
  ·intro h;exact BitVec.eq_of_toNat_eq (by rw[h];rfl)
  ·intro h;rw[h];rfl
 rw[e,e3,an6,e2];omega
def B4Y(a:Int):evU (.bin .andNot) [.int .i64 a,.int .i64 6]=.int .i64 (A80 a):=by
 rw[A1i];rfl
def s0L{L:List U→Prop}{t:Tr}(h:t.sav L (Ev.app us .nil)):t.sat L us:=by
 obtain⟨a,b⟩:=Ev.app_ok (l:=us) (E:=.nil) True.intro
 have:=h a;rw[b]at this;exact this
def B23(n k:Nat):n &&& 2 ^ k=n / 2 ^ k%2*2 ^ k:=by
 have h:(n &&& 2 ^ k)=bif n.testBit k then 2 ^ k else 0:=by
  apply Nat.eq_of_testBit_eq;intro i;rw[Nat.testBit_and,fS];by_cases e:k=i
  ·subst e;cases h:n.testBit k<;>simp[h,fS]
  ·cases h:n.testBit k<;>simp[e,fS]
 rw[h,Nat.testBit_eq_decide_div_mod_eq];by_cases e:n / 2 ^ k%2=1
 ·simp[e]
 ·have:n / 2 ^ k%2=0:=A0;simp[this]
def A5Z(a:Int):evU (.bin .and) [.int .i64 a,.int .i64 32]=.int .i64 (a / 32%2*32):=by
 rw[EN];congr 1
 have e1:(BitVec.ofInt 64 a &&& BitVec.ofInt 64 32).toNat=(a%2 ^ 64).toNat &&& 2 ^ 5:=by
  rw[o9,R9];rfl
 show IntKind.i64.wrap (((BitVec.ofInt 64 a &&& BitVec.ofInt 64 32).toNat:Nat):Int)=_;rw[e1,B23,show(2:Nat) ^ 5=32 from rfl,gH A0 (by show _<(2:Int) ^ 63;omega)];omega
def A5Y(a:Int):evU (.bin .and) [.int .i64 a,.int .i64 64]=.int .i64 (a / 64%2*64):=by
 rw[EN];congr 1
 have e1:(BitVec.ofInt 64 a &&& BitVec.ofInt 64 64).toNat=(a%2 ^ 64).toNat &&& 2 ^ 6:=by
  rw[o9,R9];rfl
 show IntKind.i64.wrap (((BitVec.ofInt 64 a &&& BitVec.ofInt 64 64).toNat:Nat):Int)=_;rw[e1,B23,show(2:Nat) ^ 6=64 from rfl,gH A0 (by show _<(2:Int) ^ 63;omega)];omega
end
end Go.Sx
namespace Go.Proofs
open Go.Shelf
def Tryz.lays103_ren:Go.Shelf.Ren:=⟨fun|103=>142|210=>154|206=>82|n=>n,fun|9=>9|4=>4|24=>117|3=>3|n=>n,fun|n=>n⟩
def Tryz.lays103:Go.Proofs.Lays.n103 Tryz.prog Tryz.lays103_ren:={
 mixed:=C6
 f103:=W6 Tryz.func142
 f206:=W6 Tryz.func82
 f210:=W6 Tryz.func154
 t3:=Tryz.underlying3
 a3:=Tryz.isAgg3
 z3:=Tryz.sizeOf3
 v3:=Tryz.zeroValue3
 t4:=Tryz.underlying4
 a4:=Tryz.isAgg4
 z4:=Tryz.sizeOf4
 v4:=Tryz.zeroValue4
 t9:=Tryz.underlying9
 a9:=Tryz.isAgg9
 z9:=Tryz.sizeOf9
 v9:=Tryz.zeroValue9
 t24:=Tryz.underlying117
 a24:=Tryz.isAgg117
 z24:=Tryz.sizeOf117
 v24:=Tryz.zeroValue117 }
open Go.RowKit in
def Tryz.strings_CutPrefix(s p:ByteArray)(w:World) :
  Calls Tryz.prog 142 #[.string s,.string p] w fun e w'=>e=.returned (.tuple #[.string ⟨(Lib.trimPrefix s.data.toList p.data.toList).toArray⟩,.bool (Lib.hasPrefix s.data.toList p.data.toList)])∧w'=w:=Any.strings_CutPrefix Tryz.lays103 s p w
def Tryz.laysM171_ren:Go.Shelf.Ren:=⟨fun|171=>79|243=>111|246=>131|283=>146|284=>147|285=>148|286=>149|129=>158|317=>157|318=>159|319=>160|320=>161|337=>168|338=>169|n=>n,fun|3=>3|9=>9|2=>2|4=>4|171=>170|0=>0|53=>122|37=>35|5=>5|173=>173|212=>184|51=>24|20=>20|213=>185|46=>32|232=>198|233=>199|n=>n,fun|17=>3|18=>4|19=>5|n=>n⟩
def Tryz.laysM171:Go.Proofs.LaysM.n171 Tryz.prog Tryz.laysM171_ren:={
 mixed:=C6
 f129:=W6 Tryz.func158
 f171:=W6 Tryz.func79
 f243:=W6 Tryz.func111
 f246:=W6 Tryz.func131
 f283:=W6 Tryz.func146
 f284:=W6 Tryz.func147
 f285:=W6 Tryz.func148
 f286:=W6 Tryz.func149
 f317:=W6 Tryz.func157
 f318:=W6 Tryz.func159
 f319:=W6 Tryz.func160
 f320:=W6 Tryz.func161
 f337:=W6 Tryz.func168
 f338:=W6 Tryz.func169
 t0:=Tryz.underlying0
 a0:=Tryz.isAgg0
 z0:=Tryz.sizeOf0
 v0:=Tryz.zeroValue0
 t2:=Tryz.underlying2
 a2:=Tryz.isAgg2
 z2:=Tryz.sizeOf2
 v2:=Tryz.zeroValue2
 t3:=Tryz.underlying3
 a3:=Tryz.isAgg3
 z3:=Tryz.sizeOf3
 v3:=Tryz.zeroValue3
 t4:=Tryz.underlying4
 a4:=Tryz.isAgg4
 z4:=Tryz.sizeOf4
 v4:=Tryz.zeroValue4
 t5:=Tryz.underlying5
 a5:=Tryz.isAgg5
 z5:=Tryz.sizeOf5
 v5:=Tryz.zeroValue5
 t9:=Tryz.underlying9
 a9:=Tryz.isAgg9
 z9:=Tryz.sizeOf9
 v9:=Tryz.zeroValue9
 t20:=Tryz.underlying20
 a20:=Tryz.isAgg20
 z20:=Tryz.sizeOf20
 v20:=Tryz.zeroValue20
 t37:=Tryz.underlying35
 a37:=Tryz.isAgg35
 z37:=Tryz.sizeOf35
 v37:=Tryz.zeroValue35
 t46:=Tryz.underlying32
 a46:=Tryz.isAgg32
 z46:=Tryz.sizeOf32
 v46:=Tryz.zeroValue32
 t51:=Tryz.underlying24
 a51:=Tryz.isAgg24
 z51:=Tryz.sizeOf24
 v51:=Tryz.zeroValue24
 t53:=Tryz.underlying122
 a53:=Tryz.isAgg122
 z53:=Tryz.sizeOf122
 v53:=Tryz.zeroValue122
 t171:=Tryz.underlying170
 a171:=Tryz.isAgg170
 z171:=Tryz.sizeOf170
 v171:=Tryz.zeroValue170
 t173:=Tryz.underlying173
 a173:=Tryz.isAgg173
 z173:=Tryz.sizeOf173
 v173:=Tryz.zeroValue173
 t212:=Tryz.underlying184
 a212:=Tryz.isAgg184
 z212:=Tryz.sizeOf184
 v212:=Tryz.zeroValue184
 t213:=Tryz.underlying185
 a213:=Tryz.isAgg185
 z213:=Tryz.sizeOf185
 t232:=Tryz.underlying198
 a232:=Tryz.isAgg198
 z232:=Tryz.sizeOf198
 v232:=Tryz.zeroValue198
 t233:=Tryz.underlying199
 a233:=Tryz.isAgg199
 z233:=Tryz.sizeOf199
 v233:=Tryz.zeroValue199
 g17:=C6
 g18:=C6
 g19:=C6
 i0:=C6
 i2:=C6
 i3:=C6
 i4:=C6
 i5:=C6
 i9:=C6
 i20:=C6
 i37:=C6
 i46:=C6
 i51:=C6
 i53:=C6
 i171:=C6
 i173:=C6
 i212:=C6
 i232:=C6
 i233:=C6
 m17:=C6
 m18:=C6
 m19:=by kernel_rfl }
open Go.RowKit Go.Sort Go.Lib in
def Tryz.strconv_Itoa(n:Int)(h0 : -9223372036854775808≤n)(h1:n≤9223372036854775807)(w:World)(htab:Lib.TabIs Tryz.prog w "internal/strconv.uint64pow10" .u64 Lib.pow10Tab) :
  Calls Tryz.prog 79 #[.int .i64 n] w fun e w'=>e=.returned (.string ⟨(Lib.itoa n).toArray⟩)∧∃ k os,w'=grow (w.drewN k) os:=Any.strconv_Itoa Tryz.laysM171 n h0 h1 w htab
def Tryz.lays144_ren:Go.Shelf.Ren:=⟨fun|144=>28|143=>59|219=>85|217=>114|225=>115|224=>116|267=>117|266=>132|314=>133|n=>n,fun|9=>9|4=>4|3=>3|5=>5|46=>32|146=>120|51=>24|n=>n,fun|1=>0|n=>n⟩
def Tryz.lays144:Go.Proofs.Lays.n144 Tryz.prog Tryz.lays144_ren:={
 mixed:=C6
 f143:=W6 Tryz.func59
 f144:=W6 Tryz.func28
 f217:=W6 Tryz.func114
 f219:=W6 Tryz.func85
 f224:=W6 Tryz.func116
 f225:=W6 Tryz.func115
 f266:=W6 Tryz.func132
 f267:=W6 Tryz.func117
 f314:=W6 Tryz.func133
 t3:=Tryz.underlying3
 a3:=Tryz.isAgg3
 z3:=Tryz.sizeOf3
 v3:=Tryz.zeroValue3
 t4:=Tryz.underlying4
 a4:=Tryz.isAgg4
 z4:=Tryz.sizeOf4
 v4:=Tryz.zeroValue4
 t5:=Tryz.underlying5
 a5:=Tryz.isAgg5
 z5:=Tryz.sizeOf5
 v5:=Tryz.zeroValue5
 t9:=Tryz.underlying9
 a9:=Tryz.isAgg9
 z9:=Tryz.sizeOf9
 v9:=Tryz.zeroValue9
 t46:=Tryz.underlying32
 a46:=Tryz.isAgg32
 z46:=Tryz.sizeOf32
 v46:=Tryz.zeroValue32
 t51:=Tryz.underlying24
 a51:=Tryz.isAgg24
 z51:=Tryz.sizeOf24
 v51:=Tryz.zeroValue24
 t146:=Tryz.underlying120
 a146:=Tryz.isAgg120
 z146:=Tryz.sizeOf120
 v146:=Tryz.zeroValue120
 g1:=by kernel_rfl }
open Go.RowKit Go.Lib in
def Tryz.strings_Contains_one(s:ByteArray)(c:UInt8)(w:World) :
  Calls Tryz.prog 28 #[.string s,.string ⟨#[c]⟩] w fun e w'=>e=.returned (.bool (decide (0≤Lib.indexByte s.data.toList c)))∧w'=w:=Any.strings_Contains_one Tryz.lays144 s c w
def Tryz.lays99_ren:Go.Shelf.Ren:=⟨fun|99=>54|206=>82|n=>n,fun|9=>9|4=>4|3=>3|n=>n,fun|n=>n⟩
def Tryz.lays99:Go.Proofs.Lays.n99 Tryz.prog Tryz.lays99_ren:={
 mixed:=C6
 f99:=W6 Tryz.func54
 f206:=W6 Tryz.func82
 t3:=Tryz.underlying3
 a3:=Tryz.isAgg3
 z3:=Tryz.sizeOf3
 v3:=Tryz.zeroValue3
 t4:=Tryz.underlying4
 a4:=Tryz.isAgg4
 z4:=Tryz.sizeOf4
 v4:=Tryz.zeroValue4
 t9:=Tryz.underlying9
 a9:=Tryz.isAgg9
 z9:=Tryz.sizeOf9
 v9:=Tryz.zeroValue9 }
open Go.RowKit Go.Lib in
def Tryz.strings_HasPrefix(s p:ByteArray)(w:World) :
  Calls Tryz.prog 54 #[.string s,.string p] w fun e w'=>e=.returned (.bool (Lib.hasPrefix s.data.toList p.data.toList))∧w'=w:=Any.strings_HasPrefix Tryz.lays99 s p w
def Tryz.laysM155_ren:Go.Shelf.Ren:=⟨fun|155=>29|154=>60|138=>86|165=>55|143=>59|166=>56|197=>87|169=>58|195=>118|218=>119|240=>83|241=>84|219=>85|260=>120|276=>112|277=>113|217=>114|225=>115|224=>116|267=>117|266=>132|314=>133|n=>n,fun|9=>9|3=>3|4=>4|72=>92|0=>0|76=>96|105=>126|21=>21|5=>5|70=>90|20=>20|37=>35|75=>95|127=>125|164=>144|46=>32|119=>156|139=>159|138=>158|146=>120|51=>24|80=>99|n=>n,fun|1=>0|3=>1|4=>2|n=>n⟩
def Tryz.laysM155:Go.Proofs.LaysM.n155 Tryz.prog Tryz.laysM155_ren:={
 mixed:=C6
 f138:=W6 Tryz.func86
 f143:=W6 Tryz.func59
 f154:=W6 Tryz.func60
 f155:=W6 Tryz.func29
 f165:=W6 Tryz.func55
 f166:=W6 Tryz.func56
 f169:=W6 Tryz.func58
 f195:=W6 Tryz.func118
 f197:=W6 Tryz.func87
 f217:=W6 Tryz.func114
 f218:=W6 Tryz.func119
 f219:=W6 Tryz.func85
 f224:=W6 Tryz.func116
 f225:=W6 Tryz.func115
 f240:=W6 Tryz.func83
 f241:=W6 Tryz.func84
 f260:=W6 Tryz.func120
 f266:=W6 Tryz.func132
 f267:=W6 Tryz.func117
 f276:=W6 Tryz.func112
 f277:=W6 Tryz.func113
 f314:=W6 Tryz.func133
 t0:=Tryz.underlying0
 a0:=Tryz.isAgg0
 z0:=Tryz.sizeOf0
 v0:=Tryz.zeroValue0
 t3:=Tryz.underlying3
 a3:=Tryz.isAgg3
 z3:=Tryz.sizeOf3
 v3:=Tryz.zeroValue3
 t4:=Tryz.underlying4
 a4:=Tryz.isAgg4
 z4:=Tryz.sizeOf4
 v4:=Tryz.zeroValue4
 t5:=Tryz.underlying5
 a5:=Tryz.isAgg5
 z5:=Tryz.sizeOf5
 v5:=Tryz.zeroValue5
 t9:=Tryz.underlying9
 a9:=Tryz.isAgg9
 z9:=Tryz.sizeOf9
 v9:=Tryz.zeroValue9
 t20:=Tryz.underlying20
 a20:=Tryz.isAgg20
 z20:=Tryz.sizeOf20
 v20:=Tryz.zeroValue20
 t21:=Tryz.underlying21
 a21:=Tryz.isAgg21
 z21:=Tryz.sizeOf21
 v21:=Tryz.zeroValue21
 t37:=Tryz.underlying35
 a37:=Tryz.isAgg35
 z37:=Tryz.sizeOf35
 v37:=Tryz.zeroValue35
 t46:=Tryz.underlying32
 a46:=Tryz.isAgg32
 z46:=Tryz.sizeOf32
 v46:=Tryz.zeroValue32
 t51:=Tryz.underlying24
 a51:=Tryz.isAgg24
 z51:=Tryz.sizeOf24
 v51:=Tryz.zeroValue24
 t70:=Tryz.underlying90
 a70:=Tryz.isAgg90
 z70:=Tryz.sizeOf90
 v70:=Tryz.zeroValue90
 t72:=Tryz.underlying92
 a72:=Tryz.isAgg92
 z72:=Tryz.sizeOf92
 v72:=Tryz.zeroValue92
 t75:=Tryz.underlying95
 a75:=Tryz.isAgg95
 z75:=Tryz.sizeOf95
 v75:=Tryz.zeroValue95
 t76:=Tryz.underlying96
 a76:=Tryz.isAgg96
 z76:=Tryz.sizeOf96
 v76:=Tryz.zeroValue96
 t105:=Tryz.underlying126
 a105:=Tryz.isAgg126
 z105:=Tryz.sizeOf126
 v105:=Tryz.zeroValue126
 t119:=Tryz.underlying156
 a119:=Tryz.isAgg156
 z119:=Tryz.sizeOf156
 t127:=Tryz.underlying125
 a127:=Tryz.isAgg125
 z127:=Tryz.sizeOf125
 v127:=Tryz.zeroValue125
 t138:=Tryz.underlying158
 a138:=Tryz.isAgg158
 z138:=Tryz.sizeOf158
 v138:=Tryz.zeroValue158
 t139:=Tryz.underlying159
 a139:=Tryz.isAgg159
 z139:=Tryz.sizeOf159
 v139:=Tryz.zeroValue159
 t146:=Tryz.underlying120
 a146:=Tryz.isAgg120
 z146:=Tryz.sizeOf120
 v146:=Tryz.zeroValue120
 t164:=Tryz.underlying144
 a164:=Tryz.isAgg144
 z164:=Tryz.sizeOf144
 v164:=Tryz.zeroValue144
 g1:=C6
 g3:=C6
 g4:=C6
 t80:=Tryz.underlying99
 a80:=Tryz.isAgg99
 z80:=Tryz.sizeOf99
 v80:=Tryz.zeroValue99
 i0:=C6
 i3:=C6
 i4:=C6
 i5:=C6
 i9:=C6
 i20:=C6
 i21:=C6
 i37:=C6
 i46:=C6
 i51:=C6
 i70:=C6
 i72:=C6
 i75:=C6
 i76:=C6
 i80:=C6
 i105:=C6
 i127:=C6
 i138:=C6
 i139:=C6
 i146:=C6
 i164:=C6
 m1:=C6
 s1_3:=fun w h=>Go.Proofs.cell_of_shapedOpen_int (zero:=#[.int .i64 0]) (t:=3) h (F9 C6) C6 rfl C6 C6 Tryz.underlying3
 m3:=C6
 m4:=by kernel_rfl }
def Tryz.Builder_Extra_M155:Builder.Extra Tryz.prog Tryz.laysM155_ren:={
 sizeBuilder:=C6
 liesBuilder:=C6
 t5:=Tryz.underlying5
 a5:=Tryz.isAgg5
 z5:=Tryz.sizeOf5
 v5:=Tryz.zeroValue5
 infoByte:=C6
 cellsByte:=C6
 sizeByte:=C6
 neB5:=by decide }
open Go.RowKit Go.Lib in
def Tryz.strings_ReplaceAll_shaped(s old new:ByteArray)(w:World)(h:w.ShapedOpen Tryz.prog)(hs:s.size<4294967281)(h1:1≤old.size)(hlen:s.size+Lib.countB s old*new.size≤140737488355328) :
  Calls Tryz.prog 29 #[.string s,.string old,.string new] w fun e w' =>
   e=.returned (.string ⟨(Lib.replaceAll s.data.toList old.data.toList new.data.toList).toArray⟩)∧Below w.heap.size w w':=Any.strings_ReplaceAll_shaped Tryz.laysM155 Tryz.Builder_Extra_M155 s old new w h hs h1 hlen
end Go.Proofs
namespace Go.Proofs.YtdimocjaepnifaaGreatDoor
open Go Go.Sx Go.Proofs.Tryz
variable {d sg:Bool}{i:Int}
def gl:Nat:=6
def n0:Nat:=6
def sH:List (Nat×List Value):=[(4,[.int .u8 (0),.int .u8 (1),.int .u8 (28),.int .u8 (2),.int .u8 (29),.int .u8 (14),.int .u8 (24),.int .u8 (3),.int .u8 (30),.int .u8 (22),.int .u8 (20),.int .u8 (15),.int .u8 (25),.int .u8 (17),.int .u8 (4),.int .u8 (8),.int .u8 (31),.int .u8 (27),.int .u8 (13),.int .u8 (23),.int .u8 (21),.int .u8 (19),.int .u8 (16),.int .u8 (7),.int .u8 (26),.int .u8 (12),.int .u8 (18),.int .u8 (6),.int .u8 (11),.int .u8 (5),.int .u8 (10),.int .u8 (9)]),
 (5,[.int .u8 (0),.int .u8 (1),.int .u8 (56),.int .u8 (2),.int .u8 (57),.int .u8 (49),.int .u8 (28),.int .u8 (3),.int .u8 (61),.int .u8 (58),.int .u8 (42),.int .u8 (50),.int .u8 (38),.int .u8 (29),.int .u8 (17),.int .u8 (4),.int .u8 (62),.int .u8 (47),.int .u8 (59),.int .u8 (36),.int .u8 (45),.int .u8 (43),.int .u8 (51),.int .u8 (22),.int .u8 (53),.int .u8 (39),.int .u8 (33),.int .u8 (30),.int .u8 (24),.int .u8 (18),.int .u8 (12),.int .u8 (5),.int .u8 (63),.int .u8 (55),.int .u8 (48),.int .u8 (27),.int .u8 (60),.int .u8 (41),.int .u8 (37),.int .u8 (16),.int .u8 (46),.int .u8 (35),.int .u8 (44),.int .u8 (21),.int .u8 (52),.int .u8 (32),.int .u8 (23),.int .u8 (11),.int .u8 (54),.int .u8 (26),.int .u8 (40),.int .u8 (15),.int .u8 (34),.int .u8 (20),.int .u8 (31),.int .u8 (10),.int .u8 (25),.int .u8 (14),.int .u8 (19),.int .u8 (9),.int .u8 (13),.int .u8 (8),.int .u8 (7),.int .u8 (6)]),
 (3,[.int .u64 (1),.int .u64 (10),.int .u64 (100),.int .u64 (1000),.int .u64 (10000),.int .u64 (100000),.int .u64 (1000000),.int .u64 (10000000),.int .u64 (100000000),.int .u64 (1000000000),.int .u64 (10000000000),.int .u64 (100000000000),.int .u64 (1000000000000),.int .u64 (10000000000000),.int .u64 (100000000000000),.int .u64 (1000000000000000),.int .u64 (10000000000000000),.int .u64 (100000000000000000),.int .u64 (1000000000000000000),.int .u64 (10000000000000000000)]),
 (2,[.int .u8 (128),.int .u8 (191),.int .u8 (160),.int .u8 (191),.int .u8 (128),.int .u8 (159),.int .u8 (144),.int .u8 (191),.int .u8 (128),.int .u8 (143),.int .u8 (0),.int .u8 (0),.int .u8 (0),.int .u8 (0),.int .u8 (0),.int .u8 (0),.int .u8 (0),.int .u8 (0),.int .u8 (0),.int .u8 (0),.int .u8 (0),.int .u8 (0),.int .u8 (0),.int .u8 (0),.int .u8 (0),.int .u8 (0),.int .u8 (0),.int .u8 (0),.int .u8 (0),.int .u8 (0),.int .u8 (0),.int .u8 (0)]),
 (1,[.int .u8 (240),.int .u8 (240),.int .u8 (240),.int .u8 (240),.int .u8 (240),.int .u8 (240),.int .u8 (240),.int .u8 (240),.int .u8 (240),.int .u8 (240),.int .u8 (240),.int .u8 (240),.int .u8 (240),.int .u8 (240),.int .u8 (240),.int .u8 (240),.int .u8 (240),.int .u8 (240),.int .u8 (240),.int .u8 (240),.int .u8 (240),.int .u8 (240),.int .u8 (240),.int .u8 (240),.int .u8 (240),.int .u8 (240),.int .u8 (240),.int .u8 (240),.int .u8 (240),.int .u8 (240),.int .u8 (240),.int .u8 (240),.int .u8 (240),.int .u8 (240),.int .u8 (240),.int .u8 (240),.int .u8 (240),.int .u8 (240),.int .u8 (240),.int .u8 (240),.int .u8 (240),.int .u8 (240),.int .u8 (240),.int .u8 (240),.int .u8 (240),.int .u8 (240),.int .u8 (240),.int .u8 (240),.int .u8 (240),.int .u8 (240),.int .u8 (240),.int .u8 (240),.int .u8 (240),.int .u8 (240),.int .u8 (240),.int .u8 (240),.int .u8 (240),.int .u8 (240),.int .u8 (240),.int .u8 (240),.int .u8 (240),.int .u8 (240),.int .u8 (240),.int .u8 (240),.int .u8 (240),.int .u8 (240),.int .u8 (240),.int .u8 (240),.int .u8 (240),.int .u8 (240),.int .u8 (240),.int .u8 (240),.int .u8 (240),.int .u8 (240),.int .u8 (240),.int .u8 (240),.int .u8 (240),.int .u8 (240),.int .u8 (240),.int .u8 (240),.int .u8 (240),.int .u8 (240),.int .u8 (240),.int .u8 (240),.int .u8 (240),.int .u8 (240),.int .u8 (240),.int .u8 (240),.int .u8 (240),.int .u8 (240),.int .u8 (240),.int .u8 (240),.int .u8 (240),.int .u8 (240),.int .u8 (240),.int .u8 (240),.int .u8 (240),.int .u8 (240),.int .u8 (240),.int .u8 (240),.int .u8 (240),.int .u8 (240),.int .u8 (240),.int .u8 (240),.int .u8 (240),.int .u8 (240),.int .u8 (240),.int .u8 (240),.int .u8 (240),.int .u8 (240),.int .u8 (240),.int .u8 (240),.int .u8 (240),.int .u8 (240),.int .u8 (240),.int .u8 (240),.int .u8 (240),.int .u8 (240),.int .u8 (240),.int .u8 (240),.int .u8 (240),.int .u8 (240),.int .u8 (240),.int .u8 (240),.int .u8 (240),.int .u8 (240),.int .u8 (240),.int .u8 (240),.int .u8 (241),.int .u8 (241),.int .u8 (241),.int .u8 (241),.int .u8 (241),.int .u8 (241),.int .u8 (241),.int .u8 (241),.int .u8 (241),.int .u8 (241),.int .u8 (241),.int .u8 (241),.int .u8 (241),.int .u8 (241),.int .u8 (241),.int .u8 (241),.int .u8 (241),.int .u8 (241),.int .u8 (241),.int .u8 (241),.int .u8 (241),.int .u8 (241),.int .u8 (241),.int .u8 (241),.int .u8 (241),.int .u8 (241),.int .u8 (241),.int .u8 (241),.int .u8 (241),.int .u8 (241),.int .u8 (241),.int .u8 (241),.int .u8 (241),.int .u8 (241),.int .u8 (241),.int .u8 (241),.int .u8 (241),.int .u8 (241),.int .u8 (241),.int .u8 (241),.int .u8 (241),.int .u8 (241),.int .u8 (241),.int .u8 (241),.int .u8 (241),.int .u8 (241),.int .u8 (241),.int .u8 (241),.int .u8 (241),.int .u8 (241),.int .u8 (241),.int .u8 (241),.int .u8 (241),.int .u8 (241),.int .u8 (241),.int .u8 (241),.int .u8 (241),.int .u8 (241),.int .u8 (241),.int .u8 (241),.int .u8 (241),.int .u8 (241),.int .u8 (241),.int .u8 (241),.int .u8 (241),.int .u8 (241),.int .u8 (2),.int .u8 (2),.int .u8 (2),.int .u8 (2),.int .u8 (2),.int .u8 (2),.int .u8 (2),.int .u8 (2),.int .u8 (2),.int .u8 (2),.int .u8 (2),.int .u8 (2),.int .u8 (2),.int .u8 (2),.int .u8 (2),.int .u8 (2),.int .u8 (2),.int .u8 (2),.int .u8 (2),.int .u8 (2),.int .u8 (2),.int .u8 (2),.int .u8 (2),.int .u8 (2),.int .u8 (2),.int .u8 (2),.int .u8 (2),.int .u8 (2),.int .u8 (2),.int .u8 (2),.int .u8 (19),.int .u8 (3),.int .u8 (3),.int .u8 (3),.int .u8 (3),.int .u8 (3),.int .u8 (3),.int .u8 (3),.int .u8 (3),.int .u8 (3),.int .u8 (3),.int .u8 (3),.int .u8 (3),.int .u8 (35),.int .u8 (3),.int .u8 (3),.int .u8 (52),.int .u8 (4),.int .u8 (4),.int .u8 (4),.int .u8 (68),.int .u8 (241),.int .u8 (241),.int .u8 (241),.int .u8 (241),.int .u8 (241),.int .u8 (241),.int .u8 (241),.int .u8 (241),.int .u8 (241),.int .u8 (241),.int .u8 (241)])]
def H0:Hp AB:=mkH sH
def A7p:prog.follows .mixedOrders=true:=C6
def A7o:OD prog:=by
 have h:(prog.funcs.toList.all fun fn=>!(fn.name == "runtime.NumGoroutine"))=true:=C6;intro f fn hf;have h1:=D7.1 h fn (Array.mem_def.1 (Array.mem_of_getElem? hf))
 simpa using h1
def B4D:List (FuncId×EK):=[(132,.indexByteString),(119,.countString),(112,.noEscape),(113,.makeNoZero 5)]
def B6R:∀ p ∈ B4D,FW prog p.1 p.2:=by
 intro p hp;unfold B4D at hp;rcases B6.1 hp with rfl|hp
 ·exact⟨⟨_,rfl,by kernel_rfl,by kernel_rfl,by kernel_rfl,.inr (.inl ⟨rfl,by kernel_rfl⟩)⟩⟩
 rcases B6.1 hp with rfl|hp
 ·exact⟨⟨_,rfl,by kernel_rfl,by kernel_rfl,by kernel_rfl,.inr (.inr (.inl ⟨rfl,by kernel_rfl⟩))⟩⟩
 rcases B6.1 hp with rfl|hp
 ·exact⟨⟨_,rfl,by kernel_rfl,by kernel_rfl,by kernel_rfl,.inl ⟨rfl,by kernel_rfl⟩⟩⟩
 rcases B6.1 hp with rfl|hp
 ·exact⟨⟨_,rfl,by kernel_rfl,by kernel_rfl,by kernel_rfl,.inr (.inr (.inr ⟨_,_,_,rfl,rfl,by kernel_rfl,by kernel_rfl⟩))⟩⟩
 cases hp
noncomputable abbrev cx(l:List (FuncId×FnC))(lps:List LpE):Cx:=⟨prog,B4D,gl,A1o l,lpT lps⟩
def cxg{G:Nat→Option Obj}{l:List (FuncId×FnC)}{lps:List LpE}(h:bV prog G gl l)(k:g9 prog G gl lps):CxG (cx l lps) G:=A8g A7p A7o B6R h k
abbrev i6:=Int×Int×Int×Int×Int×Int×Int×List UInt8
abbrev D6:=Option (List Int)
abbrev D1:=List UInt8
abbrev J4(G:Nat→Option Obj):Prop:=x6 Tryz.prog G gl H0 n0
abbrev M5:={L:List (FuncId×FnC) // ∀ {G:Nat→Option Obj},J4 G→bV Tryz.prog G gl L}
def L0:List (FuncId×FnC):=[]
def B3C{G:Nat→Option Obj}(hst:x6 prog G gl H0 n0):bV prog G gl L0:=.nil
def rB:Rw Int:=r1 (cG .u8)
def rN:Rw Int:=r1 (cG .i64)
def okU(c:Int):Prop:=0≤c∧c≤1114111∧¬(55296≤c∧c≤57343)
instance(c:Int):Decidable (okU c):=by unfold okU;infer_instance
def lP(c:Int):Int:=if c=32 then 0 else if c=105∨c=109 then -1 else if 97≤c∧c≤122 then c-96 else if 92≤c∧c≤95 then c-64 else -1
def chP(c:Int):Prop:=okU c∧32≤c∧¬(127≤c∧c≤159)
instance(c:Int):Decidable (chP c):=by unfold chP;infer_instance
def fH(c m:Int):Prop:=(chP c∧(m=0∨(m=2∧c≠91∧c≠79)∨(0≤lP c∧(m=4∨m=6))))∨(1114113≤c∧c≤1114134∧0≤m∧m≤7)∨((c=1114135∨c=1114137)∧(m=0∨m=2))∨(c=1114136∧(m=0∨m=1∨m=2))∨(c=1114138∧m=0)
instance(c m:Int):Decidable (fH c m):=by unfold fH;infer_instance
def l2{a b:Int}{c:Bool}(h:a=b)(k:c=d):[U.int .u8 a,U.bool c]=[U.int .u8 b,U.bool d]:=by rw[h,k]
def l1{c:Bool}(k:c=d):[U.bool c]=[U.bool d]:=by rw[k]
def l0{c d:Int}(k:c=d):[U.int .i64 c]=[U.int .i64 d]:=by rw[k]
def zL:List U→Option (Nat×List U)
 | [.int .i64 c]=>some (0,[.int .u8 (if 0≤lP c then lP c else 0),.bool (decide (0≤lP c))])
 | _=>none
def A0j(c:Int):zL [.int .i64 c]=some (0,[.int .u8 (if 0≤lP c then lP c else 0),.bool (decide (0≤lP c))]):=rfl
def A5t(n:Nat):Tr:=.lt 3 (.bin .and) [h3 0,jI 31]<|.lt 4 (.conv .u8) [h3 n]<|.ret [h (n+1) 4,.bool true]
def X0(a0:Nat)(a1:Nat)(a2:Int)(k0 k1:Tr):Tr:=aQ [h3 a0,jI a2]<|.br a1 k0 k1
def J9(a0:Nat)(a1:Nat)(a2:Int)(k0 k1:Tr):Tr:=aH [h3 a0,jI a2]<|.br a1 k0 k1
def A5s(n:Nat):Tr:=J9 0 n 92 (X0 0 (n+1) 95 (A5t (n+2)) (.ret [.int .u8 (0),.bool false])) (.ret [.int .u8 (0),.bool false])
def G3(a0:Nat)(a1:Nat)(a2:Int)(k0 k1:Tr):Tr:=aE [h3 a0,jI a2]<|.br a1 k0 k1
def B2o:Tr:=G3 0 1 32 (.ret [.int .u8 (0),.bool true]) (G3 0 2 105 (.ret [.int .u8 (0),.bool false]) (G3 0 3 109 (.ret [.int .u8 (0),.bool false]) (J9 0 4 97 (X0 0 5 122 (A5t 6) (A5s 6)) (A5s 5))))
def A5u{G}(hst:J4 G):K0 prog G 66 [.s 3] zL [.s 4,.s 8]:=by
 refine D3 (C:=cx L0 []) (d:=60) B2o (cxg (B3C hst) .nil) hst ⟨f66,_,func66,rfl⟩ C6 C6 ?_;intro us outs hs;unfold zL at hs;split at hs
 ·skip;rename_i c;cases hs;unfold B2o;refine w0 (.cons 0 _ (.nil)) ?_;repeat (first|(refine w7 [.int .u8 _,.bool _] ?_;rotate_left)|refine w4 (fun g=>?_) fun g=>?_|refine p8 ?_|refine Y2 ?_|refine T4 ?_|refine bN ?_|refine iY ?_|refine w1 (.bin .and) (e:=eJ 5 32 C7 C7 C7) (k':=?_))
  all_goals
   refine l2 ?_ ?_
   ·(unfold lP;(repeat' split)<;>omega)
   ·symm;first|exact D2 (by(unfold lP;(repeat' split)<;>omega))|exact D0 (by(unfold lP;(repeat' split)<;>omega))
 ·cases hs
noncomputable def B9Y:M5:=⟨_,fun hst=>.cons (A5u hst) (B3C hst)⟩
def DB:List U→Option (Nat×List U)
 | [.int .i64 c]=>some (0,[.int .i64 (lP c)])
 | _=>none
def YR(c:Int):DB [.int .i64 c]=some (0,[.int .i64 (lP c)]):=rfl
def K6(a0:Int):Tr:=.ret [jI a0]
def LS(n:Nat):Tr:=J9 0 n 92 (X0 0 (n+1) 95 (aS [h3 0,jI 92]<|aA [h3 (n+2),jI 28]<|.ret [h3 (n+3)]) (K6 (-1))) (K6 (-1))
def gV(a0:Nat)(a1:Nat)(a2:Int)(k0 k1:Tr):Tr:=aN [h3 a0,jI a2]<|.br a1 k0 k1
def B04:Tr:=G3 0 1 32 (K6 0) (J9 0 2 97 (X0 0 3 122 (gV 0 4 105 (gV 0 5 109 (aS [h3 0,jI 97]<|aA [h3 6,jI 1]<|.ret [h3 7]) (LS 6)) (LS 5)) (LS 4)) (LS 3))
def B05{G}(hst:J4 G):K0 prog G 64 [.s 3] DB [.s 3]:=by
 refine D3 (d:=60) B04 (cxg (B9Y.2 hst) .nil) hst ⟨f64,_,func64,rfl⟩ C6 C6 ?_;intro us outs hs;unfold DB at hs;split at hs
 ·skip;rename_i c;cases hs;unfold B04;refine w0 (.cons 0 _ (.nil)) ?_;repeat (first|(refine w7 [.int .i64 _] ?_;rotate_left)|refine w4 (fun g=>?_) fun g=>?_|refine oF ?_|refine gT ?_|refine V5 ?_|refine O7 ?_|refine bN ?_|refine iY ?_|refine tZ ?_|refine T4 ?_)
  all_goals
   refine l0 ?_
   (unfold lP;(repeat' split)<;>omega)
 ·cases hs
def A0k(c:Int):(c=32∧lP c=0)∨((c=105∨c=109)∧lP c = -1)∨(97≤c∧c≤122∧c≠105∧c≠109∧lP c=c-96)∨(92≤c∧c≤95∧lP c=c-64)∨(c≠32∧¬(97≤c∧c≤122)∧¬(92≤c∧c≤95)∧lP c = -1):=by
 unfold lP
 (repeat' split)<;>omega
noncomputable def B78:M5:=⟨_,fun hst=>(.cons (A5u hst) .nil)⟩
def OL:List U→Option (Nat×List U)
 | [.int .i64 c,.int .i64 m]=>if -9223372036854775808≤m∧m≤9223372036854775807 then some (0,[.bool (decide (fH c m))])else none
 | _=>none
def A6o(c:Int)(m:Int)(hc : -9223372036854775808≤m∧m≤9223372036854775807):OL [.int .i64 c,.int .i64 m]=some (0,[.bool (decide (fH c m))]):=A4 hc
def gU(a0:Nat)(a1:Nat)(a2:Int):Tr:=aE [h3 a0,jI a2]<|.ret [h a1 8]
def J8:Tr:=.ret [.bool false]
def dN:Tr:=.ret [.bool true]
def cK(a0:Nat)(a1:Nat)(a2:Int)(k0 k1:Tr):Tr:=.lt 3 (.bin .and) [h3 a0,jI a2]<|aN [h3 a1,jI 0]<|.br (a1+1) k0 k1
def A14(n:Nat):Tr:=cK 1 n 4 (.fn zL [h3 0] 2<|.br (n+3) (.lt 3 (.bin .andNot) [h3 1,jI 6]<|gU (n+4) (n+5) 0) (J8)) (G3 1 (n+2) 0 dN (G3 1 (n+3) 2 (gV 0 (n+4) 91 (aN [h3 0,jI 79]<|.ret [h (n+5) 8]) J8) J8))
def UD(n:Nat):Tr:=G3 1 n 2 dN (gU 1 (n+1) 0)
def BW(n:Nat):Tr:=G3 0 n 1114136 (G3 1 (n+1) 1 dN (UD (n+2))) (G3 0 (n+1) 1114135 (UD (n+2)) (G3 0 (n+2) 1114137 (UD (n+3)) (G3 0 (n+3) 1114138 (gU 1 (n+4) 0) (J9 0 (n+4) 1114113 (X0 0 (n+5) 1114134 (J9 1 (n+6) 0 (aQ [h3 1,jI 7]<|.ret [h (n+7) 8]) J8) J8) J8))))
def P1(a0:Nat)(a1:Nat)(k0 k1:Tr):Tr:=aX [h a0 8]<|.br a1 k0 k1
def A8_:Tr:=J9 0 2 0 (X0 0 3 1114111 (.lt 3 (.bin .shr) [h3 0,.int .u64 (11)]<|gV 4 5 27 (J9 0 6 32 (J9 0 7 127 (aQ [h3 0,jI 159]<|P1 8 9 (A14 10) (BW 10)) (A14 8)) (BW 7)) (BW 6)) (BW 4)) (BW 3)
def B4u{G}(hst:J4 G):K0 prog G 36 [.s 3,.s 3] OL [.s 8]:=by
 refine D3 (d:=60) A8_ (cxg (B78.2 hst) .nil) hst ⟨f36,_,func36,rfl⟩ C6 C6 ?_;intro us outs hs;unfold OL at hs;split at hs
 ·skip;rename_i c m;split at hs
  ·rename_i hc;cases hs;unfold A8_;refine w0 (.cons 1 _ (.cons 0 _ (.nil))) ?_;repeat (first|refine w4 (fun g=>?_) fun g=>?_|refine w4B (fun g=>?_) fun g=>?_|(refine w7 [.bool _] ?_;rotate_left)|refine T4 ?_|refine bN ?_|refine iY ?_|refine tZ ?_|refine w1 (.bin .and) (e:=BM _) (k':=?_)|refine w32 zL (e:=A0j _) (k':=?_)|refine w1 (.bin .andNot) (e:=B4Y _) (k':=?_)|refine w1 (.bin .shr) (e:=mV 2048 C7 C7) (k':=?_)|refine t6 ?_)
   all_goals
    have z0:=A6P m hc.1 hc.2;have z1:=A0k c;refine l1 ?_;first|(refine decide_eq_decide.2 ?_;unfold fH chP okU;omega)|(symm;first|exact D2 (by unfold fH chP okU at *;omega)|exact D0 (by unfold fH chP okU at *;omega))
  ·cases hs
 ·cases hs
noncomputable def B8f:M5:=⟨_,fun hst=>(.cons (B05 hst) .nil)⟩
def CY:List U→Option (Nat×List U)
 | [.int .i64 c,.int .i64 m]=>if -9223372036854775808≤m∧m≤9223372036854775807 then some (0,[.bool (decide (fH c m))])else none
 | _=>none
def YL(c:Int)(m:Int)(hc : -9223372036854775808≤m∧m≤9223372036854775807):CY [.int .i64 c,.int .i64 m]=some (0,[.bool (decide (fH c m))]):=A4 hc
def A3j(n:Nat):Tr:=G3 1 n 0 dN (G3 1 (n+1) 2 (gV 0 (n+2) 91 (aN [h3 0,jI 79]<|.ret [h (n+3) 8]) J8) (.fn DB [h3 0] 1<|J9 (n+2) (n+3) 0 (G3 1 (n+4) 4 dN (gU 1 (n+5) 6)) J8))
def A3i(n:Nat):Tr:=G3 1 n 0 dN (gU 1 (n+1) 2)
def A3h(n:Nat):Tr:=G3 0 n 1114135 (A3i (n+1)) (G3 0 (n+1) 1114137 (A3i (n+2)) (G3 0 (n+2) 1114136 (G3 1 (n+3) 0 dN (G3 1 (n+4) 1 dN (gU 1 (n+5) 2))) (G3 0 (n+3) 1114138 (gU 1 (n+4) 0) J8)))
def CX(n:Nat):Tr:=J9 0 n 1114113 (X0 0 (n+1) 1114134 (J9 1 (n+2) 0 (aQ [h3 1,jI 7]<|.ret [h (n+3) 8]) J8) (A3h (n+2))) (A3h (n+1))
def A3g(n:Nat):Tr:=J9 0 n 32 (J9 0 (n+1) 127 (aQ [h3 0,jI 159]<|P1 (n+2) (n+3) (A3j (n+4)) (CX (n+4))) (A3j (n+2))) (CX (n+1))
def cL(a0:Nat)(a1:Nat)(a2:Int)(k0 k1:Tr):Tr:=aG [h3 a0,jI a2]<|.br a1 k0 k1
def O4(a0:Nat)(a1:Nat)(a2:Int)(k0 k1:Tr):Tr:=aL [h3 a0,jI a2]<|.br a1 k0 k1
def B0b:Tr:=J9 0 2 0 (X0 0 3 1114111 (O4 0 4 55296 (A3g 5) (cL 0 5 57343 (A3g 6) (CX 6))) (CX 4)) (CX 3)
def YM{G}(hst:J4 G):K0 prog G 34 [.s 3,.s 3] CY [.s 8]:=by
 refine D3 (d:=60) B0b (cxg (B8f.2 hst) .nil) hst ⟨f34,_,func34,rfl⟩ C6 C6 ?_;intro us outs hs;unfold CY at hs;split at hs
 ·skip;rename_i c m;split at hs
  ·rename_i hc;cases hs;unfold B0b;refine w0 (.cons 1 _ (.cons 0 _ (.nil))) ?_;repeat (first|refine T4 ?_|(refine w7 [.bool _] ?_;rotate_left)|refine w4 (fun g=>?_) fun g=>?_|refine bN ?_|refine iY ?_|refine tZ ?_|refine w31 DB (e:=YR _) (k':=?_)|refine t6 ?_|refine X7 ?_|refine cM ?_)
   all_goals
    have z0:=A6P m hc.1 hc.2;have z1:=A0k c;refine l1 ?_;first|(refine decide_eq_decide.2 ?_;unfold fH chP okU;omega)|(symm;first|exact D2 (by unfold fH chP okU at *;omega)|exact D0 (by unfold fH chP okU at *;omega))
  ·cases hs
 ·cases hs
def msP(m w b r cl:Int):Prop:=0≤w∧w≤3∧0≤b∧b≤3∧(w=0→b≤2)∧(w=3→b≤1)∧0≤m∧m≤7∧0≤r∧r≤39∧0≤cl∧cl≤79
instance(m w b r cl:Int):Decidable (msP m w b r cl):=by unfold msP;infer_instance
def ZN(m w b r cl:Int):msP m w b r cl↔(0≤b∧0≤m∧m≤7∧0≤r∧r≤39∧0≤cl∧cl≤79)∧((w=0∧b≤2)∨(w=1∧b≤3)∨(w=2∧b≤3)∨(w=3∧b≤1)):=by
 unfold msP;omega
def A4Z(w:Int):(w=0∧([2,3,3,1]:List Int).getD w.toNat 0=2)∨(w=1∧([2,3,3,1]:List Int).getD w.toNat 0=3)∨(w=2∧([2,3,3,1]:List Int).getD w.toNat 0=3)∨(w=3∧([2,3,3,1]:List Int).getD w.toNat 0=1)∨w<0∨3<w:=by
 by_cases h:0≤w∧w≤3
 ·have:w=0∨w=1∨w=2∨w=3:=A0;rcases this with rfl|rfl|rfl|rfl<;>decide
 ·omega
noncomputable def B76:M5:=⟨_,fun hst=>.nil⟩
def OK:List U→Option (Nat×List U)
 | [.int .i64 k,.int .i64 c,.int .i64 m,.int .i64 w,.int .i64 b,.int .i64 r,.int .i64 cl,.str t]=>some (0,[.bool (decide (msP m w b r cl))])
 | _=>none
def A6n(k:Int)(c:Int)(m:Int)(w:Int)(b:Int)(r:Int)(cl:Int)(t:D1):OK [.int .i64 k,.int .i64 c,.int .i64 m,.int .i64 w,.int .i64 b,.int .i64 r,.int .i64 cl,.str t]=some (0,[.bool (decide (msP m w b r cl))]):=rfl
def S4(a0:Nat)(k0:Tr):Tr:=.br a0 k0 .no
def A87:Tr:=J9 3 8 0 (X0 3 9 3 (aI [h3 3,jI 4]<|S4 10 (.lt 3 (.sel) [h3 3,jI 2,jI 3,jI 3,jI 1]<|J9 4 12 0 (aQ [h3 4,h3 11]<|.br 13 (J9 2 14 0 (X0 2 15 7 (J9 5 16 0 (X0 5 17 39 (J9 6 18 0 (aQ [h3 6,jI 79]<|.ret [h 19 8]) J8) J8) J8) J8) J8) (J8)) J8)) J8) J8
def B4s{G}(hst:J4 G):K0 prog G 37 [.a [3,3,3,3,3,3,3,9]] OK [.s 8]:=by
 refine D3 (d:=60) A87 (cxg (B76.2 hst) .nil) hst ⟨f37,_,func37,rfl⟩ C6 C6 ?_;intro us outs hs;unfold OK at hs;split at hs
 ·skip;rename_i k c m w b r cl t;cases hs;unfold A87;refine w0 (.cons 7 _ (.cons 6 _ (.cons 5 _ (.cons 4 _ (.cons 3 _ (.cons 2 _ (.cons 1 _ (.cons 0 _ (.nil))))))))) ?_;repeat (first|refine w4 (fun g=>?_) fun g=>?_|(refine w7 [.bool _] ?_;rotate_left)|refine bN ?_|refine iY ?_|refine A2O ?_|refine w1 (.sel) (e:=rO [2,3,3,1] A0 (by show _<((4:Nat):Int);omega)) (k':=?_)|(refine w8 ?_;(have z0:=A4Z w;omega)))
  all_goals
   have z1:=ZN m w b r cl;have z0:=A4Z w;refine l1 ?_;first|(refine decide_eq_decide.2 ⟨fun h=>z1.2 ?_,fun h=>?_⟩;omega;(have:=z1.1 h;omega))|(symm;first|exact D2 (z1.2 A0)|exact D0 (fun h=>by have:=z1.1 h;omega)|(exfalso;omega))
 ·cases hs
noncomputable def B8c:M5:=⟨_,fun hst=>.nil⟩
def PZ:List U→Option (Nat×List U)
 | [.int .i64 k,.int .i64 c,.int .i64 m,.int .i64 w,.int .i64 b,.int .i64 r,.int .i64 cl,.str t]=>some (0,[.bool (decide (msP m w b r cl))])
 | _=>none
def A7I(k:Int)(c:Int)(m:Int)(w:Int)(b:Int)(r:Int)(cl:Int)(t:D1):PZ [.int .i64 k,.int .i64 c,.int .i64 m,.int .i64 w,.int .i64 b,.int .i64 r,.int .i64 cl,.str t]=some (0,[.bool (decide (msP m w b r cl))]):=rfl
def VK(n:Nat):Tr:=.br 13 (J9 2 n 0 (X0 2 (n+1) 7 (J9 5 (n+2) 0 (X0 5 (n+3) 39 (J9 6 (n+4) 0 (aQ [h3 6,jI 79]<|.ret [h (n+5) 8]) J8) J8) J8) J8) J8) (J8)
def A3c(n:Nat):Tr:=J9 3 n 0 (X0 3 (n+1) 3 (J9 4 (n+2) 0 (aQ [h3 4,jI 1]<|VK (n+4)) J8) J8) J8
def B0X:Tr:=G3 3 8 0 (G3 3 9 3 (A3c 10) (J9 3 10 0 (X0 3 11 3 (J9 4 12 0 (aQ [h3 4,jI 2]<|VK 14) J8) J8) J8)) (G3 3 9 3 (A3c 10) (J9 3 10 0 (X0 3 11 3 (J9 4 12 0 (aQ [h3 4,jI 3]<|VK 14) J8) J8) J8))
def B0Y{G}(hst:J4 G):K0 prog G 61 [.a [3,3,3,3,3,3,3,9]] PZ [.s 8]:=by
 refine D3 (d:=60) B0X (cxg (B8c.2 hst) .nil) hst ⟨f61,_,func61,rfl⟩ C6 C6 ?_;intro us outs hs;unfold PZ at hs;split at hs
 ·skip;rename_i k c m w b r cl t;cases hs;unfold B0X;refine w0 (.cons 7 _ (.cons 6 _ (.cons 5 _ (.cons 4 _ (.cons 3 _ (.cons 2 _ (.cons 1 _ (.cons 0 _ (.nil))))))))) ?_;repeat (first|(refine w7 [.bool _] ?_;rotate_left)|refine w4 (fun g=>?_) fun g=>?_|refine bN ?_|refine iY ?_|refine T4 ?_)
  all_goals
   have z1:=ZN m w b r cl;have z0:=A4Z w;refine l1 ?_;first|(refine decide_eq_decide.2 ⟨fun h=>z1.2 ?_,fun h=>?_⟩;omega;(have:=z1.1 h;omega))|(symm;first|exact D2 (z1.2 A0)|exact D0 (fun h=>by have:=z1.1 h;omega)|(exfalso;omega))
 ·cases hs
def SZ:List U→Option (Nat×List U)
 | [.str s,.str u]=>if u=[27]then some (0,[.bool (decide (0≤Lib.indexByte s 27))])else none
 | _=>none
def A8h(s:D1)(u:D1)(hc:u=[27]):SZ [.str s,.str u]=some (0,[.bool (decide (0≤Lib.indexByte s 27))]):=A4 hc
def B7k{G}(hst:J4 G):K0 prog G 28 [.s 9,.s 9] SZ [.s 8]:=by
 intro us outs w vs R hsh hs hG hR;unfold SZ at hs;split at hs
 ·skip;rename_i s u;split at hs
  ·rename_i hc;cases hs;have hv:=y4 (vs2:=[.string ⟨⟨s⟩⟩,.string ⟨⟨u⟩⟩]) hsh rfl;subst hv;refine wF (vr:=[.bool (decide (0≤Lib.indexByte s 27))]) func28 rfl C6 rfl ?_;subst hc;exact(Tryz.strings_Contains_one ⟨⟨s⟩⟩ 27 w).mono fun e w' ⟨h1,h2⟩=>⟨h1,by subst h2;exact RowKit.Below.refl _ _⟩
  ·cases hs
 ·cases hs
def bU(b:Bool):Option Unit:=if b then some ()else none
def dB{b:Bool}{u:Unit}(h:bU b=some u):b=true:=by cases b<;>first|rfl|cases h
def dC{b:Bool}(h:bU b=none):b=false:=by cases b<;>first|rfl|cases h
def isE(x:UInt8):Bool:=decide (x=27)
def A8S{l:D1}(h:(l.length:Int)≤i):(l.drop i.toNat).any isE=false:=by rw[n8 l h];rfl
def B2a{x:UInt8}(h:((x.toNat:Nat):Int)=27):x=27:=by
 apply UInt8.toNat_inj.1;show x.toNat=27;omega
def MW(l:D1)(n:Nat):l.getD n default=l.getD n 0:=rfl
def B7T{l:D1}(h0:0≤i)(h1:i<(l.length:Int))(h2:(((l.getD i.toNat 0).toNat:Nat):Int)=27):(l.drop i.toNat).any isE=true:=by
 rw[R4 l h0 h1,bJ,MW,B2a h2];rfl
def B7U{l:D1}(h0:0≤i)(h1:i<(l.length:Int))(h2:¬(((l.getD i.toNat 0).toNat:Nat):Int)=27):(l.drop i.toNat).any isE=(l.drop (i+1).toNat).any isE:=by
 rw[R4 l h0 h1,bJ,MW];have:isE (l.getD i.toNat 0)=false:=D0 fun h=>h2 (by rw[h];rfl)
 rw[this,R7]
noncomputable def B8j:M5:=⟨_,fun hst=>(.cons (YM hst) (.cons (B0Y hst) .nil))⟩
def CZ:List U→Option (Nat×List U)
 | [.int .i64 i,.int .i64 k,.int .i64 c,.int .i64 m,.int .i64 w,.int .i64 b,.int .i64 r,.int .i64 cl,.str t]=>if 0≤i∧i≤(t.length:Int)∧(t.length:Int)≤140737488351232 then Z4 (bU ((t.drop i.toNat).any isE)) [.int .i64 k,.int .i64 c,.int .i64 m,.int .i64 w,.int .i64 b,.int .i64 r,.int .i64 cl,.str t] (fun _=>[])else none
 | _=>none
def uX(i:Int)(k:Int)(c:Int)(m:Int)(w:Int)(b:Int)(r:Int)(cl:Int)(t:D1)(hc:0≤i∧i≤(t.length:Int)∧(t.length:Int)≤140737488351232):CZ [.int .i64 i,.int .i64 k,.int .i64 c,.int .i64 m,.int .i64 w,.int .i64 b,.int .i64 r,.int .i64 cl,.str t]=Z4 (bU ((t.drop i.toNat).any isE)) [.int .i64 k,.int .i64 c,.int .i64 m,.int .i64 w,.int .i64 b,.int .i64 r,.int .i64 cl,.str t] (fun _=>[]):=A4 hc
def B0l:Q6:=⟨[(1,.pointer (some ⟨6,0,none⟩)),(3,h 0 3)],[(6,.cells 23 [h 1 3,h 2 3,h 3 3,h 4 3,h 5 3,h 6 3,h 7 3,h 8 9])],9,[⟨.exit 1,[(1,.pointer (some ⟨6,0,none⟩))],[(6,.cells 23 [h 0 3,h 1 3,h 2 3,h 3 3,h 4 3,h 5 3,h 6 3,h 7 9])],8⟩,⟨.ret,[(2,.bool false)],[],0⟩]⟩
noncomputable def A3n:Code:=(f32.body).getD .skip
noncomputable def B0g:Code:=match H5 [true,false,true,false,true,true,true,true,true,false,false,true,false] A3n with|some (.loop x)=>x|_=>.skip
def B0k:f32.body=some A3n:=rfl
def B0i:H5 [true,false,true,false,true,true,true,true,true,false,false,true,false] A3n=some (.loop B0g):=C6
def fV(a0:Nat)(a1:Nat)(k0 k1:Tr):Tr:=aE [h a0 4,.int .u8 (27)]<|.br a1 k0 k1
def bL(a0:Nat)(a1:Nat)(a2:Nat)(k0 k1:Tr):Tr:=aL [h3 a0,h3 a1]<|.br a2 k0 k1
def B0h:Tr:=aD [h 8 9]<|bL 0 9 10 (.lt 4 (.idx) [h 8 9,h3 0]<|fV 11 12 (K6 1) (aA [h3 0,jI 1]<|.ret [jI (-1),h3 13,h3 1,h3 2,h3 3,h3 4,h3 5,h3 6,h3 7,h 8 9])) (.ret [jI 0,h3 1,h3 2,h3 3,h3 4,h3 5,h3 6,h3 7,h 8 9])
def B0j:List U→Nat
 | [.int .i64 i,.int .i64 k,.int .i64 c,.int .i64 m,.int .i64 w,.int .i64 b,.int .i64 r,.int .i64 cl,.str t]=>((t.length:Int)-i).toNat
 | _=>0
def A3m(i:Int)(k:Int)(c:Int)(m:Int)(w:Int)(b:Int)(r:Int)(cl:Int)(t:D1):B0j [.int .i64 i,.int .i64 k,.int .i64 c,.int .i64 m,.int .i64 w,.int .i64 b,.int .i64 r,.int .i64 cl,.str t]=((t.length:Int)-i).toNat:=rfl
def B5n{G}(hst:J4 G):∀ (E:Nat→U) (base:Nat),@U6 ⟨E,G⟩ prog base gl f32.ntmps B0g (O9 prog gl n0 7 B0l CZ):=by
 refine V9 (dep:=60) (f:=32) (n0:=n0) (nB:=7) (H0:=H0) B0j B0h (cxg (B8j.2 hst) .nil) hst func32 B0k B0i C6 C6 C6 ?_;intro us d outs hs;have hs0:=hs;unfold CZ at hs;split at hs
 ·skip;rename_i i k c m w b r cl t;split at hs
  ·rename_i hc;clear hs hs0;refine⟨rfl,?_⟩;unfold B0h;refine w0 (.cons 8 _ (.cons 7 _ (.cons 6 _ (.cons 5 _ (.cons 4 _ (.cons 3 _ (.cons 2 _ (.cons 1 _ (.cons 0 _ (.nil)))))))))) ?_;repeat (first|refine w4 (fun g=>?_) fun g=>?_|refine V5 ?_|refine O7 ?_|refine wT ?_|refine X7 ?_|refine B9f ?_|refine T4 ?_|(refine w7 [.int .i64 _] ?_;rotate_left)|(refine w7 [.int .i64 _,.int .i64 _,.int .i64 _,.int .i64 _,.int .i64 _,.int .i64 _,.int .i64 _,.int .i64 _,.int .i64 _,.str _] ?_;rotate_left)|(refine w7 [.int .i64 _,.int .i64 _,.int .i64 _,.int .i64 _,.int .i64 _,.int .i64 _,.int .i64 _,.int .i64 _,.str _] ?_;rotate_left))
   all_goals first
    | refine M0 ?_ ?_
      ·rw[uX i k c m w b r cl t hc,B7U (i:=i) A0 A0 ‹_›];exact uX (i+1) k c m w b r cl t ⟨A0,A0,hc.2.2⟩
      ·rw[A3m,A3m];omega
    | refine H7 (d:=0) ?_
      rw[uX i k c m w b r cl t hc,A8S A0];rfl
    | refine H7 (d:=1) ?_
      rw[uX i k c m w b r cl t hc,B7T (i:=i) A0 A0 ‹_›];rfl
  ·cases hs
 ·cases hs
noncomputable def B9V:List LpE:=(32,([true,false,true,false,true,true,true,true,true,false,false,true,false],O9 prog gl n0 7 B0l CZ))::[]
def A6a{G}(hst:J4 G):g9 prog G gl B9V:=.cons func32 B0k B0i (B5n hst) .nil
def A8y(t:D1):(0≤Lib.indexByte t 27)↔t.any isE=true:=by
 induction t with
 | nil=>simp[Lib.indexByte]
 | cons b l ih =>
   have h:=Lib.indexByte_ge l 27;rw[Lib.indexByte,bJ];by_cases e:b=27
   ·subst e;simp[isE]
   ·have e1:(b == 27)=false:=by simp[e]
    have e2:isE b=false:=D0 e;rw[e1,e2,R7,← ih];by_cases e3:Lib.indexByte l 27 = -1
    ·simp[e3]
    ·simp[e3];omega
def t8(k c m w b r cl:Int)(t:D1):Prop :=
 (k=1∧w=0∧b=0∧r=0∧cl=0∧t=[]∧fH c m)∨(k=2∧c=0∧t=[]∧msP m w b r cl)∨(k=3∧c=0∧m=0∧w=0∧b=0∧r=0∧cl=0∧t.length≤1000∧t.any isE=false)∨(k=4∧c=0∧m=0∧b=0∧r=0∧cl=0∧t=[]∧0≤w∧w≤1)
instance(k c m w b r cl:Int)(t:D1):Decidable (t8 k c m w b r cl t):=by unfold t8;infer_instance
noncomputable def B8h:M5:=⟨_,fun hst=>(.cons (YM hst) (.cons (B0Y hst) .nil))⟩
def yU:List U→Option (Nat×List U)
 | [.int .i64 k,.int .i64 c,.int .i64 m,.int .i64 w,.int .i64 b,.int .i64 r,.int .i64 cl,.str t]=>if -9223372036854775808≤m∧m≤9223372036854775807∧(t.length:Int)≤140737488351232 then some (0,[.bool (decide (t8 k c m w b r cl t))])else none
 | _=>none
def A7M(k:Int)(c:Int)(m:Int)(w:Int)(b:Int)(r:Int)(cl:Int)(t:D1)(hc : -9223372036854775808≤m∧m≤9223372036854775807∧(t.length:Int)≤140737488351232):yU [.int .i64 k,.int .i64 c,.int .i64 m,.int .i64 w,.int .i64 b,.int .i64 r,.int .i64 cl,.str t]=some (0,[.bool (decide (t8 k c m w b r cl t))]):=A4 hc
def B0e:Tr:=G3 0 8 1 (.lt 8 (.eqs) [h3 0,h3 0,h3 1,h3 1,h3 2,h3 2,h3 3,jI 0,h3 4,jI 0,h3 5,jI 0,h3 6,jI 0,h 7 9,.string ⟨⟨[]⟩⟩]<|.br 9 (.fn CY [h3 1,h3 2] 1<|.ret [h 10 8]) (J8)) (G3 0 9 2 (.lt 8 (.eqs) [h3 0,h3 0,h3 1,jI 0,h3 2,h3 2,h3 3,h3 3,h3 4,h3 4,h3 5,h3 5,h3 6,h3 6,h 7 9,.string ⟨⟨[]⟩⟩]<|.br 10 (.fn PZ [h3 0,h3 1,h3 2,h3 3,h3 4,h3 5,h3 6,h 7 9] 1<|.ret [h 11 8]) (J8)) (G3 0 10 3 (.lp CZ [jI 0,h3 0,h3 1,h3 2,h3 3,h3 4,h3 5,h3 6,h 7 9] 0 8 (.lt 8 (.eqs) [h3 11,h3 11,h3 12,jI 0,h3 13,jI 0,h3 14,jI 0,h3 15,jI 0,h3 16,jI 0,h3 17,jI 0,h 18 9,h 18 9]<|.br 19 (aD [h 18 9]<|aQ [h3 20,jI 1000]<|.ret [h 21 8]) (J8)) (.lp CZ [jI 0,h3 0,h3 1,h3 2,h3 3,h3 4,h3 5,h3 6,h 7 9] 1 0 (J8) (.no))) (G3 0 11 4 (.lt 8 (.eqs) [h3 0,h3 0,h3 1,jI 0,h3 2,jI 0,h3 3,h3 3,h3 4,jI 0,h3 5,jI 0,h3 6,jI 0,h 7 9,.string ⟨⟨[]⟩⟩]<|.br 12 (J9 3 13 0 (aQ [h3 3,jI 1]<|.ret [h 14 8]) J8) (J8)) J8)))
def B5m{G}(hst:J4 G):K0 prog G 32 [.a [3,3,3,3,3,3,3,9]] yU [.s 8]:=by
 refine D3 (d:=60) B0e (cxg (B8h.2 hst) (A6a hst)) hst ⟨f32,_,func32,rfl⟩ C6 C6 ?_;intro us outs hs;unfold yU at hs;split at hs
 ·skip;rename_i k c m w b r cl t;split at hs
  ·rename_i hc;cases hs;unfold B0e;refine w0 (.cons 7 _ (.cons 6 _ (.cons 5 _ (.cons 4 _ (.cons 3 _ (.cons 2 _ (.cons 1 _ (.cons 0 _ (.nil))))))))) ?_;refine T4 ?_;refine w4 (fun g0=>?_) fun g0=>?_
   ·refine w1 (.eqs) (e:=rfl) (k':=?_);first|refine w5 (fun g1=>?_) (fun g1=>?_)|refine w5B (fun g1=>?_) (fun g1=>?_)
    ·refine w7 [.bool _] ?_;refine l1 ?_;unfold t8
     (try replace g3:=dB g3)
     (try replace g3:=dC g3)
     first|(simp_all;done)|(simp_all;omega)
    refine w31 CY (e:=YL _ _ A0) (k':=?_);refine w7 [.bool _] ?_;refine l1 ?_;unfold t8
    (try replace g3:=dB g3)
    (try replace g3:=dC g3)
    first|(simp_all;done)|(simp_all;omega)
   refine T4 ?_;refine w4 (fun g1=>?_) fun g1=>?_
   ·refine w1 (.eqs) (e:=rfl) (k':=?_);first|refine w5 (fun g2=>?_) (fun g2=>?_)|refine w5B (fun g2=>?_) (fun g2=>?_)
    ·refine w7 [.bool _] ?_;refine l1 ?_;unfold t8
     (try replace g3:=dB g3)
     (try replace g3:=dC g3)
     first|(simp_all;done)|(simp_all;omega)
    refine w31 PZ (e:=A7I _ _ _ _ _ _ _ _) (k':=?_);refine w7 [.bool _] ?_;refine l1 ?_;unfold t8
    (try replace g3:=dB g3)
    (try replace g3:=dC g3)
    first|(simp_all;done)|(simp_all;omega)
   refine T4 ?_;refine w4 (fun g2=>?_) fun g2=>?_
   ·refine w6 CZ (uX _ _ _ _ _ _ _ _ _ A0) (h0:=fun g3=>?_) (h1:=fun v3 g3=>?_)
    ·show Wk _ _ (.cons _ _ (.cons _ _ (.cons _ _ (.cons _ _ (.cons _ _ (.cons _ _ (.cons _ _ (.cons _ _ _))))))));refine w1 (.eqs) (e:=rfl) (k':=?_);first|refine w5 (fun g4=>?_) (fun g4=>?_)|refine w5B (fun g4=>?_) (fun g4=>?_)
     ·refine w7 [.bool _] ?_;refine l1 ?_;unfold t8
      (try replace g3:=dB g3)
      (try replace g3:=dC g3)
      first|(simp_all;done)|(simp_all;omega)
     refine wT ?_;refine iY ?_;refine w7 [.bool _] ?_;refine l1 ?_;unfold t8
     (try replace g3:=dB g3)
     (try replace g3:=dC g3)
     first|(simp_all;done)|(simp_all;omega)
    show Wk _ _ _;refine w7 [.bool _] ?_;refine l1 ?_;unfold t8
    (try replace g3:=dB g3)
    (try replace g3:=dC g3)
    first|(simp_all;done)|(simp_all;omega)
   refine T4 ?_;refine w5 (fun g3=>?_) fun g3=>?_
   ·refine w7 [.bool _] ?_;refine l1 ?_;unfold t8
    (try replace g3:=dB g3)
    (try replace g3:=dC g3)
    first|(simp_all;done)|(simp_all;omega)
   refine w1 (.eqs) (e:=rfl) (k':=?_);first|refine w5 (fun g4=>?_) (fun g4=>?_)|refine w5B (fun g4=>?_) (fun g4=>?_)
   ·refine w7 [.bool _] ?_;refine l1 ?_;unfold t8
    (try replace g3:=dB g3)
    (try replace g3:=dC g3)
    first|(simp_all;done)|(simp_all;omega)
   refine bN ?_;refine w5 (fun g5=>?_) fun g5=>?_
   ·refine w7 [.bool _] ?_;refine l1 ?_;unfold t8
    (try replace g3:=dB g3)
    (try replace g3:=dC g3)
    first|(simp_all;done)|(simp_all;omega)
   refine iY ?_;refine w7 [.bool _] ?_;refine l1 ?_;unfold t8
   (try replace g3:=dB g3)
   (try replace g3:=dC g3)
   first|(simp_all;done)|(simp_all;omega)
  ·cases hs
 ·cases hs
def NE{a b c:Int}(h0:0≤b)(h1:b<c)(h2:(a=128∧c=64)∨(a=192∧c=32)∨(a=224∧c=16)∨(a=240∧c=8)):evU (.bin .or) [.int .u8 a,.int .u8 b]=.int .u8 (a+b):=by
 rw[pS];have k1:∀ n:Nat,n<64→IntKind.u8.wrap (BitVec.ofInt IntKind.u8.bits 128 ||| BitVec.ofInt IntKind.u8.bits (n:Int)).toNat=128+(n:Int):=C7;have k2:∀ n:Nat,n<32→IntKind.u8.wrap (BitVec.ofInt IntKind.u8.bits 192 ||| BitVec.ofInt IntKind.u8.bits (n:Int)).toNat=192+(n:Int):=C7;have k3:∀ n:Nat,n<16→IntKind.u8.wrap (BitVec.ofInt IntKind.u8.bits 224 ||| BitVec.ofInt IntKind.u8.bits (n:Int)).toNat=224+(n:Int):=C7;have k4:∀ n:Nat,n<8→IntKind.u8.wrap (BitVec.ofInt IntKind.u8.bits 240 ||| BitVec.ofInt IntKind.u8.bits (n:Int)).toNat=240+(n:Int):=C7;obtain⟨n,rfl⟩:∃ n:Nat,b=n:=⟨b.toNat,A0⟩;congr 1
 rcases h2 with⟨rfl,rfl⟩|⟨rfl,rfl⟩|⟨rfl,rfl⟩|⟨rfl,rfl⟩
 ·exact k1 n A0
 ·exact k2 n A0
 ·exact k3 n A0
 ·exact k4 n A0
def SR{j:IntKind}(a:Int):evU (.conv .u8) [.int j a]=.int .u8 (a%256):=by
 rw[NG];congr 1
def B3v(c:Int):Int:=if okU c then c else 65533
def LV(c:Int):List Int:=if c<128 then[c]else if c<2048 then[192+c / 64,128+c%64]else if c<65536 then[224+c / 4096,128+c / 64%64,128+c%64]else[240+c / 262144,128+c / 4096%64,128+c / 64%64,128+c%64]
def LU(c:Int):D1:=iB (LV (B3v c))
def fO{c:Int}(h:okU c):B3v c=c:=A4 h
def YS{c:Int}(h:¬okU c):B3v c=65533:=A3 h
def YX{c:Int}(h:c<128):LV c=[c]:=A4 h
def YW{c:Int}(h:¬c<128)(h2:c<2048):LV c=[192+c / 64,128+c%64]:=by unfold LV;rw[A3 h,A4 h2]
def YV{c:Int}(h:¬c<128)(h2:¬c<2048)(h3:c<65536):LV c=[224+c / 4096,128+c / 64%64,128+c%64]:=by unfold LV;rw[A3 h,A3 h2,A4 h3]
def YU{c:Int}(h:¬c<128)(h2:¬c<2048)(h3:¬c<65536):LV c=[240+c / 262144,128+c / 4096%64,128+c / 64%64,128+c%64]:=by unfold LV;rw[A3 h,A3 h2,A3 h3]
noncomputable def B8u:M5:=⟨_,fun hst=>.nil⟩
def IA:List U→Option (Nat×List U)
 | [.int .i64 c]=>some (0,[.str (LU c)])
 | _=>none
def A7a(c:Int):IA [.int .i64 c]=some (0,[.str (LU c)]):=rfl
def qM:Tr:=.ret [.string ⟨⟨[239,191,189]⟩⟩]
def N5(a0:Nat):Tr:=.ret [h a0 9]
def B1F:Tr:=J9 0 1 0 (X0 0 2 1114111 (.lt 3 (.bin .shr) [h3 0,.int .u64 (11)]<|aN [h3 3,jI 27]<|P1 4 5 qM (O4 0 6 128 (.lt 4 (.conv .u8) [h3 0]<|.lt 9 (.mks) [h 7 4]<|.ret [h 8 9]) (O4 0 7 2048 (.lt 3 (.bin .shr) [h3 0,.int .u64 (6)]<|.lt 4 (.conv .u8) [h3 8]<|.lt 4 (.bin .or) [.int .u8 (192),h 9 4]<|.lt 3 (.bin .shr) [h3 0,jI 0]<|.lt 4 (.conv .u8) [h3 11]<|.lt 4 (.bin .and) [h 12 4,.int .u8 (63)]<|.lt 4 (.bin .or) [.int .u8 (128),h 13 4]<|.lt 9 (.mks) [h 10 4,h 14 4]<|N5 15) (O4 0 8 65536 (.lt 3 (.bin .shr) [h3 0,.int .u64 (12)]<|.lt 4 (.conv .u8) [h3 9]<|.lt 4 (.bin .or) [.int .u8 (224),h 10 4]<|.lt 3 (.bin .shr) [h3 0,jI 6]<|.lt 4 (.conv .u8) [h3 12]<|.lt 4 (.bin .and) [h 13 4,.int .u8 (63)]<|.lt 4 (.bin .or) [.int .u8 (128),h 14 4]<|.lt 3 (.bin .shr) [h3 0,jI 0]<|.lt 4 (.conv .u8) [h3 16]<|.lt 4 (.bin .and) [h 17 4,.int .u8 (63)]<|.lt 4 (.bin .or) [.int .u8 (128),h 18 4]<|.lt 9 (.mks) [h 11 4,h 15 4,h 19 4]<|N5 20) (.lt 3 (.bin .shr) [h3 0,.int .u64 (18)]<|.lt 4 (.conv .u8) [h3 9]<|.lt 4 (.bin .or) [.int .u8 (240),h 10 4]<|.lt 3 (.bin .shr) [h3 0,jI 12]<|.lt 4 (.conv .u8) [h3 12]<|.lt 4 (.bin .and) [h 13 4,.int .u8 (63)]<|.lt 4 (.bin .or) [.int .u8 (128),h 14 4]<|.lt 3 (.bin .shr) [h3 0,jI 6]<|.lt 4 (.conv .u8) [h3 16]<|.lt 4 (.bin .and) [h 17 4,.int .u8 (63)]<|.lt 4 (.bin .or) [.int .u8 (128),h 18 4]<|.lt 3 (.bin .shr) [h3 0,jI 0]<|.lt 4 (.conv .u8) [h3 20]<|.lt 4 (.bin .and) [h 21 4,.int .u8 (63)]<|.lt 4 (.bin .or) [.int .u8 (128),h 22 4]<|.lt 9 (.mks) [h 11 4,h 15 4,h 19 4,h 23 4]<|N5 24))))) qM) qM
def B52{G}(hst:J4 G):K0 prog G 77 [.s 3] IA [.s 9]:=by
 refine D3 (d:=60) B1F (cxg (B8u.2 hst) .nil) hst ⟨f77,_,func77,rfl⟩ C6 C6 ?_;intro us outs hs;unfold IA at hs;split at hs
 ·skip;rename_i c;cases hs;unfold B1F;refine w0 (.cons 0 _ (.nil)) ?_;repeat (first|refine p8 ?_|refine w1 (.conv .u8) (e:=SR _) (k':=?_)|(refine w7 [.str _] ?_;rotate_left)|refine w4 (fun g=>?_) fun g=>?_|refine w1 (.bin .and) (e:=eJ 6 64 C7 C7 C7) (k':=?_)|refine w1 (.bin .or) (e:=NE (c:=64) A0 A0 C7) (k':=?_)|refine X7 ?_|refine w1 (.bin .shr) (e:=mV 64 C7 C7) (k':=?_)|refine w1 (.bin .shr) (e:=mV 1 C7 C7) (k':=?_)|refine w1 (.bin .shr) (e:=mV 4096 C7 C7) (k':=?_)|refine bN ?_|refine iY ?_|refine w1 (.bin .shr) (e:=mV 2048 C7 C7) (k':=?_)|refine tZ ?_|refine t6 ?_|refine w1 (.mks) (e:=v7 [_] (by simp only[B6,H6,or_false,forall_eq_or_imp,forall_eq];omega)) (k':=?_)|refine w1 (.bin .or) (e:=NE (c:=32) A0 A0 C7) (k':=?_)|refine w1 (.mks) (e:=v7 [_,_] (by simp only[B6,H6,or_false,forall_eq_or_imp,forall_eq];omega)) (k':=?_)|refine w1 (.bin .or) (e:=NE (c:=16) A0 A0 C7) (k':=?_)|refine w1 (.mks) (e:=v7 [_,_,_] (by simp only[B6,H6,or_false,forall_eq_or_imp,forall_eq];omega)) (k':=?_)|refine w1 (.bin .shr) (e:=mV 262144 C7 C7) (k':=?_)|refine w1 (.bin .or) (e:=NE (c:=8) A0 A0 C7) (k':=?_)|refine w1 (.mks) (e:=v7 [_,_,_,_] (by simp only[B6,H6,or_false,forall_eq_or_imp,forall_eq];omega)) (k':=?_))
  all_goals
   refine G0 (fun z=>[U.str z]) ?_;symm;unfold LU;first|(rw[fO (by unfold okU;omega),YX A0];done)|(rw[fO (by unfold okU;omega),YX A0];refine G0 iB ?_;simp only[H8,and_true,true_and];omega)|(rw[fO (by unfold okU;omega),YW A0 A0];done)|(rw[fO (by unfold okU;omega),YW A0 A0];refine G0 iB ?_;simp only[H8,and_true,true_and];omega)|(rw[fO (by unfold okU;omega),YV A0 A0 A0];done)|(rw[fO (by unfold okU;omega),YV A0 A0 A0];refine G0 iB ?_;simp only[H8,and_true,true_and];omega)|(rw[fO (by unfold okU;omega),YU A0 A0 A0];done)|(rw[fO (by unfold okU;omega),YU A0 A0 A0];refine G0 iB ?_;simp only[H8,and_true,true_and];omega)|(rw[YS (by unfold okU;omega)];rfl)|(rw[YS (by unfold okU;omega)];decide)
 ·cases hs
noncomputable def B4n:M5:=⟨_,fun hst=>.nil⟩
def CV:List U→Option (Nat×List U)
 | [.int .i64 c]=>some (0,[.str (LU c)])
 | _=>none
def A3K(c:Int):CV [.int .i64 c]=some (0,[.str (LU c)]):=rfl
def YH(n:Nat):Tr:=O4 0 n 128 (.lt 4 (.conv .u8) [h3 0]<|.lt 9 (.mks) [h (n+1) 4]<|.ret [h (n+2) 9]) (O4 0 (n+1) 2048 (.lt 3 (.bin .rem) [h3 0,jI 64]<|aA [jI 128,h3 (n+2)]<|.lt 4 (.conv .u8) [h3 (n+3)]<|.lt 3 (.bin .quo) [h3 0,jI 64]<|aA [jI 192,h3 (n+5)]<|.lt 4 (.conv .u8) [h3 (n+6)]<|.lt 9 (.mks) [h (n+7) 4,h (n+4) 4]<|N5 (n+8)) (O4 0 (n+2) 65536 (.lt 3 (.bin .rem) [h3 0,jI 64]<|aA [jI 128,h3 (n+3)]<|.lt 4 (.conv .u8) [h3 (n+4)]<|.lt 3 (.bin .quo) [h3 0,jI 64]<|.lt 3 (.bin .rem) [h3 (n+6),jI 64]<|aA [jI 128,h3 (n+7)]<|.lt 4 (.conv .u8) [h3 (n+8)]<|.lt 3 (.bin .quo) [h3 (n+6),jI 64]<|aA [jI 224,h3 (n+10)]<|.lt 4 (.conv .u8) [h3 (n+11)]<|.lt 9 (.mks) [h (n+12) 4,h (n+9) 4,h (n+5) 4]<|N5 (n+13)) (.lt 3 (.bin .rem) [h3 0,jI 64]<|aA [jI 128,h3 (n+3)]<|.lt 4 (.conv .u8) [h3 (n+4)]<|.lt 3 (.bin .quo) [h3 0,jI 64]<|.lt 3 (.bin .rem) [h3 (n+6),jI 64]<|aA [jI 128,h3 (n+7)]<|.lt 4 (.conv .u8) [h3 (n+8)]<|.lt 3 (.bin .quo) [h3 (n+6),jI 64]<|.lt 3 (.bin .rem) [h3 (n+10),jI 64]<|aA [jI 128,h3 (n+11)]<|.lt 4 (.conv .u8) [h3 (n+12)]<|.lt 3 (.bin .quo) [h3 (n+10),jI 64]<|aA [jI 240,h3 (n+14)]<|.lt 4 (.conv .u8) [h3 (n+15)]<|.lt 9 (.mks) [h (n+16) 4,h (n+13) 4,h (n+9) 4,h (n+5) 4]<|N5 (n+17))))
def A3J:Tr:=J9 0 1 0 (X0 0 2 1114111 (O4 0 3 55296 (YH 4) (aG [h3 0,jI 57343]<|P1 4 5 qM (YH 6))) qM) qM
def B3o{G}(hst:J4 G):K0 prog G 93 [.s 3] CV [.s 9]:=by
 refine D3 (d:=60) A3J (cxg (B4n.2 hst) .nil) hst ⟨f93,_,func93,rfl⟩ C6 C6 ?_;intro us outs hs;unfold CV at hs;split at hs
 ·skip;rename_i c;cases hs;unfold A3J;refine w0 (.cons 0 _ (.nil)) ?_;repeat (first|refine p8 ?_|refine w1 (.conv .u8) (e:=SR _) (k':=?_)|refine V5 ?_|refine O7 ?_|refine A02 ?_|refine w1 (.bin .rem) (e:=sZ _ _ _ A0) (k':=?_)|refine UI ?_|refine w1 (.bin .quo) (e:=pR _ _ _ A0) (k':=?_)|(refine w7 [.str _] ?_;rotate_left)|refine w4 (fun g=>?_) fun g=>?_|refine X7 ?_|refine w1 (.mks) (e:=v7 [_] (by simp only[B6,H6,or_false,forall_eq_or_imp,forall_eq];omega)) (k':=?_)|refine w1 (.mks) (e:=v7 [_,_] (by simp only[B6,H6,or_false,forall_eq_or_imp,forall_eq];omega)) (k':=?_)|refine w1 (.mks) (e:=v7 [_,_,_] (by simp only[B6,H6,or_false,forall_eq_or_imp,forall_eq];omega)) (k':=?_)|refine w1 (.mks) (e:=v7 [_,_,_,_] (by simp only[B6,H6,or_false,forall_eq_or_imp,forall_eq];omega)) (k':=?_)|refine bN ?_|refine iY ?_|refine cM ?_|refine t6 ?_)
  all_goals
   refine G0 (fun z=>[U.str z]) ?_;symm;unfold LU;first|(rw[fO (by unfold okU;omega),YX A0];done)|(rw[fO (by unfold okU;omega),YX A0];refine G0 iB ?_;simp only[H8,and_true,true_and];omega)|(rw[fO (by unfold okU;omega),YW A0 A0];done)|(rw[fO (by unfold okU;omega),YW A0 A0];refine G0 iB ?_;simp only[H8,and_true,true_and];omega)|(rw[fO (by unfold okU;omega),YV A0 A0 A0];done)|(rw[fO (by unfold okU;omega),YV A0 A0 A0];refine G0 iB ?_;simp only[H8,and_true,true_and];omega)|(rw[fO (by unfold okU;omega),YU A0 A0 A0];done)|(rw[fO (by unfold okU;omega),YU A0 A0 A0];refine G0 iB ?_;simp only[H8,and_true,true_and];omega)|(rw[YS (by unfold okU;omega)];rfl)|(rw[YS (by unfold okU;omega)];decide)
 ·cases hs
def NM{n:Int}(h0:0≤n)(h:n<10):Lib.decDigits n.toNat=[UInt8.ofNat (48+n).toNat]:=by
 rw[Lib.decDigits_one A0];congr 2;omega
def oA{n:Int}(h0:0≤n)(h:¬n<10):Lib.decDigits n.toNat=Lib.decDigits (n / 10).toNat++Lib.decDigits (n%10).toNat:=by
 have h1:n.toNat / 10=(n / 10).toNat:=A0;have h2:n.toNat%10=(n%10).toNat:=A0;conv=>lhs;rw[Lib.decDigits,dif_neg A0]
 rw[h1,h2,Lib.decDigits_one (i:=(n%10).toNat) A0]
def aP{n:Int}(h0:0≤n)(h:n<9999999999):(Lib.decDigits n.toNat).length≤40:=by
 have:=Lib.itoa_length_le n A0 A0;rw[show n=(n.toNat:Int) by omega,Lib.itoa_nonneg]at this;exact B7 this C7
noncomputable def B9G:M5:=⟨_,fun hst=>.nil⟩
def EV:List U→Option (Nat×List U)
 | [.int .i64 n]=>if 0≤n∧n<10 then some (0,[.str (Lib.decDigits n.toNat)])else none
 | _=>none
def A0g(n:Int)(hc:0≤n∧n<10):EV [.int .i64 n]=some (0,[.str (Lib.decDigits n.toNat)]):=A4 hc
def uD:Tr:=aA [jI 48,h3 0]<|.lt 4 (.conv .u8) [h3 2]<|.lt 9 (.mks) [h 3 4]<|.ret [h 4 9]
def B2k:Tr:=aL [h3 0,jI 10]<|S4 1 uD
def B7h{G}(hst:J4 G):K0 prog G 125 [.s 3] EV [.s 9]:=by
 refine D3 (d:=1) B2k (cxg (B9G.2 hst) .nil) hst ⟨f125,_,func125,rfl⟩ C6 C6 ?_;intro us outs hs;unfold EV at hs;split at hs
 ·skip;rename_i n;split at hs
  ·rename_i hc;cases hs;have hq:=aP (n:=n / 10) A0 A0;have hr:=aP (n:=n%10) A0 A0;unfold B2k;refine w0 (.cons 0 _ (.nil)) ?_;refine X7 ?_;refine w5 (fun g0=>?_) fun g0=>?_
   ·refine w8 ?_
    (exfalso;omega)
   first|refine V5 ?_|refine O7 ?_
   first|refine p8 ?_|refine Y2 ?_
   refine w1 (.mks) (e:=v7 [_] (by simp only[B6,H6,or_false,forall_eq_or_imp,forall_eq];omega)) (k':=?_);refine w7 [.str _] ?_;first|(rw[NM hc.1 g0];rfl)|(rw[oA hc.1 g0];rfl)|(rw[oA hc.1 g0])|(exfalso;omega)
  ·cases hs
 ·cases hs
noncomputable def B9F:M5:=⟨_,fun hst=>(.cons (B7h hst) .nil)⟩
def EU:List U→Option (Nat×List U)
 | [.int .i64 n]=>if 0≤n∧n<100 then some (0,[.str (Lib.decDigits n.toNat)])else none
 | _=>none
def A0f(n:Int)(hc:0≤n∧n<100):EU [.int .i64 n]=some (0,[.str (Lib.decDigits n.toNat)]):=A4 hc
def B2j:Tr:=O4 0 1 10 uD (.lt 3 (.bin .quo) [h3 0,jI 10]<|.fn EV [h3 2] 1<|.lt 3 (.bin .rem) [h3 0,jI 10]<|.fn EV [h3 4] 1<|aC [h 3 9,h 5 9]<|N5 6)
def B7g{G}(hst:J4 G):K0 prog G 125 [.s 3] EU [.s 9]:=by
 refine D3 (d:=60) B2j (cxg (B9F.2 hst) .nil) hst ⟨f125,_,func125,rfl⟩ C6 C6 ?_;intro us outs hs;unfold EU at hs;split at hs
 ·skip;rename_i n;split at hs
  ·rename_i hc;cases hs;have hq:=aP (n:=n / 10) A0 A0;have hr:=aP (n:=n%10) A0 A0;unfold B2j;refine w0 (.cons 0 _ (.nil)) ?_;refine X7 ?_;refine w4 (fun g0=>?_) fun g0=>?_
   ·first|refine V5 ?_|refine O7 ?_
    first|refine p8 ?_|refine Y2 ?_
    refine w1 (.mks) (e:=v7 [_] (by simp only[B6,H6,or_false,forall_eq_or_imp,forall_eq];omega)) (k':=?_);refine w7 [.str _] ?_;first|(rw[NM hc.1 g0];rfl)|(rw[oA hc.1 g0];rfl)|(rw[oA hc.1 g0])|(exfalso;omega)
   first|refine UI ?_|refine w1 (.bin .quo) (e:=pR _ _ _ A0) (k':=?_)
   refine w31 EV (e:=A0g _ A0) (k':=?_);first|refine A02 ?_|refine w1 (.bin .rem) (e:=sZ _ _ _ A0) (k':=?_)
   refine w31 EV (e:=A0g _ A0) (k':=?_);refine w1 (.bin .add) (e:=X1 _ _ A0) (k':=?_);refine w7 [.str _] ?_;first|(rw[NM hc.1 g0];rfl)|(rw[oA hc.1 g0];rfl)|(rw[oA hc.1 g0])|(exfalso;omega)
  ·cases hs
 ·cases hs
noncomputable def B9E:M5:=⟨_,fun hst=>(.cons (B7g hst) .nil)⟩
def ET:List U→Option (Nat×List U)
 | [.int .i64 n]=>if 0≤n∧n<1000 then some (0,[.str (Lib.decDigits n.toNat)])else none
 | _=>none
def A0e(n:Int)(hc:0≤n∧n<1000):ET [.int .i64 n]=some (0,[.str (Lib.decDigits n.toNat)]):=A4 hc
def B2i:Tr:=O4 0 1 10 uD (.lt 3 (.bin .quo) [h3 0,jI 10]<|.fn EU [h3 2] 1<|.lt 3 (.bin .rem) [h3 0,jI 10]<|.fn EU [h3 4] 1<|aC [h 3 9,h 5 9]<|N5 6)
def B7f{G}(hst:J4 G):K0 prog G 125 [.s 3] ET [.s 9]:=by
 refine D3 (d:=60) B2i (cxg (B9E.2 hst) .nil) hst ⟨f125,_,func125,rfl⟩ C6 C6 ?_;intro us outs hs;unfold ET at hs;split at hs
 ·skip;rename_i n;split at hs
  ·rename_i hc;cases hs;have hq:=aP (n:=n / 10) A0 A0;have hr:=aP (n:=n%10) A0 A0;unfold B2i;refine w0 (.cons 0 _ (.nil)) ?_;refine X7 ?_;refine w4 (fun g0=>?_) fun g0=>?_
   ·first|refine V5 ?_|refine O7 ?_
    first|refine p8 ?_|refine Y2 ?_
    refine w1 (.mks) (e:=v7 [_] (by simp only[B6,H6,or_false,forall_eq_or_imp,forall_eq];omega)) (k':=?_);refine w7 [.str _] ?_;first|(rw[NM hc.1 g0];rfl)|(rw[oA hc.1 g0];rfl)|(rw[oA hc.1 g0])|(exfalso;omega)
   first|refine UI ?_|refine w1 (.bin .quo) (e:=pR _ _ _ A0) (k':=?_)
   refine w31 EU (e:=A0f _ A0) (k':=?_);first|refine A02 ?_|refine w1 (.bin .rem) (e:=sZ _ _ _ A0) (k':=?_)
   refine w31 EU (e:=A0f _ A0) (k':=?_);refine w1 (.bin .add) (e:=X1 _ _ A0) (k':=?_);refine w7 [.str _] ?_;first|(rw[NM hc.1 g0];rfl)|(rw[oA hc.1 g0];rfl)|(rw[oA hc.1 g0])|(exfalso;omega)
  ·cases hs
 ·cases hs
noncomputable def B9D:M5:=⟨_,fun hst=>(.cons (B7f hst) .nil)⟩
def ES:List U→Option (Nat×List U)
 | [.int .i64 n]=>if 0≤n∧n<10000 then some (0,[.str (Lib.decDigits n.toNat)])else none
 | _=>none
def A0d(n:Int)(hc:0≤n∧n<10000):ES [.int .i64 n]=some (0,[.str (Lib.decDigits n.toNat)]):=A4 hc
def B2h:Tr:=O4 0 1 10 uD (.lt 3 (.bin .quo) [h3 0,jI 10]<|.fn ET [h3 2] 1<|.lt 3 (.bin .rem) [h3 0,jI 10]<|.fn ET [h3 4] 1<|aC [h 3 9,h 5 9]<|N5 6)
def B7e{G}(hst:J4 G):K0 prog G 125 [.s 3] ES [.s 9]:=by
 refine D3 (d:=60) B2h (cxg (B9D.2 hst) .nil) hst ⟨f125,_,func125,rfl⟩ C6 C6 ?_;intro us outs hs;unfold ES at hs;split at hs
 ·skip;rename_i n;split at hs
  ·rename_i hc;cases hs;have hq:=aP (n:=n / 10) A0 A0;have hr:=aP (n:=n%10) A0 A0;unfold B2h;refine w0 (.cons 0 _ (.nil)) ?_;refine X7 ?_;refine w4 (fun g0=>?_) fun g0=>?_
   ·first|refine V5 ?_|refine O7 ?_
    first|refine p8 ?_|refine Y2 ?_
    refine w1 (.mks) (e:=v7 [_] (by simp only[B6,H6,or_false,forall_eq_or_imp,forall_eq];omega)) (k':=?_);refine w7 [.str _] ?_;first|(rw[NM hc.1 g0];rfl)|(rw[oA hc.1 g0];rfl)|(rw[oA hc.1 g0])|(exfalso;omega)
   first|refine UI ?_|refine w1 (.bin .quo) (e:=pR _ _ _ A0) (k':=?_)
   refine w31 ET (e:=A0e _ A0) (k':=?_);first|refine A02 ?_|refine w1 (.bin .rem) (e:=sZ _ _ _ A0) (k':=?_)
   refine w31 ET (e:=A0e _ A0) (k':=?_);refine w1 (.bin .add) (e:=X1 _ _ A0) (k':=?_);refine w7 [.str _] ?_;first|(rw[NM hc.1 g0];rfl)|(rw[oA hc.1 g0];rfl)|(rw[oA hc.1 g0])|(exfalso;omega)
  ·cases hs
 ·cases hs
noncomputable def B9C:M5:=⟨_,fun hst=>(.cons (B7e hst) .nil)⟩
def cE:List U→Option (Nat×List U)
 | [.int .i64 n]=>if 0≤n∧n<100000 then some (0,[.str (Lib.decDigits n.toNat)])else none
 | _=>none
def A0c(n:Int)(hc:0≤n∧n<100000):cE [.int .i64 n]=some (0,[.str (Lib.decDigits n.toNat)]):=A4 hc
def B2f:Tr:=O4 0 1 10 uD (.lt 3 (.bin .quo) [h3 0,jI 10]<|.fn ES [h3 2] 1<|.lt 3 (.bin .rem) [h3 0,jI 10]<|.fn ES [h3 4] 1<|aC [h 3 9,h 5 9]<|N5 6)
def B2g{G}(hst:J4 G):K0 prog G 125 [.s 3] cE [.s 9]:=by
 refine D3 (d:=60) B2f (cxg (B9C.2 hst) .nil) hst ⟨f125,_,func125,rfl⟩ C6 C6 ?_;intro us outs hs;unfold cE at hs;split at hs
 ·skip;rename_i n;split at hs
  ·rename_i hc;cases hs;have hq:=aP (n:=n / 10) A0 A0;have hr:=aP (n:=n%10) A0 A0;unfold B2f;refine w0 (.cons 0 _ (.nil)) ?_;refine X7 ?_;refine w4 (fun g0=>?_) fun g0=>?_
   ·first|refine V5 ?_|refine O7 ?_
    first|refine p8 ?_|refine Y2 ?_
    refine w1 (.mks) (e:=v7 [_] (by simp only[B6,H6,or_false,forall_eq_or_imp,forall_eq];omega)) (k':=?_);refine w7 [.str _] ?_;first|(rw[NM hc.1 g0];rfl)|(rw[oA hc.1 g0];rfl)|(rw[oA hc.1 g0])|(exfalso;omega)
   first|refine UI ?_|refine w1 (.bin .quo) (e:=pR _ _ _ A0) (k':=?_)
   refine w31 ES (e:=A0d _ A0) (k':=?_);first|refine A02 ?_|refine w1 (.bin .rem) (e:=sZ _ _ _ A0) (k':=?_)
   refine w31 ES (e:=A0d _ A0) (k':=?_);refine w1 (.bin .add) (e:=X1 _ _ A0) (k':=?_);refine w7 [.str _] ?_;first|(rw[NM hc.1 g0];rfl)|(rw[oA hc.1 g0];rfl)|(rw[oA hc.1 g0])|(exfalso;omega)
  ·cases hs
 ·cases hs
def B4h:Nat→Nat→D1
 | 0,_=>[]
 | k+1,n=>if n<10 then[UInt8.ofNat (48+n)]else B4h k (n / 10)++[UInt8.ofNat (48+n%10)]
def A0b:∀ (k n:Nat),n<10 ^ (k+1)→B4h (k+1) n=Lib.decDigits n
 | 0,n,h=>by
   have h1:n<10:=by simpa using h
   show(if n<10 then _ else _)=_;rw[A4 h1,Lib.decDigits_one h1]
 | k+1,n,h=>by
   show(if n<10 then _ else _)=_;by_cases h1:n<10
   ·rw[A4 h1,Lib.decDigits_one h1]
   ·rw[A3 h1];have h2:n / 10<10 ^ (k+1):=Nat.div_lt_of_lt_mul (by rw[aU,← Nat.pow_succ];exact h);rw[A0b k (n / 10) h2];conv=>rhs;rw[Lib.decDigits,dif_neg h1]
def itz(n:Int):D1:=if 0≤n∧n<100000 then B4h 5 n.toNat else Lib.itoa n
def WG(n:Int):itz n=Lib.itoa n:=by
 unfold itz;by_cases h:0≤n∧n<100000
 ·rw[A4 h,A0b 4 n.toNat (by show n.toNat<100000;omega),← Lib.itoa_nonneg,U2 h.1]
 ·rw[A3 h]
def cT:List U→Option (Nat×List U)
 | [.int .i64 n]=>if -9223372036854775808≤n∧n≤9223372036854775807 then some (0,[.str (itz n)])else none
 | _=>none
def mS(n:Int)(hc : -9223372036854775808≤n∧n≤9223372036854775807):cT [.int .i64 n]=some (0,[.str (itz n)]):=A4 hc
def A46{G}(hst:J4 G):K0 prog G 79 [.s 3] cT [.s 9]:=by
 intro us outs w vs R hsh hs hG hR;unfold cT at hs;split at hs
 ·skip;rename_i n;split at hs
  ·rename_i hc;cases hs;have hv:=y4 (vs2:=[.int .i64 n]) hsh rfl;subst hv;refine wF (vr:=[.string ⟨⟨itz n⟩⟩]) func79 rfl C6 rfl ?_;rw[WG];refine(Tryz.strconv_Itoa n A0 A0 w (KL (id:=3) hst hG C7 C7 C6 C6 C6)).mono fun e w' ⟨h1,k,os,h2⟩=>⟨h1,?_⟩
   subst h2;exact Go.Lib.below_grow _ w (B0 _) k os
  ·cases hs
 ·cases hs
def nuL:List Int:=[2,3,5,6,15,17,18,19,20,21,23,24]
def leL:D1:=[65,66,67,68,70,72,80,81,82,83]
def A1Z(k:Int):D1:=(leL.drop k.toNat).take ((k+1).toNat-k.toNat)
def spS(ck:Bool)(k m:Int):D1 :=
 if 10≤k then if 0<m then[27,91]++itz (nuL.getD (k-10).toNat 0)++[59]++itz (m+1)++[126]else[27,91]++itz (nuL.getD (k-10).toNat 0)++[126]
 else if 0<m then[27,91,49,59]++itz (m+1)++A1Z k else if 6≤k then[27,79]++A1Z k else if ck=true then[27,79]++A1Z k else[27,91]++A1Z k
def B1S(n:Nat):0≤nuL.getD n 0∧nuL.getD n 0≤24:=by
 have h:∀ n:Nat,n<12→0≤nuL.getD n 0∧nuL.getD n 0≤24:=C7;rcases G6 n 12 with k|k
 ·exact h n k
 ·have e:nuL.getD n 0=0:=by
   rw[B4,jB.2 (by exact k)];rfl
  rw[e];decide
def MM{n:Int}(h : -9223372036854775808≤n)(h2:n≤9223372036854775807):(itz n).length≤21:=by rw[WG];exact Lib.itoa_length_le n h h2
noncomputable def B89:M5:=⟨_,fun hst=>(.cons (A46 hst) .nil)⟩
def SS:List U→Option (Nat×List U)
 | [.bool b0,.bool b1,.bool ck,.bool b3,.bool b4,.bool b5,.bool b6,.bool pa,.bool fo,.bool b9,.bool b10,.int .i64 mo,.bool sg,.int .i64 k,.int .i64 m]=>if 0≤k∧k≤21∧0≤m∧m≤7 then some (0,[.str (spS ck k m)])else none
 | _=>none
def A8R(b0:Bool)(b1:Bool)(ck:Bool)(b3:Bool)(b4:Bool)(b5:Bool)(b6:Bool)(pa:Bool)(fo:Bool)(b9:Bool)(b10:Bool)(mo:Int)(sg:Bool)(k:Int)(m:Int)(hc:0≤k∧k≤21∧0≤m∧m≤7):SS [.bool b0,.bool b1,.bool ck,.bool b3,.bool b4,.bool b5,.bool b6,.bool pa,.bool fo,.bool b9,.bool b10,.int .i64 mo,.bool sg,.int .i64 k,.int .i64 m]=some (0,[.str (spS ck k m)]):=A4 hc
def A5d(n:Nat):Tr:=aA [h3 13,jI 1]<|.lt 9 (.sub) [.string ⟨⟨[65,66,67,68,70,72,80,81,82,83]⟩⟩,h3 13,h3 n]<|aC [.string ⟨⟨[27,79]⟩⟩,h (n+1) 9]<|N5 (n+2)
def A5c(n:Nat):Tr:=J9 13 n 10 (aS [h3 13,jI 10]<|aI [h3 (n+1),jI 12]<|S4 (n+2) (.lt 3 (.sel) [h3 (n+1),jI 2,jI 3,jI 5,jI 6,jI 15,jI 17,jI 18,jI 19,jI 20,jI 21,jI 23,jI 24]<|.fn cT [h3 (n+3)] 1<|aC [.string ⟨⟨[27,91]⟩⟩,h (n+4) 9]<|aC [h (n+5) 9,.string ⟨⟨[126]⟩⟩]<|N5 (n+6))) (cL 14 (n+1) 0 (aC [.string ⟨⟨[27,91,49,59]⟩⟩,h 16 9]<|aA [h3 13,jI 1]<|.lt 9 (.sub) [.string ⟨⟨[65,66,67,68,70,72,80,81,82,83]⟩⟩,h3 13,h3 (n+3)]<|aC [h (n+2) 9,h (n+4) 9]<|N5 (n+5)) (J9 13 (n+2) 6 (A5d (n+3)) (.br 2 (A5d (n+3)) (aA [h3 13,jI 1]<|.lt 9 (.sub) [.string ⟨⟨[65,66,67,68,70,72,80,81,82,83]⟩⟩,h3 13,h3 (n+3)]<|aC [.string ⟨⟨[27,91]⟩⟩,h (n+4) 9]<|N5 (n+5)))))
def B2Z:Tr:=aA [h3 14,jI 1]<|.fn cT [h3 15] 1<|J9 13 17 10 (cL 14 18 0 (aS [h3 13,jI 10]<|aI [h3 19,jI 12]<|S4 20 (.lt 3 (.sel) [h3 19,jI 2,jI 3,jI 5,jI 6,jI 15,jI 17,jI 18,jI 19,jI 20,jI 21,jI 23,jI 24]<|.fn cT [h3 21] 1<|aC [.string ⟨⟨[27,91]⟩⟩,h 22 9]<|aC [h 23 9,.string ⟨⟨[59]⟩⟩]<|aC [h 24 9,h 16 9]<|aC [h 25 9,.string ⟨⟨[126]⟩⟩]<|N5 26)) (A5c 19)) (A5c 18)
def B7S{G}(hst:J4 G):K0 prog G 78 [.a [8,8,8,8,8,8,8,8,8,8,8,3,8],.s 3,.s 3] SS [.s 9]:=by
 refine D3 (d:=60) B2Z (cxg (B89.2 hst) .nil) hst ⟨f78,_,func78,rfl⟩ C6 C6 ?_;intro us outs hs;unfold SS at hs;split at hs
 ·skip;rename_i b0 b1 ck b3 b4 b5 b6 pa fo b9 b10 mo sg k m;split at hs
  ·rename_i hc;cases hs;have l1:=MM (n:=m+1) A0 A0;have q1:0≤([2,3,5,6,15,17,18,19,20,21,23,24]:List Int).getD (k-10).toNat 0∧([2,3,5,6,15,17,18,19,20,21,23,24]:List Int).getD (k-10).toNat 0≤24:=B1S _;have l2:(itz (([2,3,5,6,15,17,18,19,20,21,23,24]:List Int).getD (k-10).toNat 0)).length≤21:=MM A0 A0;unfold B2Z;refine w0 (.cons 14 _ (.cons 13 _ (.cons 12 _ (.cons 11 _ (.cons 10 _ (.cons 9 _ (.cons 8 _ (.cons 7 _ (.cons 6 _ (.cons 5 _ (.cons 4 _ (.cons 3 _ (.cons 2 _ (.cons 1 _ (.cons 0 _ (.nil)))))))))))))))) ?_;repeat (first|refine V5 ?_|refine O7 ?_|refine w1 (.bin .add) (e:=X1 _ _ (by simp only[B2,C4,G4,G8];omega)) (k':=?_)|refine w4 (fun g=>?_) fun g=>?_|refine w4B (fun g=>?_) fun g=>?_|(refine w7 [.str _] ?_;rotate_left)|refine A9Z ?_|refine oF ?_|refine gT ?_|refine bN ?_|refine w31 cT (e:=mS _ A0) (k':=?_)|refine cM ?_|refine A2O ?_|refine w1 (.sel) (e:=rO [2,3,5,6,15,17,18,19,20,21,23,24] A0 (by show _<((12:Nat):Int);omega)) (k':=?_)|(refine w8 ?_;first|omega))
   all_goals
    refine G0 (fun z=>[U.str z]) ?_;unfold spS A1Z
    (repeat' split)<;>first|(exfalso;omega)|rfl|(simp;done)|(simp_all;done)
  ·cases hs
 ·cases hs
def rM:Rw (Int×D1):=rC (cG .i64) (r1 A5_)
def kmL:List (Int×D1):=[(1114135,[13]),(1114136,[9]),(1114137,[127]),(1114138,[27])]
def kmG(c:Int):D1:=(kmL.find? (fun a=>(c == a.1 && true))).elim [] (fun a=>a.2)
def kmH(c:Int):Bool:=kmL.any (fun a=>(c == a.1 && true))
def B6m(c:Int):kmH c=decide (c=1114135∨c=1114136∨c=1114137∨c=1114138):=by
 unfold kmH kmL;rw[M6];simp
def B6n(c:Int):kmG c=if c=1114135 then[13]else if c=1114136 then[9]else if c=1114137 then[127]else if c=1114138 then[27]else[]:=by
 unfold kmG kmL;simp only[fL,kN,List.find?_nil];by_cases h1:c=1114135
 ·subst h1;rfl
 ·by_cases h2:c=1114136
  ·subst h2;rfl
  ·by_cases h3:c=1114137
   ·subst h3;rfl
   ·by_cases h4:c=1114138
    ·subst h4;rfl
    ·have e1:(c == 1114135)=false:=by simp[h1]
     have e2:(c == 1114136)=false:=by simp[h2]
     have e3:(c == 1114137)=false:=by simp[h3]
     have e4:(c == 1114138)=false:=by simp[h4]
     rw[e1,e2,e3,e4,A3 h1,A3 h2,A3 h3,A3 h4];rfl
def C0B{c:Int}(h:kmH c=false):c≠1114135∧c≠1114136∧c≠1114137∧c≠1114138:=by
 rw[B6m]at h
 have:=of_decide_eq_false h;omega
def B37(c:Int):(kmG c).length≤1:=by
 rw[B6n]
 (repeat' split)<;>decide
def QK(c:Int):(LU c).length≤4:=by
 unfold LU iB LV;rw[H3]
 (repeat' split)<;>simp
def B4T{x:Option (List (Int×D1))}(c:Int)(hx:el x=kmL):evU (.mget 2 1 1) [B1 rM x,.str [],.int .i64 c]=.str (kmG c):=by
 have h:=cY (x:=x) (z:=([]:D1)) (kc:=[.int .i64 c]) (r:=rM) (w:=2) (kw:=1) (o:=1) U.str (fun a=>(c == a.1 && true)) (fun a=>a.2) rfl rfl (fun _=>rfl) (fun _=>rfl);rw[hx]at h;exact h
def B4S{x:Option (List (Int×D1))}(c:Int)(hx:el x=kmL):evU (.mhas 2 1) [B1 rM x,.int .i64 c]=.bool (kmH c):=by
 have h:=SQ (x:=x) (kc:=[.int .i64 c]) (r:=rM) (w:=2) (kw:=1) (fun a=>(c == a.1 && true)) rfl rfl (fun _=>rfl);rw[hx]at h;exact h
def v6(l:List Int):(iB l).length=l.length:=by unfold iB;rw[H3]
def TS(m:Int):D1:=if m / 2%2*2≠0 then[27]else[]
def keS(ck:Bool)(c m:Int):D1 :=
 if c=1114136∧m=1 then[27,91,90]else if c=1114135 then TS m++[13]else if c=1114136 then TS m++[9]else if c=1114137 then TS m++[127]else if c=1114138 then TS m++[27]
 else if c<1114113 then(if m / 4%2*4≠0 then TS m++iB [lP c]else TS m++LU c)else spS ck (c-1114113) m
noncomputable def B9B:M5:=⟨_,fun hst=>(.cons (A5u hst) (.cons (B52 hst) (.cons (B7S hst) .nil)))⟩
def JG:List U→Option (Nat×List U)
 | [.bool b0,.bool b1,.bool ck,.bool b3,.bool b4,.bool b5,.bool b6,.bool pa,.bool fo,.bool b9,.bool b10,.int .i64 mo,.bool sg,.int .i64 k,.int .i64 c,.int .i64 m,.int .i64 w,.int .i64 b,.int .i64 r,.int .i64 cl,.str t]=>if fH c m then some (0,[.str (keS ck c m)])else none
 | _=>none
def A8b(b0:Bool)(b1:Bool)(ck:Bool)(b3:Bool)(b4:Bool)(b5:Bool)(b6:Bool)(pa:Bool)(fo:Bool)(b9:Bool)(b10:Bool)(mo:Int)(sg:Bool)(k:Int)(c:Int)(m:Int)(w:Int)(b:Int)(r:Int)(cl:Int)(t:D1)(hc:fH c m):JG [.bool b0,.bool b1,.bool ck,.bool b3,.bool b4,.bool b5,.bool b6,.bool pa,.bool fo,.bool b9,.bool b10,.int .i64 mo,.bool sg,.int .i64 k,.int .i64 c,.int .i64 m,.int .i64 w,.int .i64 b,.int .i64 r,.int .i64 cl,.str t]=some (0,[.str (keS ck c m)]):=A4 hc
def A5m(n:Nat):Tr:=aS [h3 14,jI 1114113]<|.fn SS [h 0 8,h 1 8,h 2 8,h 3 8,h 4 8,h 5 8,h 6 8,h 7 8,h 8 8,h 9 8,h 10 8,h3 11,h 12 8,h3 n,h3 15] 1<|N5 (n+1)
def A5l(n:Nat):Tr:=O4 14 n 1114113 (.fn IA [h3 14] 1<|aC [.string ⟨⟨[27]⟩⟩,h (n+1) 9]<|N5 (n+2)) (A5m (n+1))
def A5k(n:Nat):Tr:=.br 29 (aC [.string ⟨⟨[27]⟩⟩,h 28 9]<|N5 n) (O4 14 n 1114113 (cK 15 (n+1) 4 (.fn zL [h3 14] 2<|.lt 9 (.mks) [h (n+3) 4]<|aC [.string ⟨⟨[27]⟩⟩,h (n+5) 9]<|N5 (n+6)) (A5l (n+3))) (A5l (n+1)))
def A5j(n:Nat):Tr:=O4 14 n 1114113 (.fn IA [h3 14] 1<|aC [.string ⟨⟨[]⟩⟩,h (n+1) 9]<|N5 (n+2)) (A5m (n+1))
def A5i(n:Nat):Tr:=.br 29 (aC [.string ⟨⟨[]⟩⟩,h 28 9]<|N5 n) (O4 14 n 1114113 (cK 15 (n+1) 4 (.fn zL [h3 14] 2<|.lt 9 (.mks) [h (n+3) 4]<|aC [.string ⟨⟨[]⟩⟩,h (n+5) 9]<|N5 (n+6)) (A5j (n+3))) (A5j (n+1)))
def B2d:Tr:=cK 15 21 2 (.dt 12 (.mk 2) []<|.dt 12 (.mput 2 1) [h 23 12,jI 1114135,.string ⟨⟨[13]⟩⟩]<|.dt 12 (.mput 2 1) [h 24 12,jI 1114136,.string ⟨⟨[9]⟩⟩]<|.dt 12 (.mput 2 1) [h 25 12,jI 1114137,.string ⟨⟨[127]⟩⟩]<|.dt 12 (.mput 2 1) [h 26 12,jI 1114138,.string ⟨⟨[27]⟩⟩]<|.lt 9 (.mget 2 1 1) [h 27 12,.string ⟨⟨[]⟩⟩,h3 14]<|.lt 8 (.mhas 2 1) [h 27 12,h3 14]<|G3 14 30 1114136 (G3 15 31 1 (.ret [.string ⟨⟨[27,91,90]⟩⟩]) (A5k 32)) (A5k 31)) (.dt 12 (.mk 2) []<|.dt 12 (.mput 2 1) [h 23 12,jI 1114135,.string ⟨⟨[13]⟩⟩]<|.dt 12 (.mput 2 1) [h 24 12,jI 1114136,.string ⟨⟨[9]⟩⟩]<|.dt 12 (.mput 2 1) [h 25 12,jI 1114137,.string ⟨⟨[127]⟩⟩]<|.dt 12 (.mput 2 1) [h 26 12,jI 1114138,.string ⟨⟨[27]⟩⟩]<|.lt 9 (.mget 2 1 1) [h 27 12,.string ⟨⟨[]⟩⟩,h3 14]<|.lt 8 (.mhas 2 1) [h 27 12,h3 14]<|G3 14 30 1114136 (G3 15 31 1 (.ret [.string ⟨⟨[27,91,90]⟩⟩]) (A5i 32)) (A5i 31))
def pV{G}(hst:J4 G):K0 prog G 50 [.a [8,8,8,8,8,8,8,8,8,8,8,3,8],.a [3,3,3,3,3,3,3,9]] JG [.s 9]:=by
 refine D3 (d:=60) B2d (cxg (B9B.2 hst) .nil) hst ⟨f50,_,func50,rfl⟩ C6 C6 ?_;intro us outs hs;unfold JG at hs;split at hs
 ·skip;rename_i b0 b1 ck b3 b4 b5 b6 pa fo b9 b10 mo sg k c m w b r cl t;split at hs
  ·rename_i hc;cases hs;have z1:=A0k c;have z2:=B37 c;have z3:=QK c;have hk:=hc;unfold fH chP okU at hk;unfold B2d;refine s0L ?_;show Tr.sav _ _ (.cons 20 _ (.cons 19 _ (.cons 18 _ (.cons 17 _ (.cons 16 _ (.cons 15 _ (.cons 14 _ (.cons 13 _ (.cons 12 _ (.cons 11 _ (.cons 10 _ (.cons 9 _ (.cons 8 _ (.cons 7 _ (.cons 6 _ (.cons 5 _ (.cons 4 _ (.cons 3 _ (.cons 2 _ (.cons 1 _ (.cons 0 _ (.nil))))))))))))))))))))));refine Wk.s ?_;repeat (first|refine w4 (fun g=>?_) fun g=>?_|refine w4B (fun g=>?_) fun g=>?_|(refine w7 [.str _] ?_;rotate_left)|refine w1 (.bin .add) (e:=X1 _ _ (by simp only[B2,C4,G4,v6];omega)) (k':=?_)|refine oF ?_|refine gT ?_|refine X7 ?_|refine w2 (.mput 2 1) (r:=rM) (e:=cX (fun a b=>(a.1 == b.1 && true)) (_,_) rfl rfl (fun _=>rfl) (Q8 _)) (k':=?_)|refine w31 IA (e:=A7a _) (k':=?_)|refine w31 SS (e:=A8R _ _ _ _ _ _ _ _ _ _ _ _ _ _ _ (by have z6:=C0B ‹_›;omega)) (k':=?_)|refine tZ ?_|refine T4 ?_|refine w1 (.bin .and) (e:=BM _) (k':=?_)|refine w32 zL (e:=A0j _) (k':=?_)|refine w1 (.mks) (e:=v7 [_] (by simp only[B6,H6,or_false,forall_eq_or_imp,forall_eq];omega)) (k':=?_)|refine w2 (.mk 2) (r:=rM) (e:=I2 [] rfl C7 rfl) (k':=?_)|refine w1x (.mget 2 1 1) (e:=B4T _ rfl) (k':=?_)|refine w1x (.mhas 2 1) (e:=B4S _ rfl) (k':=?_)|refine w1 (.bin .and) (e:=NI _) (k':=?_))
   all_goals
    refine G0 (fun z=>[U.str z]) ?_
    (try simp only[B6m,decide_eq_true_eq,decide_eq_false_iff_not]at *)
    (try rw[B6n])
    unfold keS TS
    (repeat' split)<;>first|(exfalso;omega)|rfl
  ·cases hs
 ·cases hs
def jV{n:Int}(h:0≤n):Lib.decDigits n.toNat=itz n:=by
 rw[WG,← Lib.itoa_nonneg,U2 h]
noncomputable def B8g:M5:=⟨_,fun hst=>(.cons (B05 hst) (.cons (B3o hst) (.cons (B2g hst) .nil)))⟩
def HU:List U→Option (Nat×List U)
 | [.bool ck,.int .i64 c,.int .i64 m]=>if fH c m then some (0,[.str (keS ck c m)])else none
 | _=>none
def A7L(ck:Bool)(c:Int)(m:Int)(hc:fH c m):HU [.bool ck,.int .i64 c,.int .i64 m]=some (0,[.str (keS ck c m)]):=A4 hc
def B0c:Tr:=X0 1 3 1114111 (.fn CV [h3 1] 1<|cK 2 5 4 (.fn DB [h3 1] 1<|.lt 4 (.conv .u8) [h3 7]<|.lt 9 (.mks) [h 8 4]<|cK 2 10 2 (aC [.string ⟨⟨[27]⟩⟩,h 9 9]<|N5 12) (aC [.string ⟨⟨[]⟩⟩,h 9 9]<|N5 12)) (cK 2 7 2 (aC [.string ⟨⟨[27]⟩⟩,h 4 9]<|N5 9) (aC [.string ⟨⟨[]⟩⟩,h 4 9]<|N5 9))) (G3 1 4 1114135 (cK 2 5 2 (.ret [.string ⟨⟨[27,13]⟩⟩]) (.ret [.string ⟨⟨[13]⟩⟩])) (G3 1 5 1114137 (cK 2 6 2 (.ret [.string ⟨⟨[27,127]⟩⟩]) (.ret [.string ⟨⟨[127]⟩⟩])) (G3 1 6 1114138 (.ret [.string ⟨⟨[27]⟩⟩]) (G3 1 7 1114136 (G3 2 8 1 (.ret [.string ⟨⟨[27,91,90]⟩⟩]) (cK 2 9 2 (.ret [.string ⟨⟨[27,9]⟩⟩]) (.ret [.string ⟨⟨[9]⟩⟩]))) (aS [h3 1,jI 1114113]<|O4 8 9 10 (aA [h3 8,jI 1]<|.lt 9 (.sub) [.string ⟨⟨[65,66,67,68,70,72,80,81,82,83]⟩⟩,h3 8,h3 10]<|cL 2 12 0 (aA [h3 2,jI 1]<|.fn cE [h3 13] 1<|aC [.string ⟨⟨[27,91,49,59]⟩⟩,h 14 9]<|aC [h 15 9,h 11 9]<|N5 16) (J9 8 13 6 (aC [.string ⟨⟨[27,79]⟩⟩,h 11 9]<|N5 14) (.br 0 (aC [.string ⟨⟨[27,79]⟩⟩,h 11 9]<|N5 14) (aC [.string ⟨⟨[27,91]⟩⟩,h 11 9]<|N5 14)))) (aS [h3 8,jI 10]<|aI [h3 10,jI 12]<|S4 11 (.lt 3 (.sel) [h3 10,jI 2,jI 3,jI 5,jI 6,jI 15,jI 17,jI 18,jI 19,jI 20,jI 21,jI 23,jI 24]<|.fn cE [h3 12] 1<|aC [.string ⟨⟨[27,91]⟩⟩,h 13 9]<|cL 2 15 0 (aC [h 14 9,.string ⟨⟨[59]⟩⟩]<|aA [h3 2,jI 1]<|.fn cE [h3 17] 1<|aC [h 16 9,h 18 9]<|aC [h 19 9,.string ⟨⟨[126]⟩⟩]<|N5 20) (aC [h 14 9,.string ⟨⟨[126]⟩⟩]<|N5 16))))))))
def B0d{G}(hst:J4 G):K0 prog G 69 [.s 8,.s 3,.s 3] HU [.s 9]:=by
 refine D3 (d:=60) B0c (cxg (B8g.2 hst) .nil) hst ⟨f69,_,func69,rfl⟩ C6 C6 ?_;intro us outs hs;unfold HU at hs;split at hs
 ·skip;rename_i ck c m;split at hs
  ·rename_i hc;cases hs;have z1:=A0k c;have z3:=QK c;have hk:=hc;unfold fH chP okU at hk;have q1:0≤([2,3,5,6,15,17,18,19,20,21,23,24]:List Int).getD (c-1114113-10).toNat 0∧([2,3,5,6,15,17,18,19,20,21,23,24]:List Int).getD (c-1114113-10).toNat 0≤24:=B1S _;have l2:(Lib.decDigits (([2,3,5,6,15,17,18,19,20,21,23,24]:List Int).getD (c-1114113-10).toNat 0).toNat).length≤40:=aP A0 A0;have l1:0≤m→m≤7→(Lib.decDigits (m+1).toNat).length≤40:=fun h h2=>aP A0 A0
   unfold B0c;refine w0 (.cons 2 _ (.cons 1 _ (.cons 0 _ (.nil)))) ?_;repeat (first|refine w4 (fun g=>?_) fun g=>?_|refine w4B (fun g=>?_) fun g=>?_|(refine w7 [.str _] ?_;rotate_left)|refine w1 (.bin .add) (e:=X1 _ _ (by simp only[B2,C4,G4,G8,v6];first|omega|(have l3:=l1 A0 A0;omega))) (k':=?_)|refine tZ ?_|refine V5 ?_|refine O7 ?_|refine w1 (.bin .and) (e:=NI _) (k':=?_)|refine T4 ?_|refine oF ?_|refine gT ?_|refine w31 cE (e:=A0c _ A0) (k':=?_)|refine p8 ?_|refine Y2 ?_|refine cM ?_|refine iY ?_|refine w31 CV (e:=A3K _) (k':=?_)|refine w1 (.bin .and) (e:=BM _) (k':=?_)|refine w31 DB (e:=YR _) (k':=?_)|refine w1 (.mks) (e:=v7 [_] (by simp only[B6,H6,or_false,forall_eq_or_imp,forall_eq];omega)) (k':=?_)|refine X7 ?_|refine A9Z ?_|refine bN ?_|refine A2O ?_|refine w1 (.sel) (e:=rO [2,3,5,6,15,17,18,19,20,21,23,24] A0 (by show _<((12:Nat):Int);omega)) (k':=?_)|(refine w8 ?_;first|omega))
   all_goals
    refine G0 (fun z=>[U.str z]) ?_
    (try rw[jV A0])
    (try rw[jV A0])
    unfold keS TS spS A1Z;repeat (first|rw[A3 A0]|rw[A4 A0]|rw[A4 ‹_›]|rw[A3 (by simp_all;done)])
    all_goals first|rfl|(exfalso;omega)
  ·cases hs
 ·cases hs
def isR(mo w b:Int):Prop:=(mo=9∧w=0)∨(mo=1000∧w≠2)∨(mo=1002∧(w≠2∨b≠3))∨(mo≠0∧mo≠9∧mo≠1000∧mo≠1002)
instance(mo w b:Int):Decidable (isR mo w b):=by unfold isR;infer_instance
def ifI(c:Bool)(n:Int):Int:=if c then n else 0
def kdS(w:Int):Int:=if w=2 then 32 else if w=3 then 64 else 0
def B6h(w:Int)(h:0≤w)(h2:w≤3):([0,0,32,64]:List Int).getD w.toNat 0=kdS w:=by
 have:w=0∨w=1∨w=2∨w=3:=A0;rcases this with rfl|rfl|rfl|rfl<;>decide
def A4y(w:Int):(w=2∧kdS w=32)∨(w=3∧kdS w=64)∨(w≠2∧w≠3∧kdS w=0):=by
 unfold kdS
 (repeat' split)<;>omega
def nuS(m w b:Int):Int:=b+m%2*4+m / 2%2*8+m / 4*16+kdS w
def laS(w:Int):D1:=if w=1 then[109]else[77]
def moS(sg:Bool)(m w b r cl:Int):D1 :=
 if sg=false then[27,91,77]++iB [32+nuS m w b,33+cl,33+r]
 else[27,91,60]++itz (nuS m w b)++[59]++itz (cl+1)++[59]++itz (r+1)++laS w
def A7r{m w b r cl x y z:Int}(h:sg=false)(hx:x=32+nuS m w b)(hy:y=33+cl)(hz:z=33+r):[27,91,77]++iB [x,y,z]=moS sg m w b r cl:=by
 subst hx hy hz;unfold moS;rw[A4 h]
def A7q{m w b r cl x y z:Int}{l:D1}(h:sg=true)(hx:x=nuS m w b)(hy:y=cl+1)(hz:z=r+1)(hl:l=laS w):[27,91,60]++itz x++[59]++itz y++[59]++itz z++l=moS sg m w b r cl:=by
 subst hx hy hz hl;unfold moS;rw[A3 (by rw[h];decide)]
def B95{m w b r cl x y z:Int}{l:D1}(h:sg=true)(hx:x=nuS m w b)(hy:y=cl+1)(hz:z=r+1)(hl:l=laS w)(h0:0≤x)(h1:0≤y)(h2:0≤z):[27,91,60]++Lib.decDigits x.toNat++[59]++Lib.decDigits y.toNat++[59]++Lib.decDigits z.toNat++l=moS sg m w b r cl:=by
 rw[jV h0,jV h1,jV h2];exact A7q h hx hy hz hl
def IS(n:Int)(h0:0≤n)(h:n<10000):(itz n).length≤21:=MM A0 A0
def JI(n:Int)(h0:0≤n)(h:n<10000):(Lib.decDigits n.toNat).length≤40:=aP A0 A0
noncomputable def B8d:M5:=⟨_,fun hst=>(.cons (B2g hst) .nil)⟩
def uV:List U→Option (Nat×List U)
 | [.bool sg,.int .i64 k,.int .i64 c,.int .i64 m,.int .i64 w,.int .i64 b,.int .i64 r,.int .i64 cl,.str t]=>if msP m w b r cl then some (0,[.str (moS sg m w b r cl)])else none
 | _=>none
def A7J(sg:Bool)(k:Int)(c:Int)(m:Int)(w:Int)(b:Int)(r:Int)(cl:Int)(t:D1)(hc:msP m w b r cl):uV [.bool sg,.int .i64 k,.int .i64 c,.int .i64 m,.int .i64 w,.int .i64 b,.int .i64 r,.int .i64 cl,.str t]=some (0,[.str (moS sg m w b r cl)]):=A4 hc
def A3f(n:Nat):Tr:=.lt 4 (.conv .u8) [h3 23]<|aA [jI 33,h3 7]<|.lt 4 (.conv .u8) [h3 (n+1)]<|aA [jI 33,h3 6]<|.lt 4 (.conv .u8) [h3 (n+3)]<|.lt 9 (.mks) [h n 4,h (n+2) 4,h (n+4) 4]<|aC [.string ⟨⟨[27,91,77]⟩⟩,h (n+5) 9]<|.ret [h (n+6) 9]
def KX(a0:Nat)(a1:Nat):Tr:=aC [.string ⟨⟨[27,91,60]⟩⟩,h a0 9]<|aC [h a1 9,.string ⟨⟨[59]⟩⟩]<|aA [h3 7,jI 1]<|.fn cE [h3 (a1+2)] 1<|aC [h (a1+1) 9,h (a1+3) 9]<|aC [h (a1+4) 9,.string ⟨⟨[59]⟩⟩]<|aA [h3 6,jI 1]<|.fn cE [h3 (a1+6)] 1<|aC [h (a1+5) 9,h (a1+7) 9]<|aC [h (a1+8) 9,.string ⟨⟨[109]⟩⟩]<|.ret [h (a1+9) 9]
def A3e(n:Nat):Tr:=KX 24 n
def KW(a0:Nat)(a1:Nat):Tr:=aC [.string ⟨⟨[27,91,60]⟩⟩,h a0 9]<|aC [h a1 9,.string ⟨⟨[59]⟩⟩]<|aA [h3 7,jI 1]<|.fn cE [h3 (a1+2)] 1<|aC [h (a1+1) 9,h (a1+3) 9]<|aC [h (a1+4) 9,.string ⟨⟨[59]⟩⟩]<|aA [h3 6,jI 1]<|.fn cE [h3 (a1+6)] 1<|aC [h (a1+5) 9,h (a1+7) 9]<|aC [h (a1+8) 9,.string ⟨⟨[77]⟩⟩]<|.ret [h (a1+9) 9]
def A3d(n:Nat):Tr:=KW 24 n
def KV(a0:Nat)(a1:Nat)(a2:Nat):Tr:=aA [jI 32,h3 a1]<|.lt 4 (.conv .u8) [h3 a2]<|aA [jI 33,h3 (a0+1)]<|.lt 4 (.conv .u8) [h3 (a2+2)]<|aA [jI 33,h3 a0]<|.lt 4 (.conv .u8) [h3 (a2+4)]<|.lt 9 (.mks) [h (a2+1) 4,h (a2+3) 4,h (a2+5) 4]<|aC [.string ⟨⟨[27,91,77]⟩⟩,h (a2+6) 9]<|.ret [h (a2+7) 9]
def B0Z:Tr:=.lt 3 (.bin .and) [h3 3,jI 1]<|.lt 3 (.bin .mul) [jI 4,h3 9]<|aA [h3 5,h3 10]<|.lt 3 (.bin .quo) [h3 3,jI 2]<|.lt 3 (.bin .and) [h3 12,jI 1]<|.lt 3 (.bin .mul) [jI 8,h3 13]<|aA [h3 11,h3 14]<|.lt 3 (.bin .quo) [h3 3,jI 4]<|.lt 3 (.bin .mul) [jI 16,h3 16]<|aA [h3 15,h3 17]<|G3 4 19 2 (aA [h3 18,jI 32]<|G3 4 21 3 (aA [h3 20,jI 64]<|P1 0 23 (KV 6 22 24) (G3 4 24 1 (.fn cE [h3 22] 1<|KX 25 26) (.fn cE [h3 22] 1<|KW 25 26))) (P1 0 22 (aA [jI 32,h3 20]<|A3f 24) (G3 4 23 1 (.fn cE [h3 20] 1<|A3e 25) (.fn cE [h3 20] 1<|A3d 25)))) (G3 4 20 3 (aA [h3 18,jI 64]<|P1 0 22 (aA [jI 32,h3 21]<|A3f 24) (G3 4 23 1 (.fn cE [h3 21] 1<|A3e 25) (.fn cE [h3 21] 1<|A3d 25))) (P1 0 21 (KV 6 18 22) (G3 4 22 1 (.fn cE [h3 18] 1<|KX 23 24) (.fn cE [h3 18] 1<|KW 23 24))))
def B5k{G}(hst:J4 G):K0 prog G 70 [.s 8,.a [3,3,3,3,3,3,3,9]] uV [.s 9]:=by
 refine D3 (d:=60) B0Z (cxg (B8d.2 hst) .nil) hst ⟨f70,_,func70,rfl⟩ C6 C6 ?_;intro us outs hs;unfold uV at hs;split at hs
 ·skip;rename_i sg k c m w b r cl t;split at hs
  ·rename_i hc;cases hs;have hm:=(ZN m w b r cl).1 hc;have z1:=A4y w;have l1:=JI (cl+1) A0 A0;have l2:=JI (r+1) A0 A0;have l3:=JI (b+4*(m%2)+8*(m / 2%2)+16*(m / 4)) A0 A0;have l4:=JI ((b+4*(m%2)+8*(m / 2%2)+16*(m / 4))+32) A0 A0;have l5:=JI ((b+4*(m%2)+8*(m / 2%2)+16*(m / 4))+64) A0 A0;have l6:=JI ((b+4*(m%2)+8*(m / 2%2)+16*(m / 4))+32+64) A0 A0;unfold B0Z;refine w0 (.cons 8 _ (.cons 7 _ (.cons 6 _ (.cons 5 _ (.cons 4 _ (.cons 3 _ (.cons 2 _ (.cons 1 _ (.cons 0 _ (.nil)))))))))) ?_;repeat (first|refine V5 ?_|refine O7 ?_|refine w1 (.bin .add) (e:=X1 _ _ (by simp only[B2,C4,G4,v6];omega)) (k':=?_)|refine p8 ?_|refine Y2 ?_|refine w31 cE (e:=A0c _ A0) (k':=?_)|refine w4 (fun g=>?_) fun g=>?_|refine w4B (fun g=>?_) fun g=>?_|(refine w7 [.str _] ?_;rotate_left)|refine t6 ?_|refine nW ?_|refine T4 ?_|refine UK ?_|refine BX ?_|refine UI ?_|refine w1 (.bin .quo) (e:=pR _ _ _ A0) (k':=?_)|refine w1 (.mks) (e:=v7 [_,_,_] (by simp only[B6,H6,or_false,forall_eq_or_imp,forall_eq];omega)) (k':=?_)|refine w1 (.bin .and) (e:=eJ 1 2 C7 C7 C7) (k':=?_))
   all_goals
    refine G0 (fun z=>[U.str z]) ?_;first|exact A7r (by first|assumption|(simp_all;done)) (by unfold nuS;omega) A0 A0|exact B95 (by first|assumption|(simp_all;done)) (by unfold nuS;omega) A0 A0 (by unfold laS;first|exact(A4 ‹_›).symm|exact(A3 ‹_›).symm) A0 A0 A0|(exfalso;omega)
  ·cases hs
 ·cases hs
end Go.Proofs.YtdimocjaepnifaaGreatDoor
