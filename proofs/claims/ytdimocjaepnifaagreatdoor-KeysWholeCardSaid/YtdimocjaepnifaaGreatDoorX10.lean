import Derived.Test.YtdimocjaepnifaaGreatDoorX9
import Derived.Shelf.Strings.Builder1
import Derived.Shelf.Strings.Builder2
import Derived.Shelf.Small.Wraps
import Derived.Shelf.Strings.BuilderF
import Derived.Shelf.Strings.BuilderK
import Derived.Shelf.Utf8.RuneCount
import Derived.Shelf.Strings.Builder2Cap
import Derived.Shelf.Strconv.Itoa0
import Derived.Shelf.Strconv.Itoa1
import Derived.Shelf.LaysM
import Derived.Shelf.Strconv.Itoa2
import Derived.Shelf.Strconv.Itoa3
import Derived.Shelf.Strings.Search1
import Derived.Shelf.Strings.Search2
import Derived.Shelf.Strings.Search3
import Derived.Shelf.Strings.Count
import Derived.Shelf.Strings.Shaped
import Derived.Shelf.Strings.Prefix
import Derived.Shelf.Strings.Split
import Derived.Shelf.Strings.Replace
import Derived.Shelf.Strings.SplitShaped
import Derived.Shelf.Unicode.Decode
import Derived.Shelf.Strings.RuneCount
import Derived.Shelf.Bits.Mul64
import Derived.Shelf.Strings.Repeat
import Derived.Shelf.Unicode.DecodeSlow
import Derived.Shelf.Unicode.DecodeAny
import Derived.Shelf.Strings.BuilderCap
import Derived.Shelf.Slices.Turned
import Derived.Shelf.Bytes.SlSearch0
import Derived.Shelf.Bytes.SlSmallAll
import Derived.Shelf.Bytes.SlEqualAll
import Derived.Shelf.Bytes.Small
import Derived.Test.YtdimocjaepnifaaGreatDoorProg
set_option linter.all false
set_option maxRecDepth 100000
set_option maxHeartbeats 4000000
namespace Go.Sx
variable {i kw n2:Nat}{cs f0 kc l outs us:List U}{u:U}
section
open Go
def A47{α:Type}(q:α->α->Bool)(a:α):List α->List α
 | []=>[a]
 | b::l=>if q a b then a::l else b::A47 q a l
def oB{α:Type}(q:α->α->Bool)(x:Option (List α))(a:α):Option (List α) :=
 match x with
 | none=>none
 | some l=>some (A47 q a l)
def any_map{α:Type}(e:α->List U)(k:List U)(p:α->Bool)(h:∀ a,Z7 k (e a)=p a):∀ l:List α,(l.map e).any (Z7 k)=l.any p
 | []=>rfl
 | a::l=>by rw[F0,bS,bS,h,any_map e k p h l]
def TX{α:Type}(e:α->List U)(k:List U)(p:α->Bool)(h:∀ a,Z7 k (e a)=p a):∀ l:List α,(l.map e).find? (Z7 k)=(l.find? p).map e
 | []=>rfl
 | a::l=>by
   rw[F0,fX,fX,h];cases p a
   .exact TX e k p h l
   .rfl
def A0K{α:Type}(e:α->List U)(kw:Nat)(q:α->α->Bool)(a:α)(h:∀ b,Z7 ((e a).take kw) (e b)=q a b):∀ l:List α,RZ kw (e a) (l.map e)=(A47 q a l).map e
 | []=>rfl
 | b::l=>by
   rw[F0,RZ,A47,h,A0K e kw q a h l];cases q a b<;>rfl
def UB{α:Type}{w:Nat}{r:Rw α}{x:Option (List α)}(p:α->Bool)(hw:r.w=w)(d:kc.length=kw)(hp:∀ a,Z7 kc (r.enc a)=p a):evU (.mhas w kw) (B2 r x::kc)=.bool ((el x).any p):=by
 subst hw d;rw[Y0];show(if r.w=r.w/\kc.length=kc.length then U.bool (((el x).map r.enc).any (Z7 kc))else .none)=_;rw[A4 ⟨rfl,rfl⟩,any_map r.enc kc p hp]
def dJ{α β:Type}{w o:Nat}{r:Rw α}{x:Option (List α)}{z:β}(c:β->U)(p:α->Bool)(g:α->β)(hw:r.w=w)(e:kc.length=kw)(hp:∀ a,Z7 kc (r.enc a)=p a)(d:∀ a,(r.enc a).getD o .none=c (g a)):evU (.mget w kw o) (B2 r x::c z::kc)=c (((el x).find? p).elim z g):=by
 subst hw e;rw[Y0];show(if r.w=r.w/\kc.length=kc.length then(match List.find? (Z7 kc) ((el x).map r.enc)with
  | some r=>r.getD o .none
  | none=>c z)else .none)=_
 rw[A4 ⟨rfl,rfl⟩,TX r.enc kc p hp];cases (el x).find? p with
 | none=>rfl
 | some a=>exact d a
def dI{α:Type}{w:Nat}{r:Rw α}{x:Option (List α)}(q:α->α->Bool)(a:α)(hw:r.w=w)(d:r.enc a=cs)(e:∀ b,Z7 ((r.enc a).take kw) (r.enc b)=q a b)(f:x≠none):evU (.mput w kw) (B2 r x::cs)=B2 r (oB q x a):=by
 subst hw d;cases x with
 | none=>exact absurd rfl f
 | some l =>
   rw[Y0];show(if r.w=r.w/\(r.enc a).length=r.w then U.seq false r.w (RZ kw (r.enc a) ((el (some l)).map r.enc))else .none)=_;rw[A4 ⟨rfl,r.len a⟩,A0K r.enc kw q a e];show _=B2 r (some (A47 q a l));rw[Y0];rfl
def Ev.appN:Nat->List U->Ev->Ev
 | _,[],E=>E
 | n,u::l,E=>Ev.appN (Nat.succ n) l (.cons n u E)
def Ev.appN_eq :∀ {E:Ev} {n:Nat},E.len=n->Ev.appN n l E=Ev.app l E:=by
 induction l with
 | nil=>intro E n h;rfl
 | cons u l d=>intro E n h;subst h;exact d rfl
structure Wk (L:List U->Prop) (t:Tr) (E:Ev):Prop where
 s:t.sav L E
section
variable {L:List U->Prop} {E:Ev} {k:Tr} {n t:Nat} {xs:D6}
def w0{t:Tr}(E:Ev)(h:Wk L t E)(he:us=E.toL:=by exact rfl)(d:E.ok:=by simp[Ev.ok,Ev.len]):t.sat L us:=by subst he;exact h.s d
def w1(op:LOp)(g:xs.map (E7 E.get)=us:=by exact rfl)(e:evU op us=u)(k':Wk L k (.cons n u E))(f:G9 u=t:=by exact rfl)(d:Nat.blt t 10=true:=by exact rfl)(m:E.len=n:=by first|exact Eq.trans (b:=Nat.succ _) rfl rfl|exact rfl):Wk L (Tr.lt t op xs k) E :=
 ⟨s1 (by rw[g];exact e) d f m k'.s⟩
def w1x(op:LOp)(e:evU op (xs.map (E7 E.get))=u)(k':Wk L k (.cons n u E))(f:G9 u=t:=by exact rfl)(d:Nat.blt t 10=true:=by exact rfl)(g:E.len=n:=by first|exact Eq.trans (b:=Nat.succ _) rfl rfl|exact rfl):Wk L (Tr.lt t op xs k) E :=
 ⟨s1 e d f g k'.s⟩
def wr{op:LOp}(f:Wk L k (.cons n u E))(g:xs.map (E7 E.get)=us)(he:evU op us=u)(e:G9 u=t)(d:Nat.blt (G9 u) 10=true)(m:E.len=n):Wk L (Tr.lt t op xs k) E :=
 w1 op g he f e (by rw[<- e];exact d) m
def AS(q:IntKind)(a:Int):Nat.blt (G9 (.int q a)) 10=true:=by cases q<;>rfl
def w2(op:LOp){α:Type}{r:Rw α}{x:Option (List α)}(f:xs.map (E7 E.get)=us:=by exact rfl)(e:evU op us=B2 r x)(k':Wk L k (.cons n (B2 r x) E))(d:10+r.w=t:=by exact rfl)(g:E.len=n:=by first|exact Eq.trans (b:=Nat.succ _) rfl rfl|exact rfl):Wk L (Tr.dt t op xs k) E :=
 ⟨s2 (by rw[f];exact e) d g k'.s⟩
def w3(spec:bB){m:Nat}(d:xs.map (E7 E.get)=us:=by exact rfl)(e:spec us=some (0,outs))(f:E.len=n:=by first|exact Eq.trans (b:=Nat.succ _) rfl rfl|exact rfl)(k':Wk L k (Ev.appN n outs E))(hm:outs.length=m:=by exact rfl):Wk L (Tr.fn spec xs m k) E:=⟨s3 (by rw[d];exact e) hm (by rw[<- Ev.appN_eq f];exact k'.s)⟩
def w31(spec:bB){a:U}(d:xs.map (E7 E.get)=us:=by exact rfl)(e:spec us=some (0,[a]))(k':Wk L k (.cons n a E))(f:E.len=n:=by first|exact Eq.trans (b:=Nat.succ _) rfl rfl|exact rfl):Wk L (Tr.fn spec xs 1 k) E:=⟨s31 (by rw[d];exact e) f k'.s⟩
def w32(spec:bB){a b:U}(g:xs.map (E7 E.get)=us:=by exact rfl)(e:spec us=some (0,[a,b]))(k':Wk L k (.cons n2 b (.cons n a E)))(d:E.len=n:=by first|exact Eq.trans (b:=Nat.succ _) rfl rfl|exact rfl)(f:Nat.succ n=n2:=by exact rfl):Wk L (Tr.fn spec xs 2 k) E:=⟨s32 (by rw[g];exact e) d f k'.s⟩
def w4{a b:Tr}{p:Prop}{dp:Decidable p}(e:p->Wk L a E)(d:¬p->Wk L b E)(he:E.get i=.bool (decide p):=by exact rfl):Wk L (Tr.br i a b) E:=⟨s4 he (fun h=>(e h).s) fun h=>(d h).s⟩
def w4B{a b:Tr}{c:Bool}(e:c=true->Wk L a E)(d:c=false->Wk L b E)(he:E.get i=.bool c:=by exact rfl):Wk L (Tr.br i a b) E:=⟨s4B he (fun h=>(e h).s) fun h=>(d h).s⟩
def w5{a b:Tr}{p:Prop}{dp:Decidable p}(d:¬p->Wk L b E)(e:p->Wk L a E)(he:E.get i=.bool (decide p):=by exact rfl):Wk L (Tr.br i a b) E:=w4 e d he
def w5B{a b:Tr}{c:Bool}(d:c=false->Wk L b E)(e:c=true->Wk L a E)(he:E.get i=.bool c:=by exact rfl):Wk L (Tr.br i a b) E:=w4B e d he
def w6(spec:bB){n0 m:Nat}{f g:Tr}{β:Type}{o:Option β}{f1:β->List U}(he:spec (xs.map (E7 E.get))=Z9 o f0 f1)(v:E.len=n:=by first|exact Eq.trans (b:=Nat.succ _) rfl rfl|exact rfl)(h0:o=none->Wk L f (Ev.appN n f0 E))(h1:∀ b,o=some b->Wk L g (Ev.appN n (f1 b) E))
  (e:f0.length=n0:=by exact rfl) (d:∀ b,(f1 b).length=m:=by exact fun _=>rfl):Wk L (Tr.lp spec xs 0 n0 f (.lp spec xs 1 m g .no)) E:=⟨s6 he e d (fun h=>by rw[<- Ev.appN_eq v];exact(h0 h).s) fun b h=>by rw[<- Ev.appN_eq v];exact(h1 b h).s⟩
def w7(r:List U)(h:L r)(he:xs.map (E7 E.get)=r:=by exact rfl):Wk L (Tr.ret xs) E:=⟨s7 r he h⟩
def w8(h:False):Wk L Tr.no E:=h.elim
variable {q j:IntKind} {a b c:Int} {s z:List UInt8} {p:Prop} {dp:Decidable p} {x y:Bool}
def V1(d:Wk L k (.cons n (.int q (a+b)) E))(f:xs.map (E7 E.get)=[.int q a,.int q b]:=by exact rfl)(hw:q.wrap (a+b)=a+b:=by first|exact mO A0 A0|exact PH A0 A0|exact uI A0 A0|exact uJ A0 A0|exact CT A0 A0)(e:G9 (.int q (a+b))=t:=by exact rfl)(g:E.len=n:=by first|exact Eq.trans (b:=Nat.succ _) rfl rfl|exact rfl):Wk L (Tr.lt t (.bin .add) xs k) E:=wr d f (A9R hw) e (AS _ _) g
def oW(d:Wk L k (.cons n (.int q (a-b)) E))(f:xs.map (E7 E.get)=[.int q a,.int q b]:=by exact rfl)(hw:q.wrap (a-b)=a-b:=by first|exact mO A0 A0|exact PH A0 A0|exact uI A0 A0|exact uJ A0 A0|exact CT A0 A0)(e:G9 (.int q (a-b))=t:=by exact rfl)(g:E.len=n:=by first|exact Eq.trans (b:=Nat.succ _) rfl rfl|exact rfl):Wk L (Tr.lt t (.bin .sub) xs k) E:=wr d f (A9E hw) e (AS _ _) g
def VY(d:Wk L k (.cons n (.int q (a*b)) E))(f:xs.map (E7 E.get)=[.int q a,.int q b]:=by exact rfl)(hw:q.wrap (a*b)=a*b:=by first|exact mO A0 A0|exact PH A0 A0|exact uI A0 A0|exact uJ A0 A0|exact CT A0 A0)(e:G9 (.int q (a*b))=t:=by exact rfl)(g:E.len=n:=by first|exact Eq.trans (b:=Nat.succ _) rfl rfl|exact rfl):Wk L (Tr.lt t (.bin .mul) xs k) E:=wr d f (A9M hw) e (AS _ _) g
def PZ(f:Wk L k (.cons n (.int q (a / b)) E))(m:xs.map (E7 E.get)=[.int q a,.int q b]:=by exact rfl)(e:0<=a:=by omega)(d:0<b:=by omega)(hw:q.wrap (a / b)=a / b:=by first|exact mO A0 A0|exact PH A0 A0|exact uI A0 A0|exact uJ A0 A0|exact CT A0 A0)(g:G9 (.int q (a / b))=t:=by exact rfl)(v:E.len=n:=by first|exact Eq.trans (b:=Nat.succ _) rfl rfl|exact rfl):Wk L (Tr.lt t (.bin .quo) xs k) E:=wr f m (A9I e d hw) g (AS _ _) v
def LQ(f:Wk L k (.cons n (.int q (a%b)) E))(m:xs.map (E7 E.get)=[.int q a,.int q b]:=by exact rfl)(e:0<=a:=by omega)(d:0<b:=by omega)(g:G9 (.int q (a%b))=t:=by exact rfl)(v:E.len=n:=by first|exact Eq.trans (b:=Nat.succ _) rfl rfl|exact rfl):Wk L (Tr.lt t (.bin .rem) xs k) E:=wr f m (A9H e d) g (AS _ _) v
def m5(d:Wk L k (.cons n (.int q a) E))(f:xs.map (E7 E.get)=[.int j a]:=by exact rfl)(hw:q.wrap a=a:=by first|exact mO A0 A0|exact PH A0 A0|exact uI A0 A0|exact uJ A0 A0|exact CT A0 A0)(e:G9 (.int q a)=t:=by exact rfl)(g:E.len=n:=by first|exact Eq.trans (b:=Nat.succ _) rfl rfl|exact rfl):Wk L (Tr.lt t (.conv q) xs k) E:=wr d f (A6S hw) e (AS _ _) g
def O0(g:Wk L k (.cons n (.int q (q.wrap (a+b))) E))(f:xs.map (E7 E.get)=[.int q a,.int q b]:=by exact rfl)(e:G9 (.int q (q.wrap (a+b)))=t:=by exact rfl)(d:E.len=n:=by first|exact Eq.trans (b:=Nat.succ _) rfl rfl|exact rfl):Wk L (Tr.lt t (.bin .add) xs k) E:=wr g f (A6V _ _ _) e (AS _ _) d
def iC(g:Wk L k (.cons n (.int q (q.wrap (a-b))) E))(f:xs.map (E7 E.get)=[.int q a,.int q b]:=by exact rfl)(e:G9 (.int q (q.wrap (a-b)))=t:=by exact rfl)(d:E.len=n:=by first|exact Eq.trans (b:=Nat.succ _) rfl rfl|exact rfl):Wk L (Tr.lt t (.bin .sub) xs k) E:=wr g f (A6N _ _ _) e (AS _ _) d
def CV(g:Wk L k (.cons n (.int q (q.wrap (a*b))) E))(f:xs.map (E7 E.get)=[.int q a,.int q b]:=by exact rfl)(e:G9 (.int q (q.wrap (a*b)))=t:=by exact rfl)(d:E.len=n:=by first|exact Eq.trans (b:=Nat.succ _) rfl rfl|exact rfl):Wk L (Tr.lt t (.bin .mul) xs k) E:=wr g f (A6P _ _ _) e (AS _ _) d
def X1(g:Wk L k (.cons n (.int q (q.wrap a)) E))(f:xs.map (E7 E.get)=[.int j a]:=by exact rfl)(e:G9 (.int q (q.wrap a))=t:=by exact rfl)(d:E.len=n:=by first|exact Eq.trans (b:=Nat.succ _) rfl rfl|exact rfl):Wk L (Tr.lt t (.conv q) xs k) E:=wr g f (OI _ _ _) e (AS _ _) d
def R8(f:Wk L k (.cons n (.bool (decide (a=b))) E))(e:xs.map (E7 E.get)=[.int q a,.int q b]:=by exact rfl)(d:E.len=n:=by first|exact Eq.trans (b:=Nat.succ _) rfl rfl|exact rfl):Wk L (Tr.lt 8 (.bin .eql) xs k) E:=wr f e (B5u _ _ _) rfl rfl d
def oX(f:Wk L k (.cons n (.bool (decide (a≠b))) E))(e:xs.map (E7 E.get)=[.int q a,.int q b]:=by exact rfl)(d:E.len=n:=by first|exact Eq.trans (b:=Nat.succ _) rfl rfl|exact rfl):Wk L (Tr.lt 8 (.bin .neq) xs k) E:=wr f e (B5j _ _ _) rfl rfl d
def W3(f:Wk L k (.cons n (.bool (decide (a<b))) E))(e:xs.map (E7 E.get)=[.int q a,.int q b]:=by exact rfl)(d:E.len=n:=by first|exact Eq.trans (b:=Nat.succ _) rfl rfl|exact rfl):Wk L (Tr.lt 8 (.bin .lss) xs k) E:=wr f e (B5m _ _ _) rfl rfl d
def iE(f:Wk L k (.cons n (.bool (decide (a<=b))) E))(e:xs.map (E7 E.get)=[.int q a,.int q b]:=by exact rfl)(d:E.len=n:=by first|exact Eq.trans (b:=Nat.succ _) rfl rfl|exact rfl):Wk L (Tr.lt 8 (.bin .leq) xs k) E:=wr f e (B5n _ _ _) rfl rfl d
def cB(f:Wk L k (.cons n (.bool (decide (b<a))) E))(e:xs.map (E7 E.get)=[.int q a,.int q b]:=by exact rfl)(d:E.len=n:=by first|exact Eq.trans (b:=Nat.succ _) rfl rfl|exact rfl):Wk L (Tr.lt 8 (.bin .gtr) xs k) E:=wr f e (B5s _ _ _) rfl rfl d
def bK(f:Wk L k (.cons n (.bool (decide (b<=a))) E))(e:xs.map (E7 E.get)=[.int q a,.int q b]:=by exact rfl)(d:E.len=n:=by first|exact Eq.trans (b:=Nat.succ _) rfl rfl|exact rfl):Wk L (Tr.lt 8 (.bin .geq) xs k) E:=wr f e (B5t _ _ _) rfl rfl d
def AR(f:Wk L k (.cons n (.bool (decide (s=z))) E))(e:xs.map (E7 E.get)=[.str s,.str z]:=by exact rfl)(d:E.len=n:=by first|exact Eq.trans (b:=Nat.succ _) rfl rfl|exact rfl):Wk L (Tr.lt 8 (.bin .eql) xs k) E:=wr f e (B5e _ _) rfl rfl d
def A26(f:Wk L k (.cons n (.bool (decide (s≠z))) E))(e:xs.map (E7 E.get)=[.str s,.str z]:=by exact rfl)(d:E.len=n:=by first|exact Eq.trans (b:=Nat.succ _) rfl rfl|exact rfl):Wk L (Tr.lt 8 (.bin .neq) xs k) E:=wr f e (B5b _ _) rfl rfl d
def Y3(f:Wk L k (.cons n (.bool (decide ¬p)) E))(e:xs.map (E7 E.get)=[.bool (@decide p dp)]:=by exact rfl)(d:E.len=n:=by first|exact Eq.trans (b:=Nat.succ _) rfl rfl|exact rfl):Wk L (Tr.lt 8 (.un .not) xs k) E:=wr f e (A9L _) rfl rfl d
def iD(f:Wk L k (.cons n (.bool (!x)) E))(e:xs.map (E7 E.get)=[.bool x]:=by exact rfl)(d:E.len=n:=by first|exact Eq.trans (b:=Nat.succ _) rfl rfl|exact rfl):Wk L (Tr.lt 8 (.un .not) xs k) E:=wr f e (B5i _) rfl rfl d
def uX(f:Wk L k (.cons n (.int .i64 s.length) E))(e:xs.map (E7 E.get)=[.str s]:=by exact rfl)(d:E.len=n:=by first|exact Eq.trans (b:=Nat.succ _) rfl rfl|exact rfl):Wk L (Tr.lt 3 .len xs k) E:=wr f e (B5o _) rfl rfl d
def A29(f:Wk L k (.cons n (.bool (decide (0<=a/\a<b))) E))(e:xs.map (E7 E.get)=[.int q a,.int j b]:=by exact rfl)(d:E.len=n:=by first|exact Eq.trans (b:=Nat.succ _) rfl rfl|exact rfl):Wk L (Tr.lt 8 .inb xs k) E:=wr f e (B5r _ _ _ _) rfl rfl d
def B6Q(d:Wk L k (.cons n (.int .u8 (s.getD a.toNat 0).toNat) E))(e:xs.map (E7 E.get)=[.str s,.int q a]:=by exact rfl)(h0:0<=a:=by omega)(h1:a<s.length:=by simp[*]<;>omega)(f:E.len=n:=by first|exact Eq.trans (b:=Nat.succ _) rfl rfl|exact rfl):Wk L (Tr.lt 4 .idx xs k) E:=wr d e (nP _ _ _ h0 h1) rfl rfl f
def B0d(d:Wk L k (.cons n (.str ((s.drop a.toNat).take (b.toNat-a.toNat))) E))(f:xs.map (E7 E.get)=[.str s,.int q a,.int j b]:=by exact rfl)(h0:0<=a:=by omega)(h1:a<=b:=by omega)(e:b<=s.length:=by simp[*]<;>omega)(g:E.len=n:=by first|exact Eq.trans (b:=Nat.succ _) rfl rfl|exact rfl):Wk L (Tr.lt 9 .sub xs k) E:=wr d f (wU _ _ _ _ _ h0 h1 e) rfl rfl g
def A1l(g:Wk L k (.cons n (.int q (min a b)) E))(f:xs.map (E7 E.get)=[.int q a,.int j b]:=by exact rfl)(e:G9 (.int q (min a b))=t:=by exact rfl)(d:E.len=n:=by first|exact Eq.trans (b:=Nat.succ _) rfl rfl|exact rfl):Wk L (Tr.lt t .min xs k) E:=wr g f (B5k _ _ _ _) e (AS _ _) d
def B4e(g:Wk L k (.cons n (.int q (max a b)) E))(f:xs.map (E7 E.get)=[.int q a,.int j b]:=by exact rfl)(e:G9 (.int q (max a b))=t:=by exact rfl)(d:E.len=n:=by first|exact Eq.trans (b:=Nat.succ _) rfl rfl|exact rfl):Wk L (Tr.lt t .max xs k) E:=wr g f (B5l _ _ _ _) e (AS _ _) d
variable {α:Type} {r:Rw α} {o:Option (List α)} {w:Nat}
def P7(f:Wk L k (.cons n (.int .i64 ((el o).length:Int)) E))(e:xs.map (E7 E.get)=[B2 r o]:=by exact rfl)(d:E.len=n:=by first|exact Eq.trans (b:=Nat.succ _) rfl rfl|exact rfl):Wk L (Tr.lt 3 .len xs k) E:=wr f e (A9N _ _) rfl rfl d
def Y4(f:Wk L k (.cons n (.bool (decide (0<=a/\a<((el o).length:Int)))) E))(e:xs.map (E7 E.get)=[.int q a,B2 r o]:=by exact rfl)(hw:r.w=w:=by exact rfl)(d:E.len=n:=by first|exact Eq.trans (b:=Nat.succ _) rfl rfl|exact rfl):Wk L (Tr.lt 8 (.inbs w) xs k) E:=wr f e (A6Q hw) rfl rfl d
end
abbrev aA:D6->Tr->Tr:=.lt 3 (.bin .add)
abbrev aS:D6->Tr->Tr:=.lt 3 (.bin .sub)
abbrev aE:D6->Tr->Tr:=.lt 8 (.bin .eql)
abbrev aN:D6->Tr->Tr:=.lt 8 (.bin .neq)
abbrev aL:D6->Tr->Tr:=.lt 8 (.bin .lss)
abbrev aQ:D6->Tr->Tr:=.lt 8 (.bin .leq)
abbrev aG:D6->Tr->Tr:=.lt 8 (.bin .gtr)
abbrev aH:D6->Tr->Tr:=.lt 8 (.bin .geq)
abbrev aI:D6->Tr->Tr:=.lt 8 (.inb)
abbrev aD:D6->Tr->Tr:=.lt 3 .len
abbrev aX:D6->Tr->Tr:=.lt 8 (.un .not)
abbrev aC:D6->Tr->Tr:=.lt 9 (.bin .add)
abbrev h3(i:Nat):Value:=h i 3
end
section
open Go
def B9m(n:Nat):n &&& 2=n / 2%2*2:=by
 have h:=Nat.and_mod_two_pow (a:=n) (b:=2) (n:=2);have l:n &&& 2<=2:=mK;have g:∀ m:Nat,m<4->m &&& 2=m / 2%2*2:=B8;have k:=g (n%4) A0;have e:(2:Nat)%2 ^ 2=2:=B8;have d:(2:Nat) ^ 2=4:=B8;rw[e,d,k]at h;omega
def OJ(a:Int):evU (.bin .and) [.int .i64 a,.int .i64 2]=.int .i64 (a / 2%2*2):=by
 rw[tS];congr 1;have d:(BitVec.ofInt 64 a &&& BitVec.ofInt 64 2).toNat=(a%2 ^ 64).toNat &&& 2:=by
  rw[r9,S1];rfl
 show IntKind.i64.wrap (((BitVec.ofInt 64 a &&& BitVec.ofInt 64 2).toNat:Nat):Int)=_;rw[d,B9m,gU A0 (by show _<(2:Int) ^ 63;omega)];omega
def B9l(n:Nat):n &&& 4=n / 4%2*4:=by
 have h:=Nat.and_mod_two_pow (a:=n) (b:=4) (n:=3);have l:n &&& 4<=4:=mK;have g:∀ m:Nat,m<8->m &&& 4=m / 4%2*4:=B8;have k:=g (n%8) A0;have e:(4:Nat)%2 ^ 3=4:=B8;have d:(2:Nat) ^ 3=8:=B8;rw[e,d,k]at h;omega
def CL(a:Int):evU (.bin .and) [.int .i64 a,.int .i64 4]=.int .i64 (a / 4%2*4):=by
 rw[tS];congr 1;have d:(BitVec.ofInt 64 a &&& BitVec.ofInt 64 4).toNat=(a%2 ^ 64).toNat &&& 4:=by
  rw[r9,S1];rfl
 show IntKind.i64.wrap (((BitVec.ofInt 64 a &&& BitVec.ofInt 64 4).toNat:Nat):Int)=_;rw[d,B9l,gU A0 (by show _<(2:Int) ^ 63;omega)];omega
def an6(x:BitVec 64):x &&& ~~~(6#64)=0#64↔x.toNat<=7/\x.toNat%2=0:=by
 constructor
 .intro h;have e:x=(x &&& 6#64) ||| (x &&& ~~~(6#64)):=by
   rw[<- BitVec.and_or_distrib_left];have:(6#64 ||| ~~~(6#64))=BitVec.allOnes 64:=B8;rw[this,BitVec.and_allOnes]
  rw[h,BitVec.or_zero]at e;have d:x.toNat=x.toNat &&& 6:=by
   have:=G2 BitVec.toNat e;rw[r9]at this;exact this
  have f:x.toNat<=6:=by rw[d];exact mK
  refine⟨A0,?_⟩;have:∀ n:Nat,n<=6->n=n &&& 6->n%2=0:=B8;exact this _ f d
 .intro ⟨h,k⟩;have e:x=BitVec.ofNat 64 x.toNat:=by simp
  have:∀ n:Nat,n<=7->n%2=0->(BitVec.ofNat 64 n) &&& ~~~(6#64)=0#64:=B8;rw[e];exact this _ h k
def A94(a:Int):Int:=IntKind.i64.wrap ((BitVec.ofInt 64 a &&& ~~~(6#64)).toNat:Nat)
def A7N(a:Int)(h : -9223372036854775808<=a)(g:a<=9223372036854775807):A94 a=0↔0<=a/\a<=7/\a%2=0:=by
 have e:A94 a=0↔(BitVec.ofInt 64 a &&& ~~~(6#64)).toNat=0:=by
  have:=(BitVec.ofInt 64 a &&& ~~~(6#64)).isLt;unfold A94;generalize (BitVec.ofInt 64 a &&& ~~~(6#64)).toNat=m at *;simp only[IntKind.wrap,IntKind.bits,IntKind.signed,Nat.reduceSub]<;>simp<;>omega
 have f:(BitVec.ofInt 64 a).toNat=(a%2 ^ 64).toNat:=by rw[S1];rfl
 have d:(BitVec.ofInt 64 a &&& ~~~(6#64)).toNat=0↔BitVec.ofInt 64 a &&& ~~~(6#64)=0#64:=by
  constructor
  .intro h;exact BitVec.eq_of_toNat_eq (by rw[h];rfl)
  .intro h;rw[h];rfl
 rw[e,d,an6,f];omega
def B5v(a:Int):evU (.bin .andNot) [.int .i64 a,.int .i64 6]=.int .i64 (A94 a):=by
 rw[A2S];rfl
def s0L{L:List U->Prop}{t:Tr}(h:t.sav L (Ev.app us .nil)):t.sat L us:=by
 obtain⟨a,b⟩:=Ev.app_ok (l:=us) (E:=.nil) True.intro
 have:=h a;rw[b]at this;exact this
def B4I(n k:Nat):n &&& 2 ^ k=n / 2 ^ k%2*2 ^ k:=by
 have h:(n &&& 2 ^ k)=bif n.testBit k then 2 ^ k else 0:=by
  apply Nat.eq_of_testBit_eq;intro i;rw[Nat.testBit_and,gF];by_cases e:k=i
  .subst e;cases h:n.testBit k<;>simp[h,gF]
  .cases h:n.testBit k<;>simp[e,gF]
 rw[h,Nat.testBit_eq_decide_div_mod_eq];by_cases e:n / 2 ^ k%2=1
 .simp[e]
 .have:n / 2 ^ k%2=0:=A0;simp[this]
def A6U(a:Int):evU (.bin .and) [.int .i64 a,.int .i64 32]=.int .i64 (a / 32%2*32):=by
 rw[tS];congr 1;have d:(BitVec.ofInt 64 a &&& BitVec.ofInt 64 32).toNat=(a%2 ^ 64).toNat &&& 2 ^ 5:=by
  rw[r9,S1];rfl
 show IntKind.i64.wrap (((BitVec.ofInt 64 a &&& BitVec.ofInt 64 32).toNat:Nat):Int)=_;rw[d,B4I,show(2:Nat) ^ 5=32 from rfl,gU A0 (by show _<(2:Int) ^ 63;omega)];omega
def A6T(a:Int):evU (.bin .and) [.int .i64 a,.int .i64 64]=.int .i64 (a / 64%2*64):=by
 rw[tS];congr 1;have d:(BitVec.ofInt 64 a &&& BitVec.ofInt 64 64).toNat=(a%2 ^ 64).toNat &&& 2 ^ 6:=by
  rw[r9,S1];rfl
 show IntKind.i64.wrap (((BitVec.ofInt 64 a &&& BitVec.ofInt 64 64).toNat:Nat):Int)=_;rw[d,B4I,show(2:Nat) ^ 6=64 from rfl,gU A0 (by show _<(2:Int) ^ 63;omega)];omega
end
end Go.Sx
namespace Go.Proofs
open Go.Shelf
def Tryz.lays103_ren:Go.Shelf.Ren:=⟨fun|103=>142|210=>154|206=>82|n=>n,fun|9=>9|4=>4|24=>117|3=>3|n=>n,fun|n=>n⟩
def Tryz.lays103:Go.Proofs.Lays.n103 Tryz.prog Tryz.lays103_ren:={
 mixed:=C3
 f103:=X6 Tryz.func142
 f206:=X6 Tryz.func82
 f210:=X6 Tryz.func154
 t3:=Tryz.underlying3
 a3:=Tryz.isAgg3
 z3:=Tryz.sizeOf3
 v3:=Tryz.zeroValue3
 t4:=Tryz.underlying4
 a4:=Tryz.isAgg4
 z4:=Tryz.sizeOf4
 v4:=Tryz.zeroValue4
 t9:=Tryz.underlying9
 a9:=Tryz.isAgg9
 z9:=Tryz.sizeOf9
 v9:=Tryz.zeroValue9
 t24:=Tryz.underlying117
 a24:=Tryz.isAgg117
 z24:=Tryz.sizeOf117
 v24:=Tryz.zeroValue117 }
open Go.RowKit in
def Tryz.strings_CutPrefix(s p:ByteArray)(w:World) :
  Calls Tryz.prog 142 #[.string s,.string p] w fun e w'=>e=.returned (.tuple #[.string ⟨(Lib.trimPrefix s.data.toList p.data.toList).toArray⟩,.bool (Lib.hasPrefix s.data.toList p.data.toList)])/\w'=w:=Any.strings_CutPrefix Tryz.lays103 s p w
def Tryz.laysM171_ren:Go.Shelf.Ren:=⟨fun|171=>79|243=>111|246=>131|283=>146|284=>147|285=>148|286=>149|129=>158|317=>157|318=>159|319=>160|320=>161|337=>168|338=>169|n=>n,fun|3=>3|9=>9|2=>2|4=>4|171=>170|0=>0|53=>122|37=>35|5=>5|173=>173|212=>184|51=>24|20=>20|213=>185|46=>32|232=>198|233=>199|n=>n,fun|17=>3|18=>4|19=>5|n=>n⟩
def Tryz.laysM171:Go.Proofs.LaysM.n171 Tryz.prog Tryz.laysM171_ren:={
 mixed:=C3
 f129:=X6 Tryz.func158
 f171:=X6 Tryz.func79
 f243:=X6 Tryz.func111
 f246:=X6 Tryz.func131
 f283:=X6 Tryz.func146
 f284:=X6 Tryz.func147
 f285:=X6 Tryz.func148
 f286:=X6 Tryz.func149
 f317:=X6 Tryz.func157
 f318:=X6 Tryz.func159
 f319:=X6 Tryz.func160
 f320:=X6 Tryz.func161
 f337:=X6 Tryz.func168
 f338:=X6 Tryz.func169
 t0:=Tryz.underlying0
 a0:=Tryz.isAgg0
 z0:=Tryz.sizeOf0
 v0:=Tryz.zeroValue0
 t2:=Tryz.underlying2
 a2:=Tryz.isAgg2
 z2:=Tryz.sizeOf2
 v2:=Tryz.zeroValue2
 t3:=Tryz.underlying3
 a3:=Tryz.isAgg3
 z3:=Tryz.sizeOf3
 v3:=Tryz.zeroValue3
 t4:=Tryz.underlying4
 a4:=Tryz.isAgg4
 z4:=Tryz.sizeOf4
 v4:=Tryz.zeroValue4
 t5:=Tryz.underlying5
 a5:=Tryz.isAgg5
 z5:=Tryz.sizeOf5
 v5:=Tryz.zeroValue5
 t9:=Tryz.underlying9
 a9:=Tryz.isAgg9
 z9:=Tryz.sizeOf9
 v9:=Tryz.zeroValue9
 t20:=Tryz.underlying20
 a20:=Tryz.isAgg20
 z20:=Tryz.sizeOf20
 v20:=Tryz.zeroValue20
 t37:=Tryz.underlying35
 a37:=Tryz.isAgg35
 z37:=Tryz.sizeOf35
 v37:=Tryz.zeroValue35
 t46:=Tryz.underlying32
 a46:=Tryz.isAgg32
 z46:=Tryz.sizeOf32
 v46:=Tryz.zeroValue32
 t51:=Tryz.underlying24
 a51:=Tryz.isAgg24
 z51:=Tryz.sizeOf24
 v51:=Tryz.zeroValue24
 t53:=Tryz.underlying122
 a53:=Tryz.isAgg122
 z53:=Tryz.sizeOf122
 v53:=Tryz.zeroValue122
 t171:=Tryz.underlying170
 a171:=Tryz.isAgg170
 z171:=Tryz.sizeOf170
 v171:=Tryz.zeroValue170
 t173:=Tryz.underlying173
 a173:=Tryz.isAgg173
 z173:=Tryz.sizeOf173
 v173:=Tryz.zeroValue173
 t212:=Tryz.underlying184
 a212:=Tryz.isAgg184
 z212:=Tryz.sizeOf184
 v212:=Tryz.zeroValue184
 t213:=Tryz.underlying185
 a213:=Tryz.isAgg185
 z213:=Tryz.sizeOf185
 t232:=Tryz.underlying198
 a232:=Tryz.isAgg198
 z232:=Tryz.sizeOf198
 v232:=Tryz.zeroValue198
 t233:=Tryz.underlying199
 a233:=Tryz.isAgg199
 z233:=Tryz.sizeOf199
 v233:=Tryz.zeroValue199
 g17:=C3
 g18:=C3
 g19:=C3
 i0:=C3
 i2:=C3
 i3:=C3
 i4:=C3
 i5:=C3
 i9:=C3
 i20:=C3
 i37:=C3
 i46:=C3
 i51:=C3
 i53:=C3
 i171:=C3
 i173:=C3
 i212:=C3
 i232:=C3
 i233:=C3
 m17:=C3
 m18:=C3
 m19:=by kernel_rfl }
open Go.RowKit Go.Sort Go.Lib in
def Tryz.strconv_Itoa(n:Int)(h0 : -9223372036854775808<=n)(h1:n<=9223372036854775807)(w:World)(d:Lib.TabIs Tryz.prog w "internal/strconv.uint64pow10" .u64 Lib.pow10Tab) :
  Calls Tryz.prog 79 #[.int .i64 n] w fun e w'=>e=.returned (.string ⟨(Lib.itoa n).toArray⟩)/\∃ k os,w'=grow (w.drewN k) os:=Any.strconv_Itoa Tryz.laysM171 n h0 h1 w d
def Tryz.lays144_ren:Go.Shelf.Ren:=⟨fun|144=>28|143=>59|219=>85|217=>114|225=>115|224=>116|267=>117|266=>132|314=>133|n=>n,fun|9=>9|4=>4|3=>3|5=>5|46=>32|146=>120|51=>24|n=>n,fun|1=>0|n=>n⟩
def Tryz.lays144:Go.Proofs.Lays.n144 Tryz.prog Tryz.lays144_ren:={
 mixed:=C3
 f143:=X6 Tryz.func59
 f144:=X6 Tryz.func28
 f217:=X6 Tryz.func114
 f219:=X6 Tryz.func85
 f224:=X6 Tryz.func116
 f225:=X6 Tryz.func115
 f266:=X6 Tryz.func132
 f267:=X6 Tryz.func117
 f314:=X6 Tryz.func133
 t3:=Tryz.underlying3
 a3:=Tryz.isAgg3
 z3:=Tryz.sizeOf3
 v3:=Tryz.zeroValue3
 t4:=Tryz.underlying4
 a4:=Tryz.isAgg4
 z4:=Tryz.sizeOf4
 v4:=Tryz.zeroValue4
 t5:=Tryz.underlying5
 a5:=Tryz.isAgg5
 z5:=Tryz.sizeOf5
 v5:=Tryz.zeroValue5
 t9:=Tryz.underlying9
 a9:=Tryz.isAgg9
 z9:=Tryz.sizeOf9
 v9:=Tryz.zeroValue9
 t46:=Tryz.underlying32
 a46:=Tryz.isAgg32
 z46:=Tryz.sizeOf32
 v46:=Tryz.zeroValue32
 t51:=Tryz.underlying24
 a51:=Tryz.isAgg24
 z51:=Tryz.sizeOf24
 v51:=Tryz.zeroValue24
 t146:=Tryz.underlying120
 a146:=Tryz.isAgg120
 z146:=Tryz.sizeOf120
 v146:=Tryz.zeroValue120
 g1:=by kernel_rfl }
open Go.RowKit Go.Lib in
def Tryz.strings_Contains_one(s:ByteArray)(c:UInt8)(w:World) :
  Calls Tryz.prog 28 #[.string s,.string ⟨#[c]⟩] w fun e w'=>e=.returned (.bool (decide (0<=Lib.indexByte s.data.toList c)))/\w'=w:=Any.strings_Contains_one Tryz.lays144 s c w
def Tryz.lays99_ren:Go.Shelf.Ren:=⟨fun|99=>54|206=>82|n=>n,fun|9=>9|4=>4|3=>3|n=>n,fun|n=>n⟩
def Tryz.lays99:Go.Proofs.Lays.n99 Tryz.prog Tryz.lays99_ren:={
 mixed:=C3
 f99:=X6 Tryz.func54
 f206:=X6 Tryz.func82
 t3:=Tryz.underlying3
 a3:=Tryz.isAgg3
 z3:=Tryz.sizeOf3
 v3:=Tryz.zeroValue3
 t4:=Tryz.underlying4
 a4:=Tryz.isAgg4
 z4:=Tryz.sizeOf4
 v4:=Tryz.zeroValue4
 t9:=Tryz.underlying9
 a9:=Tryz.isAgg9
 z9:=Tryz.sizeOf9
 v9:=Tryz.zeroValue9 }
open Go.RowKit Go.Lib in
def Tryz.strings_HasPrefix(s p:ByteArray)(w:World) :
  Calls Tryz.prog 54 #[.string s,.string p] w fun e w'=>e=.returned (.bool (Lib.hasPrefix s.data.toList p.data.toList))/\w'=w:=Any.strings_HasPrefix Tryz.lays99 s p w
def Tryz.laysM155_ren:Go.Shelf.Ren:=⟨fun|155=>29|154=>60|138=>86|165=>55|143=>59|166=>56|197=>87|169=>58|195=>118|218=>119|240=>83|241=>84|219=>85|260=>120|276=>112|277=>113|217=>114|225=>115|224=>116|267=>117|266=>132|314=>133|n=>n,fun|9=>9|3=>3|4=>4|72=>92|0=>0|76=>96|105=>126|21=>21|5=>5|70=>90|20=>20|37=>35|75=>95|127=>125|164=>144|46=>32|119=>156|139=>159|138=>158|146=>120|51=>24|80=>99|n=>n,fun|1=>0|3=>1|4=>2|n=>n⟩
def Tryz.laysM155:Go.Proofs.LaysM.n155 Tryz.prog Tryz.laysM155_ren:={
 mixed:=C3
 f138:=X6 Tryz.func86
 f143:=X6 Tryz.func59
 f154:=X6 Tryz.func60
 f155:=X6 Tryz.func29
 f165:=X6 Tryz.func55
 f166:=X6 Tryz.func56
 f169:=X6 Tryz.func58
 f195:=X6 Tryz.func118
 f197:=X6 Tryz.func87
 f217:=X6 Tryz.func114
 f218:=X6 Tryz.func119
 f219:=X6 Tryz.func85
 f224:=X6 Tryz.func116
 f225:=X6 Tryz.func115
 f240:=X6 Tryz.func83
 f241:=X6 Tryz.func84
 f260:=X6 Tryz.func120
 f266:=X6 Tryz.func132
 f267:=X6 Tryz.func117
 f276:=X6 Tryz.func112
 f277:=X6 Tryz.func113
 f314:=X6 Tryz.func133
 t0:=Tryz.underlying0
 a0:=Tryz.isAgg0
 z0:=Tryz.sizeOf0
 v0:=Tryz.zeroValue0
 t3:=Tryz.underlying3
 a3:=Tryz.isAgg3
 z3:=Tryz.sizeOf3
 v3:=Tryz.zeroValue3
 t4:=Tryz.underlying4
 a4:=Tryz.isAgg4
 z4:=Tryz.sizeOf4
 v4:=Tryz.zeroValue4
 t5:=Tryz.underlying5
 a5:=Tryz.isAgg5
 z5:=Tryz.sizeOf5
 v5:=Tryz.zeroValue5
 t9:=Tryz.underlying9
 a9:=Tryz.isAgg9
 z9:=Tryz.sizeOf9
 v9:=Tryz.zeroValue9
 t20:=Tryz.underlying20
 a20:=Tryz.isAgg20
 z20:=Tryz.sizeOf20
 v20:=Tryz.zeroValue20
 t21:=Tryz.underlying21
 a21:=Tryz.isAgg21
 z21:=Tryz.sizeOf21
 v21:=Tryz.zeroValue21
 t37:=Tryz.underlying35
 a37:=Tryz.isAgg35
 z37:=Tryz.sizeOf35
 v37:=Tryz.zeroValue35
 t46:=Tryz.underlying32
 a46:=Tryz.isAgg32
 z46:=Tryz.sizeOf32
 v46:=Tryz.zeroValue32
 t51:=Tryz.underlying24
 a51:=Tryz.isAgg24
 z51:=Tryz.sizeOf24
 v51:=Tryz.zeroValue24
 t70:=Tryz.underlying90
 a70:=Tryz.isAgg90
 z70:=Tryz.sizeOf90
 v70:=Tryz.zeroValue90
 t72:=Tryz.underlying92
 a72:=Tryz.isAgg92
 z72:=Tryz.sizeOf92
 v72:=Tryz.zeroValue92
 t75:=Tryz.underlying95
 a75:=Tryz.isAgg95
 z75:=Tryz.sizeOf95
 v75:=Tryz.zeroValue95
 t76:=Tryz.underlying96
 a76:=Tryz.isAgg96
 z76:=Tryz.sizeOf96
 v76:=Tryz.zeroValue96
 t105:=Tryz.underlying126
 a105:=Tryz.isAgg126
 z105:=Tryz.sizeOf126
 v105:=Tryz.zeroValue126
 t119:=Tryz.underlying156
 a119:=Tryz.isAgg156
 z119:=Tryz.sizeOf156
 t127:=Tryz.underlying125
 a127:=Tryz.isAgg125
 z127:=Tryz.sizeOf125
 v127:=Tryz.zeroValue125
 t138:=Tryz.underlying158
 a138:=Tryz.isAgg158
 z138:=Tryz.sizeOf158
 v138:=Tryz.zeroValue158
 t139:=Tryz.underlying159
 a139:=Tryz.isAgg159
 z139:=Tryz.sizeOf159
 v139:=Tryz.zeroValue159
 t146:=Tryz.underlying120
 a146:=Tryz.isAgg120
 z146:=Tryz.sizeOf120
 v146:=Tryz.zeroValue120
 t164:=Tryz.underlying144
 a164:=Tryz.isAgg144
 z164:=Tryz.sizeOf144
 v164:=Tryz.zeroValue144
 g1:=C3
 g3:=C3
 g4:=C3
 t80:=Tryz.underlying99
 a80:=Tryz.isAgg99
 z80:=Tryz.sizeOf99
 v80:=Tryz.zeroValue99
 i0:=C3
 i3:=C3
 i4:=C3
 i5:=C3
 i9:=C3
 i20:=C3
 i21:=C3
 i37:=C3
 i46:=C3
 i51:=C3
 i70:=C3
 i72:=C3
 i75:=C3
 i76:=C3
 i80:=C3
 i105:=C3
 i127:=C3
 i138:=C3
 i139:=C3
 i146:=C3
 i164:=C3
 m1:=C3
 s1_3:=fun w h=>Go.Proofs.cell_of_shapedOpen_int (zero:=#[.int .i64 0]) (t:=3) h (F4 C3) C3 rfl C3 C3 Tryz.underlying3
 m3:=C3
 m4:=by kernel_rfl }
def Tryz.Builder_Extra_M155:Builder.Extra Tryz.prog Tryz.laysM155_ren:={
 sizeBuilder:=C3
 liesBuilder:=C3
 t5:=Tryz.underlying5
 a5:=Tryz.isAgg5
 z5:=Tryz.sizeOf5
 v5:=Tryz.zeroValue5
 infoByte:=C3
 cellsByte:=C3
 sizeByte:=C3
 neB5:=by decide }
open Go.RowKit Go.Lib in
def Tryz.strings_ReplaceAll_shaped(s old new:ByteArray)(w:World)(h:w.ShapedOpen Tryz.prog)(d:s.size<4294967281)(h1:1<=old.size)(hlen:s.size+Lib.countB s old*new.size<=140737488355328) :
  Calls Tryz.prog 29 #[.string s,.string old,.string new] w fun e w' =>
   e=.returned (.string ⟨(Lib.replaceAll s.data.toList old.data.toList new.data.toList).toArray⟩)/\Below w.heap.size w w':=Any.strings_ReplaceAll_shaped Tryz.laysM155 Tryz.Builder_Extra_M155 s old new w h d h1 hlen
end Go.Proofs
namespace Go.Proofs.YtdimocjaepnifaaGreatDoor
open Go Go.Sx Go.Proofs.Tryz
variable {i:Int}
def gl:Nat:=6
def n0:Nat:=6
def iM:List (Nat×List Value):=[(4,[.int .u8 (0),.int .u8 (1),.int .u8 (28),.int .u8 (2),.int .u8 (29),.int .u8 (14),.int .u8 (24),.int .u8 (3),.int .u8 (30),.int .u8 (22),.int .u8 (20),.int .u8 (15),.int .u8 (25),.int .u8 (17),.int .u8 (4),.int .u8 (8),.int .u8 (31),.int .u8 (27),.int .u8 (13),.int .u8 (23),.int .u8 (21),.int .u8 (19),.int .u8 (16),.int .u8 (7),.int .u8 (26),.int .u8 (12),.int .u8 (18),.int .u8 (6),.int .u8 (11),.int .u8 (5),.int .u8 (10),.int .u8 (9)]),
 (5,[.int .u8 (0),.int .u8 (1),.int .u8 (56),.int .u8 (2),.int .u8 (57),.int .u8 (49),.int .u8 (28),.int .u8 (3),.int .u8 (61),.int .u8 (58),.int .u8 (42),.int .u8 (50),.int .u8 (38),.int .u8 (29),.int .u8 (17),.int .u8 (4),.int .u8 (62),.int .u8 (47),.int .u8 (59),.int .u8 (36),.int .u8 (45),.int .u8 (43),.int .u8 (51),.int .u8 (22),.int .u8 (53),.int .u8 (39),.int .u8 (33),.int .u8 (30),.int .u8 (24),.int .u8 (18),.int .u8 (12),.int .u8 (5),.int .u8 (63),.int .u8 (55),.int .u8 (48),.int .u8 (27),.int .u8 (60),.int .u8 (41),.int .u8 (37),.int .u8 (16),.int .u8 (46),.int .u8 (35),.int .u8 (44),.int .u8 (21),.int .u8 (52),.int .u8 (32),.int .u8 (23),.int .u8 (11),.int .u8 (54),.int .u8 (26),.int .u8 (40),.int .u8 (15),.int .u8 (34),.int .u8 (20),.int .u8 (31),.int .u8 (10),.int .u8 (25),.int .u8 (14),.int .u8 (19),.int .u8 (9),.int .u8 (13),.int .u8 (8),.int .u8 (7),.int .u8 (6)]),
 (3,[.int .u64 (1),.int .u64 (10),.int .u64 (100),.int .u64 (1000),.int .u64 (10000),.int .u64 (100000),.int .u64 (1000000),.int .u64 (10000000),.int .u64 (100000000),.int .u64 (1000000000),.int .u64 (10000000000),.int .u64 (100000000000),.int .u64 (1000000000000),.int .u64 (10000000000000),.int .u64 (100000000000000),.int .u64 (1000000000000000),.int .u64 (10000000000000000),.int .u64 (100000000000000000),.int .u64 (1000000000000000000),.int .u64 (10000000000000000000)]),
 (2,[.int .u8 (128),.int .u8 (191),.int .u8 (160),.int .u8 (191),.int .u8 (128),.int .u8 (159),.int .u8 (144),.int .u8 (191),.int .u8 (128),.int .u8 (143),.int .u8 (0),.int .u8 (0),.int .u8 (0),.int .u8 (0),.int .u8 (0),.int .u8 (0),.int .u8 (0),.int .u8 (0),.int .u8 (0),.int .u8 (0),.int .u8 (0),.int .u8 (0),.int .u8 (0),.int .u8 (0),.int .u8 (0),.int .u8 (0),.int .u8 (0),.int .u8 (0),.int .u8 (0),.int .u8 (0),.int .u8 (0),.int .u8 (0)]),
 (1,[.int .u8 (240),.int .u8 (240),.int .u8 (240),.int .u8 (240),.int .u8 (240),.int .u8 (240),.int .u8 (240),.int .u8 (240),.int .u8 (240),.int .u8 (240),.int .u8 (240),.int .u8 (240),.int .u8 (240),.int .u8 (240),.int .u8 (240),.int .u8 (240),.int .u8 (240),.int .u8 (240),.int .u8 (240),.int .u8 (240),.int .u8 (240),.int .u8 (240),.int .u8 (240),.int .u8 (240),.int .u8 (240),.int .u8 (240),.int .u8 (240),.int .u8 (240),.int .u8 (240),.int .u8 (240),.int .u8 (240),.int .u8 (240),.int .u8 (240),.int .u8 (240),.int .u8 (240),.int .u8 (240),.int .u8 (240),.int .u8 (240),.int .u8 (240),.int .u8 (240),.int .u8 (240),.int .u8 (240),.int .u8 (240),.int .u8 (240),.int .u8 (240),.int .u8 (240),.int .u8 (240),.int .u8 (240),.int .u8 (240),.int .u8 (240),.int .u8 (240),.int .u8 (240),.int .u8 (240),.int .u8 (240),.int .u8 (240),.int .u8 (240),.int .u8 (240),.int .u8 (240),.int .u8 (240),.int .u8 (240),.int .u8 (240),.int .u8 (240),.int .u8 (240),.int .u8 (240),.int .u8 (240),.int .u8 (240),.int .u8 (240),.int .u8 (240),.int .u8 (240),.int .u8 (240),.int .u8 (240),.int .u8 (240),.int .u8 (240),.int .u8 (240),.int .u8 (240),.int .u8 (240),.int .u8 (240),.int .u8 (240),.int .u8 (240),.int .u8 (240),.int .u8 (240),.int .u8 (240),.int .u8 (240),.int .u8 (240),.int .u8 (240),.int .u8 (240),.int .u8 (240),.int .u8 (240),.int .u8 (240),.int .u8 (240),.int .u8 (240),.int .u8 (240),.int .u8 (240),.int .u8 (240),.int .u8 (240),.int .u8 (240),.int .u8 (240),.int .u8 (240),.int .u8 (240),.int .u8 (240),.int .u8 (240),.int .u8 (240),.int .u8 (240),.int .u8 (240),.int .u8 (240),.int .u8 (240),.int .u8 (240),.int .u8 (240),.int .u8 (240),.int .u8 (240),.int .u8 (240),.int .u8 (240),.int .u8 (240),.int .u8 (240),.int .u8 (240),.int .u8 (240),.int .u8 (240),.int .u8 (240),.int .u8 (240),.int .u8 (240),.int .u8 (240),.int .u8 (240),.int .u8 (240),.int .u8 (240),.int .u8 (240),.int .u8 (240),.int .u8 (240),.int .u8 (240),.int .u8 (241),.int .u8 (241),.int .u8 (241),.int .u8 (241),.int .u8 (241),.int .u8 (241),.int .u8 (241),.int .u8 (241),.int .u8 (241),.int .u8 (241),.int .u8 (241),.int .u8 (241),.int .u8 (241),.int .u8 (241),.int .u8 (241),.int .u8 (241),.int .u8 (241),.int .u8 (241),.int .u8 (241),.int .u8 (241),.int .u8 (241),.int .u8 (241),.int .u8 (241),.int .u8 (241),.int .u8 (241),.int .u8 (241),.int .u8 (241),.int .u8 (241),.int .u8 (241),.int .u8 (241),.int .u8 (241),.int .u8 (241),.int .u8 (241),.int .u8 (241),.int .u8 (241),.int .u8 (241),.int .u8 (241),.int .u8 (241),.int .u8 (241),.int .u8 (241),.int .u8 (241),.int .u8 (241),.int .u8 (241),.int .u8 (241),.int .u8 (241),.int .u8 (241),.int .u8 (241),.int .u8 (241),.int .u8 (241),.int .u8 (241),.int .u8 (241),.int .u8 (241),.int .u8 (241),.int .u8 (241),.int .u8 (241),.int .u8 (241),.int .u8 (241),.int .u8 (241),.int .u8 (241),.int .u8 (241),.int .u8 (241),.int .u8 (241),.int .u8 (241),.int .u8 (241),.int .u8 (241),.int .u8 (241),.int .u8 (2),.int .u8 (2),.int .u8 (2),.int .u8 (2),.int .u8 (2),.int .u8 (2),.int .u8 (2),.int .u8 (2),.int .u8 (2),.int .u8 (2),.int .u8 (2),.int .u8 (2),.int .u8 (2),.int .u8 (2),.int .u8 (2),.int .u8 (2),.int .u8 (2),.int .u8 (2),.int .u8 (2),.int .u8 (2),.int .u8 (2),.int .u8 (2),.int .u8 (2),.int .u8 (2),.int .u8 (2),.int .u8 (2),.int .u8 (2),.int .u8 (2),.int .u8 (2),.int .u8 (2),.int .u8 (19),.int .u8 (3),.int .u8 (3),.int .u8 (3),.int .u8 (3),.int .u8 (3),.int .u8 (3),.int .u8 (3),.int .u8 (3),.int .u8 (3),.int .u8 (3),.int .u8 (3),.int .u8 (3),.int .u8 (35),.int .u8 (3),.int .u8 (3),.int .u8 (52),.int .u8 (4),.int .u8 (4),.int .u8 (4),.int .u8 (68),.int .u8 (241),.int .u8 (241),.int .u8 (241),.int .u8 (241),.int .u8 (241),.int .u8 (241),.int .u8 (241),.int .u8 (241),.int .u8 (241),.int .u8 (241),.int .u8 (241)])]
def H0:Hp AB:=mkH iM
def A8q:prog.follows .mixedOrders=true:=C3
def A8p:PG prog:=by
 have h:(prog.funcs.toList.all fun fn=>!(fn.name == "runtime.NumGoroutine"))=true:=C3;intro f fn d;have h1:=D7.1 h fn (Array.mem_def.1 (Array.mem_of_getElem? d))
 simpa using h1
def B5a:List (FuncId×EK):=[(132,.indexByteString),(119,.countString),(112,.noEscape),(113,.makeNoZero 5)]
def B7x:∀ p ∈ B5a,GX prog p.1 p.2:=by
 intro p hp;unfold B5a at hp;rcases B7.1 hp with rfl|hp
 .exact⟨⟨_,rfl,by kernel_rfl,by kernel_rfl,by kernel_rfl,.inr (.inl ⟨rfl,by kernel_rfl⟩)⟩⟩
 rcases B7.1 hp with rfl|hp
 .exact⟨⟨_,rfl,by kernel_rfl,by kernel_rfl,by kernel_rfl,.inr (.inr (.inl ⟨rfl,by kernel_rfl⟩))⟩⟩
 rcases B7.1 hp with rfl|hp
 .exact⟨⟨_,rfl,by kernel_rfl,by kernel_rfl,by kernel_rfl,.inl ⟨rfl,by kernel_rfl⟩⟩⟩
 rcases B7.1 hp with rfl|hp
 .exact⟨⟨_,rfl,by kernel_rfl,by kernel_rfl,by kernel_rfl,.inr (.inr (.inr ⟨_,_,_,rfl,rfl,by kernel_rfl,by kernel_rfl⟩))⟩⟩
 cases hp
noncomputable abbrev cx(l:List (FuncId×FnC))(d:List LpE):Cx:=⟨prog,B5a,gl,A2Y l,lpT d⟩
def cxg{G:Nat->Option Obj}{l:List (FuncId×FnC)}{d:List LpE}(h:cJ prog G gl l)(k:g8 prog G gl d):CxG (cx l d) G:=A9j A8q A8p B7x h k
abbrev j9:=Int×Int×Int×Int×Int×Int×Int×List UInt8
abbrev D4:=Option (List Int)
abbrev C8:=List UInt8
abbrev I6(G:Nat->Option Obj):Prop:=y4 Tryz.prog G gl H0 n0
abbrev L5:={L:List (FuncId×FnC) // ∀ {G:Nat->Option Obj},I6 G->cJ Tryz.prog G gl L}
def L0:List (FuncId×FnC):=[]
def B4T{G:Nat->Option Obj}(d:y4 prog G gl H0 n0):cJ prog G gl L0:=.nil
def rB:Rw Int:=r1 (m7 .u8)
def rN:Rw Int:=r1 (m7 .i64)
def okU(c:Int):Prop:=0<=c/\c<=1114111/\¬(55296<=c/\c<=57343)
instance(c:Int):Decidable (okU c):=by unfold okU;infer_instance
def mD(c:Int):Int:=if c=32 then 0 else if c=105∨c=109 then -1 else if 97<=c/\c<=122 then c-96 else if 92<=c/\c<=95 then c-64 else -1
def chP(c:Int):Prop:=okU c/\32<=c/\¬(127<=c/\c<=159)
instance(c:Int):Decidable (chP c):=by unfold chP;infer_instance
def aK(c m:Int):Prop:=(chP c/\(m=0∨(m=2/\c≠91/\c≠79)∨(0<=mD c/\(m=4∨m=6))))∨(1114113<=c/\c<=1114134/\0<=m/\m<=7)∨((c=1114135∨c=1114137)/\(m=0∨m=2))∨(c=1114136/\(m=0∨m=1∨m=2))∨(c=1114138/\m=0)
instance(c m:Int):Decidable (aK c m):=by unfold aK;infer_instance
def l2{a b:Int}{c d:Bool}(h:a=b)(k:c=d):[U.int .u8 a,U.bool c]=[U.int .u8 b,U.bool d]:=by rw[h,k]
def l1{c d:Bool}(k:c=d):[U.bool c]=[U.bool d]:=by rw[k]
def l0{c d:Int}(k:c=d):[U.int .i64 c]=[U.int .i64 d]:=by rw[k]
def AH:List U->Option (Nat×List U)
 | [.int .i64 c]=>some (0,[.int .u8 (if 0<=mD c then mD c else 0),.bool (decide (0<=mD c))])
 | _=>none
def A1R(c:Int):AH [.int .i64 c]=some (0,[.int .u8 (if 0<=mD c then mD c else 0),.bool (decide (0<=mD c))]):=rfl
def A6u(n:Nat):Tr:=.lt 3 (.bin .and) [h3 0,jI 31]<|.lt 4 (.conv .u8) [h3 n]<|.ret [h (n+1) 4,.bool true]
def X0(a0:Nat)(d:Nat)(a2:Int)(e f:Tr):Tr:=aQ [h3 a0,jI a2]<|.br d e f
def J6(a0:Nat)(d:Nat)(a2:Int)(e f:Tr):Tr:=aH [h3 a0,jI a2]<|.br d e f
def A6t(n:Nat):Tr:=J6 0 n 92 (X0 0 (n+1) 95 (A6u (n+2)) (.ret [.int .u8 (0),.bool false])) (.ret [.int .u8 (0),.bool false])
def F3(a0:Nat)(d:Nat)(a2:Int)(e f:Tr):Tr:=aE [h3 a0,jI a2]<|.br d e f
def B31:Tr:=F3 0 1 32 (.ret [.int .u8 (0),.bool true]) (F3 0 2 105 (.ret [.int .u8 (0),.bool false]) (F3 0 3 109 (.ret [.int .u8 (0),.bool false]) (J6 0 4 97 (X0 0 5 122 (A6u 6) (A6t 6)) (A6t 5))))
def A6v{G}(f:I6 G):I8 prog G 66 [.s 3] AH [.s 4,.s 8]:=by
 refine D0 (C:=cx L0 []) (d:=60) B31 (cxg (B4T f) .nil) f ⟨f66,_,func66,rfl⟩ C3 C3 ?_;intro us outs m;unfold AH at m;split at m
 .skip;rename_i c;cases m;unfold B31;refine w0 (.cons 0 _ (.nil)) ?_;repeat (first|(refine w7 [.int .u8 _,.bool _] ?_;rotate_left)|refine w4 (fun g=>?_) fun g=>?_|refine m5 ?_|refine X1 ?_|refine R8 ?_|refine bK ?_|refine iE ?_|refine w1 (.bin .and) (e:=fA 5 32 B8 B8 B8) (k':=?_))
  all_goals
   refine l2 ?_ ?_
   ·(unfold mD;(repeat' split)<;>omega)
   .symm;first|exact D3 (by(unfold mD;(repeat' split)<;>omega))|exact C9 (by(unfold mD;(repeat' split)<;>omega))
 .cases m
noncomputable def C1S:L5:=⟨_,fun d=>.cons (A6v d) (B4T d)⟩
def DY:List U->Option (Nat×List U)
 | [.int .i64 c]=>some (0,[.int .i64 (mD c)])
 | _=>none
def A0I(c:Int):DY [.int .i64 c]=some (0,[.int .i64 (mD c)]):=rfl
def K3(a0:Int):Tr:=.ret [jI a0]
def MW(n:Nat):Tr:=J6 0 n 92 (X0 0 (n+1) 95 (aS [h3 0,jI 92]<|aA [h3 (n+2),jI 28]<|.ret [h3 (n+3)]) (K3 (-1))) (K3 (-1))
def dZ(a0:Nat)(d:Nat)(a2:Int)(e f:Tr):Tr:=aN [h3 a0,jI a2]<|.br d e f
def B1_:Tr:=F3 0 1 32 (K3 0) (J6 0 2 97 (X0 0 3 122 (dZ 0 4 105 (dZ 0 5 109 (aS [h3 0,jI 97]<|aA [h3 6,jI 1]<|.ret [h3 7]) (MW 6)) (MW 5)) (MW 4)) (MW 3))
def B2A{G}(e:I6 G):I8 prog G 64 [.s 3] DY [.s 3]:=by
 refine D0 (d:=60) B1_ (cxg (C1S.2 e) .nil) e ⟨f64,_,func64,rfl⟩ C3 C3 ?_;intro us outs f;unfold DY at f;split at f
 .skip;rename_i c;cases f;unfold B1_;refine w0 (.cons 0 _ (.nil)) ?_;repeat (first|(refine w7 [.int .i64 _] ?_;rotate_left)|refine w4 (fun g=>?_) fun g=>?_|refine oW ?_|refine iC ?_|refine V1 ?_|refine O0 ?_|refine bK ?_|refine iE ?_|refine oX ?_|refine R8 ?_)
  all_goals
   refine l0 ?_
   (unfold mD;(repeat' split)<;>omega)
 .cases f
def A1S(c:Int):(c=32/\mD c=0)∨((c=105∨c=109)/\mD c = -1)∨(97<=c/\c<=122/\c≠105/\c≠109/\mD c=c-96)∨(92<=c/\c<=95/\mD c=c-64)∨(c≠32/\¬(97<=c/\c<=122)/\¬(92<=c/\c<=95)/\mD c = -1):=by
 unfold mD
 (repeat' split)<;>omega
noncomputable def B9s:L5:=⟨_,fun d=>(.cons (A6v d) .nil)⟩
def PO:List U->Option (Nat×List U)
 | [.int .i64 c,.int .i64 m]=>if -9223372036854775808<=m/\m<=9223372036854775807 then some (0,[.bool (decide (aK c m))])else none
 | _=>none
def A7l(c:Int)(m:Int)(d : -9223372036854775808<=m/\m<=9223372036854775807):PO [.int .i64 c,.int .i64 m]=some (0,[.bool (decide (aK c m))]):=A4 d
def fO(a0:Nat)(d:Nat)(a2:Int):Tr:=aE [h3 a0,jI a2]<|.ret [h d 8]
def I7:Tr:=.ret [.bool false]
def x4:Tr:=.ret [.bool true]
def cY(a0:Nat)(d:Nat)(a2:Int)(e f:Tr):Tr:=.lt 3 (.bin .and) [h3 a0,jI a2]<|aN [h3 d,jI 0]<|.br (d+1) e f
def A2o(n:Nat):Tr:=cY 1 n 4 (.fn AH [h3 0] 2<|.br (n+3) (.lt 3 (.bin .andNot) [h3 1,jI 6]<|fO (n+4) (n+5) 0) (I7)) (F3 1 (n+2) 0 x4 (F3 1 (n+3) 2 (dZ 0 (n+4) 91 (aN [h3 0,jI 79]<|.ret [h (n+5) 8]) I7) I7))
def VS(n:Nat):Tr:=F3 1 n 2 x4 (fO 1 (n+1) 0)
def CU(n:Nat):Tr:=F3 0 n 1114136 (F3 1 (n+1) 1 x4 (VS (n+2))) (F3 0 (n+1) 1114135 (VS (n+2)) (F3 0 (n+2) 1114137 (VS (n+3)) (F3 0 (n+3) 1114138 (fO 1 (n+4) 0) (J6 0 (n+4) 1114113 (X0 0 (n+5) 1114134 (J6 1 (n+6) 0 (aQ [h3 1,jI 7]<|.ret [h (n+7) 8]) I7) I7) I7))))
def J5(a0:Nat)(e:Nat)(f d:Tr):Tr:=aX [h a0 8]<|.br e f d
def B0D:Tr:=J6 0 2 0 (X0 0 3 1114111 (.lt 3 (.bin .shr) [h3 0,.int .u64 (11)]<|dZ 4 5 27 (J6 0 6 32 (J6 0 7 127 (aQ [h3 0,jI 159]<|J5 8 9 (A2o 10) (CU 10)) (A2o 8)) (CU 7)) (CU 6)) (CU 4)) (CU 3)
def B6I{G}(v:I6 G):I8 prog G 36 [.s 3,.s 3] PO [.s 8]:=by
 refine D0 (d:=60) B0D (cxg (B9s.2 v) .nil) v ⟨f36,_,func36,rfl⟩ C3 C3 ?_;intro us outs f;unfold PO at f;split at f
 .skip;rename_i c m;split at f
  .rename_i h;cases f;unfold B0D;refine w0 (.cons 1 _ (.cons 0 _ (.nil))) ?_;repeat (first|refine w4 (fun g=>?_) fun g=>?_|refine w4B (fun g=>?_) fun g=>?_|(refine w7 [.bool _] ?_;rotate_left)|refine R8 ?_|refine bK ?_|refine iE ?_|refine oX ?_|refine w1 (.bin .and) (e:=CL _) (k':=?_)|refine w32 AH (e:=A1R _) (k':=?_)|refine w1 (.bin .andNot) (e:=B5v _) (k':=?_)|refine w1 (.bin .shr) (e:=W6 2048 B8 B8) (k':=?_)|refine Y3 ?_)
   all_goals
    have z0:=A7N m h.1 h.2;have A:=A1S c;refine l1 ?_;first|(refine decide_eq_decide.2 ?_;unfold aK chP okU;omega)|(symm;first|exact D3 (by unfold aK chP okU at *;omega)|exact C9 (by unfold aK chP okU at *;omega))
  .cases f
 .cases f
noncomputable def C0S:L5:=⟨_,fun d=>(.cons (B2A d) .nil)⟩
def lP:List U->Option (Nat×List U)
 | [.int .i64 c,.int .i64 m]=>if -9223372036854775808<=m/\m<=9223372036854775807 then some (0,[.bool (decide (aK c m))])else none
 | _=>none
def MS(c:Int)(m:Int)(d : -9223372036854775808<=m/\m<=9223372036854775807):lP [.int .i64 c,.int .i64 m]=some (0,[.bool (decide (aK c m))]):=A4 d
def A4T(n:Nat):Tr:=F3 1 n 0 x4 (F3 1 (n+1) 2 (dZ 0 (n+2) 91 (aN [h3 0,jI 79]<|.ret [h (n+3) 8]) I7) (.fn DY [h3 0] 1<|J6 (n+2) (n+3) 0 (F3 1 (n+4) 4 x4 (fO 1 (n+5) 6)) I7))
def A4S(n:Nat):Tr:=F3 1 n 0 x4 (fO 1 (n+1) 2)
def A4R(n:Nat):Tr:=F3 0 n 1114135 (A4S (n+1)) (F3 0 (n+1) 1114137 (A4S (n+2)) (F3 0 (n+2) 1114136 (F3 1 (n+3) 0 x4 (F3 1 (n+4) 1 x4 (fO 1 (n+5) 2))) (F3 0 (n+3) 1114138 (fO 1 (n+4) 0) I7)))
def DV(n:Nat):Tr:=J6 0 n 1114113 (X0 0 (n+1) 1114134 (J6 1 (n+2) 0 (aQ [h3 1,jI 7]<|.ret [h (n+3) 8]) I7) (A4R (n+2))) (A4R (n+1))
def A4Q(n:Nat):Tr:=J6 0 n 32 (J6 0 (n+1) 127 (aQ [h3 0,jI 159]<|J5 (n+2) (n+3) (A4T (n+4)) (DV (n+4))) (A4T (n+2))) (DV (n+1))
def aW(a0:Nat)(d:Nat)(a2:Int)(e f:Tr):Tr:=aG [h3 a0,jI a2]<|.br d e f
def M9(a0:Nat)(d:Nat)(a2:Int)(e f:Tr):Tr:=aL [h3 a0,jI a2]<|.br d e f
def B1j:Tr:=J6 0 2 0 (X0 0 3 1114111 (M9 0 4 55296 (A4Q 5) (aW 0 5 57343 (A4Q 6) (DV 6))) (DV 4)) (DV 3)
def IV{G}(v:I6 G):I8 prog G 34 [.s 3,.s 3] lP [.s 8]:=by
 refine D0 (d:=60) B1j (cxg (C0S.2 v) .nil) v ⟨f34,_,func34,rfl⟩ C3 C3 ?_;intro us outs f;unfold lP at f;split at f
 .skip;rename_i c m;split at f
  .rename_i h;cases f;unfold B1j;refine w0 (.cons 1 _ (.cons 0 _ (.nil))) ?_;repeat (first|refine R8 ?_|(refine w7 [.bool _] ?_;rotate_left)|refine w4 (fun g=>?_) fun g=>?_|refine bK ?_|refine iE ?_|refine oX ?_|refine w31 DY (e:=A0I _) (k':=?_)|refine Y3 ?_|refine W3 ?_|refine cB ?_)
   all_goals
    have z0:=A7N m h.1 h.2;have A:=A1S c;refine l1 ?_;first|(refine decide_eq_decide.2 ?_;unfold aK chP okU;omega)|(symm;first|exact D3 (by unfold aK chP okU at *;omega)|exact C9 (by unfold aK chP okU at *;omega))
  .cases f
 .cases f
def msP(m w b r cl:Int):Prop:=0<=w/\w<=3/\0<=b/\b<=3/\(w=0->b<=2)/\(w=3->b<=1)/\0<=m/\m<=7/\0<=r/\r<=39/\0<=cl/\cl<=79
instance(m w b r cl:Int):Decidable (msP m w b r cl):=by unfold msP;infer_instance
def EI(m w b r cl:Int):msP m w b r cl↔(0<=b/\0<=m/\m<=7/\0<=r/\r<=39/\0<=cl/\cl<=79)/\((w=0/\b<=2)∨(w=1/\b<=3)∨(w=2/\b<=3)∨(w=3/\b<=1)):=by
 unfold msP;omega
def A5R(w:Int):(w=0/\([2,3,3,1]:List Int).getD w.toNat 0=2)∨(w=1/\([2,3,3,1]:List Int).getD w.toNat 0=3)∨(w=2/\([2,3,3,1]:List Int).getD w.toNat 0=3)∨(w=3/\([2,3,3,1]:List Int).getD w.toNat 0=1)∨w<0∨3<w:=by
 by_cases h:0<=w/\w<=3
 .have:w=0∨w=1∨w=2∨w=3:=A0;rcases this with rfl|rfl|rfl|rfl<;>decide
 .omega
noncomputable def B9q:L5:=⟨_,fun d=>.nil⟩
def PN:List U->Option (Nat×List U)
 | [.int .i64 k,.int .i64 c,.int .i64 m,.int .i64 w,.int .i64 b,.int .i64 r,.int .i64 cl,.str t]=>some (0,[.bool (decide (msP m w b r cl))])
 | _=>none
def A7k(k:Int)(c:Int)(m:Int)(w:Int)(b:Int)(r:Int)(cl:Int)(t:C8):PN [.int .i64 k,.int .i64 c,.int .i64 m,.int .i64 w,.int .i64 b,.int .i64 r,.int .i64 cl,.str t]=some (0,[.bool (decide (msP m w b r cl))]):=rfl
def S7(a0:Nat)(d:Tr):Tr:=.br a0 d .no
def B0A:Tr:=J6 3 8 0 (X0 3 9 3 (aI [h3 3,jI 4]<|S7 10 (.lt 3 (.sel) [h3 3,jI 2,jI 3,jI 3,jI 1]<|J6 4 12 0 (aQ [h3 4,h3 11]<|.br 13 (J6 2 14 0 (X0 2 15 7 (J6 5 16 0 (X0 5 17 39 (J6 6 18 0 (aQ [h3 6,jI 79]<|.ret [h 19 8]) I7) I7) I7) I7) I7) (I7)) I7)) I7) I7
def B6G{G}(f:I6 G):I8 prog G 37 [.a [3,3,3,3,3,3,3,9]] PN [.s 8]:=by
 refine D0 (d:=60) B0A (cxg (B9q.2 f) .nil) f ⟨f37,_,func37,rfl⟩ C3 C3 ?_;intro us outs A;unfold PN at A;split at A
 .skip;rename_i k c m w b r cl t;cases A;unfold B0A;refine w0 (.cons 7 _ (.cons 6 _ (.cons 5 _ (.cons 4 _ (.cons 3 _ (.cons 2 _ (.cons 1 _ (.cons 0 _ (.nil))))))))) ?_;repeat (first|refine w4 (fun g=>?_) fun g=>?_|(refine w7 [.bool _] ?_;rotate_left)|refine bK ?_|refine iE ?_|refine A29 ?_|refine w1 (.sel) (e:=nN [2,3,3,1] A0 (by show _<((4:Nat):Int);omega)) (k':=?_)|(refine w8 ?_;(have z0:=A5R w;omega)))
  all_goals
   have v:=EI m w b r cl;have z0:=A5R w;refine l1 ?_;first|(refine decide_eq_decide.2 ⟨fun h=>v.2 ?_,fun h=>?_⟩;omega;(have:=v.1 h;omega))|(symm;first|exact D3 (v.2 A0)|exact C9 (fun h=>by have:=v.1 h;omega)|(exfalso;omega))
 .cases A
noncomputable def C0P:L5:=⟨_,fun d=>.nil⟩
def RF:List U->Option (Nat×List U)
 | [.int .i64 k,.int .i64 c,.int .i64 m,.int .i64 w,.int .i64 b,.int .i64 r,.int .i64 cl,.str t]=>some (0,[.bool (decide (msP m w b r cl))])
 | _=>none
def A8H(k:Int)(c:Int)(m:Int)(w:Int)(b:Int)(r:Int)(cl:Int)(t:C8):RF [.int .i64 k,.int .i64 c,.int .i64 m,.int .i64 w,.int .i64 b,.int .i64 r,.int .i64 cl,.str t]=some (0,[.bool (decide (msP m w b r cl))]):=rfl
def WY(n:Nat):Tr:=.br 13 (J6 2 n 0 (X0 2 (n+1) 7 (J6 5 (n+2) 0 (X0 5 (n+3) 39 (J6 6 (n+4) 0 (aQ [h3 6,jI 79]<|.ret [h (n+5) 8]) I7) I7) I7) I7) I7) (I7)
def A4M(n:Nat):Tr:=J6 3 n 0 (X0 3 (n+1) 3 (J6 4 (n+2) 0 (aQ [h3 4,jI 1]<|WY (n+4)) I7) I7) I7
def B1e:Tr:=F3 3 8 0 (F3 3 9 3 (A4M 10) (J6 3 10 0 (X0 3 11 3 (J6 4 12 0 (aQ [h3 4,jI 2]<|WY 14) I7) I7) I7)) (F3 3 9 3 (A4M 10) (J6 3 10 0 (X0 3 11 3 (J6 4 12 0 (aQ [h3 4,jI 3]<|WY 14) I7) I7) I7))
def B1f{G}(e:I6 G):I8 prog G 61 [.a [3,3,3,3,3,3,3,9]] RF [.s 8]:=by
 refine D0 (d:=60) B1e (cxg (C0P.2 e) .nil) e ⟨f61,_,func61,rfl⟩ C3 C3 ?_;intro us outs v;unfold RF at v;split at v
 .skip;rename_i k c m w b r cl t;cases v;unfold B1e;refine w0 (.cons 7 _ (.cons 6 _ (.cons 5 _ (.cons 4 _ (.cons 3 _ (.cons 2 _ (.cons 1 _ (.cons 0 _ (.nil))))))))) ?_;repeat (first|(refine w7 [.bool _] ?_;rotate_left)|refine w4 (fun g=>?_) fun g=>?_|refine bK ?_|refine iE ?_|refine R8 ?_)
  all_goals
   have f:=EI m w b r cl;have z0:=A5R w;refine l1 ?_;first|(refine decide_eq_decide.2 ⟨fun h=>f.2 ?_,fun h=>?_⟩;omega;(have:=f.1 h;omega))|(symm;first|exact D3 (f.2 A0)|exact C9 (fun h=>by have:=f.1 h;omega)|(exfalso;omega))
 .cases v
def UL:List U->Option (Nat×List U)
 | [.str s,.str u]=>if u=[27]then some (0,[.bool (decide (0<=Lib.indexByte s 27))])else none
 | _=>none
def A9k(s:C8)(u:C8)(d:u=[27]):UL [.str s,.str u]=some (0,[.bool (decide (0<=Lib.indexByte s 27))]):=A4 d
def B9T{G}(g:I6 G):I8 prog G 28 [.s 9,.s 9] UL [.s 8]:=by
 intro us outs w vs R f d A B;unfold UL at d;split at d
 .skip;rename_i s u;split at d
  .rename_i m;cases d;have v:=y9 (vs2:=[.string ⟨⟨s⟩⟩,.string ⟨⟨u⟩⟩]) f rfl;subst v;refine wZ (vr:=[.bool (decide (0<=Lib.indexByte s 27))]) func28 rfl C3 rfl ?_;subst m;exact(Tryz.strings_Contains_one ⟨⟨s⟩⟩ 27 w).mono fun e w' ⟨h1,h⟩=>⟨h1,by subst h;exact RowKit.Below.refl _ _⟩
  .cases d
 .cases d
def bU(b:Bool):Option Unit:=if b then some ()else none
def dN{b:Bool}{u:Unit}(h:bU b=some u):b=true:=by cases b<;>first|rfl|cases h
def dO{b:Bool}(h:bU b=none):b=false:=by cases b<;>first|rfl|cases h
def isE(x:UInt8):Bool:=decide (x=27)
def A9U{l:C8}(h:(l.length:Int)<=i):(l.drop i.toNat).any isE=false:=by rw[d9 l h];rfl
def A6Z{x:UInt8}(h:((x.toNat:Nat):Int)=27):x=27:=by
 apply UInt8.toNat_inj.1;show x.toNat=27;omega
def yL(l:C8)(n:Nat):l.getD n default=l.getD n 0:=rfl
def B85{l:C8}(h0:0<=i)(h1:i<(l.length:Int))(d:(((l.getD i.toNat 0).toNat:Nat):Int)=27):(l.drop i.toNat).any isE=true:=by
 rw[Q1 l h0 h1,bS,yL,A6Z d];rfl
def B86{l:C8}(h0:0<=i)(h1:i<(l.length:Int))(d:¬(((l.getD i.toNat 0).toNat:Nat):Int)=27):(l.drop i.toNat).any isE=(l.drop (i+1).toNat).any isE:=by
 rw[Q1 l h0 h1,bS,yL];have:isE (l.getD i.toNat 0)=false:=C9 fun h=>d (by rw[h];rfl)
 rw[this,R7]
noncomputable def C0W:L5:=⟨_,fun d=>(.cons (IV d) (.cons (B1f d) .nil))⟩
def DW:List U->Option (Nat×List U)
 | [.int .i64 i,.int .i64 k,.int .i64 c,.int .i64 m,.int .i64 w,.int .i64 b,.int .i64 r,.int .i64 cl,.str t]=>if 0<=i/\i<=(t.length:Int)/\(t.length:Int)<=140737488351232 then Z9 (bU ((t.drop i.toNat).any isE)) [.int .i64 k,.int .i64 c,.int .i64 m,.int .i64 w,.int .i64 b,.int .i64 r,.int .i64 cl,.str t] (fun _=>[])else none
 | _=>none
def vO(i:Int)(k:Int)(c:Int)(m:Int)(w:Int)(b:Int)(r:Int)(cl:Int)(t:C8)(d:0<=i/\i<=(t.length:Int)/\(t.length:Int)<=140737488351232):DW [.int .i64 i,.int .i64 k,.int .i64 c,.int .i64 m,.int .i64 w,.int .i64 b,.int .i64 r,.int .i64 cl,.str t]=Z9 (bU ((t.drop i.toNat).any isE)) [.int .i64 k,.int .i64 c,.int .i64 m,.int .i64 w,.int .i64 b,.int .i64 r,.int .i64 cl,.str t] (fun _=>[]):=A4 d
def B1s:Q7:=⟨[(1,.pointer (some ⟨6,0,none⟩)),(3,h 0 3)],[(6,.cells 23 [h 1 3,h 2 3,h 3 3,h 4 3,h 5 3,h 6 3,h 7 3,h 8 9])],9,[⟨.exit 1,[(1,.pointer (some ⟨6,0,none⟩))],[(6,.cells 23 [h 0 3,h 1 3,h 2 3,h 3 3,h 4 3,h 5 3,h 6 3,h 7 9])],8⟩,⟨.ret,[(2,.bool false)],[],0⟩]⟩
noncomputable def A4Y:Code:=(f32.body).getD .skip
noncomputable def B1n:Code:=match H5 [true,false,true,false,true,true,true,true,true,false,false,true,false] A4Y with|some (.loop x)=>x|_=>.skip
def B1r:f32.body=some A4Y:=rfl
def B1p:H5 [true,false,true,false,true,true,true,true,true,false,false,true,false] A4Y=some (.loop B1n):=C3
def gJ(a0:Nat)(e:Nat)(f d:Tr):Tr:=aE [h a0 4,.int .u8 (27)]<|.br e f d
def aV(a0:Nat)(d:Nat)(a2:Nat)(e f:Tr):Tr:=aL [h3 a0,h3 d]<|.br a2 e f
def B1o:Tr:=aD [h 8 9]<|aV 0 9 10 (.lt 4 (.idx) [h 8 9,h3 0]<|gJ 11 12 (K3 1) (aA [h3 0,jI 1]<|.ret [jI (-1),h3 13,h3 1,h3 2,h3 3,h3 4,h3 5,h3 6,h3 7,h 8 9])) (.ret [jI 0,h3 1,h3 2,h3 3,h3 4,h3 5,h3 6,h3 7,h 8 9])
def B1q:List U->Nat
 | [.int .i64 i,.int .i64 k,.int .i64 c,.int .i64 m,.int .i64 w,.int .i64 b,.int .i64 r,.int .i64 cl,.str t]=>((t.length:Int)-i).toNat
 | _=>0
def A4X(i:Int)(k:Int)(c:Int)(m:Int)(w:Int)(b:Int)(r:Int)(cl:Int)(t:C8):B1q [.int .i64 i,.int .i64 k,.int .i64 c,.int .i64 m,.int .i64 w,.int .i64 b,.int .i64 r,.int .i64 cl,.str t]=((t.length:Int)-i).toNat:=rfl
def B7D{G}(v:I6 G):∀ (E:Nat->U) (base:Nat),@U0 ⟨E,G⟩ prog base gl f32.ntmps B1n (O5 prog gl n0 7 B1s DW):=by
 refine V7 (dep:=60) (f:=32) (n0:=n0) (nB:=7) (H0:=H0) B1q B1o (cxg (C0W.2 v) .nil) v func32 B1r B1p C3 C3 C3 ?_;intro us d outs e;have A:=e;unfold DW at e;split at e
 .skip;rename_i i k c m w b r cl t;split at e
  .rename_i h;clear e A;refine⟨rfl,?_⟩;unfold B1o;refine w0 (.cons 8 _ (.cons 7 _ (.cons 6 _ (.cons 5 _ (.cons 4 _ (.cons 3 _ (.cons 2 _ (.cons 1 _ (.cons 0 _ (.nil)))))))))) ?_;repeat (first|refine w4 (fun g=>?_) fun g=>?_|refine V1 ?_|refine O0 ?_|refine uX ?_|refine W3 ?_|refine B6Q ?_|refine R8 ?_|(refine w7 [.int .i64 _] ?_;rotate_left)|(refine w7 [.int .i64 _,.int .i64 _,.int .i64 _,.int .i64 _,.int .i64 _,.int .i64 _,.int .i64 _,.int .i64 _,.int .i64 _,.str _] ?_;rotate_left)|(refine w7 [.int .i64 _,.int .i64 _,.int .i64 _,.int .i64 _,.int .i64 _,.int .i64 _,.int .i64 _,.int .i64 _,.str _] ?_;rotate_left))
   all_goals first
    | refine M0 ?_ ?_
      .rw[vO i k c m w b r cl t h,B86 (i:=i) A0 A0 ‹_›];exact vO (i+1) k c m w b r cl t ⟨A0,A0,h.2.2⟩
      .rw[A4X,A4X];omega
    | refine H6 (d:=0) ?_
      rw[vO i k c m w b r cl t h,A9U A0];rfl
    | refine H6 (d:=1) ?_
      rw[vO i k c m w b r cl t h,B85 (i:=i) A0 A0 ‹_›];rfl
  .cases e
 .cases e
noncomputable def C1O:List LpE:=(32,([true,false,true,false,true,true,true,true,true,false,false,true,false],O5 prog gl n0 7 B1s DW))::[]
def VH{G}(d:I6 G):g8 prog G gl C1O:=.cons func32 B1r B1p (B7D d) .nil
def A92(t:C8):(0<=Lib.indexByte t 27)↔t.any isE=true:=by
 induction t with
 | nil=>simp[Lib.indexByte]
 | cons b l g =>
   have h:=Lib.indexByte_ge l 27;rw[Lib.indexByte,bS];by_cases e:b=27
   .subst e;simp[isE]
   .have f:(b == 27)=false:=by simp[e]
    have m:isE b=false:=C9 e;rw[f,m,R7,<- g];by_cases d:Lib.indexByte l 27 = -1
    .simp[d]
    .simp[d];omega
def U9(k c m w b r cl:Int)(t:C8):Prop :=
 (k=1/\w=0/\b=0/\r=0/\cl=0/\t=[]/\aK c m)∨(k=2/\c=0/\t=[]/\msP m w b r cl)∨(k=3/\c=0/\m=0/\w=0/\b=0/\r=0/\cl=0/\t.length<=1000/\t.any isE=false)∨(k=4/\c=0/\m=0/\b=0/\r=0/\cl=0/\t=[]/\0<=w/\w<=1)
instance(k c m w b r cl:Int)(t:C8):Decidable (U9 k c m w b r cl t):=by unfold U9;infer_instance
noncomputable def C0U:L5:=⟨_,fun d=>(.cons (IV d) (.cons (B1f d) .nil))⟩
def oE:List U->Option (Nat×List U)
 | [.int .i64 k,.int .i64 c,.int .i64 m,.int .i64 w,.int .i64 b,.int .i64 r,.int .i64 cl,.str t]=>if -9223372036854775808<=m/\m<=9223372036854775807/\(t.length:Int)<=140737488351232 then some (0,[.bool (decide (U9 k c m w b r cl t))])else none
 | _=>none
def MT(k:Int)(c:Int)(m:Int)(w:Int)(b:Int)(r:Int)(cl:Int)(t:C8)(d : -9223372036854775808<=m/\m<=9223372036854775807/\(t.length:Int)<=140737488351232):oE [.int .i64 k,.int .i64 c,.int .i64 m,.int .i64 w,.int .i64 b,.int .i64 r,.int .i64 cl,.str t]=some (0,[.bool (decide (U9 k c m w b r cl t))]):=A4 d
def B1l:Tr:=F3 0 8 1 (.lt 8 (.eqs) [h3 0,h3 0,h3 1,h3 1,h3 2,h3 2,h3 3,jI 0,h3 4,jI 0,h3 5,jI 0,h3 6,jI 0,h 7 9,.string ⟨⟨[]⟩⟩]<|.br 9 (.fn lP [h3 1,h3 2] 1<|.ret [h 10 8]) (I7)) (F3 0 9 2 (.lt 8 (.eqs) [h3 0,h3 0,h3 1,jI 0,h3 2,h3 2,h3 3,h3 3,h3 4,h3 4,h3 5,h3 5,h3 6,h3 6,h 7 9,.string ⟨⟨[]⟩⟩]<|.br 10 (.fn RF [h3 0,h3 1,h3 2,h3 3,h3 4,h3 5,h3 6,h 7 9] 1<|.ret [h 11 8]) (I7)) (F3 0 10 3 (.lp DW [jI 0,h3 0,h3 1,h3 2,h3 3,h3 4,h3 5,h3 6,h 7 9] 0 8 (.lt 8 (.eqs) [h3 11,h3 11,h3 12,jI 0,h3 13,jI 0,h3 14,jI 0,h3 15,jI 0,h3 16,jI 0,h3 17,jI 0,h 18 9,h 18 9]<|.br 19 (aD [h 18 9]<|aQ [h3 20,jI 1000]<|.ret [h 21 8]) (I7)) (.lp DW [jI 0,h3 0,h3 1,h3 2,h3 3,h3 4,h3 5,h3 6,h 7 9] 1 0 (I7) (.no))) (F3 0 11 4 (.lt 8 (.eqs) [h3 0,h3 0,h3 1,jI 0,h3 2,jI 0,h3 3,h3 3,h3 4,jI 0,h3 5,jI 0,h3 6,jI 0,h 7 9,.string ⟨⟨[]⟩⟩]<|.br 12 (J6 3 13 0 (aQ [h3 3,jI 1]<|.ret [h 14 8]) I7) (I7)) I7)))
def A0E{G}(f:I6 G):I8 prog G 32 [.a [3,3,3,3,3,3,3,9]] oE [.s 8]:=by
 refine D0 (d:=60) B1l (cxg (C0U.2 f) (VH f)) f ⟨f32,_,func32,rfl⟩ C3 C3 ?_;intro us outs g;unfold oE at g;split at g
 .skip;rename_i k c m w b r cl t;split at g
  .rename_i v;cases g;unfold B1l;refine w0 (.cons 7 _ (.cons 6 _ (.cons 5 _ (.cons 4 _ (.cons 3 _ (.cons 2 _ (.cons 1 _ (.cons 0 _ (.nil))))))))) ?_;refine R8 ?_;refine w4 (fun g0=>?_) fun g0=>?_
   .refine w1 (.eqs) (e:=rfl) (k':=?_);first|refine w5 (fun g1=>?_) (fun g1=>?_)|refine w5B (fun g1=>?_) (fun g1=>?_)
    .refine w7 [.bool _] ?_;refine l1 ?_;unfold U9
     (try replace g3:=dN g3)
     (try replace g3:=dO g3)
     first|(simp_all;done)|(simp_all;omega)
    refine w31 lP (e:=MS _ _ A0) (k':=?_);refine w7 [.bool _] ?_;refine l1 ?_;unfold U9
    (try replace g3:=dN g3)
    (try replace g3:=dO g3)
    first|(simp_all;done)|(simp_all;omega)
   refine R8 ?_;refine w4 (fun g1=>?_) fun g1=>?_
   .refine w1 (.eqs) (e:=rfl) (k':=?_);first|refine w5 (fun g2=>?_) (fun g2=>?_)|refine w5B (fun g2=>?_) (fun g2=>?_)
    .refine w7 [.bool _] ?_;refine l1 ?_;unfold U9
     (try replace g3:=dN g3)
     (try replace g3:=dO g3)
     first|(simp_all;done)|(simp_all;omega)
    refine w31 RF (e:=A8H _ _ _ _ _ _ _ _) (k':=?_);refine w7 [.bool _] ?_;refine l1 ?_;unfold U9
    (try replace g3:=dN g3)
    (try replace g3:=dO g3)
    first|(simp_all;done)|(simp_all;omega)
   refine R8 ?_;refine w4 (fun g2=>?_) fun g2=>?_
   .refine w6 DW (vO _ _ _ _ _ _ _ _ _ A0) (h0:=fun g3=>?_) (h1:=fun v3 g3=>?_)
    .show Wk _ _ (.cons _ _ (.cons _ _ (.cons _ _ (.cons _ _ (.cons _ _ (.cons _ _ (.cons _ _ (.cons _ _ _))))))));refine w1 (.eqs) (e:=rfl) (k':=?_);first|refine w5 (fun g4=>?_) (fun g4=>?_)|refine w5B (fun g4=>?_) (fun g4=>?_)
     .refine w7 [.bool _] ?_;refine l1 ?_;unfold U9
      (try replace g3:=dN g3)
      (try replace g3:=dO g3)
      first|(simp_all;done)|(simp_all;omega)
     refine uX ?_;refine iE ?_;refine w7 [.bool _] ?_;refine l1 ?_;unfold U9
     (try replace g3:=dN g3)
     (try replace g3:=dO g3)
     first|(simp_all;done)|(simp_all;omega)
    show Wk _ _ _;refine w7 [.bool _] ?_;refine l1 ?_;unfold U9
    (try replace g3:=dN g3)
    (try replace g3:=dO g3)
    first|(simp_all;done)|(simp_all;omega)
   refine R8 ?_;refine w5 (fun g3=>?_) fun g3=>?_
   .refine w7 [.bool _] ?_;refine l1 ?_;unfold U9
    (try replace g3:=dN g3)
    (try replace g3:=dO g3)
    first|(simp_all;done)|(simp_all;omega)
   refine w1 (.eqs) (e:=rfl) (k':=?_);first|refine w5 (fun g4=>?_) (fun g4=>?_)|refine w5B (fun g4=>?_) (fun g4=>?_)
   .refine w7 [.bool _] ?_;refine l1 ?_;unfold U9
    (try replace g3:=dN g3)
    (try replace g3:=dO g3)
    first|(simp_all;done)|(simp_all;omega)
   refine bK ?_;refine w5 (fun g5=>?_) fun g5=>?_
   .refine w7 [.bool _] ?_;refine l1 ?_;unfold U9
    (try replace g3:=dN g3)
    (try replace g3:=dO g3)
    first|(simp_all;done)|(simp_all;omega)
   refine iE ?_;refine w7 [.bool _] ?_;refine l1 ?_;unfold U9
   (try replace g3:=dN g3)
   (try replace g3:=dO g3)
   first|(simp_all;done)|(simp_all;omega)
  .cases g
 .cases g
noncomputable def C0i:L5:=⟨_,fun d=>(.cons (A0E d) .nil)⟩
def RQ:List U->Option (Nat×List U)
 | [.int .i64 k,.int .i64 c,.int .i64 m,.int .i64 w,.int .i64 b,.int .i64 r,.int .i64 cl,.str t]=>if -9223372036854775808<=m/\m<=9223372036854775807/\(t.length:Int)<=140737488351232 then some (0,[.int .i64 (if U9 k c m w b r cl t then 0 else 430)])else none
 | _=>none
def A8W(k:Int)(c:Int)(m:Int)(w:Int)(b:Int)(r:Int)(cl:Int)(t:C8)(d : -9223372036854775808<=m/\m<=9223372036854775807/\(t.length:Int)<=140737488351232):RQ [.int .i64 k,.int .i64 c,.int .i64 m,.int .i64 w,.int .i64 b,.int .i64 r,.int .i64 cl,.str t]=some (0,[.int .i64 (if U9 k c m w b r cl t then 0 else 430)]):=A4 d
def B2L:Tr:=.fn oE [h3 0,h3 1,h3 2,h3 3,h3 4,h3 5,h3 6,h 7 9] 1<|J5 8 9 (K3 430) (K3 0)
def B7S{G}(f:I6 G):I8 prog G 14 [.a [3,3,3,3,3,3,3,9]] RQ [.s 3]:=by
 refine D0 (d:=60) B2L (cxg (C0i.2 f) (VH f)) f ⟨f14,_,func14,rfl⟩ C3 C3 ?_;intro us outs v;unfold RQ at v;split at v
 .skip;rename_i k c m w b r cl t;split at v
  .rename_i h;cases v;unfold B2L;refine w0 (.cons 7 _ (.cons 6 _ (.cons 5 _ (.cons 4 _ (.cons 3 _ (.cons 2 _ (.cons 1 _ (.cons 0 _ (.nil))))))))) ?_;repeat (first|refine Y3 ?_|refine iD ?_|refine w4 (fun g=>?_) fun g=>?_|refine w4B (fun g=>?_) fun g=>?_|(refine w7 [.int .i64 _] ?_;rotate_left)|refine w31 oE (e:=MT _ _ _ _ _ _ _ _ h) (k':=?_))
   all_goals
    refine l0 ?_;first|(rw[A4 (F4 ‹_›)];done)|(rw[A3 (of_decide_eq_false ‹_›)];done)|(simp_all;done)
  .cases v
 .cases v
def OH{a b c:Int}(h0:0<=b)(h1:b<c)(f:(a=128/\c=64)∨(a=192/\c=32)∨(a=224/\c=16)∨(a=240/\c=8)):evU (.bin .or) [.int .u8 a,.int .u8 b]=.int .u8 (a+b):=by
 rw[qL];have e:∀ n:Nat,n<64->IntKind.u8.wrap (BitVec.ofInt IntKind.u8.bits 128 ||| BitVec.ofInt IntKind.u8.bits (n:Int)).toNat=128+(n:Int):=B8;have g:∀ n:Nat,n<32->IntKind.u8.wrap (BitVec.ofInt IntKind.u8.bits 192 ||| BitVec.ofInt IntKind.u8.bits (n:Int)).toNat=192+(n:Int):=B8;have d:∀ n:Nat,n<16->IntKind.u8.wrap (BitVec.ofInt IntKind.u8.bits 224 ||| BitVec.ofInt IntKind.u8.bits (n:Int)).toNat=224+(n:Int):=B8;have m:∀ n:Nat,n<8->IntKind.u8.wrap (BitVec.ofInt IntKind.u8.bits 240 ||| BitVec.ofInt IntKind.u8.bits (n:Int)).toNat=240+(n:Int):=B8;obtain⟨n,rfl⟩:∃ n:Nat,b=n:=⟨b.toNat,A0⟩;congr 1;rcases f with⟨rfl,rfl⟩|⟨rfl,rfl⟩|⟨rfl,rfl⟩|⟨rfl,rfl⟩
 .exact e n A0
 .exact g n A0
 .exact d n A0
 .exact m n A0
def UC{j:IntKind}(a:Int):evU (.conv .u8) [.int j a]=.int .u8 (a%256):=by
 rw[OI];congr 1
def B5C(c:Int):Int:=if okU c then c else 65533
def MZ(c:Int):List Int:=if c<128 then[c]else if c<2048 then[192+c / 64,128+c%64]else if c<65536 then[224+c / 4096,128+c / 64%64,128+c%64]else[240+c / 262144,128+c / 4096%64,128+c / 64%64,128+c%64]
def MY(c:Int):C8:=iB (MZ (B5C c))
def gA{c:Int}(h:okU c):B5C c=c:=A4 h
def A0J{c:Int}(h:¬okU c):B5C c=65533:=A3 h
def A0O{c:Int}(h:c<128):MZ c=[c]:=A4 h
def A0N{c:Int}(h:¬c<128)(d:c<2048):MZ c=[192+c / 64,128+c%64]:=by unfold MZ;rw[A3 h,A4 d]
def A0M{c:Int}(h:¬c<128)(d:¬c<2048)(h3:c<65536):MZ c=[224+c / 4096,128+c / 64%64,128+c%64]:=by unfold MZ;rw[A3 h,A3 d,A4 h3]
def A0L{c:Int}(h:¬c<128)(d:¬c<2048)(h3:¬c<65536):MZ c=[240+c / 262144,128+c / 4096%64,128+c / 64%64,128+c%64]:=by unfold MZ;rw[A3 h,A3 d,A3 h3]
noncomputable def C0l:L5:=⟨_,fun d=>.nil⟩
def JC:List U->Option (Nat×List U)
 | [.int .i64 c]=>some (0,[.str (MY c)])
 | _=>none
def A8b(c:Int):JC [.int .i64 c]=some (0,[.str (MY c)]):=rfl
def rK:Tr:=.ret [.string ⟨⟨[239,191,189]⟩⟩]
def L6(a0:Nat):Tr:=.ret [h a0 9]
def B2O:Tr:=J6 0 1 0 (X0 0 2 1114111 (.lt 3 (.bin .shr) [h3 0,.int .u64 (11)]<|aN [h3 3,jI 27]<|J5 4 5 rK (M9 0 6 128 (.lt 4 (.conv .u8) [h3 0]<|.lt 9 (.mks) [h 7 4]<|.ret [h 8 9]) (M9 0 7 2048 (.lt 3 (.bin .shr) [h3 0,.int .u64 (6)]<|.lt 4 (.conv .u8) [h3 8]<|.lt 4 (.bin .or) [.int .u8 (192),h 9 4]<|.lt 3 (.bin .shr) [h3 0,jI 0]<|.lt 4 (.conv .u8) [h3 11]<|.lt 4 (.bin .and) [h 12 4,.int .u8 (63)]<|.lt 4 (.bin .or) [.int .u8 (128),h 13 4]<|.lt 9 (.mks) [h 10 4,h 14 4]<|L6 15) (M9 0 8 65536 (.lt 3 (.bin .shr) [h3 0,.int .u64 (12)]<|.lt 4 (.conv .u8) [h3 9]<|.lt 4 (.bin .or) [.int .u8 (224),h 10 4]<|.lt 3 (.bin .shr) [h3 0,jI 6]<|.lt 4 (.conv .u8) [h3 12]<|.lt 4 (.bin .and) [h 13 4,.int .u8 (63)]<|.lt 4 (.bin .or) [.int .u8 (128),h 14 4]<|.lt 3 (.bin .shr) [h3 0,jI 0]<|.lt 4 (.conv .u8) [h3 16]<|.lt 4 (.bin .and) [h 17 4,.int .u8 (63)]<|.lt 4 (.bin .or) [.int .u8 (128),h 18 4]<|.lt 9 (.mks) [h 11 4,h 15 4,h 19 4]<|L6 20) (.lt 3 (.bin .shr) [h3 0,.int .u64 (18)]<|.lt 4 (.conv .u8) [h3 9]<|.lt 4 (.bin .or) [.int .u8 (240),h 10 4]<|.lt 3 (.bin .shr) [h3 0,jI 12]<|.lt 4 (.conv .u8) [h3 12]<|.lt 4 (.bin .and) [h 13 4,.int .u8 (63)]<|.lt 4 (.bin .or) [.int .u8 (128),h 14 4]<|.lt 3 (.bin .shr) [h3 0,jI 6]<|.lt 4 (.conv .u8) [h3 16]<|.lt 4 (.bin .and) [h 17 4,.int .u8 (63)]<|.lt 4 (.bin .or) [.int .u8 (128),h 18 4]<|.lt 3 (.bin .shr) [h3 0,jI 0]<|.lt 4 (.conv .u8) [h3 20]<|.lt 4 (.bin .and) [h 21 4,.int .u8 (63)]<|.lt 4 (.bin .or) [.int .u8 (128),h 22 4]<|.lt 9 (.mks) [h 11 4,h 15 4,h 19 4,h 23 4]<|L6 24))))) rK) rK
def B7Y{G}(f:I6 G):I8 prog G 77 [.s 3] JC [.s 9]:=by
 refine D0 (d:=60) B2O (cxg (C0l.2 f) .nil) f ⟨f77,_,func77,rfl⟩ C3 C3 ?_;intro us outs m;unfold JC at m;split at m
 .skip;rename_i c;cases m;unfold B2O;refine w0 (.cons 0 _ (.nil)) ?_;repeat (first|refine m5 ?_|refine w1 (.conv .u8) (e:=UC _) (k':=?_)|(refine w7 [.str _] ?_;rotate_left)|refine w4 (fun g=>?_) fun g=>?_|refine w1 (.bin .and) (e:=fA 6 64 B8 B8 B8) (k':=?_)|refine w1 (.bin .or) (e:=OH (c:=64) A0 A0 B8) (k':=?_)|refine W3 ?_|refine w1 (.bin .shr) (e:=W6 64 B8 B8) (k':=?_)|refine w1 (.bin .shr) (e:=W6 1 B8 B8) (k':=?_)|refine w1 (.bin .shr) (e:=W6 4096 B8 B8) (k':=?_)|refine bK ?_|refine iE ?_|refine w1 (.bin .shr) (e:=W6 2048 B8 B8) (k':=?_)|refine oX ?_|refine Y3 ?_|refine w1 (.mks) (e:=x6 [_] (by simp only[B7,H7,or_false,forall_eq_or_imp,forall_eq];omega)) (k':=?_)|refine w1 (.bin .or) (e:=OH (c:=32) A0 A0 B8) (k':=?_)|refine w1 (.mks) (e:=x6 [_,_] (by simp only[B7,H7,or_false,forall_eq_or_imp,forall_eq];omega)) (k':=?_)|refine w1 (.bin .or) (e:=OH (c:=16) A0 A0 B8) (k':=?_)|refine w1 (.mks) (e:=x6 [_,_,_] (by simp only[B7,H7,or_false,forall_eq_or_imp,forall_eq];omega)) (k':=?_)|refine w1 (.bin .shr) (e:=W6 262144 B8 B8) (k':=?_)|refine w1 (.bin .or) (e:=OH (c:=8) A0 A0 B8) (k':=?_)|refine w1 (.mks) (e:=x6 [_,_,_,_] (by simp only[B7,H7,or_false,forall_eq_or_imp,forall_eq];omega)) (k':=?_))
  all_goals
   refine G2 (fun z=>[U.str z]) ?_;symm;unfold MY;first|(rw[gA (by unfold okU;omega),A0O A0];done)|(rw[gA (by unfold okU;omega),A0O A0];refine G2 iB ?_;simp only[H8,and_true,true_and];omega)|(rw[gA (by unfold okU;omega),A0N A0 A0];done)|(rw[gA (by unfold okU;omega),A0N A0 A0];refine G2 iB ?_;simp only[H8,and_true,true_and];omega)|(rw[gA (by unfold okU;omega),A0M A0 A0 A0];done)|(rw[gA (by unfold okU;omega),A0M A0 A0 A0];refine G2 iB ?_;simp only[H8,and_true,true_and];omega)|(rw[gA (by unfold okU;omega),A0L A0 A0 A0];done)|(rw[gA (by unfold okU;omega),A0L A0 A0 A0];refine G2 iB ?_;simp only[H8,and_true,true_and];omega)|(rw[A0J (by unfold okU;omega)];rfl)|(rw[A0J (by unfold okU;omega)];decide)
 .cases m
noncomputable def B6A:L5:=⟨_,fun d=>.nil⟩
def DT:List U->Option (Nat×List U)
 | [.int .i64 c]=>some (0,[.str (MY c)])
 | _=>none
def A35(c:Int):DT [.int .i64 c]=some (0,[.str (MY c)]):=rfl
def ZY(n:Nat):Tr:=M9 0 n 128 (.lt 4 (.conv .u8) [h3 0]<|.lt 9 (.mks) [h (n+1) 4]<|.ret [h (n+2) 9]) (M9 0 (n+1) 2048 (.lt 3 (.bin .rem) [h3 0,jI 64]<|aA [jI 128,h3 (n+2)]<|.lt 4 (.conv .u8) [h3 (n+3)]<|.lt 3 (.bin .quo) [h3 0,jI 64]<|aA [jI 192,h3 (n+5)]<|.lt 4 (.conv .u8) [h3 (n+6)]<|.lt 9 (.mks) [h (n+7) 4,h (n+4) 4]<|L6 (n+8)) (M9 0 (n+2) 65536 (.lt 3 (.bin .rem) [h3 0,jI 64]<|aA [jI 128,h3 (n+3)]<|.lt 4 (.conv .u8) [h3 (n+4)]<|.lt 3 (.bin .quo) [h3 0,jI 64]<|.lt 3 (.bin .rem) [h3 (n+6),jI 64]<|aA [jI 128,h3 (n+7)]<|.lt 4 (.conv .u8) [h3 (n+8)]<|.lt 3 (.bin .quo) [h3 (n+6),jI 64]<|aA [jI 224,h3 (n+10)]<|.lt 4 (.conv .u8) [h3 (n+11)]<|.lt 9 (.mks) [h (n+12) 4,h (n+9) 4,h (n+5) 4]<|L6 (n+13)) (.lt 3 (.bin .rem) [h3 0,jI 64]<|aA [jI 128,h3 (n+3)]<|.lt 4 (.conv .u8) [h3 (n+4)]<|.lt 3 (.bin .quo) [h3 0,jI 64]<|.lt 3 (.bin .rem) [h3 (n+6),jI 64]<|aA [jI 128,h3 (n+7)]<|.lt 4 (.conv .u8) [h3 (n+8)]<|.lt 3 (.bin .quo) [h3 (n+6),jI 64]<|.lt 3 (.bin .rem) [h3 (n+10),jI 64]<|aA [jI 128,h3 (n+11)]<|.lt 4 (.conv .u8) [h3 (n+12)]<|.lt 3 (.bin .quo) [h3 (n+10),jI 64]<|aA [jI 240,h3 (n+14)]<|.lt 4 (.conv .u8) [h3 (n+15)]<|.lt 9 (.mks) [h (n+16) 4,h (n+13) 4,h (n+9) 4,h (n+5) 4]<|L6 (n+17))))
def A34:Tr:=J6 0 1 0 (X0 0 2 1114111 (M9 0 3 55296 (ZY 4) (aG [h3 0,jI 57343]<|J5 4 5 rK (ZY 6))) rK) rK
def B46{G}(f:I6 G):I8 prog G 93 [.s 3] DT [.s 9]:=by
 refine D0 (d:=60) A34 (cxg (B6A.2 f) .nil) f ⟨f93,_,func93,rfl⟩ C3 C3 ?_;intro us outs m;unfold DT at m;split at m
 .skip;rename_i c;cases m;unfold A34;refine w0 (.cons 0 _ (.nil)) ?_;repeat (first|refine m5 ?_|refine w1 (.conv .u8) (e:=UC _) (k':=?_)|refine V1 ?_|refine O0 ?_|refine LQ ?_|refine w1 (.bin .rem) (e:=kV _ _ _ A0) (k':=?_)|refine PZ ?_|refine w1 (.bin .quo) (e:=nO _ _ _ A0) (k':=?_)|(refine w7 [.str _] ?_;rotate_left)|refine w4 (fun g=>?_) fun g=>?_|refine W3 ?_|refine w1 (.mks) (e:=x6 [_] (by simp only[B7,H7,or_false,forall_eq_or_imp,forall_eq];omega)) (k':=?_)|refine w1 (.mks) (e:=x6 [_,_] (by simp only[B7,H7,or_false,forall_eq_or_imp,forall_eq];omega)) (k':=?_)|refine w1 (.mks) (e:=x6 [_,_,_] (by simp only[B7,H7,or_false,forall_eq_or_imp,forall_eq];omega)) (k':=?_)|refine w1 (.mks) (e:=x6 [_,_,_,_] (by simp only[B7,H7,or_false,forall_eq_or_imp,forall_eq];omega)) (k':=?_)|refine bK ?_|refine iE ?_|refine cB ?_|refine Y3 ?_)
  all_goals
   refine G2 (fun z=>[U.str z]) ?_;symm;unfold MY;first|(rw[gA (by unfold okU;omega),A0O A0];done)|(rw[gA (by unfold okU;omega),A0O A0];refine G2 iB ?_;simp only[H8,and_true,true_and];omega)|(rw[gA (by unfold okU;omega),A0N A0 A0];done)|(rw[gA (by unfold okU;omega),A0N A0 A0];refine G2 iB ?_;simp only[H8,and_true,true_and];omega)|(rw[gA (by unfold okU;omega),A0M A0 A0 A0];done)|(rw[gA (by unfold okU;omega),A0M A0 A0 A0];refine G2 iB ?_;simp only[H8,and_true,true_and];omega)|(rw[gA (by unfold okU;omega),A0L A0 A0 A0];done)|(rw[gA (by unfold okU;omega),A0L A0 A0 A0];refine G2 iB ?_;simp only[H8,and_true,true_and];omega)|(rw[A0J (by unfold okU;omega)];rfl)|(rw[A0J (by unfold okU;omega)];decide)
 .cases m
def ON{n:Int}(h0:0<=n)(h:n<10):Lib.decDigits n.toNat=[UInt8.ofNat (48+n).toNat]:=by
 rw[Lib.decDigits_one A0];congr 2;omega
def oR{n:Int}(h0:0<=n)(h:¬n<10):Lib.decDigits n.toNat=Lib.decDigits (n / 10).toNat++Lib.decDigits (n%10).toNat:=by
 have h1:n.toNat / 10=(n / 10).toNat:=A0;have d:n.toNat%10=(n%10).toNat:=A0;conv=>lhs;rw[Lib.decDigits,dif_neg A0]
 rw[h1,d,Lib.decDigits_one (i:=(n%10).toNat) A0]
def bA{n:Int}(h0:0<=n)(h:n<9999999999):(Lib.decDigits n.toNat).length<=40:=by
 have:=Lib.itoa_length_le n A0 A0;rw[show n=(n.toNat:Int) by omega,Lib.itoa_nonneg]at this;exact B9 this B8
noncomputable def C0_:L5:=⟨_,fun d=>.nil⟩
def FU:List U->Option (Nat×List U)
 | [.int .i64 n]=>if 0<=n/\n<10 then some (0,[.str (Lib.decDigits n.toNat)])else none
 | _=>none
def A1O(n:Int)(d:0<=n/\n<10):FU [.int .i64 n]=some (0,[.str (Lib.decDigits n.toNat)]):=A4 d
def uV:Tr:=aA [jI 48,h3 0]<|.lt 4 (.conv .u8) [h3 2]<|.lt 9 (.mks) [h 3 4]<|.ret [h 4 9]
def B3x:Tr:=aL [h3 0,jI 10]<|S7 1 uV
def B9O{G}(g:I6 G):I8 prog G 125 [.s 3] FU [.s 9]:=by
 refine D0 (d:=1) B3x (cxg (C0_.2 g) .nil) g ⟨f125,_,func125,rfl⟩ C3 C3 ?_;intro us outs f;unfold FU at f;split at f
 .skip;rename_i n;split at f
  .rename_i m;cases f;have v:=bA (n:=n / 10) A0 A0;have hr:=bA (n:=n%10) A0 A0;unfold B3x;refine w0 (.cons 0 _ (.nil)) ?_;refine W3 ?_;refine w5 (fun g0=>?_) fun g0=>?_
   .refine w8 ?_
    (exfalso;omega)
   first|refine V1 ?_|refine O0 ?_
   first|refine m5 ?_|refine X1 ?_
   refine w1 (.mks) (e:=x6 [_] (by simp only[B7,H7,or_false,forall_eq_or_imp,forall_eq];omega)) (k':=?_);refine w7 [.str _] ?_;first|(rw[ON m.1 g0];rfl)|(rw[oR m.1 g0];rfl)|(rw[oR m.1 g0])|(exfalso;omega)
  .cases f
 .cases f
noncomputable def C09:L5:=⟨_,fun d=>(.cons (B9O d) .nil)⟩
def FT:List U->Option (Nat×List U)
 | [.int .i64 n]=>if 0<=n/\n<100 then some (0,[.str (Lib.decDigits n.toNat)])else none
 | _=>none
def A1N(n:Int)(d:0<=n/\n<100):FT [.int .i64 n]=some (0,[.str (Lib.decDigits n.toNat)]):=A4 d
def B3w:Tr:=M9 0 1 10 uV (.lt 3 (.bin .quo) [h3 0,jI 10]<|.fn FU [h3 2] 1<|.lt 3 (.bin .rem) [h3 0,jI 10]<|.fn FU [h3 4] 1<|aC [h 3 9,h 5 9]<|L6 6)
def B9N{G}(m:I6 G):I8 prog G 125 [.s 3] FT [.s 9]:=by
 refine D0 (d:=60) B3w (cxg (C09.2 m) .nil) m ⟨f125,_,func125,rfl⟩ C3 C3 ?_;intro us outs g;unfold FT at g;split at g
 .skip;rename_i n;split at g
  .rename_i f;cases g;have v:=bA (n:=n / 10) A0 A0;have hr:=bA (n:=n%10) A0 A0;unfold B3w;refine w0 (.cons 0 _ (.nil)) ?_;refine W3 ?_;refine w4 (fun g0=>?_) fun g0=>?_
   .first|refine V1 ?_|refine O0 ?_
    first|refine m5 ?_|refine X1 ?_
    refine w1 (.mks) (e:=x6 [_] (by simp only[B7,H7,or_false,forall_eq_or_imp,forall_eq];omega)) (k':=?_);refine w7 [.str _] ?_;first|(rw[ON f.1 g0];rfl)|(rw[oR f.1 g0];rfl)|(rw[oR f.1 g0])|(exfalso;omega)
   first|refine PZ ?_|refine w1 (.bin .quo) (e:=nO _ _ _ A0) (k':=?_)
   refine w31 FU (e:=A1O _ A0) (k':=?_);first|refine LQ ?_|refine w1 (.bin .rem) (e:=kV _ _ _ A0) (k':=?_)
   refine w31 FU (e:=A1O _ A0) (k':=?_);refine w1 (.bin .add) (e:=X3 _ _ A0) (k':=?_);refine w7 [.str _] ?_;first|(rw[ON f.1 g0];rfl)|(rw[oR f.1 g0];rfl)|(rw[oR f.1 g0])|(exfalso;omega)
  .cases g
 .cases g
noncomputable def C08:L5:=⟨_,fun d=>(.cons (B9N d) .nil)⟩
def FS:List U->Option (Nat×List U)
 | [.int .i64 n]=>if 0<=n/\n<1000 then some (0,[.str (Lib.decDigits n.toNat)])else none
 | _=>none
def A1M(n:Int)(d:0<=n/\n<1000):FS [.int .i64 n]=some (0,[.str (Lib.decDigits n.toNat)]):=A4 d
def B3v:Tr:=M9 0 1 10 uV (.lt 3 (.bin .quo) [h3 0,jI 10]<|.fn FT [h3 2] 1<|.lt 3 (.bin .rem) [h3 0,jI 10]<|.fn FT [h3 4] 1<|aC [h 3 9,h 5 9]<|L6 6)
def B9M{G}(m:I6 G):I8 prog G 125 [.s 3] FS [.s 9]:=by
 refine D0 (d:=60) B3v (cxg (C08.2 m) .nil) m ⟨f125,_,func125,rfl⟩ C3 C3 ?_;intro us outs g;unfold FS at g;split at g
 .skip;rename_i n;split at g
  .rename_i f;cases g;have v:=bA (n:=n / 10) A0 A0;have hr:=bA (n:=n%10) A0 A0;unfold B3v;refine w0 (.cons 0 _ (.nil)) ?_;refine W3 ?_;refine w4 (fun g0=>?_) fun g0=>?_
   .first|refine V1 ?_|refine O0 ?_
    first|refine m5 ?_|refine X1 ?_
    refine w1 (.mks) (e:=x6 [_] (by simp only[B7,H7,or_false,forall_eq_or_imp,forall_eq];omega)) (k':=?_);refine w7 [.str _] ?_;first|(rw[ON f.1 g0];rfl)|(rw[oR f.1 g0];rfl)|(rw[oR f.1 g0])|(exfalso;omega)
   first|refine PZ ?_|refine w1 (.bin .quo) (e:=nO _ _ _ A0) (k':=?_)
   refine w31 FT (e:=A1N _ A0) (k':=?_);first|refine LQ ?_|refine w1 (.bin .rem) (e:=kV _ _ _ A0) (k':=?_)
   refine w31 FT (e:=A1N _ A0) (k':=?_);refine w1 (.bin .add) (e:=X3 _ _ A0) (k':=?_);refine w7 [.str _] ?_;first|(rw[ON f.1 g0];rfl)|(rw[oR f.1 g0];rfl)|(rw[oR f.1 g0])|(exfalso;omega)
  .cases g
 .cases g
noncomputable def C07:L5:=⟨_,fun d=>(.cons (B9M d) .nil)⟩
def FQ:List U->Option (Nat×List U)
 | [.int .i64 n]=>if 0<=n/\n<10000 then some (0,[.str (Lib.decDigits n.toNat)])else none
 | _=>none
def A1L(n:Int)(d:0<=n/\n<10000):FQ [.int .i64 n]=some (0,[.str (Lib.decDigits n.toNat)]):=A4 d
def B3u:Tr:=M9 0 1 10 uV (.lt 3 (.bin .quo) [h3 0,jI 10]<|.fn FS [h3 2] 1<|.lt 3 (.bin .rem) [h3 0,jI 10]<|.fn FS [h3 4] 1<|aC [h 3 9,h 5 9]<|L6 6)
def B9L{G}(m:I6 G):I8 prog G 125 [.s 3] FQ [.s 9]:=by
 refine D0 (d:=60) B3u (cxg (C07.2 m) .nil) m ⟨f125,_,func125,rfl⟩ C3 C3 ?_;intro us outs g;unfold FQ at g;split at g
 .skip;rename_i n;split at g
  .rename_i f;cases g;have v:=bA (n:=n / 10) A0 A0;have hr:=bA (n:=n%10) A0 A0;unfold B3u;refine w0 (.cons 0 _ (.nil)) ?_;refine W3 ?_;refine w4 (fun g0=>?_) fun g0=>?_
   .first|refine V1 ?_|refine O0 ?_
    first|refine m5 ?_|refine X1 ?_
    refine w1 (.mks) (e:=x6 [_] (by simp only[B7,H7,or_false,forall_eq_or_imp,forall_eq];omega)) (k':=?_);refine w7 [.str _] ?_;first|(rw[ON f.1 g0];rfl)|(rw[oR f.1 g0];rfl)|(rw[oR f.1 g0])|(exfalso;omega)
   first|refine PZ ?_|refine w1 (.bin .quo) (e:=nO _ _ _ A0) (k':=?_)
   refine w31 FS (e:=A1M _ A0) (k':=?_);first|refine LQ ?_|refine w1 (.bin .rem) (e:=kV _ _ _ A0) (k':=?_)
   refine w31 FS (e:=A1M _ A0) (k':=?_);refine w1 (.bin .add) (e:=X3 _ _ A0) (k':=?_);refine w7 [.str _] ?_;first|(rw[ON f.1 g0];rfl)|(rw[oR f.1 g0];rfl)|(rw[oR f.1 g0])|(exfalso;omega)
  .cases g
 .cases g
noncomputable def C06:L5:=⟨_,fun d=>(.cons (B9L d) .nil)⟩
def cT:List U->Option (Nat×List U)
 | [.int .i64 n]=>if 0<=n/\n<100000 then some (0,[.str (Lib.decDigits n.toNat)])else none
 | _=>none
def A1K(n:Int)(d:0<=n/\n<100000):cT [.int .i64 n]=some (0,[.str (Lib.decDigits n.toNat)]):=A4 d
def B3s:Tr:=M9 0 1 10 uV (.lt 3 (.bin .quo) [h3 0,jI 10]<|.fn FQ [h3 2] 1<|.lt 3 (.bin .rem) [h3 0,jI 10]<|.fn FQ [h3 4] 1<|aC [h 3 9,h 5 9]<|L6 6)
def B3t{G}(m:I6 G):I8 prog G 125 [.s 3] cT [.s 9]:=by
 refine D0 (d:=60) B3s (cxg (C06.2 m) .nil) m ⟨f125,_,func125,rfl⟩ C3 C3 ?_;intro us outs g;unfold cT at g;split at g
 .skip;rename_i n;split at g
  .rename_i f;cases g;have v:=bA (n:=n / 10) A0 A0;have hr:=bA (n:=n%10) A0 A0;unfold B3s;refine w0 (.cons 0 _ (.nil)) ?_;refine W3 ?_;refine w4 (fun g0=>?_) fun g0=>?_
   .first|refine V1 ?_|refine O0 ?_
    first|refine m5 ?_|refine X1 ?_
    refine w1 (.mks) (e:=x6 [_] (by simp only[B7,H7,or_false,forall_eq_or_imp,forall_eq];omega)) (k':=?_);refine w7 [.str _] ?_;first|(rw[ON f.1 g0];rfl)|(rw[oR f.1 g0];rfl)|(rw[oR f.1 g0])|(exfalso;omega)
   first|refine PZ ?_|refine w1 (.bin .quo) (e:=nO _ _ _ A0) (k':=?_)
   refine w31 FQ (e:=A1L _ A0) (k':=?_);first|refine LQ ?_|refine w1 (.bin .rem) (e:=kV _ _ _ A0) (k':=?_)
   refine w31 FQ (e:=A1L _ A0) (k':=?_);refine w1 (.bin .add) (e:=X3 _ _ A0) (k':=?_);refine w7 [.str _] ?_;first|(rw[ON f.1 g0];rfl)|(rw[oR f.1 g0];rfl)|(rw[oR f.1 g0])|(exfalso;omega)
  .cases g
 .cases g
def B54:Nat->Nat->C8
 | 0,_=>[]
 | k+1,n=>if n<10 then[UInt8.ofNat (48+n)]else B54 k (n / 10)++[UInt8.ofNat (48+n%10)]
def A1J:∀ (k n:Nat),n<10 ^ (k+1)->B54 (k+1) n=Lib.decDigits n
 | 0,n,h=>by
   have h1:n<10:=by simpa using h
   show(if n<10 then _ else _)=_;rw[A4 h1,Lib.decDigits_one h1]
 | k+1,n,h=>by
   show(if n<10 then _ else _)=_;by_cases h1:n<10
   .rw[A4 h1,Lib.decDigits_one h1]
   .rw[A3 h1];have d:n / 10<10 ^ (k+1):=Nat.div_lt_of_lt_mul (by rw[bD,<- Nat.pow_succ];exact h);rw[A1J k (n / 10) d];conv=>rhs;rw[Lib.decDigits,dif_neg h1]
def itz(n:Int):C8:=if 0<=n/\n<100000 then B54 5 n.toNat else Lib.itoa n
def XV(n:Int):itz n=Lib.itoa n:=by
 unfold itz;by_cases h:0<=n/\n<100000
 .rw[A4 h,A1J 4 n.toNat (by show n.toNat<100000;omega),<- Lib.itoa_nonneg,U5 h.1]
 .rw[A3 h]
def dE:List U->Option (Nat×List U)
 | [.int .i64 n]=>if -9223372036854775808<=n/\n<=9223372036854775807 then some (0,[.str (itz n)])else none
 | _=>none
def nK(n:Int)(d : -9223372036854775808<=n/\n<=9223372036854775807):dE [.int .i64 n]=some (0,[.str (itz n)]):=A4 d
def A52{G}(f:I6 G):I8 prog G 79 [.s 3] dE [.s 9]:=by
 intro us outs w vs R g d h B;unfold dE at d;split at d
 .skip;rename_i n;split at d
  .rename_i A;cases d;have m:=y9 (vs2:=[.int .i64 n]) g rfl;subst m;refine wZ (vr:=[.string ⟨⟨itz n⟩⟩]) func79 rfl C3 rfl ?_;rw[XV];refine(Tryz.strconv_Itoa n A0 A0 w (LO (id:=3) f h B8 B8 C3 C3 C3)).mono fun e w' ⟨h1,k,os,v⟩=>⟨h1,?_⟩
   subst v;exact Go.Lib.below_grow _ w (B0 _) k os
  .cases d
 .cases d
def nuL:List Int:=[2,3,5,6,15,17,18,19,20,21,23,24]
def leL:C8:=[65,66,67,68,70,72,80,81,82,83]
def SX(k:Int):C8:=(leL.drop k.toNat).take ((k+1).toNat-k.toNat)
def spS(ck:Bool)(k m:Int):C8 :=
 if 10<=k then if 0<m then[27,91]++itz (nuL.getD (k-10).toNat 0)++[59]++itz (m+1)++[126]else[27,91]++itz (nuL.getD (k-10).toNat 0)++[126]
 else if 0<m then[27,91,49,59]++itz (m+1)++SX k else if 6<=k then[27,79]++SX k else if ck=true then[27,79]++SX k else[27,91]++SX k
def A5M(n:Nat):0<=nuL.getD n 0/\nuL.getD n 0<=24:=by
 have h:∀ n:Nat,n<12->0<=nuL.getD n 0/\nuL.getD n 0<=24:=B8;rcases G7 n 12 with k|k
 .exact h n k
 .have e:nuL.getD n 0=0:=by
   rw[B4,jP.2 (by exact k)];rfl
  rw[e];decide
def NQ{n:Int}(h : -9223372036854775808<=n)(d:n<=9223372036854775807):(itz n).length<=21:=by rw[XV];exact Lib.itoa_length_le n h d
noncomputable def C00:L5:=⟨_,fun d=>(.cons (A52 d) .nil)⟩
def UD:List U->Option (Nat×List U)
 | [.bool b0,.bool b1,.bool ck,.bool b3,.bool b4,.bool b5,.bool b6,.bool pa,.bool fo,.bool b9,.bool b10,.int .i64 mo,.bool sg,.int .i64 k,.int .i64 m]=>if 0<=k/\k<=21/\0<=m/\m<=7 then some (0,[.str (spS ck k m)])else none
 | _=>none
def A9T(C:Bool)(h:Bool)(ck:Bool)(B:Bool)(A:Bool)(g:Bool)(f:Bool)(pa:Bool)(fo:Bool)(e:Bool)(d:Bool)(mo:Int)(sg:Bool)(k:Int)(m:Int)(v:0<=k/\k<=21/\0<=m/\m<=7):UD [.bool C,.bool h,.bool ck,.bool B,.bool A,.bool g,.bool f,.bool pa,.bool fo,.bool e,.bool d,.int .i64 mo,.bool sg,.int .i64 k,.int .i64 m]=some (0,[.str (spS ck k m)]):=A4 v
def A6Y(n:Nat):Tr:=aA [h3 13,jI 1]<|.lt 9 (.sub) [.string ⟨⟨[65,66,67,68,70,72,80,81,82,83]⟩⟩,h3 13,h3 n]<|aC [.string ⟨⟨[27,79]⟩⟩,h (n+1) 9]<|L6 (n+2)
def A6X(n:Nat):Tr:=J6 13 n 10 (aS [h3 13,jI 10]<|aI [h3 (n+1),jI 12]<|S7 (n+2) (.lt 3 (.sel) [h3 (n+1),jI 2,jI 3,jI 5,jI 6,jI 15,jI 17,jI 18,jI 19,jI 20,jI 21,jI 23,jI 24]<|.fn dE [h3 (n+3)] 1<|aC [.string ⟨⟨[27,91]⟩⟩,h (n+4) 9]<|aC [h (n+5) 9,.string ⟨⟨[126]⟩⟩]<|L6 (n+6))) (aW 14 (n+1) 0 (aC [.string ⟨⟨[27,91,49,59]⟩⟩,h 16 9]<|aA [h3 13,jI 1]<|.lt 9 (.sub) [.string ⟨⟨[65,66,67,68,70,72,80,81,82,83]⟩⟩,h3 13,h3 (n+3)]<|aC [h (n+2) 9,h (n+4) 9]<|L6 (n+5)) (J6 13 (n+2) 6 (A6Y (n+3)) (.br 2 (A6Y (n+3)) (aA [h3 13,jI 1]<|.lt 9 (.sub) [.string ⟨⟨[65,66,67,68,70,72,80,81,82,83]⟩⟩,h3 13,h3 (n+3)]<|aC [.string ⟨⟨[27,91]⟩⟩,h (n+4) 9]<|L6 (n+5)))))
def B3g:Tr:=aA [h3 14,jI 1]<|.fn dE [h3 15] 1<|J6 13 17 10 (aW 14 18 0 (aS [h3 13,jI 10]<|aI [h3 19,jI 12]<|S7 20 (.lt 3 (.sel) [h3 19,jI 2,jI 3,jI 5,jI 6,jI 15,jI 17,jI 18,jI 19,jI 20,jI 21,jI 23,jI 24]<|.fn dE [h3 21] 1<|aC [.string ⟨⟨[27,91]⟩⟩,h 22 9]<|aC [h 23 9,.string ⟨⟨[59]⟩⟩]<|aC [h 24 9,h 16 9]<|aC [h 25 9,.string ⟨⟨[126]⟩⟩]<|L6 26)) (A6X 19)) (A6X 18)
def B84{G}(v:I6 G):I8 prog G 78 [.a [8,8,8,8,8,8,8,8,8,8,8,3,8],.s 3,.s 3] UD [.s 9]:=by
 refine D0 (d:=60) B3g (cxg (C00.2 v) .nil) v ⟨f78,_,func78,rfl⟩ C3 C3 ?_;intro us outs f;unfold UD at f;split at f
 .skip;rename_i D J ck K B A I pa fo H h mo sg k m;split at f
  .rename_i C;cases f;have l1:=NQ (n:=m+1) A0 A0;have F:0<=([2,3,5,6,15,17,18,19,20,21,23,24]:List Int).getD (k-10).toNat 0/\([2,3,5,6,15,17,18,19,20,21,23,24]:List Int).getD (k-10).toNat 0<=24:=A5M _;have l2:(itz (([2,3,5,6,15,17,18,19,20,21,23,24]:List Int).getD (k-10).toNat 0)).length<=21:=NQ A0 A0;unfold B3g;refine w0 (.cons 14 _ (.cons 13 _ (.cons 12 _ (.cons 11 _ (.cons 10 _ (.cons 9 _ (.cons 8 _ (.cons 7 _ (.cons 6 _ (.cons 5 _ (.cons 4 _ (.cons 3 _ (.cons 2 _ (.cons 1 _ (.cons 0 _ (.nil)))))))))))))))) ?_;repeat (first|refine V1 ?_|refine O0 ?_|refine w1 (.bin .add) (e:=X3 _ _ (by simp only[B1,B6,E0,G3];omega)) (k':=?_)|refine w4 (fun g=>?_) fun g=>?_|refine w4B (fun g=>?_) fun g=>?_|(refine w7 [.str _] ?_;rotate_left)|refine B0d ?_|refine oW ?_|refine iC ?_|refine bK ?_|refine w31 dE (e:=nK _ A0) (k':=?_)|refine cB ?_|refine A29 ?_|refine w1 (.sel) (e:=nN [2,3,5,6,15,17,18,19,20,21,23,24] A0 (by show _<((12:Nat):Int);omega)) (k':=?_)|(refine w8 ?_;first|omega))
   all_goals
    refine G2 (fun z=>[U.str z]) ?_;unfold spS SX
    (repeat' split)<;>first|(exfalso;omega)|rfl|(simp;done)|(simp_all;done)
  .cases f
 .cases f
def rM:Rw (Int×C8):=rC (m7 .i64) (r1 UT)
def kmL:List (Int×C8):=[(1114135,[13]),(1114136,[9]),(1114137,[127]),(1114138,[27])]
def kmG(c:Int):C8:=(kmL.find? (fun a=>(c == a.1 && true))).elim [] (fun a=>a.2)
def kmH(c:Int):Bool:=kmL.any (fun a=>(c == a.1 && true))
def B8J(c:Int):kmH c=decide (c=1114135∨c=1114136∨c=1114137∨c=1114138):=by
 unfold kmH kmL;rw[N0];simp
def B8K(c:Int):kmG c=if c=1114135 then[13]else if c=1114136 then[9]else if c=1114137 then[127]else if c=1114138 then[27]else[]:=by
 unfold kmG kmL;simp only[fX,lC,List.find?_nil];by_cases h1:c=1114135
 .subst h1;rfl
 .by_cases e:c=1114136
  .subst e;rfl
  .by_cases h3:c=1114137
   .subst h3;rfl
   .by_cases d:c=1114138
    .subst d;rfl
    .have f:(c == 1114135)=false:=by simp[h1]
     have v:(c == 1114136)=false:=by simp[e]
     have m:(c == 1114137)=false:=by simp[h3]
     have g:(c == 1114138)=false:=by simp[d]
     rw[f,v,m,g,A3 h1,A3 e,A3 h3,A3 d];rfl
def C2A{c:Int}(h:kmH c=false):c≠1114135/\c≠1114136/\c≠1114137/\c≠1114138:=by
 rw[B8J]at h
 have:=of_decide_eq_false h;omega
def B5T(c:Int):(kmG c).length<=1:=by
 rw[B8K]
 (repeat' split)<;>decide
def EC(c:Int):(MY c).length<=4:=by
 unfold MY iB MZ;rw[H3]
 (repeat' split)<;>simp
def B5q{x:Option (List (Int×C8))}(c:Int)(d:el x=kmL):evU (.mget 2 1 1) [B2 rM x,.str [],.int .i64 c]=.str (kmG c):=by
 have h:=dJ (x:=x) (z:=([]:C8)) (kc:=[.int .i64 c]) (r:=rM) (w:=2) (kw:=1) (o:=1) U.str (fun a=>(c == a.1 && true)) (fun a=>a.2) rfl rfl (fun _=>rfl) (fun _=>rfl);rw[d]at h;exact h
def B5p{x:Option (List (Int×C8))}(c:Int)(d:el x=kmL):evU (.mhas 2 1) [B2 rM x,.int .i64 c]=.bool (kmH c):=by
 have h:=UB (x:=x) (kc:=[.int .i64 c]) (r:=rM) (w:=2) (kw:=1) (fun a=>(c == a.1 && true)) rfl rfl (fun _=>rfl);rw[d]at h;exact h
def x5(l:List Int):(iB l).length=l.length:=by unfold iB;rw[H3]
def HT(m:Int):C8:=if m / 2%2*2≠0 then[27]else[]
def keS(ck:Bool)(c m:Int):C8 :=
 if c=1114136/\m=1 then[27,91,90]else if c=1114135 then HT m++[13]else if c=1114136 then HT m++[9]else if c=1114137 then HT m++[127]else if c=1114138 then HT m++[27]
 else if c<1114113 then(if m / 4%2*4≠0 then HT m++iB [mD c]else HT m++MY c)else spS ck (c-1114113) m
noncomputable def C03:L5:=⟨_,fun d=>(.cons (A6v d) (.cons (B7Y d) (.cons (B84 d) .nil)))⟩
def KG:List U->Option (Nat×List U)
 | [.bool b0,.bool b1,.bool ck,.bool b3,.bool b4,.bool b5,.bool b6,.bool pa,.bool fo,.bool b9,.bool b10,.int .i64 mo,.bool sg,.int .i64 k,.int .i64 c,.int .i64 m,.int .i64 w,.int .i64 b,.int .i64 r,.int .i64 cl,.str t]=>if aK c m then some (0,[.str (keS ck c m)])else none
 | _=>none
def A9d(v:Bool)(B:Bool)(ck:Bool)(C:Bool)(f:Bool)(e:Bool)(A:Bool)(pa:Bool)(fo:Bool)(h:Bool)(d:Bool)(mo:Int)(sg:Bool)(k:Int)(c:Int)(m:Int)(w:Int)(b:Int)(r:Int)(cl:Int)(t:C8)(g:aK c m):KG [.bool v,.bool B,.bool ck,.bool C,.bool f,.bool e,.bool A,.bool pa,.bool fo,.bool h,.bool d,.int .i64 mo,.bool sg,.int .i64 k,.int .i64 c,.int .i64 m,.int .i64 w,.int .i64 b,.int .i64 r,.int .i64 cl,.str t]=some (0,[.str (keS ck c m)]):=A4 g
def A6i(n:Nat):Tr:=aS [h3 14,jI 1114113]<|.fn UD [h 0 8,h 1 8,h 2 8,h 3 8,h 4 8,h 5 8,h 6 8,h 7 8,h 8 8,h 9 8,h 10 8,h3 11,h 12 8,h3 n,h3 15] 1<|L6 (n+1)
def A6h(n:Nat):Tr:=M9 14 n 1114113 (.fn JC [h3 14] 1<|aC [.string ⟨⟨[27]⟩⟩,h (n+1) 9]<|L6 (n+2)) (A6i (n+1))
def A6g(n:Nat):Tr:=.br 29 (aC [.string ⟨⟨[27]⟩⟩,h 28 9]<|L6 n) (M9 14 n 1114113 (cY 15 (n+1) 4 (.fn AH [h3 14] 2<|.lt 9 (.mks) [h (n+3) 4]<|aC [.string ⟨⟨[27]⟩⟩,h (n+5) 9]<|L6 (n+6)) (A6h (n+3))) (A6h (n+1)))
def A6f(n:Nat):Tr:=M9 14 n 1114113 (.fn JC [h3 14] 1<|aC [.string ⟨⟨[]⟩⟩,h (n+1) 9]<|L6 (n+2)) (A6i (n+1))
def A6e(n:Nat):Tr:=.br 29 (aC [.string ⟨⟨[]⟩⟩,h 28 9]<|L6 n) (M9 14 n 1114113 (cY 15 (n+1) 4 (.fn AH [h3 14] 2<|.lt 9 (.mks) [h (n+3) 4]<|aC [.string ⟨⟨[]⟩⟩,h (n+5) 9]<|L6 (n+6)) (A6f (n+3))) (A6f (n+1)))
def B3k:Tr:=cY 15 21 2 (.dt 12 (.mk 2) []<|.dt 12 (.mput 2 1) [h 23 12,jI 1114135,.string ⟨⟨[13]⟩⟩]<|.dt 12 (.mput 2 1) [h 24 12,jI 1114136,.string ⟨⟨[9]⟩⟩]<|.dt 12 (.mput 2 1) [h 25 12,jI 1114137,.string ⟨⟨[127]⟩⟩]<|.dt 12 (.mput 2 1) [h 26 12,jI 1114138,.string ⟨⟨[27]⟩⟩]<|.lt 9 (.mget 2 1 1) [h 27 12,.string ⟨⟨[]⟩⟩,h3 14]<|.lt 8 (.mhas 2 1) [h 27 12,h3 14]<|F3 14 30 1114136 (F3 15 31 1 (.ret [.string ⟨⟨[27,91,90]⟩⟩]) (A6g 32)) (A6g 31)) (.dt 12 (.mk 2) []<|.dt 12 (.mput 2 1) [h 23 12,jI 1114135,.string ⟨⟨[13]⟩⟩]<|.dt 12 (.mput 2 1) [h 24 12,jI 1114136,.string ⟨⟨[9]⟩⟩]<|.dt 12 (.mput 2 1) [h 25 12,jI 1114137,.string ⟨⟨[127]⟩⟩]<|.dt 12 (.mput 2 1) [h 26 12,jI 1114138,.string ⟨⟨[27]⟩⟩]<|.lt 9 (.mget 2 1 1) [h 27 12,.string ⟨⟨[]⟩⟩,h3 14]<|.lt 8 (.mhas 2 1) [h 27 12,h3 14]<|F3 14 30 1114136 (F3 15 31 1 (.ret [.string ⟨⟨[27,91,90]⟩⟩]) (A6e 32)) (A6e 31))
def qO{G}(v:I6 G):I8 prog G 50 [.a [8,8,8,8,8,8,8,8,8,8,8,3,8],.a [3,3,3,3,3,3,3,9]] KG [.s 9]:=by
 refine D0 (d:=60) B3k (cxg (C03.2 v) .nil) v ⟨f50,_,func50,rfl⟩ C3 C3 ?_;intro us outs f;unfold KG at f;split at f
 .skip;rename_i H M ck N D C J pa fo I A mo sg k c m w b r cl t;split at f
  .rename_i h;cases f;have K:=A1S c;have z2:=B5T c;have z3:=EC c;have B:=h;unfold aK chP okU at B;unfold B3k;refine s0L ?_;show Tr.sav _ _ (.cons 20 _ (.cons 19 _ (.cons 18 _ (.cons 17 _ (.cons 16 _ (.cons 15 _ (.cons 14 _ (.cons 13 _ (.cons 12 _ (.cons 11 _ (.cons 10 _ (.cons 9 _ (.cons 8 _ (.cons 7 _ (.cons 6 _ (.cons 5 _ (.cons 4 _ (.cons 3 _ (.cons 2 _ (.cons 1 _ (.cons 0 _ (.nil))))))))))))))))))))));refine Wk.s ?_;repeat (first|refine w4 (fun g=>?_) fun g=>?_|refine w4B (fun g=>?_) fun g=>?_|(refine w7 [.str _] ?_;rotate_left)|refine w1 (.bin .add) (e:=X3 _ _ (by simp only[B1,B6,E0,x5];omega)) (k':=?_)|refine oW ?_|refine iC ?_|refine W3 ?_|refine w2 (.mput 2 1) (r:=rM) (e:=dI (fun a b=>(a.1 == b.1 && true)) (_,_) rfl rfl (fun _=>rfl) (R1 _)) (k':=?_)|refine w31 JC (e:=A8b _) (k':=?_)|refine w31 UD (e:=A9T _ _ _ _ _ _ _ _ _ _ _ _ _ _ _ (by have F:=C2A ‹_›;omega)) (k':=?_)|refine oX ?_|refine R8 ?_|refine w1 (.bin .and) (e:=CL _) (k':=?_)|refine w32 AH (e:=A1R _) (k':=?_)|refine w1 (.mks) (e:=x6 [_] (by simp only[B7,H7,or_false,forall_eq_or_imp,forall_eq];omega)) (k':=?_)|refine w2 (.mk 2) (r:=rM) (e:=I0 [] rfl B8 rfl) (k':=?_)|refine w1x (.mget 2 1 1) (e:=B5q _ rfl) (k':=?_)|refine w1x (.mhas 2 1) (e:=B5p _ rfl) (k':=?_)|refine w1 (.bin .and) (e:=OJ _) (k':=?_))
   all_goals
    refine G2 (fun z=>[U.str z]) ?_
    (try simp only[B8J,decide_eq_true_eq,decide_eq_false_iff_not]at *)
    (try rw[B8K])
    unfold keS HT
    (repeat' split)<;>first|(exfalso;omega)|rfl
  .cases f
 .cases f
def kI{n:Int}(h:0<=n):Lib.decDigits n.toNat=itz n:=by
 rw[XV,<- Lib.itoa_nonneg,U5 h]
noncomputable def C0T:L5:=⟨_,fun d=>(.cons (B2A d) (.cons (B46 d) (.cons (B3t d) .nil)))⟩
def zP:List U->Option (Nat×List U)
 | [.bool ck,.int .i64 c,.int .i64 m]=>if aK c m then some (0,[.str (keS ck c m)])else none
 | _=>none
def A0D(ck:Bool)(c:Int)(m:Int)(d:aK c m):zP [.bool ck,.int .i64 c,.int .i64 m]=some (0,[.str (keS ck c m)]):=A4 d
def B1k:Tr:=X0 1 3 1114111 (.fn DT [h3 1] 1<|cY 2 5 4 (.fn DY [h3 1] 1<|.lt 4 (.conv .u8) [h3 7]<|.lt 9 (.mks) [h 8 4]<|cY 2 10 2 (aC [.string ⟨⟨[27]⟩⟩,h 9 9]<|L6 12) (aC [.string ⟨⟨[]⟩⟩,h 9 9]<|L6 12)) (cY 2 7 2 (aC [.string ⟨⟨[27]⟩⟩,h 4 9]<|L6 9) (aC [.string ⟨⟨[]⟩⟩,h 4 9]<|L6 9))) (F3 1 4 1114135 (cY 2 5 2 (.ret [.string ⟨⟨[27,13]⟩⟩]) (.ret [.string ⟨⟨[13]⟩⟩])) (F3 1 5 1114137 (cY 2 6 2 (.ret [.string ⟨⟨[27,127]⟩⟩]) (.ret [.string ⟨⟨[127]⟩⟩])) (F3 1 6 1114138 (.ret [.string ⟨⟨[27]⟩⟩]) (F3 1 7 1114136 (F3 2 8 1 (.ret [.string ⟨⟨[27,91,90]⟩⟩]) (cY 2 9 2 (.ret [.string ⟨⟨[27,9]⟩⟩]) (.ret [.string ⟨⟨[9]⟩⟩]))) (aS [h3 1,jI 1114113]<|M9 8 9 10 (aA [h3 8,jI 1]<|.lt 9 (.sub) [.string ⟨⟨[65,66,67,68,70,72,80,81,82,83]⟩⟩,h3 8,h3 10]<|aW 2 12 0 (aA [h3 2,jI 1]<|.fn cT [h3 13] 1<|aC [.string ⟨⟨[27,91,49,59]⟩⟩,h 14 9]<|aC [h 15 9,h 11 9]<|L6 16) (J6 8 13 6 (aC [.string ⟨⟨[27,79]⟩⟩,h 11 9]<|L6 14) (.br 0 (aC [.string ⟨⟨[27,79]⟩⟩,h 11 9]<|L6 14) (aC [.string ⟨⟨[27,91]⟩⟩,h 11 9]<|L6 14)))) (aS [h3 8,jI 10]<|aI [h3 10,jI 12]<|S7 11 (.lt 3 (.sel) [h3 10,jI 2,jI 3,jI 5,jI 6,jI 15,jI 17,jI 18,jI 19,jI 20,jI 21,jI 23,jI 24]<|.fn cT [h3 12] 1<|aC [.string ⟨⟨[27,91]⟩⟩,h 13 9]<|aW 2 15 0 (aC [h 14 9,.string ⟨⟨[59]⟩⟩]<|aA [h3 2,jI 1]<|.fn cT [h3 17] 1<|aC [h 16 9,h 18 9]<|aC [h 19 9,.string ⟨⟨[126]⟩⟩]<|L6 20) (aC [h 14 9,.string ⟨⟨[126]⟩⟩]<|L6 16))))))))
def A4U{G}(v:I6 G):I8 prog G 69 [.s 8,.s 3,.s 3] zP [.s 9]:=by
 refine D0 (d:=60) B1k (cxg (C0T.2 v) .nil) v ⟨f69,_,func69,rfl⟩ C3 C3 ?_;intro us outs f;unfold zP at f;split at f
 .skip;rename_i ck c m;split at f
  .rename_i A;cases f;have D:=A1S c;have z3:=EC c;have B:=A;unfold aK chP okU at B;have C:0<=([2,3,5,6,15,17,18,19,20,21,23,24]:List Int).getD (c-1114113-10).toNat 0/\([2,3,5,6,15,17,18,19,20,21,23,24]:List Int).getD (c-1114113-10).toNat 0<=24:=A5M _;have l2:(Lib.decDigits (([2,3,5,6,15,17,18,19,20,21,23,24]:List Int).getD (c-1114113-10).toNat 0).toNat).length<=40:=bA A0 A0;have l1:0<=m->m<=7->(Lib.decDigits (m+1).toNat).length<=40:=fun h F=>bA A0 A0
   unfold B1k;refine w0 (.cons 2 _ (.cons 1 _ (.cons 0 _ (.nil)))) ?_;repeat (first|refine w4 (fun g=>?_) fun g=>?_|refine w4B (fun g=>?_) fun g=>?_|(refine w7 [.str _] ?_;rotate_left)|refine w1 (.bin .add) (e:=X3 _ _ (by simp only[B1,B6,E0,G3,x5];first|omega|(have l3:=l1 A0 A0;omega))) (k':=?_)|refine oX ?_|refine V1 ?_|refine O0 ?_|refine w1 (.bin .and) (e:=OJ _) (k':=?_)|refine R8 ?_|refine oW ?_|refine iC ?_|refine w31 cT (e:=A1K _ A0) (k':=?_)|refine m5 ?_|refine X1 ?_|refine cB ?_|refine iE ?_|refine w31 DT (e:=A35 _) (k':=?_)|refine w1 (.bin .and) (e:=CL _) (k':=?_)|refine w31 DY (e:=A0I _) (k':=?_)|refine w1 (.mks) (e:=x6 [_] (by simp only[B7,H7,or_false,forall_eq_or_imp,forall_eq];omega)) (k':=?_)|refine W3 ?_|refine B0d ?_|refine bK ?_|refine A29 ?_|refine w1 (.sel) (e:=nN [2,3,5,6,15,17,18,19,20,21,23,24] A0 (by show _<((12:Nat):Int);omega)) (k':=?_)|(refine w8 ?_;first|omega))
   all_goals
    refine G2 (fun z=>[U.str z]) ?_
    (try rw[kI A0])
    (try rw[kI A0])
    unfold keS HT spS SX;repeat (first|rw[A3 A0]|rw[A4 A0]|rw[A4 ‹_›]|rw[A3 (by simp_all;done)])
    all_goals first|rfl|(exfalso;omega)
  .cases f
 .cases f
def isR(mo w b:Int):Prop:=(mo=9/\w=0)∨(mo=1000/\w≠2)∨(mo=1002/\(w≠2∨b≠3))∨(mo≠0/\mo≠9/\mo≠1000/\mo≠1002)
instance(mo w b:Int):Decidable (isR mo w b):=by unfold isR;infer_instance
def isS(pa fo:Bool)(mo k w b:Int):Bool:=if k=3 then pa else if k=4 then fo else if k=2 then decide (isR mo w b)else true
def YH(mo k m:Int):Int:=if k=2/\mo=9 then 0 else m
def YI(sg:Bool)(k w b:Int):Int:=if k=2/\w=1/\sg=false then 3 else b
def ifI(c:Bool)(n:Int):Int:=if c then n else 0
def ifT(c:Bool)(t:C8):C8:=if c then t else[]
noncomputable def C0k:L5:=⟨_,fun d=>.nil⟩
def RT:List U->Option (Nat×List U)
 | [.bool b0,.bool b1,.bool ck,.bool b3,.bool b4,.bool b5,.bool b6,.bool pa,.bool fo,.bool b9,.bool b10,.int .i64 mo,.bool sg,.int .i64 k,.int .i64 c,.int .i64 m,.int .i64 w,.int .i64 b,.int .i64 r,.int .i64 cl,.str t]=>if k=2->b<=3 then some (0,[.int .i64 (ifI (isS pa fo mo k w b) k),.int .i64 (ifI (isS pa fo mo k w b) c),.int .i64 (ifI (isS pa fo mo k w b) (YH mo k m)),.int .i64 (ifI (isS pa fo mo k w b) w),.int .i64 (ifI (isS pa fo mo k w b) (YI sg k w b)),.int .i64 (ifI (isS pa fo mo k w b) r),.int .i64 (ifI (isS pa fo mo k w b) cl),.str (ifT (isS pa fo mo k w b) t),.bool (isS pa fo mo k w b)])else none
 | _=>none
def A8Y(v:Bool)(B:Bool)(ck:Bool)(C:Bool)(f:Bool)(e:Bool)(A:Bool)(pa:Bool)(fo:Bool)(h:Bool)(d:Bool)(mo:Int)(sg:Bool)(k:Int)(c:Int)(m:Int)(w:Int)(b:Int)(r:Int)(cl:Int)(t:C8)(g:k=2->b<=3):RT [.bool v,.bool B,.bool ck,.bool C,.bool f,.bool e,.bool A,.bool pa,.bool fo,.bool h,.bool d,.int .i64 mo,.bool sg,.int .i64 k,.int .i64 c,.int .i64 m,.int .i64 w,.int .i64 b,.int .i64 r,.int .i64 cl,.str t]=some (0,[.int .i64 (ifI (isS pa fo mo k w b) k),.int .i64 (ifI (isS pa fo mo k w b) c),.int .i64 (ifI (isS pa fo mo k w b) (YH mo k m)),.int .i64 (ifI (isS pa fo mo k w b) w),.int .i64 (ifI (isS pa fo mo k w b) (YI sg k w b)),.int .i64 (ifI (isS pa fo mo k w b) r),.int .i64 (ifI (isS pa fo mo k w b) cl),.str (ifT (isS pa fo mo k w b) t),.bool (isS pa fo mo k w b)]):=A4 g
def F9:Tr:=.ret [jI 0,jI 0,jI 0,jI 0,jI 0,jI 0,jI 0,.string ⟨⟨[]⟩⟩,.bool false]
def A4y(n:Nat):Tr:=J5 26 n F9 (.ret [h3 13,h3 14,jI 0,h3 16,h3 17,h3 18,h3 19,h 20 9,.bool true])
def mU:Tr:=.ret [h3 13,h3 14,h3 15,h3 16,h3 17,h3 18,h3 19,h 20 9,.bool true]
def A4x(n:Nat):Tr:=J5 27 n F9 mU
def A4w(n:Nat):Tr:=F3 16 n 1 (J5 12 (n+1) (.ret [h3 13,h3 14,h3 15,h3 16,jI 3,h3 18,h3 19,h 20 9,.bool true]) mU) mU
def A4v(n:Nat):Tr:=J5 29 n F9 mU
def B2N:Tr:=F3 13 21 3 (J5 7 22 F9 mU) (F3 13 22 4 (J5 8 23 F9 mU) (F3 13 23 2 (F3 11 24 0 (F3 16 25 1 (J5 12 26 F9 F9) F9) (F3 11 25 9 (aE [h3 16,jI 0]<|F3 16 27 1 (J5 12 28 (J5 26 29 F9 (.ret [h3 13,h3 14,jI 0,h3 16,jI 3,h3 18,h3 19,h 20 9,.bool true])) (A4y 29)) (A4y 28)) (F3 11 26 1000 (aN [h3 16,jI 2]<|F3 16 28 1 (J5 12 29 (J5 27 30 F9 (.ret [h3 13,h3 14,h3 15,h3 16,jI 3,h3 18,h3 19,h 20 9,.bool true])) (A4x 30)) (A4x 29)) (F3 11 27 1002 (dZ 16 28 2 (A4w 29) (aL [h3 17,jI 3]<|F3 16 30 1 (J5 12 31 (J5 29 32 F9 (.ret [h3 13,h3 14,h3 15,h3 16,jI 3,h3 18,h3 19,h 20 9,.bool true])) (A4v 32)) (A4v 31))) (A4w 28))))) mU))
def B7U{G}(f:I6 G):I8 prog G 52 [.a [8,8,8,8,8,8,8,8,8,8,8,3,8],.a [3,3,3,3,3,3,3,9]] RT [.a [3,3,3,3,3,3,3,9],.s 8]:=by
 refine D0 (d:=60) B2N (cxg (C0k.2 f) .nil) f ⟨f52,_,func52,rfl⟩ C3 C3 ?_;intro us outs e;unfold RT at e;split at e
 .skip;rename_i C H ck I A h F pa fo D v mo sg k c m w b r cl t;split at e
  .rename_i B;cases e;unfold B2N;refine s0L ?_;show Tr.sav _ _ (.cons 20 _ (.cons 19 _ (.cons 18 _ (.cons 17 _ (.cons 16 _ (.cons 15 _ (.cons 14 _ (.cons 13 _ (.cons 12 _ (.cons 11 _ (.cons 10 _ (.cons 9 _ (.cons 8 _ (.cons 7 _ (.cons 6 _ (.cons 5 _ (.cons 4 _ (.cons 3 _ (.cons 2 _ (.cons 1 _ (.cons 0 _ (.nil))))))))))))))))))))));refine Wk.s ?_;repeat (first|refine w4 (fun g=>?_) fun g=>?_|refine w4B (fun g=>?_) fun g=>?_|(refine w7 [.int .i64 _,.int .i64 _,.int .i64 _,.int .i64 _,.int .i64 _,.int .i64 _,.int .i64 _,.str _,.bool _] ?_;rotate_left)|refine Y3 ?_|refine iD ?_|refine R8 ?_|refine oX ?_|refine W3 ?_)
   all_goals
    unfold isS isR YH YI ifI ifT;first|(simp_all;done)|(simp_all;omega)
  .cases e
 .cases e
end Go.Proofs.YtdimocjaepnifaaGreatDoor
