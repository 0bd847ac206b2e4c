/- The law KeysKnown: for every input the call returns true, and the arguments read behind it as they read before. No condition. -/
import Derived.Test.YtdimocjaepnifaaGreatDoorX9
import Derived.Shelf.Strings.Builder1
import Derived.Shelf.Strings.Builder2
import Derived.Shelf.Small.Wraps
import Derived.Shelf.Strconv.Itoa0
import Derived.Shelf.Strconv.Itoa1
import Derived.Shelf.LaysM
import Derived.Shelf.Strconv.Itoa2
import Derived.Shelf.Strconv.Itoa3
import Derived.Shelf.Strings.Search1
import Derived.Shelf.Strings.Search2
import Derived.Shelf.Strings.Search3
import Derived.Shelf.Strings.Count
import Derived.Shelf.Strings.Shaped
import Derived.Shelf.Strings.Prefix
import Derived.Shelf.Strings.Split
import Derived.Shelf.Strings.Replace
import Derived.Shelf.Strings.SplitShaped
import Derived.Shelf.Bits.Mul64
import Derived.Shelf.Unicode.DecodeSlow
import Derived.Test.YtdimocjaepnifaaGreatDoorProg
import Derived.Shelf.Strings.BuilderF
import Derived.Shelf.Strings.BuilderK
import Derived.Shelf.Utf8.RuneCount
import Derived.Shelf.Strings.Builder2Cap
import Derived.Shelf.Unicode.Decode
import Derived.Shelf.Strings.RuneCount
import Derived.Shelf.Strings.Repeat
import Derived.Shelf.Unicode.DecodeAny
import Derived.Shelf.Strings.BuilderCap
import Derived.Shelf.Slices.Turned
import Derived.Shelf.Bytes.SlSearch0
import Derived.Shelf.Bytes.SlSmallAll
import Derived.Shelf.Bytes.SlEqualAll
import Derived.Shelf.Bytes.Small
namespace Go.Sx
set_option linter.all false
open Go
set_option linter.unusedVariables false
set_option autoImplicit false
def Ev.appN:Nat→List U→Ev→Ev
 | _,[],E=>E
 | n,u::l,E=>Ev.appN (Nat.succ n) l (.cons n u E)
theorem Ev.appN_eq{l:List U}:∀ {E:Ev} {n:Nat},E.len=n→Ev.appN n l E=Ev.app l E:=by
 induction l with
 | nil=>intro E n h;rfl
 | cons u l ih=>intro E n h;subst h;exact ih rfl
structure Wk (L:List U→Prop) (t:Tr) (E:Ev):Prop where
 s:t.sav L E
section
variable {L:List U→Prop} {E:Ev} {k:Tr} {n t:Nat} {xs:List Value}
theorem w0{us:List U}{t:Tr}(E:Ev)(h:Wk L t E)(he:us=E.toL:=by exact rfl)(ho:E.ok:=by simp[Ev.ok,Ev.len]):t.sat L us:=by subst he;exact h.s ho
theorem w1(op:LOp){us:List U}{u:U}(hx:xs.map (D3 E.get)=us:=by exact rfl)(e:evU op us=u)(k':Wk L k (.cons n u E))(ht:F5 u=t:=by exact rfl)(h10:Nat.blt t 10=true:=by exact rfl)(hn:E.len=n:=by first|exact Eq.trans (b:=Nat.succ _) rfl rfl|exact rfl):Wk L (Tr.lt t op xs k) E :=
 ⟨s1 (by rw[hx];exact e) h10 ht hn k'.s⟩
theorem w1x(op:LOp){u:U}(e:evU op (xs.map (D3 E.get))=u)(k':Wk L k (.cons n u E))(ht:F5 u=t:=by exact rfl)(h10:Nat.blt t 10=true:=by exact rfl)(hn:E.len=n:=by first|exact Eq.trans (b:=Nat.succ _) rfl rfl|exact rfl):Wk L (Tr.lt t op xs k) E :=
 ⟨s1 e h10 ht hn k'.s⟩
theorem wr{op:LOp}{us:List U}{u:U}(hk:Wk L k (.cons n u E))(hx:xs.map (D3 E.get)=us)(he:evU op us=u)(ht:F5 u=t)(h10:Nat.blt (F5 u) 10=true)(hn:E.len=n):Wk L (Tr.lt t op xs k) E :=
 w1 op hx he hk ht (by rw[← ht];exact h10) hn
theorem A8j(q:IntKind)(a:Int):Nat.blt (F5 (.int q a)) 10=true:=by cases q<;>rfl
theorem w2(op:LOp){us:List U}{α:Type}{r:Rw α}{x:Option (List α)}(hx:xs.map (D3 E.get)=us:=by exact rfl)(e:evU op us=A8 r x)(k':Wk L k (.cons n (A8 r x) E))(ht:10+r.w=t:=by exact rfl)(hn:E.len=n:=by first|exact Eq.trans (b:=Nat.succ _) rfl rfl|exact rfl):Wk L (Tr.dt t op xs k) E :=
 ⟨s2 (by rw[hx];exact e) ht hn k'.s⟩
theorem w3(spec:x7){m:Nat}{outs:List U}{us:List U}(hx:xs.map (D3 E.get)=us:=by exact rfl)(e:spec us=some (0,outs))(hn:E.len=n:=by first|exact Eq.trans (b:=Nat.succ _) rfl rfl|exact rfl)(k':Wk L k (Ev.appN n outs E))(hm:outs.length=m:=by exact rfl):Wk L (Tr.fn spec xs m k) E:=⟨s3 (by rw[hx];exact e) hm (by rw[← Ev.appN_eq hn];exact k'.s)⟩
theorem w31(spec:x7){a:U}{us:List U}(hx:xs.map (D3 E.get)=us:=by exact rfl)(e:spec us=some (0,[a]))(k':Wk L k (.cons n a E))(hn:E.len=n:=by first|exact Eq.trans (b:=Nat.succ _) rfl rfl|exact rfl):Wk L (Tr.fn spec xs 1 k) E:=⟨s31 (by rw[hx];exact e) hn k'.s⟩
theorem w32(spec:x7){a b:U}{n2:Nat}{us:List U}(hx:xs.map (D3 E.get)=us:=by exact rfl)(e:spec us=some (0,[a,b]))(k':Wk L k (.cons n2 b (.cons n a E)))(hn:E.len=n:=by first|exact Eq.trans (b:=Nat.succ _) rfl rfl|exact rfl)(h2:Nat.succ n=n2:=by exact rfl):Wk L (Tr.fn spec xs 2 k) E:=⟨s32 (by rw[hx];exact e) hn h2 k'.s⟩
theorem w4{i:Nat}{a b:Tr}{p:Prop}{dp:Decidable p}(ha:p→Wk L a E)(hb:¬p→Wk L b E)(he:E.get i=.bool (decide p):=by exact rfl):Wk L (Tr.br i a b) E:=⟨s4 he (fun h=>(ha h).s) fun h=>(hb h).s⟩
theorem w4B{i:Nat}{a b:Tr}{c:Bool}(ha:c=true→Wk L a E)(hb:c=false→Wk L b E)(he:E.get i=.bool c:=by exact rfl):Wk L (Tr.br i a b) E:=⟨s4B he (fun h=>(ha h).s) fun h=>(hb h).s⟩
theorem w6(spec:x7){n0 n1:Nat}{k0 k1:Tr}{β:Type}{o:Option β}{f0:List U}{f1:β→List U}(he:spec (xs.map (D3 E.get))=A07 o f0 f1)(hn:E.len=n:=by first|exact Eq.trans (b:=Nat.succ _) rfl rfl|exact rfl)(h0:o=none→Wk L k0 (Ev.appN n f0 E))(h1:∀ b,o=some b→Wk L k1 (Ev.appN n (f1 b) E))
  (hn0:f0.length=n0:=by exact rfl) (hn1:∀ b,(f1 b).length=n1:=by exact fun _=>rfl):Wk L (Tr.lp spec xs 0 n0 k0 (.lp spec xs 1 n1 k1 .no)) E:=⟨s6 he hn0 hn1 (fun h=>by rw[← Ev.appN_eq hn];exact(h0 h).s) fun b h=>by rw[← Ev.appN_eq hn];exact(h1 b h).s⟩
theorem w7(r:List U)(h:L r)(he:xs.map (D3 E.get)=r:=by exact rfl):Wk L (Tr.ret xs) E:=⟨s7 r he h⟩
theorem w8(h:False):Wk L Tr.no E:=h.elim
variable {q j:IntKind} {a b c:Int} {s z:List UInt8} {p:Prop} {dp:Decidable p} {x y:Bool}
theorem A9b(hk:Wk L k (.cons n (.int q (a+b)) E))(hx:xs.map (D3 E.get)=[.int q a,.int q b]:=by exact rfl)(hw:q.wrap (a+b)=a+b:=by first|exact C7 (by omega) (by omega)|exact x9 (by omega) (by omega)|exact A6I (by omega) (by omega)|exact A6J (by omega) (by omega)|exact A9M (by omega) (by omega))(ht:F5 (.int q (a+b))=t:=by exact rfl)(hn:E.len=n:=by first|exact Eq.trans (b:=Nat.succ _) rfl rfl|exact rfl):Wk L (Tr.lt t (.bin .add) xs k) E:=wr hk hx (G9 hw) ht (A8j _ _) hn
theorem B6J(hk:Wk L k (.cons n (.int q (a-b)) E))(hx:xs.map (D3 E.get)=[.int q a,.int q b]:=by exact rfl)(hw:q.wrap (a-b)=a-b:=by first|exact C7 (by omega) (by omega)|exact x9 (by omega) (by omega)|exact A6I (by omega) (by omega)|exact A6J (by omega) (by omega)|exact A9M (by omega) (by omega))(ht:F5 (.int q (a-b))=t:=by exact rfl)(hn:E.len=n:=by first|exact Eq.trans (b:=Nat.succ _) rfl rfl|exact rfl):Wk L (Tr.lt t (.bin .sub) xs k) E:=wr hk hx (K7 hw) ht (A8j _ _) hn
theorem D3b(hk:Wk L k (.cons n (.int q (a*b)) E))(hx:xs.map (D3 E.get)=[.int q a,.int q b]:=by exact rfl)(hw:q.wrap (a*b)=a*b:=by first|exact C7 (by omega) (by omega)|exact x9 (by omega) (by omega)|exact A6I (by omega) (by omega)|exact A6J (by omega) (by omega)|exact A9M (by omega) (by omega))(ht:F5 (.int q (a*b))=t:=by exact rfl)(hn:E.len=n:=by first|exact Eq.trans (b:=Nat.succ _) rfl rfl|exact rfl):Wk L (Tr.lt t (.bin .mul) xs k) E:=wr hk hx (A3d hw) ht (A8j _ _) hn
theorem D3a(hk:Wk L k (.cons n (.int q (a / b)) E))(hx:xs.map (D3 E.get)=[.int q a,.int q b]:=by exact rfl)(ha:0≤a:=by omega)(hb:0<b:=by omega)(hw:q.wrap (a / b)=a / b:=by first|exact C7 (by omega) (by omega)|exact x9 (by omega) (by omega)|exact A6I (by omega) (by omega)|exact A6J (by omega) (by omega)|exact A9M (by omega) (by omega))(ht:F5 (.int q (a / b))=t:=by exact rfl)(hn:E.len=n:=by first|exact Eq.trans (b:=Nat.succ _) rfl rfl|exact rfl):Wk L (Tr.lt t (.bin .quo) xs k) E:=wr hk hx (A5R ha hb hw) ht (A8j _ _) hn
theorem D5Z(hk:Wk L k (.cons n (.int q (a%b)) E))(hx:xs.map (D3 E.get)=[.int q a,.int q b]:=by exact rfl)(ha:0≤a:=by omega)(hb:0<b:=by omega)(ht:F5 (.int q (a%b))=t:=by exact rfl)(hn:E.len=n:=by first|exact Eq.trans (b:=Nat.succ _) rfl rfl|exact rfl):Wk L (Tr.lt t (.bin .rem) xs k) E:=wr hk hx (L5 ha hb) ht (A8j _ _) hn
theorem A78(hk:Wk L k (.cons n (.int q a) E))(hx:xs.map (D3 E.get)=[.int j a]:=by exact rfl)(hw:q.wrap a=a:=by first|exact C7 (by omega) (by omega)|exact x9 (by omega) (by omega)|exact A6I (by omega) (by omega)|exact A6J (by omega) (by omega)|exact A9M (by omega) (by omega))(ht:F5 (.int q a)=t:=by exact rfl)(hn:E.len=n:=by first|exact Eq.trans (b:=Nat.succ _) rfl rfl|exact rfl):Wk L (Tr.lt t (.conv q) xs k) E:=wr hk hx (F6 hw) ht (A8j _ _) hn
theorem A4F(hk:Wk L k (.cons n (.int q (q.wrap (a+b))) E))(hx:xs.map (D3 E.get)=[.int q a,.int q b]:=by exact rfl)(ht:F5 (.int q (q.wrap (a+b)))=t:=by exact rfl)(hn:E.len=n:=by first|exact Eq.trans (b:=Nat.succ _) rfl rfl|exact rfl):Wk L (Tr.lt t (.bin .add) xs k) E:=wr hk hx (J1 _ _ _) ht (A8j _ _) hn
theorem A9V(hk:Wk L k (.cons n (.int q (q.wrap (a-b))) E))(hx:xs.map (D3 E.get)=[.int q a,.int q b]:=by exact rfl)(ht:F5 (.int q (q.wrap (a-b)))=t:=by exact rfl)(hn:E.len=n:=by first|exact Eq.trans (b:=Nat.succ _) rfl rfl|exact rfl):Wk L (Tr.lt t (.bin .sub) xs k) E:=wr hk hx (M5 _ _ _) ht (A8j _ _) hn
theorem C7t(hk:Wk L k (.cons n (.int q (q.wrap (a*b))) E))(hx:xs.map (D3 E.get)=[.int q a,.int q b]:=by exact rfl)(ht:F5 (.int q (q.wrap (a*b)))=t:=by exact rfl)(hn:E.len=n:=by first|exact Eq.trans (b:=Nat.succ _) rfl rfl|exact rfl):Wk L (Tr.lt t (.bin .mul) xs k) E:=wr hk hx (A4p _ _ _) ht (A8j _ _) hn
theorem A7U(hk:Wk L k (.cons n (.int q (q.wrap a)) E))(hx:xs.map (D3 E.get)=[.int j a]:=by exact rfl)(ht:F5 (.int q (q.wrap a))=t:=by exact rfl)(hn:E.len=n:=by first|exact Eq.trans (b:=Nat.succ _) rfl rfl|exact rfl):Wk L (Tr.lt t (.conv q) xs k) E:=wr hk hx (G4 _ _ _) ht (A8j _ _) hn
theorem A2M(hk:Wk L k (.cons n (.bool (decide (a=b))) E))(hx:xs.map (D3 E.get)=[.int q a,.int q b]:=by exact rfl)(hn:E.len=n:=by first|exact Eq.trans (b:=Nat.succ _) rfl rfl|exact rfl):Wk L (Tr.lt 8 (.bin .eql) xs k) E:=wr hk hx (G5 _ _ _) rfl rfl hn
theorem A9W(hk:Wk L k (.cons n (.bool (decide (a≠b))) E))(hx:xs.map (D3 E.get)=[.int q a,.int q b]:=by exact rfl)(hn:E.len=n:=by first|exact Eq.trans (b:=Nat.succ _) rfl rfl|exact rfl):Wk L (Tr.lt 8 (.bin .neq) xs k) E:=wr hk hx (T4 _ _ _) rfl rfl hn
theorem A37(hk:Wk L k (.cons n (.bool (decide (a<b))) E))(hx:xs.map (D3 E.get)=[.int q a,.int q b]:=by exact rfl)(hn:E.len=n:=by first|exact Eq.trans (b:=Nat.succ _) rfl rfl|exact rfl):Wk L (Tr.lt 8 (.bin .lss) xs k) E:=wr hk hx (T5 _ _ _) rfl rfl hn
theorem A5b(hk:Wk L k (.cons n (.bool (decide (a≤b))) E))(hx:xs.map (D3 E.get)=[.int q a,.int q b]:=by exact rfl)(hn:E.len=n:=by first|exact Eq.trans (b:=Nat.succ _) rfl rfl|exact rfl):Wk L (Tr.lt 8 (.bin .leq) xs k) E:=wr hk hx (A3e _ _ _) rfl rfl hn
theorem A9Y(hk:Wk L k (.cons n (.bool (decide (b<a))) E))(hx:xs.map (D3 E.get)=[.int q a,.int q b]:=by exact rfl)(hn:E.len=n:=by first|exact Eq.trans (b:=Nat.succ _) rfl rfl|exact rfl):Wk L (Tr.lt 8 (.bin .gtr) xs k) E:=wr hk hx (A2C _ _ _) rfl rfl hn
theorem A4D(hk:Wk L k (.cons n (.bool (decide (b≤a))) E))(hx:xs.map (D3 E.get)=[.int q a,.int q b]:=by exact rfl)(hn:E.len=n:=by first|exact Eq.trans (b:=Nat.succ _) rfl rfl|exact rfl):Wk L (Tr.lt 8 (.bin .geq) xs k) E:=wr hk hx (i7 _ _ _) rfl rfl hn
theorem D5Y(hk:Wk L k (.cons n (.bool (decide (s=z))) E))(hx:xs.map (D3 E.get)=[.str s,.str z]:=by exact rfl)(hn:E.len=n:=by first|exact Eq.trans (b:=Nat.succ _) rfl rfl|exact rfl):Wk L (Tr.lt 8 (.bin .eql) xs k) E:=wr hk hx (B3j _ _) rfl rfl hn
theorem D5X(hk:Wk L k (.cons n (.bool (decide (s≠z))) E))(hx:xs.map (D3 E.get)=[.str s,.str z]:=by exact rfl)(hn:E.len=n:=by first|exact Eq.trans (b:=Nat.succ _) rfl rfl|exact rfl):Wk L (Tr.lt 8 (.bin .neq) xs k) E:=wr hk hx (A0u _ _) rfl rfl hn
theorem A1S(hk:Wk L k (.cons n (.bool (decide ¬p)) E))(hx:xs.map (D3 E.get)=[.bool (@decide p dp)]:=by exact rfl)(hn:E.len=n:=by first|exact Eq.trans (b:=Nat.succ _) rfl rfl|exact rfl):Wk L (Tr.lt 8 (.un .not) xs k) E:=wr hk hx (R1 _) rfl rfl hn
theorem B21(hk:Wk L k (.cons n (.bool (!x)) E))(hx:xs.map (D3 E.get)=[.bool x]:=by exact rfl)(hn:E.len=n:=by first|exact Eq.trans (b:=Nat.succ _) rfl rfl|exact rfl):Wk L (Tr.lt 8 (.un .not) xs k) E:=wr hk hx (X9 _) rfl rfl hn
theorem B9D(hk:Wk L k (.cons n (.int .i64 s.length) E))(hx:xs.map (D3 E.get)=[.str s]:=by exact rfl)(hn:E.len=n:=by first|exact Eq.trans (b:=Nat.succ _) rfl rfl|exact rfl):Wk L (Tr.lt 3 .len xs k) E:=wr hk hx (B3l _) rfl rfl hn
theorem C5m(hk:Wk L k (.cons n (.bool (decide (0≤a∧a<b))) E))(hx:xs.map (D3 E.get)=[.int q a,.int j b]:=by exact rfl)(hn:E.len=n:=by first|exact Eq.trans (b:=Nat.succ _) rfl rfl|exact rfl):Wk L (Tr.lt 8 .inb xs k) E:=wr hk hx (C2Z _ _ _ _) rfl rfl hn
theorem D3d(hk:Wk L k (.cons n (.int .u8 (s.getD a.toNat 0).toNat) E))(hx:xs.map (D3 E.get)=[.str s,.int q a]:=by exact rfl)(h0:0≤a:=by omega)(h1:a<s.length:=by simp[*]<;>omega)(hn:E.len=n:=by first|exact Eq.trans (b:=Nat.succ _) rfl rfl|exact rfl):Wk L (Tr.lt 4 .idx xs k) E:=wr hk hx (A7v _ _ _ h0 h1) rfl rfl hn
theorem C7q(hk:Wk L k (.cons n (.str ((s.drop a.toNat).take (b.toNat-a.toNat))) E))(hx:xs.map (D3 E.get)=[.str s,.int q a,.int j b]:=by exact rfl)(h0:0≤a:=by omega)(h1:a≤b:=by omega)(h2:b≤s.length:=by simp[*]<;>omega)(hn:E.len=n:=by first|exact Eq.trans (b:=Nat.succ _) rfl rfl|exact rfl):Wk L (Tr.lt 9 .sub xs k) E:=wr hk hx (A9E _ _ _ _ _ h0 h1 h2) rfl rfl hn
theorem D3c(hk:Wk L k (.cons n (.int q (min a b)) E))(hx:xs.map (D3 E.get)=[.int q a,.int j b]:=by exact rfl)(ht:F5 (.int q (min a b))=t:=by exact rfl)(hn:E.len=n:=by first|exact Eq.trans (b:=Nat.succ _) rfl rfl|exact rfl):Wk L (Tr.lt t .min xs k) E:=wr hk hx (A7u _ _ _ _) ht (A8j _ _) hn
theorem D5a(hk:Wk L k (.cons n (.int q (max a b)) E))(hx:xs.map (D3 E.get)=[.int q a,.int j b]:=by exact rfl)(ht:F5 (.int q (max a b))=t:=by exact rfl)(hn:E.len=n:=by first|exact Eq.trans (b:=Nat.succ _) rfl rfl|exact rfl):Wk L (Tr.lt t .max xs k) E:=wr hk hx (B0a _ _ _ _) ht (A8j _ _) hn
variable {α:Type} {r:Rw α} {o:Option (List α)} {w:Nat}
theorem A6V(hk:Wk L k (.cons n (.int .i64 ((el o).length:Int)) E))(hx:xs.map (D3 E.get)=[A8 r o]:=by exact rfl)(hn:E.len=n:=by first|exact Eq.trans (b:=Nat.succ _) rfl rfl|exact rfl):Wk L (Tr.lt 3 .len xs k) E:=wr hk hx (K8 _ _) rfl rfl hn
theorem B7X(hk:Wk L k (.cons n (.bool (decide (0≤a∧a<((el o).length:Int)))) E))(hx:xs.map (D3 E.get)=[.int q a,A8 r o]:=by exact rfl)(hw:r.w=w:=by exact rfl)(hn:E.len=n:=by first|exact Eq.trans (b:=Nat.succ _) rfl rfl|exact rfl):Wk L (Tr.lt 8 (.inbs w) xs k) E:=wr hk hx (L6 hw) rfl rfl hn
end
abbrev aA:List Value→Tr→Tr:=.lt 3 (.bin .add)
abbrev aS:List Value→Tr→Tr:=.lt 3 (.bin .sub)
abbrev aE:List Value→Tr→Tr:=.lt 8 (.bin .eql)
abbrev aN:List Value→Tr→Tr:=.lt 8 (.bin .neq)
abbrev aL:List Value→Tr→Tr:=.lt 8 (.bin .lss)
abbrev aQ:List Value→Tr→Tr:=.lt 8 (.bin .leq)
abbrev aG:List Value→Tr→Tr:=.lt 8 (.bin .gtr)
abbrev aH:List Value→Tr→Tr:=.lt 8 (.bin .geq)
abbrev aI:List Value→Tr→Tr:=.lt 8 (.inb)
abbrev aD:List Value→Tr→Tr:=.lt 3 .len
abbrev aX:List Value→Tr→Tr:=.lt 8 (.un .not)
abbrev aC:List Value→Tr→Tr:=.lt 9 (.bin .add)
abbrev h3(i:Nat):Value:=h i 3
end Go.Sx
namespace Go.Sx
set_option linter.all false
open Go
theorem D5Q(n:Nat):n &&& 2=n / 2%2*2:=by
 have h:=Nat.and_mod_two_pow (a:=n) (b:=2) (n:=2);have l:n &&& 2≤2:=A3N;have g:∀ m:Nat,m<4→m &&& 2=m / 2%2*2:=by decide
 have k:=g (n%4) (by omega);have e:(2:Nat)%2 ^ 2=2:=by decide
 have e2:(2:Nat) ^ 2=4:=by decide
 rw[e,e2,k]at h;omega
theorem B3m(a:Int):evU (.bin .and) [.int .i64 a,.int .i64 2]=.int .i64 (a / 2%2*2):=by
 rw[A56];congr 1
 have e1:(BitVec.ofInt 64 a &&& BitVec.ofInt 64 2).toNat=(a%2 ^ 64).toNat &&& 2:=by
  rw[Y3,O5];rfl
 show IntKind.i64.wrap (((BitVec.ofInt 64 a &&& BitVec.ofInt 64 2).toNat:Nat):Int)=_;rw[e1,D5Q,A1j (by omega) (by show _<(2:Int) ^ 63;omega)];omega
theorem D5P(n:Nat):n &&& 4=n / 4%2*4:=by
 have h:=Nat.and_mod_two_pow (a:=n) (b:=4) (n:=3);have l:n &&& 4≤4:=A3N;have g:∀ m:Nat,m<8→m &&& 4=m / 4%2*4:=by decide
 have k:=g (n%8) (by omega);have e:(4:Nat)%2 ^ 3=4:=by decide
 have e2:(2:Nat) ^ 3=8:=by decide
 rw[e,e2,k]at h;omega
theorem A9G(a:Int):evU (.bin .and) [.int .i64 a,.int .i64 4]=.int .i64 (a / 4%2*4):=by
 rw[A56];congr 1
 have e1:(BitVec.ofInt 64 a &&& BitVec.ofInt 64 4).toNat=(a%2 ^ 64).toNat &&& 4:=by
  rw[Y3,O5];rfl
 show IntKind.i64.wrap (((BitVec.ofInt 64 a &&& BitVec.ofInt 64 4).toNat:Nat):Int)=_;rw[e1,D5P,A1j (by omega) (by show _<(2:Int) ^ 63;omega)];omega
theorem an6(x:BitVec 64):x &&& ~~~(6#64)=0#64↔x.toNat≤7∧x.toNat%2=0:=by
 constructor
 ·intro h;have e:x=(x &&& 6#64) ||| (x &&& ~~~(6#64)):=by
   rw[← BitVec.and_or_distrib_left];have:(6#64 ||| ~~~(6#64))=BitVec.allOnes 64:=by decide
   rw[this,BitVec.and_allOnes]
  rw[h,BitVec.or_zero]at e;have e2:x.toNat=x.toNat &&& 6:=by
   have:=congrArg BitVec.toNat e;rw[Y3]at this;exact this
  have h6:x.toNat≤6:=by rw[e2];exact A3N
  refine⟨by omega,?_⟩;have:∀ n:Nat,n≤6→n=n &&& 6→n%2=0:=by decide
  exact this _ h6 e2
 ·intro ⟨h,k⟩;have e:x=BitVec.ofNat 64 x.toNat:=by simp
  have:∀ n:Nat,n≤7→n%2=0→(BitVec.ofNat 64 n) &&& ~~~(6#64)=0#64:=by decide
  rw[e];exact this _ h k
def C7O(a:Int):Int:=IntKind.i64.wrap ((BitVec.ofInt 64 a &&& ~~~(6#64)).toNat:Nat)
theorem C3K(a:Int)(h : -9223372036854775808≤a)(h2:a≤9223372036854775807):C7O a=0↔0≤a∧a≤7∧a%2=0:=by
 have e:C7O a=0↔(BitVec.ofInt 64 a &&& ~~~(6#64)).toNat=0:=by
  have:=(BitVec.ofInt 64 a &&& ~~~(6#64)).isLt;unfold C7O;generalize (BitVec.ofInt 64 a &&& ~~~(6#64)).toNat=m at *;simp only[IntKind.wrap,IntKind.bits,IntKind.signed,Nat.reduceSub]<;>simp<;>omega
 have e2:(BitVec.ofInt 64 a).toNat=(a%2 ^ 64).toNat:=by rw[O5];rfl
 have e3:(BitVec.ofInt 64 a &&& ~~~(6#64)).toNat=0↔BitVec.ofInt 64 a &&& ~~~(6#64)=0#64:=by
  constructor
  ·intro h;exact BitVec.eq_of_toNat_eq (by rw[h];rfl)
  ·intro h;rw[h];rfl
 rw[e,e3,an6,e2];omega
theorem D2_(a:Int):evU (.bin .andNot) [.int .i64 a,.int .i64 6]=.int .i64 (C7O a):=by
 rw[B9o];rfl
theorem s0L{L:List U→Prop}{us:List U}{t:Tr}(h:t.sav L (Ev.app us .nil)):t.sat L us:=by
 obtain⟨a,b⟩:=Ev.app_ok (l:=us) (E:=.nil) True.intro
 have:=h a;rw[b]at this;exact this
theorem D0O(n k:Nat):n &&& 2 ^ k=n / 2 ^ k%2*2 ^ k:=by
 have h:(n &&& 2 ^ k)=bif n.testBit k then 2 ^ k else 0:=by
  apply Nat.eq_of_testBit_eq;intro i;rw[Nat.testBit_and,A1X];by_cases e:k=i
  ·subst e;cases h:n.testBit k<;>simp[h,A1X]
  ·cases h:n.testBit k<;>simp[e,A1X]
 rw[h,Nat.testBit_eq_decide_div_mod_eq];by_cases e:n / 2 ^ k%2=1
 ·simp[e]
 ·have:n / 2 ^ k%2=0:=by omega
  simp[this]
theorem B5g(a:Int):evU (.bin .and) [.int .i64 a,.int .i64 32]=.int .i64 (a / 32%2*32):=by
 rw[A56];congr 1
 have e1:(BitVec.ofInt 64 a &&& BitVec.ofInt 64 32).toNat=(a%2 ^ 64).toNat &&& 2 ^ 5:=by
  rw[Y3,O5];rfl
 show IntKind.i64.wrap (((BitVec.ofInt 64 a &&& BitVec.ofInt 64 32).toNat:Nat):Int)=_;rw[e1,D0O,show(2:Nat) ^ 5=32 from rfl,A1j (by omega) (by show _<(2:Int) ^ 63;omega)];omega
theorem B5f(a:Int):evU (.bin .and) [.int .i64 a,.int .i64 64]=.int .i64 (a / 64%2*64):=by
 rw[A56];congr 1
 have e1:(BitVec.ofInt 64 a &&& BitVec.ofInt 64 64).toNat=(a%2 ^ 64).toNat &&& 2 ^ 6:=by
  rw[Y3,O5];rfl
 show IntKind.i64.wrap (((BitVec.ofInt 64 a &&& BitVec.ofInt 64 64).toNat:Nat):Int)=_;rw[e1,D0O,show(2:Nat) ^ 6=64 from rfl,A1j (by omega) (by show _<(2:Int) ^ 63;omega)];omega
end Go.Sx
namespace Go.Proofs
set_option linter.all false
open Go.Shelf
def Tryz.lays103_ren:Go.Shelf.Ren:=⟨fun|103=>142|210=>154|206=>82|n=>n,fun|9=>9|4=>4|24=>117|3=>3|n=>n,fun|n=>n⟩
theorem Tryz.lays103:Go.Proofs.Lays.n103 Tryz.prog Tryz.lays103_ren:={
 mixed:=by kernel_rfl
 f103:=Tryz.func142.trans (congrArg some (by kernel_rfl))
 f206:=Tryz.func82.trans (congrArg some (by kernel_rfl))
 f210:=Tryz.func154.trans (congrArg some (by kernel_rfl))
 t3:=Tryz.underlying3
 a3:=Tryz.isAgg3
 z3:=Tryz.sizeOf3
 v3:=Tryz.zeroValue3
 t4:=Tryz.underlying4
 a4:=Tryz.isAgg4
 z4:=Tryz.sizeOf4
 v4:=Tryz.zeroValue4
 t9:=Tryz.underlying9
 a9:=Tryz.isAgg9
 z9:=Tryz.sizeOf9
 v9:=Tryz.zeroValue9
 t24:=Tryz.underlying117
 a24:=Tryz.isAgg117
 z24:=Tryz.sizeOf117
 v24:=Tryz.zeroValue117 }
open Go.RowKit in
theorem Tryz.strings_CutPrefix(s p:ByteArray)(w:World) :
  Calls Tryz.prog 142 #[.string s,.string p] w fun e w'=>e=.returned (.tuple #[.string ⟨(Lib.trimPrefix s.data.toList p.data.toList).toArray⟩,.bool (Lib.hasPrefix s.data.toList p.data.toList)])∧w'=w:=Any.strings_CutPrefix Tryz.lays103 s p w
def Tryz.laysM171_ren:Go.Shelf.Ren:=⟨fun|171=>79|243=>111|246=>131|283=>146|284=>147|285=>148|286=>149|129=>158|317=>157|318=>159|319=>160|320=>161|337=>168|338=>169|n=>n,fun|3=>3|9=>9|2=>2|4=>4|171=>170|0=>0|53=>122|37=>35|5=>5|173=>173|212=>184|51=>24|20=>20|213=>185|46=>32|232=>198|233=>199|n=>n,fun|17=>3|18=>4|19=>5|n=>n⟩
theorem Tryz.laysM171:Go.Proofs.LaysM.n171 Tryz.prog Tryz.laysM171_ren:={
 mixed:=by kernel_rfl
 f129:=Tryz.func158.trans (congrArg some (by kernel_rfl))
 f171:=Tryz.func79.trans (congrArg some (by kernel_rfl))
 f243:=Tryz.func111.trans (congrArg some (by kernel_rfl))
 f246:=Tryz.func131.trans (congrArg some (by kernel_rfl))
 f283:=Tryz.func146.trans (congrArg some (by kernel_rfl))
 f284:=Tryz.func147.trans (congrArg some (by kernel_rfl))
 f285:=Tryz.func148.trans (congrArg some (by kernel_rfl))
 f286:=Tryz.func149.trans (congrArg some (by kernel_rfl))
 f317:=Tryz.func157.trans (congrArg some (by kernel_rfl))
 f318:=Tryz.func159.trans (congrArg some (by kernel_rfl))
 f319:=Tryz.func160.trans (congrArg some (by kernel_rfl))
 f320:=Tryz.func161.trans (congrArg some (by kernel_rfl))
 f337:=Tryz.func168.trans (congrArg some (by kernel_rfl))
 f338:=Tryz.func169.trans (congrArg some (by kernel_rfl))
 t0:=Tryz.underlying0
 a0:=Tryz.isAgg0
 z0:=Tryz.sizeOf0
 v0:=Tryz.zeroValue0
 t2:=Tryz.underlying2
 a2:=Tryz.isAgg2
 z2:=Tryz.sizeOf2
 v2:=Tryz.zeroValue2
 t3:=Tryz.underlying3
 a3:=Tryz.isAgg3
 z3:=Tryz.sizeOf3
 v3:=Tryz.zeroValue3
 t4:=Tryz.underlying4
 a4:=Tryz.isAgg4
 z4:=Tryz.sizeOf4
 v4:=Tryz.zeroValue4
 t5:=Tryz.underlying5
 a5:=Tryz.isAgg5
 z5:=Tryz.sizeOf5
 v5:=Tryz.zeroValue5
 t9:=Tryz.underlying9
 a9:=Tryz.isAgg9
 z9:=Tryz.sizeOf9
 v9:=Tryz.zeroValue9
 t20:=Tryz.underlying20
 a20:=Tryz.isAgg20
 z20:=Tryz.sizeOf20
 v20:=Tryz.zeroValue20
 t37:=Tryz.underlying35
 a37:=Tryz.isAgg35
 z37:=Tryz.sizeOf35
 v37:=Tryz.zeroValue35
 t46:=Tryz.underlying32
 a46:=Tryz.isAgg32
 z46:=Tryz.sizeOf32
 v46:=Tryz.zeroValue32
 t51:=Tryz.underlying24
 a51:=Tryz.isAgg24
 z51:=Tryz.sizeOf24
 v51:=Tryz.zeroValue24
 t53:=Tryz.underlying122
 a53:=Tryz.isAgg122
 z53:=Tryz.sizeOf122
 v53:=Tryz.zeroValue122
 t171:=Tryz.underlying170
 a171:=Tryz.isAgg170
 z171:=Tryz.sizeOf170
 v171:=Tryz.zeroValue170
 t173:=Tryz.underlying173
 a173:=Tryz.isAgg173
 z173:=Tryz.sizeOf173
 v173:=Tryz.zeroValue173
 t212:=Tryz.underlying184
 a212:=Tryz.isAgg184
 z212:=Tryz.sizeOf184
 v212:=Tryz.zeroValue184
 t213:=Tryz.underlying185
 a213:=Tryz.isAgg185
 z213:=Tryz.sizeOf185
 t232:=Tryz.underlying198
 a232:=Tryz.isAgg198
 z232:=Tryz.sizeOf198
 v232:=Tryz.zeroValue198
 t233:=Tryz.underlying199
 a233:=Tryz.isAgg199
 z233:=Tryz.sizeOf199
 v233:=Tryz.zeroValue199
 g17:=by kernel_rfl
 g18:=by kernel_rfl
 g19:=by kernel_rfl
 i0:=by kernel_rfl
 i2:=by kernel_rfl
 i3:=by kernel_rfl
 i4:=by kernel_rfl
 i5:=by kernel_rfl
 i9:=by kernel_rfl
 i20:=by kernel_rfl
 i37:=by kernel_rfl
 i46:=by kernel_rfl
 i51:=by kernel_rfl
 i53:=by kernel_rfl
 i171:=by kernel_rfl
 i173:=by kernel_rfl
 i212:=by kernel_rfl
 i232:=by kernel_rfl
 i233:=by kernel_rfl
 m17:=by kernel_rfl
 m18:=by kernel_rfl
 m19:=by kernel_rfl }
open Go.RowKit Go.Sort Go.Lib in
theorem Tryz.strconv_Itoa(n:Int)(h0 : -9223372036854775808≤n)(h1:n≤9223372036854775807)(w:World)(htab:Lib.TabIs Tryz.prog w "internal/strconv.uint64pow10" .u64 Lib.pow10Tab) :
  Calls Tryz.prog 79 #[.int .i64 n] w fun e w'=>e=.returned (.string ⟨(Lib.itoa n).toArray⟩)∧∃ k os,w'=grow (w.drewN k) os:=Any.strconv_Itoa Tryz.laysM171 n h0 h1 w htab
def Tryz.lays144_ren:Go.Shelf.Ren:=⟨fun|144=>28|143=>59|219=>85|217=>114|225=>115|224=>116|267=>117|266=>132|314=>133|n=>n,fun|9=>9|4=>4|3=>3|5=>5|46=>32|146=>120|51=>24|n=>n,fun|1=>0|n=>n⟩
theorem Tryz.lays144:Go.Proofs.Lays.n144 Tryz.prog Tryz.lays144_ren:={
 mixed:=by kernel_rfl
 f143:=Tryz.func59.trans (congrArg some (by kernel_rfl))
 f144:=Tryz.func28.trans (congrArg some (by kernel_rfl))
 f217:=Tryz.func114.trans (congrArg some (by kernel_rfl))
 f219:=Tryz.func85.trans (congrArg some (by kernel_rfl))
 f224:=Tryz.func116.trans (congrArg some (by kernel_rfl))
 f225:=Tryz.func115.trans (congrArg some (by kernel_rfl))
 f266:=Tryz.func132.trans (congrArg some (by kernel_rfl))
 f267:=Tryz.func117.trans (congrArg some (by kernel_rfl))
 f314:=Tryz.func133.trans (congrArg some (by kernel_rfl))
 t3:=Tryz.underlying3
 a3:=Tryz.isAgg3
 z3:=Tryz.sizeOf3
 v3:=Tryz.zeroValue3
 t4:=Tryz.underlying4
 a4:=Tryz.isAgg4
 z4:=Tryz.sizeOf4
 v4:=Tryz.zeroValue4
 t5:=Tryz.underlying5
 a5:=Tryz.isAgg5
 z5:=Tryz.sizeOf5
 v5:=Tryz.zeroValue5
 t9:=Tryz.underlying9
 a9:=Tryz.isAgg9
 z9:=Tryz.sizeOf9
 v9:=Tryz.zeroValue9
 t46:=Tryz.underlying32
 a46:=Tryz.isAgg32
 z46:=Tryz.sizeOf32
 v46:=Tryz.zeroValue32
 t51:=Tryz.underlying24
 a51:=Tryz.isAgg24
 z51:=Tryz.sizeOf24
 v51:=Tryz.zeroValue24
 t146:=Tryz.underlying120
 a146:=Tryz.isAgg120
 z146:=Tryz.sizeOf120
 v146:=Tryz.zeroValue120
 g1:=by kernel_rfl }
open Go.RowKit Go.Lib in
theorem Tryz.strings_Contains_one(s:ByteArray)(c:UInt8)(w:World) :
  Calls Tryz.prog 28 #[.string s,.string ⟨#[c]⟩] w fun e w'=>e=.returned (.bool (decide (0≤Lib.indexByte s.data.toList c)))∧w'=w:=Any.strings_Contains_one Tryz.lays144 s c w
def Tryz.lays99_ren:Go.Shelf.Ren:=⟨fun|99=>54|206=>82|n=>n,fun|9=>9|4=>4|3=>3|n=>n,fun|n=>n⟩
theorem Tryz.lays99:Go.Proofs.Lays.n99 Tryz.prog Tryz.lays99_ren:={
 mixed:=by kernel_rfl
 f99:=Tryz.func54.trans (congrArg some (by kernel_rfl))
 f206:=Tryz.func82.trans (congrArg some (by kernel_rfl))
 t3:=Tryz.underlying3
 a3:=Tryz.isAgg3
 z3:=Tryz.sizeOf3
 v3:=Tryz.zeroValue3
 t4:=Tryz.underlying4
 a4:=Tryz.isAgg4
 z4:=Tryz.sizeOf4
 v4:=Tryz.zeroValue4
 t9:=Tryz.underlying9
 a9:=Tryz.isAgg9
 z9:=Tryz.sizeOf9
 v9:=Tryz.zeroValue9 }
open Go.RowKit Go.Lib in
theorem Tryz.strings_HasPrefix(s p:ByteArray)(w:World) :
  Calls Tryz.prog 54 #[.string s,.string p] w fun e w'=>e=.returned (.bool (Lib.hasPrefix s.data.toList p.data.toList))∧w'=w:=Any.strings_HasPrefix Tryz.lays99 s p w
def Tryz.laysM155_ren:Go.Shelf.Ren:=⟨fun|155=>29|154=>60|138=>86|165=>55|143=>59|166=>56|197=>87|169=>58|195=>118|218=>119|240=>83|241=>84|219=>85|260=>120|276=>112|277=>113|217=>114|225=>115|224=>116|267=>117|266=>132|314=>133|n=>n,fun|9=>9|3=>3|4=>4|72=>92|0=>0|76=>96|105=>126|21=>21|5=>5|70=>90|20=>20|37=>35|75=>95|127=>125|164=>144|46=>32|119=>156|139=>159|138=>158|146=>120|51=>24|80=>99|n=>n,fun|1=>0|3=>1|4=>2|n=>n⟩
theorem Tryz.laysM155:Go.Proofs.LaysM.n155 Tryz.prog Tryz.laysM155_ren:={
 mixed:=by kernel_rfl
 f138:=Tryz.func86.trans (congrArg some (by kernel_rfl))
 f143:=Tryz.func59.trans (congrArg some (by kernel_rfl))
 f154:=Tryz.func60.trans (congrArg some (by kernel_rfl))
 f155:=Tryz.func29.trans (congrArg some (by kernel_rfl))
 f165:=Tryz.func55.trans (congrArg some (by kernel_rfl))
 f166:=Tryz.func56.trans (congrArg some (by kernel_rfl))
 f169:=Tryz.func58.trans (congrArg some (by kernel_rfl))
 f195:=Tryz.func118.trans (congrArg some (by kernel_rfl))
 f197:=Tryz.func87.trans (congrArg some (by kernel_rfl))
 f217:=Tryz.func114.trans (congrArg some (by kernel_rfl))
 f218:=Tryz.func119.trans (congrArg some (by kernel_rfl))
 f219:=Tryz.func85.trans (congrArg some (by kernel_rfl))
 f224:=Tryz.func116.trans (congrArg some (by kernel_rfl))
 f225:=Tryz.func115.trans (congrArg some (by kernel_rfl))
 f240:=Tryz.func83.trans (congrArg some (by kernel_rfl))
 f241:=Tryz.func84.trans (congrArg some (by kernel_rfl))
 f260:=Tryz.func120.trans (congrArg some (by kernel_rfl))
 f266:=Tryz.func132.trans (congrArg some (by kernel_rfl))
 f267:=Tryz.func117.trans (congrArg some (by kernel_rfl))
 f276:=Tryz.func112.trans (congrArg some (by kernel_rfl))
 f277:=Tryz.func113.trans (congrArg some (by kernel_rfl))
 f314:=Tryz.func133.trans (congrArg some (by kernel_rfl))
 t0:=Tryz.underlying0
 a0:=Tryz.isAgg0
 z0:=Tryz.sizeOf0
 v0:=Tryz.zeroValue0
 t3:=Tryz.underlying3
 a3:=Tryz.isAgg3
 z3:=Tryz.sizeOf3
 v3:=Tryz.zeroValue3
 t4:=Tryz.underlying4
 a4:=Tryz.isAgg4
 z4:=Tryz.sizeOf4
 v4:=Tryz.zeroValue4
 t5:=Tryz.underlying5
 a5:=Tryz.isAgg5
 z5:=Tryz.sizeOf5
 v5:=Tryz.zeroValue5
 t9:=Tryz.underlying9
 a9:=Tryz.isAgg9
 z9:=Tryz.sizeOf9
 v9:=Tryz.zeroValue9
 t20:=Tryz.underlying20
 a20:=Tryz.isAgg20
 z20:=Tryz.sizeOf20
 v20:=Tryz.zeroValue20
 t21:=Tryz.underlying21
 a21:=Tryz.isAgg21
 z21:=Tryz.sizeOf21
 v21:=Tryz.zeroValue21
 t37:=Tryz.underlying35
 a37:=Tryz.isAgg35
 z37:=Tryz.sizeOf35
 v37:=Tryz.zeroValue35
 t46:=Tryz.underlying32
 a46:=Tryz.isAgg32
 z46:=Tryz.sizeOf32
 v46:=Tryz.zeroValue32
 t51:=Tryz.underlying24
 a51:=Tryz.isAgg24
 z51:=Tryz.sizeOf24
 v51:=Tryz.zeroValue24
 t70:=Tryz.underlying90
 a70:=Tryz.isAgg90
 z70:=Tryz.sizeOf90
 v70:=Tryz.zeroValue90
 t72:=Tryz.underlying92
 a72:=Tryz.isAgg92
 z72:=Tryz.sizeOf92
 v72:=Tryz.zeroValue92
 t75:=Tryz.underlying95
 a75:=Tryz.isAgg95
 z75:=Tryz.sizeOf95
 v75:=Tryz.zeroValue95
 t76:=Tryz.underlying96
 a76:=Tryz.isAgg96
 z76:=Tryz.sizeOf96
 v76:=Tryz.zeroValue96
 t105:=Tryz.underlying126
 a105:=Tryz.isAgg126
 z105:=Tryz.sizeOf126
 v105:=Tryz.zeroValue126
 t119:=Tryz.underlying156
 a119:=Tryz.isAgg156
 z119:=Tryz.sizeOf156
 t127:=Tryz.underlying125
 a127:=Tryz.isAgg125
 z127:=Tryz.sizeOf125
 v127:=Tryz.zeroValue125
 t138:=Tryz.underlying158
 a138:=Tryz.isAgg158
 z138:=Tryz.sizeOf158
 v138:=Tryz.zeroValue158
 t139:=Tryz.underlying159
 a139:=Tryz.isAgg159
 z139:=Tryz.sizeOf159
 v139:=Tryz.zeroValue159
 t146:=Tryz.underlying120
 a146:=Tryz.isAgg120
 z146:=Tryz.sizeOf120
 v146:=Tryz.zeroValue120
 t164:=Tryz.underlying144
 a164:=Tryz.isAgg144
 z164:=Tryz.sizeOf144
 v164:=Tryz.zeroValue144
 g1:=by kernel_rfl
 g3:=by kernel_rfl
 g4:=by kernel_rfl
 t80:=Tryz.underlying99
 a80:=Tryz.isAgg99
 z80:=Tryz.sizeOf99
 v80:=Tryz.zeroValue99
 i0:=by kernel_rfl
 i3:=by kernel_rfl
 i4:=by kernel_rfl
 i5:=by kernel_rfl
 i9:=by kernel_rfl
 i20:=by kernel_rfl
 i21:=by kernel_rfl
 i37:=by kernel_rfl
 i46:=by kernel_rfl
 i51:=by kernel_rfl
 i70:=by kernel_rfl
 i72:=by kernel_rfl
 i75:=by kernel_rfl
 i76:=by kernel_rfl
 i80:=by kernel_rfl
 i105:=by kernel_rfl
 i127:=by kernel_rfl
 i138:=by kernel_rfl
 i139:=by kernel_rfl
 i146:=by kernel_rfl
 i164:=by kernel_rfl
 m1:=by kernel_rfl
 s1_3:=fun w h=>Go.Proofs.cell_of_shapedOpen_int (zero:=#[.int .i64 0]) (t:=3) h (of_decide_eq_true (by kernel_rfl)) (by kernel_rfl) rfl (by kernel_rfl) (by kernel_rfl) Tryz.underlying3
 m3:=by kernel_rfl
 m4:=by kernel_rfl }
theorem Tryz.Builder_Extra_M155:Builder.Extra Tryz.prog Tryz.laysM155_ren:={
 sizeBuilder:=by kernel_rfl
 liesBuilder:=by kernel_rfl
 t5:=Tryz.underlying5
 a5:=Tryz.isAgg5
 z5:=Tryz.sizeOf5
 v5:=Tryz.zeroValue5
 infoByte:=by kernel_rfl
 cellsByte:=by kernel_rfl
 sizeByte:=by kernel_rfl
 neB5:=by decide }
open Go.RowKit Go.Lib in
theorem Tryz.strings_ReplaceAll_shaped(s old new:ByteArray)(w:World)(h:w.ShapedOpen Tryz.prog)(hs:s.size<4294967281)(h1:1≤old.size)(hlen:s.size+Lib.countB s old*new.size≤140737488355328) :
  Calls Tryz.prog 29 #[.string s,.string old,.string new] w fun e w' =>
   e=.returned (.string ⟨(Lib.replaceAll s.data.toList old.data.toList new.data.toList).toArray⟩)∧Below w.heap.size w w':=Any.strings_ReplaceAll_shaped Tryz.laysM155 Tryz.Builder_Extra_M155 s old new w h hs h1 hlen
end Go.Proofs
namespace Go.Proofs
set_option linter.all false
open Go.Shelf
open Go.RowKit Go.Lib in
def Tryz.lays105_ren:Go.Shelf.Ren:=⟨fun|105=>27|212=>53|99=>54|165=>55|166=>56|170=>57|169=>58|263=>80|264=>81|206=>82|240=>83|241=>84|276=>112|277=>113|n=>n,fun|9=>9|3=>3|4=>4|20=>20|0=>0|46=>32|109=>88|5=>5|72=>92|76=>96|51=>24|146=>120|53=>122|148=>123|70=>90|37=>35|75=>95|127=>125|164=>144|80=>99|n=>n,fun|n=>n⟩
open Go.RowKit Go.Lib in
theorem Tryz.lays105:Go.Proofs.Lays.n105 Tryz.prog Tryz.lays105_ren:={
 mixed:=by kernel_rfl
 f99:=Tryz.func54.trans (congrArg some (by kernel_rfl))
 f105:=Tryz.func27.trans (congrArg some (by kernel_rfl))
 f165:=Tryz.func55.trans (congrArg some (by kernel_rfl))
 f166:=Tryz.func56.trans (congrArg some (by kernel_rfl))
 f169:=Tryz.func58.trans (congrArg some (by kernel_rfl))
 f170:=Tryz.func57.trans (congrArg some (by kernel_rfl))
 f206:=Tryz.func82.trans (congrArg some (by kernel_rfl))
 f212:=Tryz.func53.trans (congrArg some (by kernel_rfl))
 f240:=Tryz.func83.trans (congrArg some (by kernel_rfl))
 f241:=Tryz.func84.trans (congrArg some (by kernel_rfl))
 f263:=Tryz.func80.trans (congrArg some (by kernel_rfl))
 f264:=Tryz.func81.trans (congrArg some (by kernel_rfl))
 f276:=Tryz.func112.trans (congrArg some (by kernel_rfl))
 f277:=Tryz.func113.trans (congrArg some (by kernel_rfl))
 t0:=Tryz.underlying0
 a0:=Tryz.isAgg0
 z0:=Tryz.sizeOf0
 v0:=Tryz.zeroValue0
 t3:=Tryz.underlying3
 a3:=Tryz.isAgg3
 z3:=Tryz.sizeOf3
 v3:=Tryz.zeroValue3
 t4:=Tryz.underlying4
 a4:=Tryz.isAgg4
 z4:=Tryz.sizeOf4
 v4:=Tryz.zeroValue4
 t5:=Tryz.underlying5
 a5:=Tryz.isAgg5
 z5:=Tryz.sizeOf5
 v5:=Tryz.zeroValue5
 t9:=Tryz.underlying9
 a9:=Tryz.isAgg9
 z9:=Tryz.sizeOf9
 v9:=Tryz.zeroValue9
 t20:=Tryz.underlying20
 a20:=Tryz.isAgg20
 z20:=Tryz.sizeOf20
 v20:=Tryz.zeroValue20
 t37:=Tryz.underlying35
 a37:=Tryz.isAgg35
 z37:=Tryz.sizeOf35
 v37:=Tryz.zeroValue35
 t46:=Tryz.underlying32
 a46:=Tryz.isAgg32
 z46:=Tryz.sizeOf32
 v46:=Tryz.zeroValue32
 t51:=Tryz.underlying24
 a51:=Tryz.isAgg24
 z51:=Tryz.sizeOf24
 v51:=Tryz.zeroValue24
 t53:=Tryz.underlying122
 a53:=Tryz.isAgg122
 z53:=Tryz.sizeOf122
 v53:=Tryz.zeroValue122
 t70:=Tryz.underlying90
 a70:=Tryz.isAgg90
 z70:=Tryz.sizeOf90
 v70:=Tryz.zeroValue90
 t72:=Tryz.underlying92
 a72:=Tryz.isAgg92
 z72:=Tryz.sizeOf92
 v72:=Tryz.zeroValue92
 t75:=Tryz.underlying95
 a75:=Tryz.isAgg95
 z75:=Tryz.sizeOf95
 v75:=Tryz.zeroValue95
 t76:=Tryz.underlying96
 a76:=Tryz.isAgg96
 z76:=Tryz.sizeOf96
 v76:=Tryz.zeroValue96
 t109:=Tryz.underlying88
 a109:=Tryz.isAgg88
 z109:=Tryz.sizeOf88
 v109:=Tryz.zeroValue88
 t127:=Tryz.underlying125
 a127:=Tryz.isAgg125
 z127:=Tryz.sizeOf125
 v127:=Tryz.zeroValue125
 t146:=Tryz.underlying120
 a146:=Tryz.isAgg120
 z146:=Tryz.sizeOf120
 v146:=Tryz.zeroValue120
 t148:=Tryz.underlying123
 a148:=Tryz.isAgg123
 z148:=Tryz.sizeOf123
 v148:=Tryz.zeroValue123
 t164:=Tryz.underlying144
 a164:=Tryz.isAgg144
 z164:=Tryz.sizeOf144
 v164:=Tryz.zeroValue144 }
open Go.RowKit Go.Lib in
theorem Tryz.Builder_Extra_105:Builder.Extra Tryz.prog Tryz.lays105_ren:={
 sizeBuilder:=by kernel_rfl
 liesBuilder:=by kernel_rfl
 t5:=Tryz.underlying5
 a5:=Tryz.isAgg5
 z5:=Tryz.sizeOf5
 v5:=Tryz.zeroValue5
 infoByte:=by kernel_rfl
 cellsByte:=by kernel_rfl
 sizeByte:=by kernel_rfl
 neB5:=by decide }
open Go.RowKit Go.Lib in
theorem Tryz.strings_Repeat_main(s:ByteArray)(c:Nat)(w:World)(hc2:2≤c)(hc:c≤9223372036854775807)(hlen:s.size*c≤140737488355328)(h0:0<s.size) :
  Calls Tryz.prog 27 #[.string s,.int .i64 c] w fun e w'=>e=.returned (.string ⟨(Lib.repeatL s.data.toList c).toArray⟩)∧Below w.heap.size w w':=Any.strings_Repeat_main Tryz.lays105 Tryz.Builder_Extra_105 s c w hc2 hc hlen h0
open Go.RowKit Go.Lib in
theorem Tryz.strings_Repeat_zero(s:ByteArray)(w:World) :
  Calls Tryz.prog 27 #[.string s,.int .i64 0] w fun e w'=>e=.returned (.string ⟨#[]⟩)∧w'=w:=Any.strings_Repeat_zero Tryz.lays105 s w
open Go.RowKit Go.Lib in
theorem Tryz.strings_Repeat_one(s:ByteArray)(w:World) :
  Calls Tryz.prog 27 #[.string s,.int .i64 1] w fun e w'=>e=.returned (.string s)∧w'=w:=Any.strings_Repeat_one Tryz.lays105 s w
open Go.RowKit Go.Lib in
theorem Tryz.strings_Repeat_empty(s:ByteArray)(c:Nat)(w:World)(hc2:2≤c)(hc:c≤9223372036854775807)(h0:s.size=0) :
  Calls Tryz.prog 27 #[.string s,.int .i64 c] w fun e w'=>e=.returned (.string ⟨#[]⟩)∧w'=w:=Any.strings_Repeat_empty Tryz.lays105 s c w hc2 hc h0
end Go.Proofs
namespace Go.Proofs.YtdimocjaepnifaaGreatDoor
set_option linter.all false
open Go Go.Sx
set_option maxRecDepth 100000
def gl:Nat:=6
def n0:Nat:=6
def A5h:List (Nat×List Value):=[(4,[.int .u8 (0),.int .u8 (1),.int .u8 (28),.int .u8 (2),.int .u8 (29),.int .u8 (14),.int .u8 (24),.int .u8 (3),.int .u8 (30),.int .u8 (22),.int .u8 (20),.int .u8 (15),.int .u8 (25),.int .u8 (17),.int .u8 (4),.int .u8 (8),.int .u8 (31),.int .u8 (27),.int .u8 (13),.int .u8 (23),.int .u8 (21),.int .u8 (19),.int .u8 (16),.int .u8 (7),.int .u8 (26),.int .u8 (12),.int .u8 (18),.int .u8 (6),.int .u8 (11),.int .u8 (5),.int .u8 (10),.int .u8 (9)]),
 (5,[.int .u8 (0),.int .u8 (1),.int .u8 (56),.int .u8 (2),.int .u8 (57),.int .u8 (49),.int .u8 (28),.int .u8 (3),.int .u8 (61),.int .u8 (58),.int .u8 (42),.int .u8 (50),.int .u8 (38),.int .u8 (29),.int .u8 (17),.int .u8 (4),.int .u8 (62),.int .u8 (47),.int .u8 (59),.int .u8 (36),.int .u8 (45),.int .u8 (43),.int .u8 (51),.int .u8 (22),.int .u8 (53),.int .u8 (39),.int .u8 (33),.int .u8 (30),.int .u8 (24),.int .u8 (18),.int .u8 (12),.int .u8 (5),.int .u8 (63),.int .u8 (55),.int .u8 (48),.int .u8 (27),.int .u8 (60),.int .u8 (41),.int .u8 (37),.int .u8 (16),.int .u8 (46),.int .u8 (35),.int .u8 (44),.int .u8 (21),.int .u8 (52),.int .u8 (32),.int .u8 (23),.int .u8 (11),.int .u8 (54),.int .u8 (26),.int .u8 (40),.int .u8 (15),.int .u8 (34),.int .u8 (20),.int .u8 (31),.int .u8 (10),.int .u8 (25),.int .u8 (14),.int .u8 (19),.int .u8 (9),.int .u8 (13),.int .u8 (8),.int .u8 (7),.int .u8 (6)]),
 (3,[.int .u64 (1),.int .u64 (10),.int .u64 (100),.int .u64 (1000),.int .u64 (10000),.int .u64 (100000),.int .u64 (1000000),.int .u64 (10000000),.int .u64 (100000000),.int .u64 (1000000000),.int .u64 (10000000000),.int .u64 (100000000000),.int .u64 (1000000000000),.int .u64 (10000000000000),.int .u64 (100000000000000),.int .u64 (1000000000000000),.int .u64 (10000000000000000),.int .u64 (100000000000000000),.int .u64 (1000000000000000000),.int .u64 (10000000000000000000)]),
 (2,[.int .u8 (128),.int .u8 (191),.int .u8 (160),.int .u8 (191),.int .u8 (128),.int .u8 (159),.int .u8 (144),.int .u8 (191),.int .u8 (128),.int .u8 (143),.int .u8 (0),.int .u8 (0),.int .u8 (0),.int .u8 (0),.int .u8 (0),.int .u8 (0),.int .u8 (0),.int .u8 (0),.int .u8 (0),.int .u8 (0),.int .u8 (0),.int .u8 (0),.int .u8 (0),.int .u8 (0),.int .u8 (0),.int .u8 (0),.int .u8 (0),.int .u8 (0),.int .u8 (0),.int .u8 (0),.int .u8 (0),.int .u8 (0)]),
 (1,[.int .u8 (240),.int .u8 (240),.int .u8 (240),.int .u8 (240),.int .u8 (240),.int .u8 (240),.int .u8 (240),.int .u8 (240),.int .u8 (240),.int .u8 (240),.int .u8 (240),.int .u8 (240),.int .u8 (240),.int .u8 (240),.int .u8 (240),.int .u8 (240),.int .u8 (240),.int .u8 (240),.int .u8 (240),.int .u8 (240),.int .u8 (240),.int .u8 (240),.int .u8 (240),.int .u8 (240),.int .u8 (240),.int .u8 (240),.int .u8 (240),.int .u8 (240),.int .u8 (240),.int .u8 (240),.int .u8 (240),.int .u8 (240),.int .u8 (240),.int .u8 (240),.int .u8 (240),.int .u8 (240),.int .u8 (240),.int .u8 (240),.int .u8 (240),.int .u8 (240),.int .u8 (240),.int .u8 (240),.int .u8 (240),.int .u8 (240),.int .u8 (240),.int .u8 (240),.int .u8 (240),.int .u8 (240),.int .u8 (240),.int .u8 (240),.int .u8 (240),.int .u8 (240),.int .u8 (240),.int .u8 (240),.int .u8 (240),.int .u8 (240),.int .u8 (240),.int .u8 (240),.int .u8 (240),.int .u8 (240),.int .u8 (240),.int .u8 (240),.int .u8 (240),.int .u8 (240),.int .u8 (240),.int .u8 (240),.int .u8 (240),.int .u8 (240),.int .u8 (240),.int .u8 (240),.int .u8 (240),.int .u8 (240),.int .u8 (240),.int .u8 (240),.int .u8 (240),.int .u8 (240),.int .u8 (240),.int .u8 (240),.int .u8 (240),.int .u8 (240),.int .u8 (240),.int .u8 (240),.int .u8 (240),.int .u8 (240),.int .u8 (240),.int .u8 (240),.int .u8 (240),.int .u8 (240),.int .u8 (240),.int .u8 (240),.int .u8 (240),.int .u8 (240),.int .u8 (240),.int .u8 (240),.int .u8 (240),.int .u8 (240),.int .u8 (240),.int .u8 (240),.int .u8 (240),.int .u8 (240),.int .u8 (240),.int .u8 (240),.int .u8 (240),.int .u8 (240),.int .u8 (240),.int .u8 (240),.int .u8 (240),.int .u8 (240),.int .u8 (240),.int .u8 (240),.int .u8 (240),.int .u8 (240),.int .u8 (240),.int .u8 (240),.int .u8 (240),.int .u8 (240),.int .u8 (240),.int .u8 (240),.int .u8 (240),.int .u8 (240),.int .u8 (240),.int .u8 (240),.int .u8 (240),.int .u8 (240),.int .u8 (240),.int .u8 (240),.int .u8 (240),.int .u8 (240),.int .u8 (241),.int .u8 (241),.int .u8 (241),.int .u8 (241),.int .u8 (241),.int .u8 (241),.int .u8 (241),.int .u8 (241),.int .u8 (241),.int .u8 (241),.int .u8 (241),.int .u8 (241),.int .u8 (241),.int .u8 (241),.int .u8 (241),.int .u8 (241),.int .u8 (241),.int .u8 (241),.int .u8 (241),.int .u8 (241),.int .u8 (241),.int .u8 (241),.int .u8 (241),.int .u8 (241),.int .u8 (241),.int .u8 (241),.int .u8 (241),.int .u8 (241),.int .u8 (241),.int .u8 (241),.int .u8 (241),.int .u8 (241),.int .u8 (241),.int .u8 (241),.int .u8 (241),.int .u8 (241),.int .u8 (241),.int .u8 (241),.int .u8 (241),.int .u8 (241),.int .u8 (241),.int .u8 (241),.int .u8 (241),.int .u8 (241),.int .u8 (241),.int .u8 (241),.int .u8 (241),.int .u8 (241),.int .u8 (241),.int .u8 (241),.int .u8 (241),.int .u8 (241),.int .u8 (241),.int .u8 (241),.int .u8 (241),.int .u8 (241),.int .u8 (241),.int .u8 (241),.int .u8 (241),.int .u8 (241),.int .u8 (241),.int .u8 (241),.int .u8 (241),.int .u8 (241),.int .u8 (241),.int .u8 (241),.int .u8 (2),.int .u8 (2),.int .u8 (2),.int .u8 (2),.int .u8 (2),.int .u8 (2),.int .u8 (2),.int .u8 (2),.int .u8 (2),.int .u8 (2),.int .u8 (2),.int .u8 (2),.int .u8 (2),.int .u8 (2),.int .u8 (2),.int .u8 (2),.int .u8 (2),.int .u8 (2),.int .u8 (2),.int .u8 (2),.int .u8 (2),.int .u8 (2),.int .u8 (2),.int .u8 (2),.int .u8 (2),.int .u8 (2),.int .u8 (2),.int .u8 (2),.int .u8 (2),.int .u8 (2),.int .u8 (19),.int .u8 (3),.int .u8 (3),.int .u8 (3),.int .u8 (3),.int .u8 (3),.int .u8 (3),.int .u8 (3),.int .u8 (3),.int .u8 (3),.int .u8 (3),.int .u8 (3),.int .u8 (3),.int .u8 (35),.int .u8 (3),.int .u8 (3),.int .u8 (52),.int .u8 (4),.int .u8 (4),.int .u8 (4),.int .u8 (68),.int .u8 (241),.int .u8 (241),.int .u8 (241),.int .u8 (241),.int .u8 (241),.int .u8 (241),.int .u8 (241),.int .u8 (241),.int .u8 (241),.int .u8 (241),.int .u8 (241)])]
def H0:Hp AB:=mkH A5h
theorem C6P:Tryz.prog.follows .mixedOrders=true:=by kernel_rfl
theorem C6O:B3_ Tryz.prog:=by
 have h:(Tryz.prog.funcs.toList.all fun fn=>!(fn.name == "runtime.NumGoroutine"))=true:=by kernel_rfl
 intro f fn hf;have h1:=D4.1 h fn (Array.mem_def.1 (Array.mem_of_getElem? hf))
 simpa using h1
def D22:List (FuncId×EK):=[(132,.indexByteString),(119,.countString),(112,.noEscape),(113,.makeNoZero 5)]
theorem D4J:∀ p ∈ D22,B1G Tryz.prog p.1 p.2:=by
 intro p hp;unfold D22 at hp;rcases B2.1 hp with rfl|hp
 ·exact⟨⟨_,rfl,by kernel_rfl,by kernel_rfl,by kernel_rfl,.inr (.inl ⟨rfl,by kernel_rfl⟩)⟩⟩
 rcases B2.1 hp with rfl|hp
 ·exact⟨⟨_,rfl,by kernel_rfl,by kernel_rfl,by kernel_rfl,.inr (.inr (.inl ⟨rfl,by kernel_rfl⟩))⟩⟩
 rcases B2.1 hp with rfl|hp
 ·exact⟨⟨_,rfl,by kernel_rfl,by kernel_rfl,by kernel_rfl,.inl ⟨rfl,by kernel_rfl⟩⟩⟩
 rcases B2.1 hp with rfl|hp
 ·exact⟨⟨_,rfl,by kernel_rfl,by kernel_rfl,by kernel_rfl,.inr (.inr (.inr ⟨_,_,_,rfl,rfl,by kernel_rfl,by kernel_rfl⟩))⟩⟩
 cases hp
noncomputable abbrev cx(l:List (FuncId×FnC))(lps:List LpE):Cx:=⟨Tryz.prog,D22,gl,B9w l,lpT lps⟩
theorem cxg{G:Nat→Option Obj}{l:List (FuncId×FnC)}{lps:List LpE}(h:C5 Tryz.prog G gl l)(k:o7 Tryz.prog G gl lps):CxG (cx l lps) G:=C66 C6P C6O D4J h k
def L0:List (FuncId×FnC):=[]
theorem D2O{G:Nat→Option Obj}(hst:A7 Tryz.prog G gl H0 n0):C5 Tryz.prog G gl L0:=.nil
set_option maxHeartbeats 4000000
def rB:Rw Int:=r1 (A0B .u8)
def rN:Rw Int:=r1 (A0B .i64)
def okU(c:Int):Prop:=0≤c∧c≤1114111∧¬(55296≤c∧c≤57343)
instance(c:Int):Decidable (okU c):=by unfold okU;infer_instance
def A3I(c:Int):Int:=if c=32 then 0 else if c=105∨c=109 then -1 else if 97≤c∧c≤122 then c-96 else if 92≤c∧c≤95 then c-64 else -1
def chP(c:Int):Prop:=okU c∧32≤c∧¬(127≤c∧c≤159)
instance(c:Int):Decidable (chP c):=by unfold chP;infer_instance
def W9(c m:Int):Prop:=(chP c∧(m=0∨(m=2∧c≠91∧c≠79)∨(0≤A3I c∧(m=4∨m=6))))∨(1114113≤c∧c≤1114134∧0≤m∧m≤7)∨((c=1114135∨c=1114137)∧(m=0∨m=2))∨(c=1114136∧(m=0∨m=1∨m=2))∨(c=1114138∧m=0)
instance(c m:Int):Decidable (W9 c m):=by unfold W9;infer_instance
theorem l2{a b:Int}{c d:Bool}(h:a=b)(k:c=d):[U.int .u8 a,U.bool c]=[U.int .u8 b,U.bool d]:=by rw[h,k]
theorem l1{c d:Bool}(k:c=d):[U.bool c]=[U.bool d]:=by rw[k]
theorem l0{c d:Int}(k:c=d):[U.int .i64 c]=[U.int .i64 d]:=by rw[k]
def A2k:List U→Option (Nat×List U)
 | [.int .i64 c]=>some (0,[.int .u8 (if 0≤A3I c then A3I c else 0),.bool (decide (0≤A3I c))])
 | _=>none
theorem B8l(c:Int):A2k [.int .i64 c]=some (0,[.int .u8 (if 0≤A3I c then A3I c else 0),.bool (decide (0≤A3I c))]):=rfl
def C99:Tr:=aE [h3 0,jI 32]<|.br 1 (.ret [.int .u8 (0),.bool true]) (aE [h3 0,jI 105]<|.br 2 (.ret [.int .u8 (0),.bool false]) (aE [h3 0,jI 109]<|.br 3 (.ret [.int .u8 (0),.bool false]) (aH [h3 0,jI 97]<|.br 4 (aQ [h3 0,jI 122]<|.br 5 (.lt 3 (.bin .and) [h3 0,jI 31]<|.lt 4 (.conv .u8) [h3 6]<|.ret [h 7 4,.bool true]) (aH [h3 0,jI 92]<|.br 6 (aQ [h3 0,jI 95]<|.br 7 (.lt 3 (.bin .and) [h3 0,jI 31]<|.lt 4 (.conv .u8) [h3 8]<|.ret [h 9 4,.bool true]) (.ret [.int .u8 (0),.bool false])) (.ret [.int .u8 (0),.bool false]))) (aH [h3 0,jI 92]<|.br 5 (aQ [h3 0,jI 95]<|.br 6 (.lt 3 (.bin .and) [h3 0,jI 31]<|.lt 4 (.conv .u8) [h3 7]<|.ret [h 8 4,.bool true]) (.ret [.int .u8 (0),.bool false])) (.ret [.int .u8 (0),.bool false])))))
theorem C2u{G:Nat→Option Obj}(hst:A7 Tryz.prog G gl H0 n0):H8 Tryz.prog G 66 [.s 3] A2k [.s 4,.s 8]:=by
 refine C6 (C:=cx L0 []) (d:=60) C99 (cxg (D2O hst) .nil) hst ⟨Tryz.f66,_,Tryz.func66,rfl⟩ (by kernel_rfl) (by kernel_rfl) ?_;intro us outs hs;unfold A2k at hs;split at hs
 ·skip;rename_i c;cases hs;unfold C99;refine w0 (.cons 0 _ (.nil)) ?_;repeat (first|(refine w7 [.int .u8 _,.bool _] ?_;rotate_left)|refine w4 (fun g=>?_) fun g=>?_|refine A78 ?_|refine A7U ?_|refine A2M ?_|refine A4D ?_|refine A5b ?_|refine w1 (.bin .and) (e:=w5 5 32 (by decide) (by decide) (by decide)) (k':=?_))
  all_goals
   refine l2 ?_ ?_
   ·(unfold A3I;(repeat' split)<;>omega)
   ·symm;first|exact decide_eq_true (by(unfold A3I;(repeat' split)<;>omega))|exact decide_eq_false (by(unfold A3I;(repeat' split)<;>omega))
 ·cases hs
noncomputable def C5Q:List (FuncId×FnC):=(66,E7 Tryz.prog [.s 3] A2k [.s 4,.s 8])::L0
theorem B5_{G:Nat→Option Obj}(hst:A7 Tryz.prog G gl H0 n0):C5 Tryz.prog G gl C5Q:=.cons (C2u hst) (D2O hst)
def A28:List U→Option (Nat×List U)
 | [.int .i64 c]=>some (0,[.int .i64 (A3I c)])
 | _=>none
theorem B7r(c:Int):A28 [.int .i64 c]=some (0,[.int .i64 (A3I c)]):=rfl
def C8k:Tr:=aE [h3 0,jI 32]<|.br 1 (.ret [jI 0]) (aH [h3 0,jI 97]<|.br 2 (aQ [h3 0,jI 122]<|.br 3 (aN [h3 0,jI 105]<|.br 4 (aN [h3 0,jI 109]<|.br 5 (aS [h3 0,jI 97]<|aA [h3 6,jI 1]<|.ret [h3 7]) (aH [h3 0,jI 92]<|.br 6 (aQ [h3 0,jI 95]<|.br 7 (aS [h3 0,jI 92]<|aA [h3 8,jI 28]<|.ret [h3 9]) (.ret [jI (-1)])) (.ret [jI (-1)]))) (aH [h3 0,jI 92]<|.br 5 (aQ [h3 0,jI 95]<|.br 6 (aS [h3 0,jI 92]<|aA [h3 7,jI 28]<|.ret [h3 8]) (.ret [jI (-1)])) (.ret [jI (-1)]))) (aH [h3 0,jI 92]<|.br 4 (aQ [h3 0,jI 95]<|.br 5 (aS [h3 0,jI 92]<|aA [h3 6,jI 28]<|.ret [h3 7]) (.ret [jI (-1)])) (.ret [jI (-1)]))) (aH [h3 0,jI 92]<|.br 3 (aQ [h3 0,jI 95]<|.br 4 (aS [h3 0,jI 92]<|aA [h3 5,jI 28]<|.ret [h3 6]) (.ret [jI (-1)])) (.ret [jI (-1)])))
theorem C1P{G:Nat→Option Obj}(hst:A7 Tryz.prog G gl H0 n0):H8 Tryz.prog G 64 [.s 3] A28 [.s 3]:=by
 refine C6 (C:=cx C5Q []) (d:=60) C8k (cxg (B5_ hst) .nil) hst ⟨Tryz.f64,_,Tryz.func64,rfl⟩ (by kernel_rfl) (by kernel_rfl) ?_;intro us outs hs;unfold A28 at hs;split at hs
 ·skip;rename_i c;cases hs;unfold C8k;refine w0 (.cons 0 _ (.nil)) ?_;repeat (first|(refine w7 [.int .i64 _] ?_;rotate_left)|refine w4 (fun g=>?_) fun g=>?_|refine B6J ?_|refine A9V ?_|refine A9b ?_|refine A4F ?_|refine A4D ?_|refine A5b ?_|refine A9W ?_|refine A2M ?_)
  all_goals
   refine l0 ?_
   (unfold A3I;(repeat' split)<;>omega)
 ·cases hs
noncomputable def D1x:List (FuncId×FnC):=(64,E7 Tryz.prog [.s 3] A28 [.s 3])::C5Q
theorem C42{G:Nat→Option Obj}(hst:A7 Tryz.prog G gl H0 n0):C5 Tryz.prog G gl D1x:=.cons (C1P hst) (B5_ hst)
theorem B8m(c:Int):(c=32∧A3I c=0)∨((c=105∨c=109)∧A3I c = -1)∨(97≤c∧c≤122∧c≠105∧c≠109∧A3I c=c-96)∨(92≤c∧c≤95∧A3I c=c-64)∨(c≠32∧¬(97≤c∧c≤122)∧¬(92≤c∧c≤95)∧A3I c = -1):=by
 unfold A3I
 (repeat' split)<;>omega
noncomputable def D0T:List (FuncId×FnC):=(66,E7 Tryz.prog [.s 3] A2k [.s 4,.s 8])::L0
theorem C3R{G:Nat→Option Obj}(hst:A7 Tryz.prog G gl H0 n0):C5 Tryz.prog G gl D0T:=(.cons (C2u hst) .nil)
def A9O:List U→Option (Nat×List U)
 | [.int .i64 c,.int .i64 m]=>if -9223372036854775808≤m∧m≤9223372036854775807 then some (0,[.bool (decide (W9 c m))])else none
 | _=>none
theorem C5b(c:Int)(m:Int)(hc : -9223372036854775808≤m∧m≤9223372036854775807):A9O [.int .i64 c,.int .i64 m]=some (0,[.bool (decide (W9 c m))]):=if_pos hc
def C7U:Tr:=aH [h3 0,jI 0]<|.br 2 (aQ [h3 0,jI 1114111]<|.br 3 (.lt 3 (.bin .shr) [h3 0,.int .u64 (11)]<|aN [h3 4,jI 27]<|.br 5 (aH [h3 0,jI 32]<|.br 6 (aH [h3 0,jI 127]<|.br 7 (aQ [h3 0,jI 159]<|aX [h 8 8]<|.br 9 (.lt 3 (.bin .and) [h3 1,jI 4]<|aN [h3 10,jI 0]<|.br 11 (.fn A2k [h3 0] 2<|.br 13 (.lt 3 (.bin .andNot) [h3 1,jI 6]<|aE [h3 14,jI 0]<|.ret [h 15 8]) (.ret [.bool false])) (aE [h3 1,jI 0]<|.br 12 (.ret [.bool true]) (aE [h3 1,jI 2]<|.br 13 (aN [h3 0,jI 91]<|.br 14 (aN [h3 0,jI 79]<|.ret [h 15 8]) (.ret [.bool false])) (.ret [.bool false])))) (aE [h3 0,jI 1114136]<|.br 10 (aE [h3 1,jI 1]<|.br 11 (.ret [.bool true]) (aE [h3 1,jI 2]<|.br 12 (.ret [.bool true]) (aE [h3 1,jI 0]<|.ret [h 13 8]))) (aE [h3 0,jI 1114135]<|.br 11 (aE [h3 1,jI 2]<|.br 12 (.ret [.bool true]) (aE [h3 1,jI 0]<|.ret [h 13 8])) (aE [h3 0,jI 1114137]<|.br 12 (aE [h3 1,jI 2]<|.br 13 (.ret [.bool true]) (aE [h3 1,jI 0]<|.ret [h 14 8])) (aE [h3 0,jI 1114138]<|.br 13 (aE [h3 1,jI 0]<|.ret [h 14 8]) (aH [h3 0,jI 1114113]<|.br 14 (aQ [h3 0,jI 1114134]<|.br 15 (aH [h3 1,jI 0]<|.br 16 (aQ [h3 1,jI 7]<|.ret [h 17 8]) (.ret [.bool false])) (.ret [.bool false])) (.ret [.bool false]))))))) (.lt 3 (.bin .and) [h3 1,jI 4]<|aN [h3 8,jI 0]<|.br 9 (.fn A2k [h3 0] 2<|.br 11 (.lt 3 (.bin .andNot) [h3 1,jI 6]<|aE [h3 12,jI 0]<|.ret [h 13 8]) (.ret [.bool false])) (aE [h3 1,jI 0]<|.br 10 (.ret [.bool true]) (aE [h3 1,jI 2]<|.br 11 (aN [h3 0,jI 91]<|.br 12 (aN [h3 0,jI 79]<|.ret [h 13 8]) (.ret [.bool false])) (.ret [.bool false]))))) (aE [h3 0,jI 1114136]<|.br 7 (aE [h3 1,jI 1]<|.br 8 (.ret [.bool true]) (aE [h3 1,jI 2]<|.br 9 (.ret [.bool true]) (aE [h3 1,jI 0]<|.ret [h 10 8]))) (aE [h3 0,jI 1114135]<|.br 8 (aE [h3 1,jI 2]<|.br 9 (.ret [.bool true]) (aE [h3 1,jI 0]<|.ret [h 10 8])) (aE [h3 0,jI 1114137]<|.br 9 (aE [h3 1,jI 2]<|.br 10 (.ret [.bool true]) (aE [h3 1,jI 0]<|.ret [h 11 8])) (aE [h3 0,jI 1114138]<|.br 10 (aE [h3 1,jI 0]<|.ret [h 11 8]) (aH [h3 0,jI 1114113]<|.br 11 (aQ [h3 0,jI 1114134]<|.br 12 (aH [h3 1,jI 0]<|.br 13 (aQ [h3 1,jI 7]<|.ret [h 14 8]) (.ret [.bool false])) (.ret [.bool false])) (.ret [.bool false]))))))) (aE [h3 0,jI 1114136]<|.br 6 (aE [h3 1,jI 1]<|.br 7 (.ret [.bool true]) (aE [h3 1,jI 2]<|.br 8 (.ret [.bool true]) (aE [h3 1,jI 0]<|.ret [h 9 8]))) (aE [h3 0,jI 1114135]<|.br 7 (aE [h3 1,jI 2]<|.br 8 (.ret [.bool true]) (aE [h3 1,jI 0]<|.ret [h 9 8])) (aE [h3 0,jI 1114137]<|.br 8 (aE [h3 1,jI 2]<|.br 9 (.ret [.bool true]) (aE [h3 1,jI 0]<|.ret [h 10 8])) (aE [h3 0,jI 1114138]<|.br 9 (aE [h3 1,jI 0]<|.ret [h 10 8]) (aH [h3 0,jI 1114113]<|.br 10 (aQ [h3 0,jI 1114134]<|.br 11 (aH [h3 1,jI 0]<|.br 12 (aQ [h3 1,jI 7]<|.ret [h 13 8]) (.ret [.bool false])) (.ret [.bool false])) (.ret [.bool false]))))))) (aE [h3 0,jI 1114136]<|.br 4 (aE [h3 1,jI 1]<|.br 5 (.ret [.bool true]) (aE [h3 1,jI 2]<|.br 6 (.ret [.bool true]) (aE [h3 1,jI 0]<|.ret [h 7 8]))) (aE [h3 0,jI 1114135]<|.br 5 (aE [h3 1,jI 2]<|.br 6 (.ret [.bool true]) (aE [h3 1,jI 0]<|.ret [h 7 8])) (aE [h3 0,jI 1114137]<|.br 6 (aE [h3 1,jI 2]<|.br 7 (.ret [.bool true]) (aE [h3 1,jI 0]<|.ret [h 8 8])) (aE [h3 0,jI 1114138]<|.br 7 (aE [h3 1,jI 0]<|.ret [h 8 8]) (aH [h3 0,jI 1114113]<|.br 8 (aQ [h3 0,jI 1114134]<|.br 9 (aH [h3 1,jI 0]<|.br 10 (aQ [h3 1,jI 7]<|.ret [h 11 8]) (.ret [.bool false])) (.ret [.bool false])) (.ret [.bool false]))))))) (aE [h3 0,jI 1114136]<|.br 3 (aE [h3 1,jI 1]<|.br 4 (.ret [.bool true]) (aE [h3 1,jI 2]<|.br 5 (.ret [.bool true]) (aE [h3 1,jI 0]<|.ret [h 6 8]))) (aE [h3 0,jI 1114135]<|.br 4 (aE [h3 1,jI 2]<|.br 5 (.ret [.bool true]) (aE [h3 1,jI 0]<|.ret [h 6 8])) (aE [h3 0,jI 1114137]<|.br 5 (aE [h3 1,jI 2]<|.br 6 (.ret [.bool true]) (aE [h3 1,jI 0]<|.ret [h 7 8])) (aE [h3 0,jI 1114138]<|.br 6 (aE [h3 1,jI 0]<|.ret [h 7 8]) (aH [h3 0,jI 1114113]<|.br 7 (aQ [h3 0,jI 1114134]<|.br 8 (aH [h3 1,jI 0]<|.br 9 (aQ [h3 1,jI 7]<|.ret [h 10 8]) (.ret [.bool false])) (.ret [.bool false])) (.ret [.bool false]))))))
theorem C7V{G:Nat→Option Obj}(hst:A7 Tryz.prog G gl H0 n0):H8 Tryz.prog G 36 [.s 3,.s 3] A9O [.s 8]:=by
 refine C6 (C:=cx D0T []) (d:=60) C7U (cxg (C3R hst) .nil) hst ⟨Tryz.f36,_,Tryz.func36,rfl⟩ (by kernel_rfl) (by kernel_rfl) ?_;intro us outs hs;unfold A9O at hs;split at hs
 ·skip;rename_i c m;split at hs
  ·rename_i hc;cases hs;unfold C7U;refine w0 (.cons 1 _ (.cons 0 _ (.nil))) ?_;repeat (first|refine w4 (fun g=>?_) fun g=>?_|refine w4B (fun g=>?_) fun g=>?_|(refine w7 [.bool _] ?_;rotate_left)|refine A2M ?_|refine A4D ?_|refine A5b ?_|refine A9W ?_|refine w1 (.bin .and) (e:=A9G _) (k':=?_)|refine w32 A2k (e:=B8l _) (k':=?_)|refine w1 (.bin .andNot) (e:=D2_ _) (k':=?_)|refine w1 (.bin .shr) (e:=A2g 2048 (by decide) (by decide)) (k':=?_)|refine A1S ?_)
   all_goals
    have z0:=C3K m hc.1 hc.2;have z1:=B8m c;refine l1 ?_;first|(refine decide_eq_decide.2 ?_;unfold W9 chP okU;omega)|(symm;first|exact decide_eq_true (by unfold W9 chP okU at *;omega)|exact decide_eq_false (by unfold W9 chP okU at *;omega))
  ·cases hs
 ·cases hs
noncomputable def D1Z:List (FuncId×FnC):=(36,E7 Tryz.prog [.s 3,.s 3] A9O [.s 8])::D1x
theorem C4c{G:Nat→Option Obj}(hst:A7 Tryz.prog G gl H0 n0):C5 Tryz.prog G gl D1Z:=.cons (C7V hst) (C42 hst)
noncomputable def D0t:List (FuncId×FnC):=(64,E7 Tryz.prog [.s 3] A28 [.s 3])::L0
theorem C3s{G:Nat→Option Obj}(hst:A7 Tryz.prog G gl H0 n0):C5 Tryz.prog G gl D0t:=(.cons (C1P hst) .nil)
def S7:List U→Option (Nat×List U)
 | [.int .i64 c,.int .i64 m]=>if -9223372036854775808≤m∧m≤9223372036854775807 then some (0,[.bool (decide (W9 c m))])else none
 | _=>none
theorem N1(c:Int)(m:Int)(hc : -9223372036854775808≤m∧m≤9223372036854775807):S7 [.int .i64 c,.int .i64 m]=some (0,[.bool (decide (W9 c m))]):=if_pos hc
def C8W:Tr:=aH [h3 0,jI 0]<|.br 2 (aQ [h3 0,jI 1114111]<|.br 3 (aL [h3 0,jI 55296]<|.br 4 (aH [h3 0,jI 32]<|.br 5 (aH [h3 0,jI 127]<|.br 6 (aQ [h3 0,jI 159]<|aX [h 7 8]<|.br 8 (aE [h3 1,jI 0]<|.br 9 (.ret [.bool true]) (aE [h3 1,jI 2]<|.br 10 (aN [h3 0,jI 91]<|.br 11 (aN [h3 0,jI 79]<|.ret [h 12 8]) (.ret [.bool false])) (.fn A28 [h3 0] 1<|aH [h3 11,jI 0]<|.br 12 (aE [h3 1,jI 4]<|.br 13 (.ret [.bool true]) (aE [h3 1,jI 6]<|.ret [h 14 8])) (.ret [.bool false])))) (aH [h3 0,jI 1114113]<|.br 9 (aQ [h3 0,jI 1114134]<|.br 10 (aH [h3 1,jI 0]<|.br 11 (aQ [h3 1,jI 7]<|.ret [h 12 8]) (.ret [.bool false])) (aE [h3 0,jI 1114135]<|.br 11 (aE [h3 1,jI 0]<|.br 12 (.ret [.bool true]) (aE [h3 1,jI 2]<|.ret [h 13 8])) (aE [h3 0,jI 1114137]<|.br 12 (aE [h3 1,jI 0]<|.br 13 (.ret [.bool true]) (aE [h3 1,jI 2]<|.ret [h 14 8])) (aE [h3 0,jI 1114136]<|.br 13 (aE [h3 1,jI 0]<|.br 14 (.ret [.bool true]) (aE [h3 1,jI 1]<|.br 15 (.ret [.bool true]) (aE [h3 1,jI 2]<|.ret [h 16 8]))) (aE [h3 0,jI 1114138]<|.br 14 (aE [h3 1,jI 0]<|.ret [h 15 8]) (.ret [.bool false])))))) (aE [h3 0,jI 1114135]<|.br 10 (aE [h3 1,jI 0]<|.br 11 (.ret [.bool true]) (aE [h3 1,jI 2]<|.ret [h 12 8])) (aE [h3 0,jI 1114137]<|.br 11 (aE [h3 1,jI 0]<|.br 12 (.ret [.bool true]) (aE [h3 1,jI 2]<|.ret [h 13 8])) (aE [h3 0,jI 1114136]<|.br 12 (aE [h3 1,jI 0]<|.br 13 (.ret [.bool true]) (aE [h3 1,jI 1]<|.br 14 (.ret [.bool true]) (aE [h3 1,jI 2]<|.ret [h 15 8]))) (aE [h3 0,jI 1114138]<|.br 13 (aE [h3 1,jI 0]<|.ret [h 14 8]) (.ret [.bool false]))))))) (aE [h3 1,jI 0]<|.br 7 (.ret [.bool true]) (aE [h3 1,jI 2]<|.br 8 (aN [h3 0,jI 91]<|.br 9 (aN [h3 0,jI 79]<|.ret [h 10 8]) (.ret [.bool false])) (.fn A28 [h3 0] 1<|aH [h3 9,jI 0]<|.br 10 (aE [h3 1,jI 4]<|.br 11 (.ret [.bool true]) (aE [h3 1,jI 6]<|.ret [h 12 8])) (.ret [.bool false]))))) (aH [h3 0,jI 1114113]<|.br 6 (aQ [h3 0,jI 1114134]<|.br 7 (aH [h3 1,jI 0]<|.br 8 (aQ [h3 1,jI 7]<|.ret [h 9 8]) (.ret [.bool false])) (aE [h3 0,jI 1114135]<|.br 8 (aE [h3 1,jI 0]<|.br 9 (.ret [.bool true]) (aE [h3 1,jI 2]<|.ret [h 10 8])) (aE [h3 0,jI 1114137]<|.br 9 (aE [h3 1,jI 0]<|.br 10 (.ret [.bool true]) (aE [h3 1,jI 2]<|.ret [h 11 8])) (aE [h3 0,jI 1114136]<|.br 10 (aE [h3 1,jI 0]<|.br 11 (.ret [.bool true]) (aE [h3 1,jI 1]<|.br 12 (.ret [.bool true]) (aE [h3 1,jI 2]<|.ret [h 13 8]))) (aE [h3 0,jI 1114138]<|.br 11 (aE [h3 1,jI 0]<|.ret [h 12 8]) (.ret [.bool false])))))) (aE [h3 0,jI 1114135]<|.br 7 (aE [h3 1,jI 0]<|.br 8 (.ret [.bool true]) (aE [h3 1,jI 2]<|.ret [h 9 8])) (aE [h3 0,jI 1114137]<|.br 8 (aE [h3 1,jI 0]<|.br 9 (.ret [.bool true]) (aE [h3 1,jI 2]<|.ret [h 10 8])) (aE [h3 0,jI 1114136]<|.br 9 (aE [h3 1,jI 0]<|.br 10 (.ret [.bool true]) (aE [h3 1,jI 1]<|.br 11 (.ret [.bool true]) (aE [h3 1,jI 2]<|.ret [h 12 8]))) (aE [h3 0,jI 1114138]<|.br 10 (aE [h3 1,jI 0]<|.ret [h 11 8]) (.ret [.bool false]))))))) (aG [h3 0,jI 57343]<|.br 5 (aH [h3 0,jI 32]<|.br 6 (aH [h3 0,jI 127]<|.br 7 (aQ [h3 0,jI 159]<|aX [h 8 8]<|.br 9 (aE [h3 1,jI 0]<|.br 10 (.ret [.bool true]) (aE [h3 1,jI 2]<|.br 11 (aN [h3 0,jI 91]<|.br 12 (aN [h3 0,jI 79]<|.ret [h 13 8]) (.ret [.bool false])) (.fn A28 [h3 0] 1<|aH [h3 12,jI 0]<|.br 13 (aE [h3 1,jI 4]<|.br 14 (.ret [.bool true]) (aE [h3 1,jI 6]<|.ret [h 15 8])) (.ret [.bool false])))) (aH [h3 0,jI 1114113]<|.br 10 (aQ [h3 0,jI 1114134]<|.br 11 (aH [h3 1,jI 0]<|.br 12 (aQ [h3 1,jI 7]<|.ret [h 13 8]) (.ret [.bool false])) (aE [h3 0,jI 1114135]<|.br 12 (aE [h3 1,jI 0]<|.br 13 (.ret [.bool true]) (aE [h3 1,jI 2]<|.ret [h 14 8])) (aE [h3 0,jI 1114137]<|.br 13 (aE [h3 1,jI 0]<|.br 14 (.ret [.bool true]) (aE [h3 1,jI 2]<|.ret [h 15 8])) (aE [h3 0,jI 1114136]<|.br 14 (aE [h3 1,jI 0]<|.br 15 (.ret [.bool true]) (aE [h3 1,jI 1]<|.br 16 (.ret [.bool true]) (aE [h3 1,jI 2]<|.ret [h 17 8]))) (aE [h3 0,jI 1114138]<|.br 15 (aE [h3 1,jI 0]<|.ret [h 16 8]) (.ret [.bool false])))))) (aE [h3 0,jI 1114135]<|.br 11 (aE [h3 1,jI 0]<|.br 12 (.ret [.bool true]) (aE [h3 1,jI 2]<|.ret [h 13 8])) (aE [h3 0,jI 1114137]<|.br 12 (aE [h3 1,jI 0]<|.br 13 (.ret [.bool true]) (aE [h3 1,jI 2]<|.ret [h 14 8])) (aE [h3 0,jI 1114136]<|.br 13 (aE [h3 1,jI 0]<|.br 14 (.ret [.bool true]) (aE [h3 1,jI 1]<|.br 15 (.ret [.bool true]) (aE [h3 1,jI 2]<|.ret [h 16 8]))) (aE [h3 0,jI 1114138]<|.br 14 (aE [h3 1,jI 0]<|.ret [h 15 8]) (.ret [.bool false]))))))) (aE [h3 1,jI 0]<|.br 8 (.ret [.bool true]) (aE [h3 1,jI 2]<|.br 9 (aN [h3 0,jI 91]<|.br 10 (aN [h3 0,jI 79]<|.ret [h 11 8]) (.ret [.bool false])) (.fn A28 [h3 0] 1<|aH [h3 10,jI 0]<|.br 11 (aE [h3 1,jI 4]<|.br 12 (.ret [.bool true]) (aE [h3 1,jI 6]<|.ret [h 13 8])) (.ret [.bool false]))))) (aH [h3 0,jI 1114113]<|.br 7 (aQ [h3 0,jI 1114134]<|.br 8 (aH [h3 1,jI 0]<|.br 9 (aQ [h3 1,jI 7]<|.ret [h 10 8]) (.ret [.bool false])) (aE [h3 0,jI 1114135]<|.br 9 (aE [h3 1,jI 0]<|.br 10 (.ret [.bool true]) (aE [h3 1,jI 2]<|.ret [h 11 8])) (aE [h3 0,jI 1114137]<|.br 10 (aE [h3 1,jI 0]<|.br 11 (.ret [.bool true]) (aE [h3 1,jI 2]<|.ret [h 12 8])) (aE [h3 0,jI 1114136]<|.br 11 (aE [h3 1,jI 0]<|.br 12 (.ret [.bool true]) (aE [h3 1,jI 1]<|.br 13 (.ret [.bool true]) (aE [h3 1,jI 2]<|.ret [h 14 8]))) (aE [h3 0,jI 1114138]<|.br 12 (aE [h3 1,jI 0]<|.ret [h 13 8]) (.ret [.bool false])))))) (aE [h3 0,jI 1114135]<|.br 8 (aE [h3 1,jI 0]<|.br 9 (.ret [.bool true]) (aE [h3 1,jI 2]<|.ret [h 10 8])) (aE [h3 0,jI 1114137]<|.br 9 (aE [h3 1,jI 0]<|.br 10 (.ret [.bool true]) (aE [h3 1,jI 2]<|.ret [h 11 8])) (aE [h3 0,jI 1114136]<|.br 10 (aE [h3 1,jI 0]<|.br 11 (.ret [.bool true]) (aE [h3 1,jI 1]<|.br 12 (.ret [.bool true]) (aE [h3 1,jI 2]<|.ret [h 13 8]))) (aE [h3 0,jI 1114138]<|.br 11 (aE [h3 1,jI 0]<|.ret [h 12 8]) (.ret [.bool false]))))))) (aH [h3 0,jI 1114113]<|.br 6 (aQ [h3 0,jI 1114134]<|.br 7 (aH [h3 1,jI 0]<|.br 8 (aQ [h3 1,jI 7]<|.ret [h 9 8]) (.ret [.bool false])) (aE [h3 0,jI 1114135]<|.br 8 (aE [h3 1,jI 0]<|.br 9 (.ret [.bool true]) (aE [h3 1,jI 2]<|.ret [h 10 8])) (aE [h3 0,jI 1114137]<|.br 9 (aE [h3 1,jI 0]<|.br 10 (.ret [.bool true]) (aE [h3 1,jI 2]<|.ret [h 11 8])) (aE [h3 0,jI 1114136]<|.br 10 (aE [h3 1,jI 0]<|.br 11 (.ret [.bool true]) (aE [h3 1,jI 1]<|.br 12 (.ret [.bool true]) (aE [h3 1,jI 2]<|.ret [h 13 8]))) (aE [h3 0,jI 1114138]<|.br 11 (aE [h3 1,jI 0]<|.ret [h 12 8]) (.ret [.bool false])))))) (aE [h3 0,jI 1114135]<|.br 7 (aE [h3 1,jI 0]<|.br 8 (.ret [.bool true]) (aE [h3 1,jI 2]<|.ret [h 9 8])) (aE [h3 0,jI 1114137]<|.br 8 (aE [h3 1,jI 0]<|.br 9 (.ret [.bool true]) (aE [h3 1,jI 2]<|.ret [h 10 8])) (aE [h3 0,jI 1114136]<|.br 9 (aE [h3 1,jI 0]<|.br 10 (.ret [.bool true]) (aE [h3 1,jI 1]<|.br 11 (.ret [.bool true]) (aE [h3 1,jI 2]<|.ret [h 12 8]))) (aE [h3 0,jI 1114138]<|.br 10 (aE [h3 1,jI 0]<|.ret [h 11 8]) (.ret [.bool false])))))))) (aH [h3 0,jI 1114113]<|.br 4 (aQ [h3 0,jI 1114134]<|.br 5 (aH [h3 1,jI 0]<|.br 6 (aQ [h3 1,jI 7]<|.ret [h 7 8]) (.ret [.bool false])) (aE [h3 0,jI 1114135]<|.br 6 (aE [h3 1,jI 0]<|.br 7 (.ret [.bool true]) (aE [h3 1,jI 2]<|.ret [h 8 8])) (aE [h3 0,jI 1114137]<|.br 7 (aE [h3 1,jI 0]<|.br 8 (.ret [.bool true]) (aE [h3 1,jI 2]<|.ret [h 9 8])) (aE [h3 0,jI 1114136]<|.br 8 (aE [h3 1,jI 0]<|.br 9 (.ret [.bool true]) (aE [h3 1,jI 1]<|.br 10 (.ret [.bool true]) (aE [h3 1,jI 2]<|.ret [h 11 8]))) (aE [h3 0,jI 1114138]<|.br 9 (aE [h3 1,jI 0]<|.ret [h 10 8]) (.ret [.bool false])))))) (aE [h3 0,jI 1114135]<|.br 5 (aE [h3 1,jI 0]<|.br 6 (.ret [.bool true]) (aE [h3 1,jI 2]<|.ret [h 7 8])) (aE [h3 0,jI 1114137]<|.br 6 (aE [h3 1,jI 0]<|.br 7 (.ret [.bool true]) (aE [h3 1,jI 2]<|.ret [h 8 8])) (aE [h3 0,jI 1114136]<|.br 7 (aE [h3 1,jI 0]<|.br 8 (.ret [.bool true]) (aE [h3 1,jI 1]<|.br 9 (.ret [.bool true]) (aE [h3 1,jI 2]<|.ret [h 10 8]))) (aE [h3 0,jI 1114138]<|.br 8 (aE [h3 1,jI 0]<|.ret [h 9 8]) (.ret [.bool false]))))))) (aH [h3 0,jI 1114113]<|.br 3 (aQ [h3 0,jI 1114134]<|.br 4 (aH [h3 1,jI 0]<|.br 5 (aQ [h3 1,jI 7]<|.ret [h 6 8]) (.ret [.bool false])) (aE [h3 0,jI 1114135]<|.br 5 (aE [h3 1,jI 0]<|.br 6 (.ret [.bool true]) (aE [h3 1,jI 2]<|.ret [h 7 8])) (aE [h3 0,jI 1114137]<|.br 6 (aE [h3 1,jI 0]<|.br 7 (.ret [.bool true]) (aE [h3 1,jI 2]<|.ret [h 8 8])) (aE [h3 0,jI 1114136]<|.br 7 (aE [h3 1,jI 0]<|.br 8 (.ret [.bool true]) (aE [h3 1,jI 1]<|.br 9 (.ret [.bool true]) (aE [h3 1,jI 2]<|.ret [h 10 8]))) (aE [h3 0,jI 1114138]<|.br 8 (aE [h3 1,jI 0]<|.ret [h 9 8]) (.ret [.bool false])))))) (aE [h3 0,jI 1114135]<|.br 4 (aE [h3 1,jI 0]<|.br 5 (.ret [.bool true]) (aE [h3 1,jI 2]<|.ret [h 6 8])) (aE [h3 0,jI 1114137]<|.br 5 (aE [h3 1,jI 0]<|.br 6 (.ret [.bool true]) (aE [h3 1,jI 2]<|.ret [h 7 8])) (aE [h3 0,jI 1114136]<|.br 6 (aE [h3 1,jI 0]<|.br 7 (.ret [.bool true]) (aE [h3 1,jI 1]<|.br 8 (.ret [.bool true]) (aE [h3 1,jI 2]<|.ret [h 9 8]))) (aE [h3 0,jI 1114138]<|.br 7 (aE [h3 1,jI 0]<|.ret [h 8 8]) (.ret [.bool false]))))))
theorem B4d{G:Nat→Option Obj}(hst:A7 Tryz.prog G gl H0 n0):H8 Tryz.prog G 34 [.s 3,.s 3] S7 [.s 8]:=by
 refine C6 (C:=cx D0t []) (d:=60) C8W (cxg (C3s hst) .nil) hst ⟨Tryz.f34,_,Tryz.func34,rfl⟩ (by kernel_rfl) (by kernel_rfl) ?_;intro us outs hs;unfold S7 at hs;split at hs
 ·skip;rename_i c m;split at hs
  ·rename_i hc;cases hs;unfold C8W;refine w0 (.cons 1 _ (.cons 0 _ (.nil))) ?_;repeat (first|refine A2M ?_|(refine w7 [.bool _] ?_;rotate_left)|refine w4 (fun g=>?_) fun g=>?_|refine A4D ?_|refine A5b ?_|refine A9W ?_|refine w31 A28 (e:=B7r _) (k':=?_)|refine A1S ?_|refine A37 ?_|refine A9Y ?_)
   all_goals
    have z0:=C3K m hc.1 hc.2;have z1:=B8m c;refine l1 ?_;first|(refine decide_eq_decide.2 ?_;unfold W9 chP okU;omega)|(symm;first|exact decide_eq_true (by unfold W9 chP okU at *;omega)|exact decide_eq_false (by unfold W9 chP okU at *;omega))
  ·cases hs
 ·cases hs
noncomputable def D1r:List (FuncId×FnC):=(34,E7 Tryz.prog [.s 3,.s 3] S7 [.s 8])::D1Z
theorem C4w{G:Nat→Option Obj}(hst:A7 Tryz.prog G gl H0 n0):C5 Tryz.prog G gl D1r:=.cons (B4d hst) (C4c hst)
def msP(m w b r cl:Int):Prop:=0≤w∧w≤3∧0≤b∧b≤3∧(w=0→b≤2)∧(w=3→b≤1)∧0≤m∧m≤7∧0≤r∧r≤39∧0≤cl∧cl≤79
instance(m w b r cl:Int):Decidable (msP m w b r cl):=by unfold msP;infer_instance
theorem A99(m w b r cl:Int):msP m w b r cl↔(0≤b∧0≤m∧m≤7∧0≤r∧r≤39∧0≤cl∧cl≤79)∧((w=0∧b≤2)∨(w=1∧b≤3)∨(w=2∧b≤3)∨(w=3∧b≤1)):=by
 unfold msP;omega
theorem C1o(w:Int):(w=0∧([2,3,3,1]:List Int).getD w.toNat 0=2)∨(w=1∧([2,3,3,1]:List Int).getD w.toNat 0=3)∨(w=2∧([2,3,3,1]:List Int).getD w.toNat 0=3)∨(w=3∧([2,3,3,1]:List Int).getD w.toNat 0=1)∨w<0∨3<w:=by
 by_cases h:0≤w∧w≤3
 ·have:w=0∨w=1∨w=2∨w=3:=by omega
  rcases this with rfl|rfl|rfl|rfl<;>decide
 ·omega
noncomputable def D0R:List (FuncId×FnC):=L0
theorem C3P{G:Nat→Option Obj}(hst:A7 Tryz.prog G gl H0 n0):C5 Tryz.prog G gl D0R:=.nil
def A9N:List U→Option (Nat×List U)
 | [.int .i64 k,.int .i64 c,.int .i64 m,.int .i64 w,.int .i64 b,.int .i64 r,.int .i64 cl,.str t]=>some (0,[.bool (decide (msP m w b r cl))])
 | _=>none
theorem C5Z(k:Int)(c:Int)(m:Int)(w:Int)(b:Int)(r:Int)(cl:Int)(t:(List UInt8)):A9N [.int .i64 k,.int .i64 c,.int .i64 m,.int .i64 w,.int .i64 b,.int .i64 r,.int .i64 cl,.str t]=some (0,[.bool (decide (msP m w b r cl))]):=rfl
def C7Q:Tr:=aH [h3 3,jI 0]<|.br 8 (aQ [h3 3,jI 3]<|.br 9 (aI [h3 3,jI 4]<|.br 10 (.lt 3 (.sel) [h3 3,jI 2,jI 3,jI 3,jI 1]<|aH [h3 4,jI 0]<|.br 12 (aQ [h3 4,h3 11]<|.br 13 (aH [h3 2,jI 0]<|.br 14 (aQ [h3 2,jI 7]<|.br 15 (aH [h3 5,jI 0]<|.br 16 (aQ [h3 5,jI 39]<|.br 17 (aH [h3 6,jI 0]<|.br 18 (aQ [h3 6,jI 79]<|.ret [h 19 8]) (.ret [.bool false])) (.ret [.bool false])) (.ret [.bool false])) (.ret [.bool false])) (.ret [.bool false])) (.ret [.bool false])) (.ret [.bool false])) (.no)) (.ret [.bool false])) (.ret [.bool false])
theorem C7R{G:Nat→Option Obj}(hst:A7 Tryz.prog G gl H0 n0):H8 Tryz.prog G 37 [.a [3,3,3,3,3,3,3,9]] A9N [.s 8]:=by
 refine C6 (C:=cx D0R []) (d:=60) C7Q (cxg (C3P hst) .nil) hst ⟨Tryz.f37,_,Tryz.func37,rfl⟩ (by kernel_rfl) (by kernel_rfl) ?_;intro us outs hs;unfold A9N at hs;split at hs
 ·skip;rename_i k c m w b r cl t;cases hs;unfold C7Q;refine w0 (.cons 7 _ (.cons 6 _ (.cons 5 _ (.cons 4 _ (.cons 3 _ (.cons 2 _ (.cons 1 _ (.cons 0 _ (.nil))))))))) ?_;repeat (first|refine w4 (fun g=>?_) fun g=>?_|(refine w7 [.bool _] ?_;rotate_left)|refine A4D ?_|refine A5b ?_|refine C5m ?_|refine w1 (.sel) (e:=A5Q [2,3,3,1] (by omega) (by show _<((4:Nat):Int);omega)) (k':=?_)|(refine w8 ?_;(have z0:=C1o w;omega)))
  all_goals
   have z1:=A99 m w b r cl;have z0:=C1o w;refine l1 ?_;first|(refine decide_eq_decide.2 ⟨fun h=>z1.2 ?_,fun h=>?_⟩;omega;(have:=z1.1 h;omega))|(symm;first|exact decide_eq_true (z1.2 (by omega))|exact decide_eq_false (fun h=>by have:=z1.1 h;omega)|(exfalso;omega))
 ·cases hs
noncomputable def D1Y:List (FuncId×FnC):=(37,E7 Tryz.prog [.a [3,3,3,3,3,3,3,9]] A9N [.s 8])::D1r
theorem C4b{G:Nat→Option Obj}(hst:A7 Tryz.prog G gl H0 n0):C5 Tryz.prog G gl D1Y:=.cons (C7R hst) (C4w hst)
noncomputable def D0r:List (FuncId×FnC):=L0
theorem C3q{G:Nat→Option Obj}(hst:A7 Tryz.prog G gl H0 n0):C5 Tryz.prog G gl D0r:=.nil
def A9y:List U→Option (Nat×List U)
 | [.int .i64 k,.int .i64 c,.int .i64 m,.int .i64 w,.int .i64 b,.int .i64 r,.int .i64 cl,.str t]=>some (0,[.bool (decide (msP m w b r cl))])
 | _=>none
theorem C50(k:Int)(c:Int)(m:Int)(w:Int)(b:Int)(r:Int)(cl:Int)(t:(List UInt8)):A9y [.int .i64 k,.int .i64 c,.int .i64 m,.int .i64 w,.int .i64 b,.int .i64 r,.int .i64 cl,.str t]=some (0,[.bool (decide (msP m w b r cl))]):=rfl
def C8T:Tr:=aE [h3 3,jI 0]<|.br 8 (aE [h3 3,jI 3]<|.br 9 (aH [h3 3,jI 0]<|.br 10 (aQ [h3 3,jI 3]<|.br 11 (aH [h3 4,jI 0]<|.br 12 (aQ [h3 4,jI 1]<|.br 13 (aH [h3 2,jI 0]<|.br 14 (aQ [h3 2,jI 7]<|.br 15 (aH [h3 5,jI 0]<|.br 16 (aQ [h3 5,jI 39]<|.br 17 (aH [h3 6,jI 0]<|.br 18 (aQ [h3 6,jI 79]<|.ret [h 19 8]) (.ret [.bool false])) (.ret [.bool false])) (.ret [.bool false])) (.ret [.bool false])) (.ret [.bool false])) (.ret [.bool false])) (.ret [.bool false])) (.ret [.bool false])) (.ret [.bool false])) (aH [h3 3,jI 0]<|.br 10 (aQ [h3 3,jI 3]<|.br 11 (aH [h3 4,jI 0]<|.br 12 (aQ [h3 4,jI 2]<|.br 13 (aH [h3 2,jI 0]<|.br 14 (aQ [h3 2,jI 7]<|.br 15 (aH [h3 5,jI 0]<|.br 16 (aQ [h3 5,jI 39]<|.br 17 (aH [h3 6,jI 0]<|.br 18 (aQ [h3 6,jI 79]<|.ret [h 19 8]) (.ret [.bool false])) (.ret [.bool false])) (.ret [.bool false])) (.ret [.bool false])) (.ret [.bool false])) (.ret [.bool false])) (.ret [.bool false])) (.ret [.bool false])) (.ret [.bool false]))) (aE [h3 3,jI 3]<|.br 9 (aH [h3 3,jI 0]<|.br 10 (aQ [h3 3,jI 3]<|.br 11 (aH [h3 4,jI 0]<|.br 12 (aQ [h3 4,jI 1]<|.br 13 (aH [h3 2,jI 0]<|.br 14 (aQ [h3 2,jI 7]<|.br 15 (aH [h3 5,jI 0]<|.br 16 (aQ [h3 5,jI 39]<|.br 17 (aH [h3 6,jI 0]<|.br 18 (aQ [h3 6,jI 79]<|.ret [h 19 8]) (.ret [.bool false])) (.ret [.bool false])) (.ret [.bool false])) (.ret [.bool false])) (.ret [.bool false])) (.ret [.bool false])) (.ret [.bool false])) (.ret [.bool false])) (.ret [.bool false])) (aH [h3 3,jI 0]<|.br 10 (aQ [h3 3,jI 3]<|.br 11 (aH [h3 4,jI 0]<|.br 12 (aQ [h3 4,jI 3]<|.br 13 (aH [h3 2,jI 0]<|.br 14 (aQ [h3 2,jI 7]<|.br 15 (aH [h3 5,jI 0]<|.br 16 (aQ [h3 5,jI 39]<|.br 17 (aH [h3 6,jI 0]<|.br 18 (aQ [h3 6,jI 79]<|.ret [h 19 8]) (.ret [.bool false])) (.ret [.bool false])) (.ret [.bool false])) (.ret [.bool false])) (.ret [.bool false])) (.ret [.bool false])) (.ret [.bool false])) (.ret [.bool false])) (.ret [.bool false])))
theorem C1G{G:Nat→Option Obj}(hst:A7 Tryz.prog G gl H0 n0):H8 Tryz.prog G 61 [.a [3,3,3,3,3,3,3,9]] A9y [.s 8]:=by
 refine C6 (C:=cx D0r []) (d:=60) C8T (cxg (C3q hst) .nil) hst ⟨Tryz.f61,_,Tryz.func61,rfl⟩ (by kernel_rfl) (by kernel_rfl) ?_;intro us outs hs;unfold A9y at hs;split at hs
 ·skip;rename_i k c m w b r cl t;cases hs;unfold C8T;refine w0 (.cons 7 _ (.cons 6 _ (.cons 5 _ (.cons 4 _ (.cons 3 _ (.cons 2 _ (.cons 1 _ (.cons 0 _ (.nil))))))))) ?_;repeat (first|(refine w7 [.bool _] ?_;rotate_left)|refine w4 (fun g=>?_) fun g=>?_|refine A4D ?_|refine A5b ?_|refine A2M ?_)
  all_goals
   have z1:=A99 m w b r cl;have z0:=C1o w;refine l1 ?_;first|(refine decide_eq_decide.2 ⟨fun h=>z1.2 ?_,fun h=>?_⟩;omega;(have:=z1.1 h;omega))|(symm;first|exact decide_eq_true (z1.2 (by omega))|exact decide_eq_false (fun h=>by have:=z1.1 h;omega)|(exfalso;omega))
 ·cases hs
noncomputable def D1p:List (FuncId×FnC):=(61,E7 Tryz.prog [.a [3,3,3,3,3,3,3,9]] A9y [.s 8])::D1Y
theorem C4u{G:Nat→Option Obj}(hst:A7 Tryz.prog G gl H0 n0):C5 Tryz.prog G gl D1p:=.cons (C1G hst) (C4b hst)
def B0p:List U→Option (Nat×List U)
 | [.str s,.str u]=>if u=[27]then some (0,[.bool (decide (0≤Lib.indexByte s 27))])else none
 | _=>none
theorem C67(s:(List UInt8))(u:(List UInt8))(hc:u=[27]):B0p [.str s,.str u]=some (0,[.bool (decide (0≤Lib.indexByte s 27))]):=if_pos hc
theorem C98{G:Nat→Option Obj}(hst:A7 Tryz.prog G gl H0 n0):H8 Tryz.prog G 28 [.s 9,.s 9] B0p [.s 8]:=by
 intro us outs w vs R hsh hs hG hR;unfold B0p at hs;split at hs
 ·skip;rename_i s u;split at hs
  ·rename_i hc;cases hs;have hv:=W3 (vs2:=[.string ⟨⟨s⟩⟩,.string ⟨⟨u⟩⟩]) hsh rfl;subst hv;refine A5X (vr:=[.bool (decide (0≤Lib.indexByte s 27))]) Tryz.func28 rfl (by kernel_rfl) rfl ?_;subst hc;exact(Tryz.strings_Contains_one ⟨⟨s⟩⟩ 27 w).mono fun e w' ⟨h1,h2⟩=>⟨h1,by subst h2;exact RowKit.Below.refl _ _⟩
  ·cases hs
 ·cases hs
noncomputable def D2J:List (FuncId×FnC):=(28,E7 Tryz.prog [.s 9,.s 9] B0p [.s 8])::D1p
theorem C5P{G:Nat→Option Obj}(hst:A7 Tryz.prog G gl H0 n0):C5 Tryz.prog G gl D2J:=.cons (C98 hst) (C4u hst)
def bU(b:Bool):Option Unit:=if b then some ()else none
theorem A0V{b:Bool}{u:Unit}(h:bU b=some u):b=true:=by cases b<;>first|rfl|cases h
theorem A0W{b:Bool}(h:bU b=none):b=false:=by cases b<;>first|rfl|cases h
def isE(x:UInt8):Bool:=decide (x=27)
theorem C6t{l:List UInt8}{i:Int}(h:(l.length:Int)≤i):(l.drop i.toNat).any isE=false:=by rw[A0S l h];rfl
theorem C9m{x:UInt8}(h:((x.toNat:Nat):Int)=27):x=27:=by
 apply UInt8.toNat_inj.1;show x.toNat=27;omega
theorem B3b(l:List UInt8)(n:Nat):l.getD n default=l.getD n 0:=rfl
theorem D4z{l:List UInt8}{i:Int}(h0:0≤i)(h1:i<(l.length:Int))(h2:(((l.getD i.toNat 0).toNat:Nat):Int)=27):(l.drop i.toNat).any isE=true:=by
 rw[S2 l h0 h1,u7,B3b,C9m h2];rfl
theorem D40{l:List UInt8}{i:Int}(h0:0≤i)(h1:i<(l.length:Int))(h2:¬(((l.getD i.toNat 0).toNat:Nat):Int)=27):(l.drop i.toNat).any isE=(l.drop (i+1).toNat).any isE:=by
 rw[S2 l h0 h1,u7,B3b];have:isE (l.getD i.toNat 0)=false:=decide_eq_false fun h=>h2 (by rw[h];rfl)
 rw[this,P8]
noncomputable def D0x:List (FuncId×FnC):=(34,E7 Tryz.prog [.s 3,.s 3] S7 [.s 8])::(61,E7 Tryz.prog [.a [3,3,3,3,3,3,3,9]] A9y [.s 8])::L0
theorem C3w{G:Nat→Option Obj}(hst:A7 Tryz.prog G gl H0 n0):C5 Tryz.prog G gl D0x:=(.cons (B4d hst) (.cons (C1G hst) .nil))
def B1w:List U→Option (Nat×List U)
 | [.int .i64 i,.int .i64 k,.int .i64 c,.int .i64 m,.int .i64 w,.int .i64 b,.int .i64 r,.int .i64 cl,.str t]=>if 0≤i∧i≤(t.length:Int)∧(t.length:Int)≤140737488351232 then A07 (bU ((t.drop i.toNat).any isE)) [.int .i64 k,.int .i64 c,.int .i64 m,.int .i64 w,.int .i64 b,.int .i64 r,.int .i64 cl,.str t] (fun _=>[])else none
 | _=>none
theorem A6m(i:Int)(k:Int)(c:Int)(m:Int)(w:Int)(b:Int)(r:Int)(cl:Int)(t:(List UInt8))(hc:0≤i∧i≤(t.length:Int)∧(t.length:Int)≤140737488351232):B1w [.int .i64 i,.int .i64 k,.int .i64 c,.int .i64 m,.int .i64 w,.int .i64 b,.int .i64 r,.int .i64 cl,.str t]=A07 (bU ((t.drop i.toNat).any isE)) [.int .i64 k,.int .i64 c,.int .i64 m,.int .i64 w,.int .i64 b,.int .i64 r,.int .i64 cl,.str t] (fun _=>[]):=if_pos hc
def C8g:Q6:=⟨[(1,.pointer (some ⟨6,0,none⟩)),(3,h 0 3)],[(6,.cells 23 [h 1 3,h 2 3,h 3 3,h 4 3,h 5 3,h 6 3,h 7 3,h 8 9])],9,[⟨.exit 1,[(1,.pointer (some ⟨6,0,none⟩))],[(6,.cells 23 [h 0 3,h 1 3,h 2 3,h 3 3,h 4 3,h 5 3,h 6 3,h 7 9])],8⟩,⟨.ret,[(2,.bool false)],[],0⟩]⟩
noncomputable def C1J:Code:=(Tryz.f32.body).getD .skip
noncomputable def C8b:Code:=match H4 [true,false,true,false,true,true,true,true,true,false,false,true,false] C1J with|some (.loop x)=>x|_=>.skip
theorem C8f:Tryz.f32.body=some C1J:=rfl
theorem C8d:H4 [true,false,true,false,true,true,true,true,true,false,false,true,false] C1J=some (.loop C8b):=by kernel_rfl
def C8c:Tr:=aD [h 8 9]<|aL [h3 0,h3 9]<|.br 10 (.lt 4 (.idx) [h 8 9,h3 0]<|aE [h 11 4,.int .u8 (27)]<|.br 12 (.ret [jI 1]) (aA [h3 0,jI 1]<|.ret [jI (-1),h3 13,h3 1,h3 2,h3 3,h3 4,h3 5,h3 6,h3 7,h 8 9])) (.ret [jI 0,h3 1,h3 2,h3 3,h3 4,h3 5,h3 6,h3 7,h 8 9])
def C8e:List U→Nat
 | [.int .i64 i,.int .i64 k,.int .i64 c,.int .i64 m,.int .i64 w,.int .i64 b,.int .i64 r,.int .i64 cl,.str t]=>((t.length:Int)-i).toNat
 | _=>0
theorem C1I(i:Int)(k:Int)(c:Int)(m:Int)(w:Int)(b:Int)(r:Int)(cl:Int)(t:(List UInt8)):C8e [.int .i64 i,.int .i64 k,.int .i64 c,.int .i64 m,.int .i64 w,.int .i64 b,.int .i64 r,.int .i64 cl,.str t]=((t.length:Int)-i).toNat:=rfl
theorem D3v{G:Nat→Option Obj}(hst:A7 Tryz.prog G gl H0 n0):∀ (E:Nat→U) (base:Nat),@W7 ⟨E,G⟩ Tryz.prog base gl Tryz.f32.ntmps C8b (O6 Tryz.prog gl n0 7 C8g B1w):=by
 refine m9 (C:=cx D0x []) (dep:=60) (f:=32) (n0:=n0) (nB:=7) (H0:=H0) C8e C8c (cxg (C3w hst) .nil) hst Tryz.func32 C8f C8d (by kernel_rfl) (by kernel_rfl) (by kernel_rfl) ?_;intro us d outs hs;have hs0:=hs;unfold B1w at hs;split at hs
 ·skip;rename_i i k c m w b r cl t;split at hs
  ·rename_i hc;clear hs hs0;refine⟨rfl,?_⟩;unfold C8c;refine w0 (.cons 8 _ (.cons 7 _ (.cons 6 _ (.cons 5 _ (.cons 4 _ (.cons 3 _ (.cons 2 _ (.cons 1 _ (.cons 0 _ (.nil)))))))))) ?_;repeat (first|refine w4 (fun g=>?_) fun g=>?_|refine A9b ?_|refine A4F ?_|refine B9D ?_|refine A37 ?_|refine D3d ?_|refine A2M ?_|(refine w7 [.int .i64 _] ?_;rotate_left)|(refine w7 [.int .i64 _,.int .i64 _,.int .i64 _,.int .i64 _,.int .i64 _,.int .i64 _,.int .i64 _,.int .i64 _,.int .i64 _,.str _] ?_;rotate_left)|(refine w7 [.int .i64 _,.int .i64 _,.int .i64 _,.int .i64 _,.int .i64 _,.int .i64 _,.int .i64 _,.int .i64 _,.str _] ?_;rotate_left))
   all_goals first
    | refine J2 ?_ ?_
      ·rw[A6m i k c m w b r cl t hc,D40 (i:=i) (by omega) (by omega) ‹_›];exact A6m (i+1) k c m w b r cl t ⟨by omega,by omega,hc.2.2⟩
      ·rw[C1I,C1I];omega
    | refine K0 (d:=0) ?_
      rw[A6m i k c m w b r cl t hc,C6t (by omega)];rfl
    | refine K0 (d:=1) ?_
      rw[A6m i k c m w b r cl t hc,D4z (i:=i) (by omega) (by omega) ‹_›];rfl
  ·cases hs
 ·cases hs
noncomputable def C4Z:List LpE:=(32,([true,false,true,false,true,true,true,true,true,false,false,true,false],O6 Tryz.prog gl n0 7 C8g B1w))::[]
theorem B52{G:Nat→Option Obj}(hst:A7 Tryz.prog G gl H0 n0):o7 Tryz.prog G gl C4Z:=.cons Tryz.func32 C8f C8d (D3v hst) .nil
theorem C7M(t:List UInt8):(0≤Lib.indexByte t 27)↔t.any isE=true:=by
 induction t with
 | nil=>simp[Lib.indexByte]
 | cons b l ih =>
   have h:=Lib.indexByte_ge l 27;rw[Lib.indexByte,u7];by_cases e:b=27
   ·subst e;simp[isE]
   ·have e1:(b == 27)=false:=by simp[e]
    have e2:isE b=false:=decide_eq_false e;rw[e1,e2,P8,← ih];by_cases e3:Lib.indexByte l 27 = -1
    ·simp[e3]
    ·simp[e3];omega
def X7(k c m w b r cl:Int)(t:List UInt8):Prop :=
 (k=1∧w=0∧b=0∧r=0∧cl=0∧t=[]∧W9 c m)∨(k=2∧c=0∧t=[]∧msP m w b r cl)∨(k=3∧c=0∧m=0∧w=0∧b=0∧r=0∧cl=0∧t.length≤1000∧t.any isE=false)∨(k=4∧c=0∧m=0∧b=0∧r=0∧cl=0∧t=[]∧0≤w∧w≤1)
instance(k c m w b r cl:Int)(t:List UInt8):Decidable (X7 k c m w b r cl t):=by unfold X7;infer_instance
noncomputable def D0v:List (FuncId×FnC):=(34,E7 Tryz.prog [.s 3,.s 3] S7 [.s 8])::(61,E7 Tryz.prog [.a [3,3,3,3,3,3,3,9]] A9y [.s 8])::L0
theorem C3u{G:Nat→Option Obj}(hst:A7 Tryz.prog G gl H0 n0):C5 Tryz.prog G gl D0v:=(.cons (B4d hst) (.cons (C1G hst) .nil))
def A5i:List U→Option (Nat×List U)
 | [.int .i64 k,.int .i64 c,.int .i64 m,.int .i64 w,.int .i64 b,.int .i64 r,.int .i64 cl,.str t]=>if -9223372036854775808≤m∧m≤9223372036854775807∧(t.length:Int)≤140737488351232 then some (0,[.bool (decide (X7 k c m w b r cl t))])else none
 | _=>none
theorem B7m(k:Int)(c:Int)(m:Int)(w:Int)(b:Int)(r:Int)(cl:Int)(t:(List UInt8))(hc : -9223372036854775808≤m∧m≤9223372036854775807∧(t.length:Int)≤140737488351232):A5i [.int .i64 k,.int .i64 c,.int .i64 m,.int .i64 w,.int .i64 b,.int .i64 r,.int .i64 cl,.str t]=some (0,[.bool (decide (X7 k c m w b r cl t))]):=if_pos hc
def C8Z:Tr:=aE [h3 0,jI 1]<|.br 8 (.lt 8 (.eqs) [h3 0,h3 0,h3 1,h3 1,h3 2,h3 2,h3 3,jI 0,h3 4,jI 0,h3 5,jI 0,h3 6,jI 0,h 7 9,.string ⟨⟨[]⟩⟩]<|.br 9 (.fn S7 [h3 1,h3 2] 1<|.ret [h 10 8]) (.ret [.bool false])) (aE [h3 0,jI 2]<|.br 9 (.lt 8 (.eqs) [h3 0,h3 0,h3 1,jI 0,h3 2,h3 2,h3 3,h3 3,h3 4,h3 4,h3 5,h3 5,h3 6,h3 6,h 7 9,.string ⟨⟨[]⟩⟩]<|.br 10 (.fn A9y [h3 0,h3 1,h3 2,h3 3,h3 4,h3 5,h3 6,h 7 9] 1<|.ret [h 11 8]) (.ret [.bool false])) (aE [h3 0,jI 3]<|.br 10 (.lp B1w [jI 0,h3 0,h3 1,h3 2,h3 3,h3 4,h3 5,h3 6,h 7 9] 0 8 (.lt 8 (.eqs) [h3 11,h3 11,h3 12,jI 0,h3 13,jI 0,h3 14,jI 0,h3 15,jI 0,h3 16,jI 0,h3 17,jI 0,h 18 9,h 18 9]<|.br 19 (aD [h 18 9]<|aQ [h3 20,jI 1000]<|.ret [h 21 8]) (.ret [.bool false])) (.lp B1w [jI 0,h3 0,h3 1,h3 2,h3 3,h3 4,h3 5,h3 6,h 7 9] 1 0 (.ret [.bool false]) (.no))) (aE [h3 0,jI 4]<|.br 11 (.lt 8 (.eqs) [h3 0,h3 0,h3 1,jI 0,h3 2,jI 0,h3 3,h3 3,h3 4,jI 0,h3 5,jI 0,h3 6,jI 0,h 7 9,.string ⟨⟨[]⟩⟩]<|.br 12 (aH [h3 3,jI 0]<|.br 13 (aQ [h3 3,jI 1]<|.ret [h 14 8]) (.ret [.bool false])) (.ret [.bool false])) (.ret [.bool false]))))
theorem B7n{G:Nat→Option Obj}(hst:A7 Tryz.prog G gl H0 n0):H8 Tryz.prog G 32 [.a [3,3,3,3,3,3,3,9]] A5i [.s 8]:=by
 refine C6 (C:=cx D0v C4Z) (d:=60) C8Z (cxg (C3u hst) (B52 hst)) hst ⟨Tryz.f32,_,Tryz.func32,rfl⟩ (by kernel_rfl) (by kernel_rfl) ?_;intro us outs hs;unfold A5i at hs;split at hs
 ·skip;rename_i k c m w b r cl t;split at hs
  ·rename_i hc;cases hs;unfold C8Z;refine s0 (.cons 7 _ (.cons 6 _ (.cons 5 _ (.cons 4 _ (.cons 3 _ (.cons 2 _ (.cons 1 _ (.cons 0 _ (.nil))))))))) rfl (by simp[Ev.ok,Ev.len]) ?_;refine s1 (G5 _ _ _) rfl rfl rfl ?_;refine s4 rfl (fun g0=>?_) fun g0=>?_
   ·refine s1 rfl rfl rfl rfl ?_;first|refine s5 rfl (fun g1=>?_) (fun g1=>?_)|refine s5B rfl (fun g1=>?_) (fun g1=>?_)
    ·refine s7 [.bool _] rfl ?_;refine l1 ?_;unfold X7
     (try replace g3:=A0V g3)
     (try replace g3:=A0W g3)
     first|(simp_all;done)|(simp_all;omega)
    refine s31 (N1 _ _ (by omega)) rfl ?_;refine s7 [.bool _] rfl ?_;refine l1 ?_;unfold X7
    (try replace g3:=A0V g3)
    (try replace g3:=A0W g3)
    first|(simp_all;done)|(simp_all;omega)
   refine s1 (G5 _ _ _) rfl rfl rfl ?_;refine s4 rfl (fun g1=>?_) fun g1=>?_
   ·refine s1 rfl rfl rfl rfl ?_;first|refine s5 rfl (fun g2=>?_) (fun g2=>?_)|refine s5B rfl (fun g2=>?_) (fun g2=>?_)
    ·refine s7 [.bool _] rfl ?_;refine l1 ?_;unfold X7
     (try replace g3:=A0V g3)
     (try replace g3:=A0W g3)
     first|(simp_all;done)|(simp_all;omega)
    refine s31 (C50 _ _ _ _ _ _ _ _) rfl ?_;refine s7 [.bool _] rfl ?_;refine l1 ?_;unfold X7
    (try replace g3:=A0V g3)
    (try replace g3:=A0W g3)
    first|(simp_all;done)|(simp_all;omega)
   refine s1 (G5 _ _ _) rfl rfl rfl ?_;refine s4 rfl (fun g2=>?_) fun g2=>?_
   ·refine s6 (A6m _ _ _ _ _ _ _ _ _ (by omega)) rfl (fun _=>rfl) (fun g3=>?_) (fun v3 g3=>?_)
    ·show Tr.sav _ _ (.cons 18 _ (.cons 17 _ (.cons 16 _ (.cons 15 _ (.cons 14 _ (.cons 13 _ (.cons 12 _ (.cons 11 _ _))))))));refine s1 rfl rfl rfl rfl ?_;first|refine s5 rfl (fun g4=>?_) (fun g4=>?_)|refine s5B rfl (fun g4=>?_) (fun g4=>?_)
     ·refine s7 [.bool _] rfl ?_;refine l1 ?_;unfold X7
      (try replace g3:=A0V g3)
      (try replace g3:=A0W g3)
      first|(simp_all;done)|(simp_all;omega)
     refine s1 (B3l _) rfl rfl rfl ?_;refine s1 (A3e _ _ _) rfl rfl rfl ?_;refine s7 [.bool _] rfl ?_;refine l1 ?_;unfold X7
     (try replace g3:=A0V g3)
     (try replace g3:=A0W g3)
     first|(simp_all;done)|(simp_all;omega)
    show Tr.sav _ _ _;refine s7 [.bool _] rfl ?_;refine l1 ?_;unfold X7
    (try replace g3:=A0V g3)
    (try replace g3:=A0W g3)
    first|(simp_all;done)|(simp_all;omega)
   refine s1 (G5 _ _ _) rfl rfl rfl ?_;refine s5 rfl (fun g3=>?_) fun g3=>?_
   ·refine s7 [.bool _] rfl ?_;refine l1 ?_;unfold X7
    (try replace g3:=A0V g3)
    (try replace g3:=A0W g3)
    first|(simp_all;done)|(simp_all;omega)
   refine s1 rfl rfl rfl rfl ?_;first|refine s5 rfl (fun g4=>?_) (fun g4=>?_)|refine s5B rfl (fun g4=>?_) (fun g4=>?_)
   ·refine s7 [.bool _] rfl ?_;refine l1 ?_;unfold X7
    (try replace g3:=A0V g3)
    (try replace g3:=A0W g3)
    first|(simp_all;done)|(simp_all;omega)
   refine s1 (i7 _ _ _) rfl rfl rfl ?_;refine s5 rfl (fun g5=>?_) fun g5=>?_
   ·refine s7 [.bool _] rfl ?_;refine l1 ?_;unfold X7
    (try replace g3:=A0V g3)
    (try replace g3:=A0W g3)
    first|(simp_all;done)|(simp_all;omega)
   refine s1 (A3e _ _ _) rfl rfl rfl ?_;refine s7 [.bool _] rfl ?_;refine l1 ?_;unfold X7
   (try replace g3:=A0V g3)
   (try replace g3:=A0W g3)
   first|(simp_all;done)|(simp_all;omega)
  ·cases hs
 ·cases hs
noncomputable def D1t:List (FuncId×FnC):=(32,E7 Tryz.prog [.a [3,3,3,3,3,3,3,9]] A5i [.s 8])::D2J
theorem C4y{G:Nat→Option Obj}(hst:A7 Tryz.prog G gl H0 n0):C5 Tryz.prog G gl D1t:=.cons (B7n hst) (C5P hst)
noncomputable def D01:List (FuncId×FnC):=(32,E7 Tryz.prog [.a [3,3,3,3,3,3,3,9]] A5i [.s 8])::L0
theorem C30{G:Nat→Option Obj}(hst:A7 Tryz.prog G gl H0 n0):C5 Tryz.prog G gl D01:=(.cons (B7n hst) .nil)
def A91:List U→Option (Nat×List U)
 | [.int .i64 k,.int .i64 c,.int .i64 m,.int .i64 w,.int .i64 b,.int .i64 r,.int .i64 cl,.str t]=>if -9223372036854775808≤m∧m≤9223372036854775807∧(t.length:Int)≤140737488351232 then some (0,[.int .i64 (if X7 k c m w b r cl t then 0 else 430)])else none
 | _=>none
theorem C58(k:Int)(c:Int)(m:Int)(w:Int)(b:Int)(r:Int)(cl:Int)(t:(List UInt8))(hc : -9223372036854775808≤m∧m≤9223372036854775807∧(t.length:Int)≤140737488351232):A91 [.int .i64 k,.int .i64 c,.int .i64 m,.int .i64 w,.int .i64 b,.int .i64 r,.int .i64 cl,.str t]=some (0,[.int .i64 (if X7 k c m w b r cl t then 0 else 430)]):=if_pos hc
def C8m:Tr:=.fn A5i [h3 0,h3 1,h3 2,h3 3,h3 4,h3 5,h3 6,h 7 9] 1<|aX [h 8 8]<|.br 9 (.ret [jI 430]) (.ret [jI 0])
theorem C8n{G:Nat→Option Obj}(hst:A7 Tryz.prog G gl H0 n0):H8 Tryz.prog G 14 [.a [3,3,3,3,3,3,3,9]] A91 [.s 3]:=by
 refine C6 (C:=cx D01 C4Z) (d:=60) C8m (cxg (C30 hst) (B52 hst)) hst ⟨Tryz.f14,_,Tryz.func14,rfl⟩ (by kernel_rfl) (by kernel_rfl) ?_;intro us outs hs;unfold A91 at hs;split at hs
 ·skip;rename_i k c m w b r cl t;split at hs
  ·rename_i hc;cases hs;unfold C8m;refine w0 (.cons 7 _ (.cons 6 _ (.cons 5 _ (.cons 4 _ (.cons 3 _ (.cons 2 _ (.cons 1 _ (.cons 0 _ (.nil))))))))) ?_;repeat (first|refine A1S ?_|refine B21 ?_|refine w4 (fun g=>?_) fun g=>?_|refine w4B (fun g=>?_) fun g=>?_|(refine w7 [.int .i64 _] ?_;rotate_left)|refine w31 A5i (e:=B7m _ _ _ _ _ _ _ _ hc) (k':=?_))
   all_goals
    refine l0 ?_;first|(rw[if_pos (of_decide_eq_true ‹_›)];done)|(rw[if_neg (of_decide_eq_false ‹_›)];done)|(simp_all;done)
  ·cases hs
 ·cases hs
noncomputable def D1z:List (FuncId×FnC):=(14,E7 Tryz.prog [.a [3,3,3,3,3,3,3,9]] A91 [.s 3])::D1t
theorem C44{G:Nat→Option Obj}(hst:A7 Tryz.prog G gl H0 n0):C5 Tryz.prog G gl D1z:=.cons (C8n hst) (C4y hst)
theorem B3k{a b c:Int}(h0:0≤b)(h1:b<c)(h2:(a=128∧c=64)∨(a=192∧c=32)∨(a=224∧c=16)∨(a=240∧c=8)):evU (.bin .or) [.int .u8 a,.int .u8 b]=.int .u8 (a+b):=by
 rw[A4o];have k1:∀ n:Nat,n<64→IntKind.u8.wrap (BitVec.ofInt IntKind.u8.bits 128 ||| BitVec.ofInt IntKind.u8.bits (n:Int)).toNat=128+(n:Int):=by decide
 have k2:∀ n:Nat,n<32→IntKind.u8.wrap (BitVec.ofInt IntKind.u8.bits 192 ||| BitVec.ofInt IntKind.u8.bits (n:Int)).toNat=192+(n:Int):=by decide
 have k3:∀ n:Nat,n<16→IntKind.u8.wrap (BitVec.ofInt IntKind.u8.bits 224 ||| BitVec.ofInt IntKind.u8.bits (n:Int)).toNat=224+(n:Int):=by decide
 have k4:∀ n:Nat,n<8→IntKind.u8.wrap (BitVec.ofInt IntKind.u8.bits 240 ||| BitVec.ofInt IntKind.u8.bits (n:Int)).toNat=240+(n:Int):=by decide
 obtain⟨n,rfl⟩:∃ n:Nat,b=n:=⟨b.toNat,by omega⟩;congr 1
 rcases h2 with⟨rfl,rfl⟩|⟨rfl,rfl⟩|⟨rfl,rfl⟩|⟨rfl,rfl⟩
 ·exact k1 n (by omega)
 ·exact k2 n (by omega)
 ·exact k3 n (by omega)
 ·exact k4 n (by omega)
theorem B5e{j:IntKind}(a:Int):evU (.conv .u8) [.int j a]=.int .u8 (a%256):=by
 rw[G4];congr 1
def D2j(c:Int):Int:=if okU c then c else 65533
def B3E(c:Int):List Int:=if c<128 then[c]else if c<2048 then[192+c / 64,128+c%64]else if c<65536 then[224+c / 4096,128+c / 64%64,128+c%64]else[240+c / 262144,128+c / 4096%64,128+c / 64%64,128+c%64]
def B3D(c:Int):List UInt8:=iB (B3E (D2j c))
theorem A1T{c:Int}(h:okU c):D2j c=c:=if_pos h
theorem B7u{c:Int}(h:¬okU c):D2j c=65533:=if_neg h
theorem B7z{c:Int}(h:c<128):B3E c=[c]:=if_pos h
theorem B7y{c:Int}(h:¬c<128)(h2:c<2048):B3E c=[192+c / 64,128+c%64]:=by unfold B3E;rw[if_neg h,if_pos h2]
theorem B7x{c:Int}(h:¬c<128)(h2:¬c<2048)(h3:c<65536):B3E c=[224+c / 4096,128+c / 64%64,128+c%64]:=by unfold B3E;rw[if_neg h,if_neg h2,if_pos h3]
theorem B7w{c:Int}(h:¬c<128)(h2:¬c<2048)(h3:¬c<65536):B3E c=[240+c / 262144,128+c / 4096%64,128+c / 64%64,128+c%64]:=by unfold B3E;rw[if_neg h,if_neg h2,if_neg h3]
noncomputable def D04:List (FuncId×FnC):=L0
theorem C33{G:Nat→Option Obj}(hst:A7 Tryz.prog G gl H0 n0):C5 Tryz.prog G gl D04:=.nil
def A2Z:List U→Option (Nat×List U)
 | [.int .i64 c]=>some (0,[.str (B3D c)])
 | _=>none
theorem C59(c:Int):A2Z [.int .i64 c]=some (0,[.str (B3D c)]):=rfl
def C8q:Tr:=aH [h3 0,jI 0]<|.br 1 (aQ [h3 0,jI 1114111]<|.br 2 (.lt 3 (.bin .shr) [h3 0,.int .u64 (11)]<|aN [h3 3,jI 27]<|aX [h 4 8]<|.br 5 (.ret [.string ⟨⟨[239,191,189]⟩⟩]) (aL [h3 0,jI 128]<|.br 6 (.lt 4 (.conv .u8) [h3 0]<|.lt 9 (.mks) [h 7 4]<|.ret [h 8 9]) (aL [h3 0,jI 2048]<|.br 7 (.lt 3 (.bin .shr) [h3 0,.int .u64 (6)]<|.lt 4 (.conv .u8) [h3 8]<|.lt 4 (.bin .or) [.int .u8 (192),h 9 4]<|.lt 3 (.bin .shr) [h3 0,jI 0]<|.lt 4 (.conv .u8) [h3 11]<|.lt 4 (.bin .and) [h 12 4,.int .u8 (63)]<|.lt 4 (.bin .or) [.int .u8 (128),h 13 4]<|.lt 9 (.mks) [h 10 4,h 14 4]<|.ret [h 15 9]) (aL [h3 0,jI 65536]<|.br 8 (.lt 3 (.bin .shr) [h3 0,.int .u64 (12)]<|.lt 4 (.conv .u8) [h3 9]<|.lt 4 (.bin .or) [.int .u8 (224),h 10 4]<|.lt 3 (.bin .shr) [h3 0,jI 6]<|.lt 4 (.conv .u8) [h3 12]<|.lt 4 (.bin .and) [h 13 4,.int .u8 (63)]<|.lt 4 (.bin .or) [.int .u8 (128),h 14 4]<|.lt 3 (.bin .shr) [h3 0,jI 0]<|.lt 4 (.conv .u8) [h3 16]<|.lt 4 (.bin .and) [h 17 4,.int .u8 (63)]<|.lt 4 (.bin .or) [.int .u8 (128),h 18 4]<|.lt 9 (.mks) [h 11 4,h 15 4,h 19 4]<|.ret [h 20 9]) (.lt 3 (.bin .shr) [h3 0,.int .u64 (18)]<|.lt 4 (.conv .u8) [h3 9]<|.lt 4 (.bin .or) [.int .u8 (240),h 10 4]<|.lt 3 (.bin .shr) [h3 0,jI 12]<|.lt 4 (.conv .u8) [h3 12]<|.lt 4 (.bin .and) [h 13 4,.int .u8 (63)]<|.lt 4 (.bin .or) [.int .u8 (128),h 14 4]<|.lt 3 (.bin .shr) [h3 0,jI 6]<|.lt 4 (.conv .u8) [h3 16]<|.lt 4 (.bin .and) [h 17 4,.int .u8 (63)]<|.lt 4 (.bin .or) [.int .u8 (128),h 18 4]<|.lt 3 (.bin .shr) [h3 0,jI 0]<|.lt 4 (.conv .u8) [h3 20]<|.lt 4 (.bin .and) [h 21 4,.int .u8 (63)]<|.lt 4 (.bin .or) [.int .u8 (128),h 22 4]<|.lt 9 (.mks) [h 11 4,h 15 4,h 19 4,h 23 4]<|.ret [h 24 9]))))) (.ret [.string ⟨⟨[239,191,189]⟩⟩])) (.ret [.string ⟨⟨[239,191,189]⟩⟩])
theorem C8r{G:Nat→Option Obj}(hst:A7 Tryz.prog G gl H0 n0):H8 Tryz.prog G 77 [.s 3] A2Z [.s 9]:=by
 refine C6 (C:=cx D04 []) (d:=60) C8q (cxg (C33 hst) .nil) hst ⟨Tryz.f77,_,Tryz.func77,rfl⟩ (by kernel_rfl) (by kernel_rfl) ?_;intro us outs hs;unfold A2Z at hs;split at hs
 ·skip;rename_i c;cases hs;unfold C8q;refine w0 (.cons 0 _ (.nil)) ?_;repeat (first|refine A78 ?_|refine w1 (.conv .u8) (e:=B5e _) (k':=?_)|(refine w7 [.str _] ?_;rotate_left)|refine w4 (fun g=>?_) fun g=>?_|refine w1 (.bin .and) (e:=w5 6 64 (by decide) (by decide) (by decide)) (k':=?_)|refine w1 (.bin .or) (e:=B3k (c:=64) (by omega) (by omega) (by decide)) (k':=?_)|refine A37 ?_|refine w1 (.bin .shr) (e:=A2g 64 (by decide) (by decide)) (k':=?_)|refine w1 (.bin .shr) (e:=A2g 1 (by decide) (by decide)) (k':=?_)|refine w1 (.bin .shr) (e:=A2g 4096 (by decide) (by decide)) (k':=?_)|refine A4D ?_|refine A5b ?_|refine w1 (.bin .shr) (e:=A2g 2048 (by decide) (by decide)) (k':=?_)|refine A9W ?_|refine A1S ?_|refine w1 (.mks) (e:=i6 [_] (by simp only[B2,F9,or_false,forall_eq_or_imp,forall_eq];omega)) (k':=?_)|refine w1 (.bin .or) (e:=B3k (c:=32) (by omega) (by omega) (by decide)) (k':=?_)|refine w1 (.mks) (e:=i6 [_,_] (by simp only[B2,F9,or_false,forall_eq_or_imp,forall_eq];omega)) (k':=?_)|refine w1 (.bin .or) (e:=B3k (c:=16) (by omega) (by omega) (by decide)) (k':=?_)|refine w1 (.mks) (e:=i6 [_,_,_] (by simp only[B2,F9,or_false,forall_eq_or_imp,forall_eq];omega)) (k':=?_)|refine w1 (.bin .shr) (e:=A2g 262144 (by decide) (by decide)) (k':=?_)|refine w1 (.bin .or) (e:=B3k (c:=8) (by omega) (by omega) (by decide)) (k':=?_)|refine w1 (.mks) (e:=i6 [_,_,_,_] (by simp only[B2,F9,or_false,forall_eq_or_imp,forall_eq];omega)) (k':=?_))
  all_goals
   refine congrArg (fun z=>[U.str z]) ?_;symm;unfold B3D;first|(rw[A1T (by unfold okU;omega),B7z (by omega)];done)|(rw[A1T (by unfold okU;omega),B7z (by omega)];refine congrArg iB ?_;simp only[F7,and_true,true_and];omega)|(rw[A1T (by unfold okU;omega),B7y (by omega) (by omega)];done)|(rw[A1T (by unfold okU;omega),B7y (by omega) (by omega)];refine congrArg iB ?_;simp only[F7,and_true,true_and];omega)|(rw[A1T (by unfold okU;omega),B7x (by omega) (by omega) (by omega)];done)|(rw[A1T (by unfold okU;omega),B7x (by omega) (by omega) (by omega)];refine congrArg iB ?_;simp only[F7,and_true,true_and];omega)|(rw[A1T (by unfold okU;omega),B7w (by omega) (by omega) (by omega)];done)|(rw[A1T (by unfold okU;omega),B7w (by omega) (by omega) (by omega)];refine congrArg iB ?_;simp only[F7,and_true,true_and];omega)|(rw[B7u (by unfold okU;omega)];rfl)|(rw[B7u (by unfold okU;omega)];decide)
 ·cases hs
noncomputable def D12:List (FuncId×FnC):=(77,E7 Tryz.prog [.s 3] A2Z [.s 9])::D1z
theorem C47{G:Nat→Option Obj}(hst:A7 Tryz.prog G gl H0 n0):C5 Tryz.prog G gl D12:=.cons (C8r hst) (C44 hst)
noncomputable def C3n:List (FuncId×FnC):=L0
theorem B95{G:Nat→Option Obj}(hst:A7 Tryz.prog G gl H0 n0):C5 Tryz.prog G gl C3n:=.nil
def A5w:List U→Option (Nat×List U)
 | [.int .i64 c]=>some (0,[.str (B3D c)])
 | _=>none
theorem C1A(c:Int):A5w [.int .i64 c]=some (0,[.str (B3D c)]):=rfl
def C0_:Tr:=aH [h3 0,jI 0]<|.br 1 (aQ [h3 0,jI 1114111]<|.br 2 (aL [h3 0,jI 55296]<|.br 3 (aL [h3 0,jI 128]<|.br 4 (.lt 4 (.conv .u8) [h3 0]<|.lt 9 (.mks) [h 5 4]<|.ret [h 6 9]) (aL [h3 0,jI 2048]<|.br 5 (.lt 3 (.bin .rem) [h3 0,jI 64]<|aA [jI 128,h3 6]<|.lt 4 (.conv .u8) [h3 7]<|.lt 3 (.bin .quo) [h3 0,jI 64]<|aA [jI 192,h3 9]<|.lt 4 (.conv .u8) [h3 10]<|.lt 9 (.mks) [h 11 4,h 8 4]<|.ret [h 12 9]) (aL [h3 0,jI 65536]<|.br 6 (.lt 3 (.bin .rem) [h3 0,jI 64]<|aA [jI 128,h3 7]<|.lt 4 (.conv .u8) [h3 8]<|.lt 3 (.bin .quo) [h3 0,jI 64]<|.lt 3 (.bin .rem) [h3 10,jI 64]<|aA [jI 128,h3 11]<|.lt 4 (.conv .u8) [h3 12]<|.lt 3 (.bin .quo) [h3 10,jI 64]<|aA [jI 224,h3 14]<|.lt 4 (.conv .u8) [h3 15]<|.lt 9 (.mks) [h 16 4,h 13 4,h 9 4]<|.ret [h 17 9]) (.lt 3 (.bin .rem) [h3 0,jI 64]<|aA [jI 128,h3 7]<|.lt 4 (.conv .u8) [h3 8]<|.lt 3 (.bin .quo) [h3 0,jI 64]<|.lt 3 (.bin .rem) [h3 10,jI 64]<|aA [jI 128,h3 11]<|.lt 4 (.conv .u8) [h3 12]<|.lt 3 (.bin .quo) [h3 10,jI 64]<|.lt 3 (.bin .rem) [h3 14,jI 64]<|aA [jI 128,h3 15]<|.lt 4 (.conv .u8) [h3 16]<|.lt 3 (.bin .quo) [h3 14,jI 64]<|aA [jI 240,h3 18]<|.lt 4 (.conv .u8) [h3 19]<|.lt 9 (.mks) [h 20 4,h 17 4,h 13 4,h 9 4]<|.ret [h 21 9])))) (aG [h3 0,jI 57343]<|aX [h 4 8]<|.br 5 (.ret [.string ⟨⟨[239,191,189]⟩⟩]) (aL [h3 0,jI 128]<|.br 6 (.lt 4 (.conv .u8) [h3 0]<|.lt 9 (.mks) [h 7 4]<|.ret [h 8 9]) (aL [h3 0,jI 2048]<|.br 7 (.lt 3 (.bin .rem) [h3 0,jI 64]<|aA [jI 128,h3 8]<|.lt 4 (.conv .u8) [h3 9]<|.lt 3 (.bin .quo) [h3 0,jI 64]<|aA [jI 192,h3 11]<|.lt 4 (.conv .u8) [h3 12]<|.lt 9 (.mks) [h 13 4,h 10 4]<|.ret [h 14 9]) (aL [h3 0,jI 65536]<|.br 8 (.lt 3 (.bin .rem) [h3 0,jI 64]<|aA [jI 128,h3 9]<|.lt 4 (.conv .u8) [h3 10]<|.lt 3 (.bin .quo) [h3 0,jI 64]<|.lt 3 (.bin .rem) [h3 12,jI 64]<|aA [jI 128,h3 13]<|.lt 4 (.conv .u8) [h3 14]<|.lt 3 (.bin .quo) [h3 12,jI 64]<|aA [jI 224,h3 16]<|.lt 4 (.conv .u8) [h3 17]<|.lt 9 (.mks) [h 18 4,h 15 4,h 11 4]<|.ret [h 19 9]) (.lt 3 (.bin .rem) [h3 0,jI 64]<|aA [jI 128,h3 9]<|.lt 4 (.conv .u8) [h3 10]<|.lt 3 (.bin .quo) [h3 0,jI 64]<|.lt 3 (.bin .rem) [h3 12,jI 64]<|aA [jI 128,h3 13]<|.lt 4 (.conv .u8) [h3 14]<|.lt 3 (.bin .quo) [h3 12,jI 64]<|.lt 3 (.bin .rem) [h3 16,jI 64]<|aA [jI 128,h3 17]<|.lt 4 (.conv .u8) [h3 18]<|.lt 3 (.bin .quo) [h3 16,jI 64]<|aA [jI 240,h3 20]<|.lt 4 (.conv .u8) [h3 21]<|.lt 9 (.mks) [h 22 4,h 19 4,h 15 4,h 11 4]<|.ret [h 23 9])))))) (.ret [.string ⟨⟨[239,191,189]⟩⟩])) (.ret [.string ⟨⟨[239,191,189]⟩⟩])
theorem C1B{G:Nat→Option Obj}(hst:A7 Tryz.prog G gl H0 n0):H8 Tryz.prog G 93 [.s 3] A5w [.s 9]:=by
 refine C6 (C:=cx C3n []) (d:=60) C0_ (cxg (B95 hst) .nil) hst ⟨Tryz.f93,_,Tryz.func93,rfl⟩ (by kernel_rfl) (by kernel_rfl) ?_;intro us outs hs;unfold A5w at hs;split at hs
 ·skip;rename_i c;cases hs;unfold C0_;refine w0 (.cons 0 _ (.nil)) ?_;repeat (first|refine A78 ?_|refine w1 (.conv .u8) (e:=B5e _) (k':=?_)|refine A9b ?_|refine A4F ?_|refine D5Z ?_|refine w1 (.bin .rem) (e:=P5 _ _ _ (by omega)) (k':=?_)|refine D3a ?_|refine w1 (.bin .quo) (e:=A4n _ _ _ (by omega)) (k':=?_)|(refine w7 [.str _] ?_;rotate_left)|refine w4 (fun g=>?_) fun g=>?_|refine A37 ?_|refine w1 (.mks) (e:=i6 [_] (by simp only[B2,F9,or_false,forall_eq_or_imp,forall_eq];omega)) (k':=?_)|refine w1 (.mks) (e:=i6 [_,_] (by simp only[B2,F9,or_false,forall_eq_or_imp,forall_eq];omega)) (k':=?_)|refine w1 (.mks) (e:=i6 [_,_,_] (by simp only[B2,F9,or_false,forall_eq_or_imp,forall_eq];omega)) (k':=?_)|refine w1 (.mks) (e:=i6 [_,_,_,_] (by simp only[B2,F9,or_false,forall_eq_or_imp,forall_eq];omega)) (k':=?_)|refine A4D ?_|refine A5b ?_|refine A9Y ?_|refine A1S ?_)
  all_goals
   refine congrArg (fun z=>[U.str z]) ?_;symm;unfold B3D;first|(rw[A1T (by unfold okU;omega),B7z (by omega)];done)|(rw[A1T (by unfold okU;omega),B7z (by omega)];refine congrArg iB ?_;simp only[F7,and_true,true_and];omega)|(rw[A1T (by unfold okU;omega),B7y (by omega) (by omega)];done)|(rw[A1T (by unfold okU;omega),B7y (by omega) (by omega)];refine congrArg iB ?_;simp only[F7,and_true,true_and];omega)|(rw[A1T (by unfold okU;omega),B7x (by omega) (by omega) (by omega)];done)|(rw[A1T (by unfold okU;omega),B7x (by omega) (by omega) (by omega)];refine congrArg iB ?_;simp only[F7,and_true,true_and];omega)|(rw[A1T (by unfold okU;omega),B7w (by omega) (by omega) (by omega)];done)|(rw[A1T (by unfold okU;omega),B7w (by omega) (by omega) (by omega)];refine congrArg iB ?_;simp only[F7,and_true,true_and];omega)|(rw[B7u (by unfold okU;omega)];rfl)|(rw[B7u (by unfold okU;omega)];decide)
 ·cases hs
noncomputable def C4s:List (FuncId×FnC):=(93,E7 Tryz.prog [.s 3] A5w [.s 9])::D12
theorem B96{G:Nat→Option Obj}(hst:A7 Tryz.prog G gl H0 n0):C5 Tryz.prog G gl C4s:=.cons (C1B hst) (C47 hst)
end Go.Proofs.YtdimocjaepnifaaGreatDoor
