/- The law KeysPastes: for every input the call returns true, and the arguments read behind it as they read before. No condition. -/
import Derived.Test.YtdimocjaepnifaaGreatDoorX9
import Derived.Shelf.Strings.Builder1
import Derived.Shelf.Strings.Builder2
import Derived.Shelf.Small.Wraps
import Derived.Shelf.Strconv.Itoa0
import Derived.Shelf.Strconv.Itoa1
import Derived.Shelf.LaysM
import Derived.Shelf.Strconv.Itoa2
import Derived.Shelf.Strconv.Itoa3
import Derived.Shelf.Strings.Search1
import Derived.Shelf.Strings.Search2
import Derived.Shelf.Strings.Search3
import Derived.Shelf.Strings.Count
import Derived.Shelf.Strings.Shaped
import Derived.Shelf.Strings.Prefix
import Derived.Shelf.Strings.Split
import Derived.Shelf.Strings.Replace
import Derived.Shelf.Strings.SplitShaped
import Derived.Shelf.Bits.Mul64
import Derived.Shelf.Unicode.DecodeSlow
import Derived.Test.YtdimocjaepnifaaGreatDoorProg
import Derived.Shelf.Strings.BuilderF
import Derived.Shelf.Strings.BuilderK
import Derived.Shelf.Utf8.RuneCount
import Derived.Shelf.Strings.Builder2Cap
import Derived.Shelf.Unicode.Decode
import Derived.Shelf.Strings.RuneCount
import Derived.Shelf.Strings.Repeat
import Derived.Shelf.Unicode.DecodeAny
import Derived.Shelf.Strings.BuilderCap
import Derived.Shelf.Slices.Turned
import Derived.Shelf.Bytes.SlSearch0
import Derived.Shelf.Bytes.SlSmallAll
import Derived.Shelf.Bytes.SlEqualAll
import Derived.Shelf.Bytes.Small
namespace Go.Sx
set_option linter.all false
open Go
set_option linter.unusedVariables false
set_option autoImplicit false
def Ev.appN:Nat→List U→Ev→Ev
 | _,[],E=>E
 | n,u::l,E=>Ev.appN (Nat.succ n) l (.cons n u E)
theorem Ev.appN_eq{l:List U}:∀ {E:Ev} {n:Nat},E.len=n→Ev.appN n l E=Ev.app l E:=by
 induction l with
 | nil=>intro E n h;rfl
 | cons u l ih=>intro E n h;subst h;exact ih rfl
structure Wk (L:List U→Prop) (t:Tr) (E:Ev):Prop where
 s:t.sav L E
section
variable {L:List U→Prop} {E:Ev} {k:Tr} {n t:Nat} {xs:List Value}
theorem w0{us:List U}{t:Tr}(E:Ev)(h:Wk L t E)(he:us=E.toL:=by exact rfl)(ho:E.ok:=by simp[Ev.ok,Ev.len]):t.sat L us:=by subst he;exact h.s ho
theorem w1(op:LOp){us:List U}{u:U}(hx:xs.map (D2 E.get)=us:=by exact rfl)(e:evU op us=u)(k':Wk L k (.cons n u E))(ht:F1 u=t:=by exact rfl)(h10:Nat.blt t 10=true:=by exact rfl)(hn:E.len=n:=by first|exact Eq.trans (b:=Nat.succ _) rfl rfl|exact rfl):Wk L (Tr.lt t op xs k) E :=
 ⟨s1 (by rw[hx];exact e) h10 ht hn k'.s⟩
theorem w1x(op:LOp){u:U}(e:evU op (xs.map (D2 E.get))=u)(k':Wk L k (.cons n u E))(ht:F1 u=t:=by exact rfl)(h10:Nat.blt t 10=true:=by exact rfl)(hn:E.len=n:=by first|exact Eq.trans (b:=Nat.succ _) rfl rfl|exact rfl):Wk L (Tr.lt t op xs k) E :=
 ⟨s1 e h10 ht hn k'.s⟩
theorem wr{op:LOp}{us:List U}{u:U}(hk:Wk L k (.cons n u E))(hx:xs.map (D2 E.get)=us)(he:evU op us=u)(ht:F1 u=t)(h10:Nat.blt (F1 u) 10=true)(hn:E.len=n):Wk L (Tr.lt t op xs k) E :=
 w1 op hx he hk ht (by rw[← ht];exact h10) hn
theorem A8i(q:IntKind)(a:Int):Nat.blt (F1 (.int q a)) 10=true:=by cases q<;>rfl
theorem w2(op:LOp){us:List U}{α:Type}{r:Rw α}{x:Option (List α)}(hx:xs.map (D2 E.get)=us:=by exact rfl)(e:evU op us=A8 r x)(k':Wk L k (.cons n (A8 r x) E))(ht:10+r.w=t:=by exact rfl)(hn:E.len=n:=by first|exact Eq.trans (b:=Nat.succ _) rfl rfl|exact rfl):Wk L (Tr.dt t op xs k) E :=
 ⟨s2 (by rw[hx];exact e) ht hn k'.s⟩
theorem w3(spec:A0L){m:Nat}{outs:List U}{us:List U}(hx:xs.map (D2 E.get)=us:=by exact rfl)(e:spec us=some (0,outs))(hn:E.len=n:=by first|exact Eq.trans (b:=Nat.succ _) rfl rfl|exact rfl)(k':Wk L k (Ev.appN n outs E))(hm:outs.length=m:=by exact rfl):Wk L (Tr.fn spec xs m k) E:=⟨s3 (by rw[hx];exact e) hm (by rw[← Ev.appN_eq hn];exact k'.s)⟩
theorem w31(spec:A0L){a:U}{us:List U}(hx:xs.map (D2 E.get)=us:=by exact rfl)(e:spec us=some (0,[a]))(k':Wk L k (.cons n a E))(hn:E.len=n:=by first|exact Eq.trans (b:=Nat.succ _) rfl rfl|exact rfl):Wk L (Tr.fn spec xs 1 k) E:=⟨s31 (by rw[hx];exact e) hn k'.s⟩
theorem w32(spec:A0L){a b:U}{n2:Nat}{us:List U}(hx:xs.map (D2 E.get)=us:=by exact rfl)(e:spec us=some (0,[a,b]))(k':Wk L k (.cons n2 b (.cons n a E)))(hn:E.len=n:=by first|exact Eq.trans (b:=Nat.succ _) rfl rfl|exact rfl)(h2:Nat.succ n=n2:=by exact rfl):Wk L (Tr.fn spec xs 2 k) E:=⟨s32 (by rw[hx];exact e) hn h2 k'.s⟩
theorem w4{i:Nat}{a b:Tr}{p:Prop}{dp:Decidable p}(ha:p→Wk L a E)(hb:¬p→Wk L b E)(he:E.get i=.bool (decide p):=by exact rfl):Wk L (Tr.br i a b) E:=⟨s4 he (fun h=>(ha h).s) fun h=>(hb h).s⟩
theorem w4B{i:Nat}{a b:Tr}{c:Bool}(ha:c=true→Wk L a E)(hb:c=false→Wk L b E)(he:E.get i=.bool c:=by exact rfl):Wk L (Tr.br i a b) E:=⟨s4B he (fun h=>(ha h).s) fun h=>(hb h).s⟩
theorem w5{i:Nat}{a b:Tr}{p:Prop}{dp:Decidable p}(hb:¬p→Wk L b E)(ha:p→Wk L a E)(he:E.get i=.bool (decide p):=by exact rfl):Wk L (Tr.br i a b) E:=w4 ha hb he
theorem w5B{i:Nat}{a b:Tr}{c:Bool}(hb:c=false→Wk L b E)(ha:c=true→Wk L a E)(he:E.get i=.bool c:=by exact rfl):Wk L (Tr.br i a b) E:=w4B ha hb he
theorem w6(spec:A0L){n0 n1:Nat}{k0 k1:Tr}{β:Type}{o:Option β}{f0:List U}{f1:β→List U}(he:spec (xs.map (D2 E.get))=A2Z o f0 f1)(hn:E.len=n:=by first|exact Eq.trans (b:=Nat.succ _) rfl rfl|exact rfl)(h0:o=none→Wk L k0 (Ev.appN n f0 E))(h1:∀ b,o=some b→Wk L k1 (Ev.appN n (f1 b) E))
  (hn0:f0.length=n0:=by exact rfl) (hn1:∀ b,(f1 b).length=n1:=by exact fun _=>rfl):Wk L (Tr.lp spec xs 0 n0 k0 (.lp spec xs 1 n1 k1 .no)) E:=⟨s6 he hn0 hn1 (fun h=>by rw[← Ev.appN_eq hn];exact(h0 h).s) fun b h=>by rw[← Ev.appN_eq hn];exact(h1 b h).s⟩
theorem w7(r:List U)(h:L r)(he:xs.map (D2 E.get)=r:=by exact rfl):Wk L (Tr.ret xs) E:=⟨s7 r he h⟩
theorem w8(h:False):Wk L Tr.no E:=h.elim
variable {q j:IntKind} {a b c:Int} {s z:List UInt8} {p:Prop} {dp:Decidable p} {x y:Bool}
theorem W5(hk:Wk L k (.cons n (.int q (a+b)) E))(hx:xs.map (D2 E.get)=[.int q a,.int q b]:=by exact rfl)(hw:q.wrap (a+b)=a+b:=by first|exact A3l (by omega) (by omega)|exact B50 (by omega) (by omega)|exact A8A (by omega) (by omega)|exact A8B (by omega) (by omega)|exact B1n (by omega) (by omega))(ht:F1 (.int q (a+b))=t:=by exact rfl)(hn:E.len=n:=by first|exact Eq.trans (b:=Nat.succ _) rfl rfl|exact rfl):Wk L (Tr.lt t (.bin .add) xs k) E:=wr hk hx (C3F hw) ht (A8i _ _) hn
theorem l7(hk:Wk L k (.cons n (.int q (a-b)) E))(hx:xs.map (D2 E.get)=[.int q a,.int q b]:=by exact rfl)(hw:q.wrap (a-b)=a-b:=by first|exact A3l (by omega) (by omega)|exact B50 (by omega) (by omega)|exact A8A (by omega) (by omega)|exact A8B (by omega) (by omega)|exact B1n (by omega) (by omega))(ht:F1 (.int q (a-b))=t:=by exact rfl)(hn:E.len=n:=by first|exact Eq.trans (b:=Nat.succ _) rfl rfl|exact rfl):Wk L (Tr.lt t (.bin .sub) xs k) E:=wr hk hx (C27 hw) ht (A8i _ _) hn
theorem B8Z(hk:Wk L k (.cons n (.int q (a*b)) E))(hx:xs.map (D2 E.get)=[.int q a,.int q b]:=by exact rfl)(hw:q.wrap (a*b)=a*b:=by first|exact A3l (by omega) (by omega)|exact B50 (by omega) (by omega)|exact A8A (by omega) (by omega)|exact A8B (by omega) (by omega)|exact B1n (by omega) (by omega))(ht:F1 (.int q (a*b))=t:=by exact rfl)(hn:E.len=n:=by first|exact Eq.trans (b:=Nat.succ _) rfl rfl|exact rfl):Wk L (Tr.lt t (.bin .mul) xs k) E:=wr hk hx (C3C hw) ht (A8i _ _) hn
theorem D0R(hk:Wk L k (.cons n (.int q (a%b)) E))(hx:xs.map (D2 E.get)=[.int q a,.int q b]:=by exact rfl)(ha:0≤a:=by omega)(hb:0<b:=by omega)(ht:F1 (.int q (a%b))=t:=by exact rfl)(hn:E.len=n:=by first|exact Eq.trans (b:=Nat.succ _) rfl rfl|exact rfl):Wk L (Tr.lt t (.bin .rem) xs k) E:=wr hk hx (C29 ha hb) ht (A8i _ _) hn
theorem t8(hk:Wk L k (.cons n (.int q a) E))(hx:xs.map (D2 E.get)=[.int j a]:=by exact rfl)(hw:q.wrap a=a:=by first|exact A3l (by omega) (by omega)|exact B50 (by omega) (by omega)|exact A8A (by omega) (by omega)|exact A8B (by omega) (by omega)|exact B1n (by omega) (by omega))(ht:F1 (.int q a)=t:=by exact rfl)(hn:E.len=n:=by first|exact Eq.trans (b:=Nat.succ _) rfl rfl|exact rfl):Wk L (Tr.lt t (.conv q) xs k) E:=wr hk hx (C0N hw) ht (A8i _ _) hn
theorem N7(hk:Wk L k (.cons n (.int q (q.wrap (a+b))) E))(hx:xs.map (D2 E.get)=[.int q a,.int q b]:=by exact rfl)(ht:F1 (.int q (q.wrap (a+b)))=t:=by exact rfl)(hn:E.len=n:=by first|exact Eq.trans (b:=Nat.succ _) rfl rfl|exact rfl):Wk L (Tr.lt t (.bin .add) xs k) E:=wr hk hx (C0P _ _ _) ht (A8i _ _) hn
theorem S1(hk:Wk L k (.cons n (.int q (q.wrap (a-b))) E))(hx:xs.map (D2 E.get)=[.int q a,.int q b]:=by exact rfl)(ht:F1 (.int q (q.wrap (a-b)))=t:=by exact rfl)(hn:E.len=n:=by first|exact Eq.trans (b:=Nat.succ _) rfl rfl|exact rfl):Wk L (Tr.lt t (.bin .sub) xs k) E:=wr hk hx (C0I _ _ _) ht (A8i _ _) hn
theorem B3B(hk:Wk L k (.cons n (.int q (q.wrap (a*b))) E))(hx:xs.map (D2 E.get)=[.int q a,.int q b]:=by exact rfl)(ht:F1 (.int q (q.wrap (a*b)))=t:=by exact rfl)(hn:E.len=n:=by first|exact Eq.trans (b:=Nat.succ _) rfl rfl|exact rfl):Wk L (Tr.lt t (.bin .mul) xs k) E:=wr hk hx (C0L _ _ _) ht (A8i _ _) hn
theorem Y6(hk:Wk L k (.cons n (.int q (q.wrap a)) E))(hx:xs.map (D2 E.get)=[.int j a]:=by exact rfl)(ht:F1 (.int q (q.wrap a))=t:=by exact rfl)(hn:E.len=n:=by first|exact Eq.trans (b:=Nat.succ _) rfl rfl|exact rfl):Wk L (Tr.lt t (.conv q) xs k) E:=wr hk hx (B2b _ _ _) ht (A8i _ _) hn
theorem N6(hk:Wk L k (.cons n (.bool (decide (a=b))) E))(hx:xs.map (D2 E.get)=[.int q a,.int q b]:=by exact rfl)(hn:E.len=n:=by first|exact Eq.trans (b:=Nat.succ _) rfl rfl|exact rfl):Wk L (Tr.lt 8 (.bin .eql) xs k) E:=wr hk hx (C7s _ _ _) rfl rfl hn
theorem A0k(hk:Wk L k (.cons n (.bool (decide (a≠b))) E))(hx:xs.map (D2 E.get)=[.int q a,.int q b]:=by exact rfl)(hn:E.len=n:=by first|exact Eq.trans (b:=Nat.succ _) rfl rfl|exact rfl):Wk L (Tr.lt 8 (.bin .neq) xs k) E:=wr hk hx (C7h _ _ _) rfl rfl hn
theorem A1U(hk:Wk L k (.cons n (.bool (decide (a<b))) E))(hx:xs.map (D2 E.get)=[.int q a,.int q b]:=by exact rfl)(hn:E.len=n:=by first|exact Eq.trans (b:=Nat.succ _) rfl rfl|exact rfl):Wk L (Tr.lt 8 (.bin .lss) xs k) E:=wr hk hx (C7k _ _ _) rfl rfl hn
theorem A5K(hk:Wk L k (.cons n (.bool (decide (a≤b))) E))(hx:xs.map (D2 E.get)=[.int q a,.int q b]:=by exact rfl)(hn:E.len=n:=by first|exact Eq.trans (b:=Nat.succ _) rfl rfl|exact rfl):Wk L (Tr.lt 8 (.bin .leq) xs k) E:=wr hk hx (C7l _ _ _) rfl rfl hn
theorem A7y(hk:Wk L k (.cons n (.bool (decide (b<a))) E))(hx:xs.map (D2 E.get)=[.int q a,.int q b]:=by exact rfl)(hn:E.len=n:=by first|exact Eq.trans (b:=Nat.succ _) rfl rfl|exact rfl):Wk L (Tr.lt 8 (.bin .gtr) xs k) E:=wr hk hx (C7q _ _ _) rfl rfl hn
theorem A2d(hk:Wk L k (.cons n (.bool (decide (b≤a))) E))(hx:xs.map (D2 E.get)=[.int q a,.int q b]:=by exact rfl)(hn:E.len=n:=by first|exact Eq.trans (b:=Nat.succ _) rfl rfl|exact rfl):Wk L (Tr.lt 8 (.bin .geq) xs k) E:=wr hk hx (C7r _ _ _) rfl rfl hn
theorem C2B(hk:Wk L k (.cons n (.bool (decide (s=z))) E))(hx:xs.map (D2 E.get)=[.str s,.str z]:=by exact rfl)(hn:E.len=n:=by first|exact Eq.trans (b:=Nat.succ _) rfl rfl|exact rfl):Wk L (Tr.lt 8 (.bin .eql) xs k) E:=wr hk hx (C7c _ _) rfl rfl hn
theorem A6m(hk:Wk L k (.cons n (.bool (decide (s≠z))) E))(hx:xs.map (D2 E.get)=[.str s,.str z]:=by exact rfl)(hn:E.len=n:=by first|exact Eq.trans (b:=Nat.succ _) rfl rfl|exact rfl):Wk L (Tr.lt 8 (.bin .neq) xs k) E:=wr hk hx (C7Z _ _) rfl rfl hn
theorem m9(hk:Wk L k (.cons n (.bool (decide ¬p)) E))(hx:xs.map (D2 E.get)=[.bool (@decide p dp)]:=by exact rfl)(hn:E.len=n:=by first|exact Eq.trans (b:=Nat.succ _) rfl rfl|exact rfl):Wk L (Tr.lt 8 (.un .not) xs k) E:=wr hk hx (C3B _) rfl rfl hn
theorem A3o(hk:Wk L k (.cons n (.bool (!x)) E))(hx:xs.map (D2 E.get)=[.bool x]:=by exact rfl)(hn:E.len=n:=by first|exact Eq.trans (b:=Nat.succ _) rfl rfl|exact rfl):Wk L (Tr.lt 8 (.un .not) xs k) E:=wr hk hx (C7g _) rfl rfl hn
theorem B3C(hk:Wk L k (.cons n (.int .i64 s.length) E))(hx:xs.map (D2 E.get)=[.str s]:=by exact rfl)(hn:E.len=n:=by first|exact Eq.trans (b:=Nat.succ _) rfl rfl|exact rfl):Wk L (Tr.lt 3 .len xs k) E:=wr hk hx (C7m _) rfl rfl hn
theorem C6w(hk:Wk L k (.cons n (.bool (decide (0≤a∧a<b))) E))(hx:xs.map (D2 E.get)=[.int q a,.int j b]:=by exact rfl)(hn:E.len=n:=by first|exact Eq.trans (b:=Nat.succ _) rfl rfl|exact rfl):Wk L (Tr.lt 8 .inb xs k) E:=wr hk hx (C7p _ _ _ _) rfl rfl hn
theorem B8W(hk:Wk L k (.cons n (.str ((s.drop a.toNat).take (b.toNat-a.toNat))) E))(hx:xs.map (D2 E.get)=[.str s,.int q a,.int j b]:=by exact rfl)(h0:0≤a:=by omega)(h1:a≤b:=by omega)(h2:b≤s.length:=by simp[*]<;>omega)(hn:E.len=n:=by first|exact Eq.trans (b:=Nat.succ _) rfl rfl|exact rfl):Wk L (Tr.lt 9 .sub xs k) E:=wr hk hx (A8R _ _ _ _ _ h0 h1 h2) rfl rfl hn
theorem B1t(hk:Wk L k (.cons n (.int q (min a b)) E))(hx:xs.map (D2 E.get)=[.int q a,.int j b]:=by exact rfl)(ht:F1 (.int q (min a b))=t:=by exact rfl)(hn:E.len=n:=by first|exact Eq.trans (b:=Nat.succ _) rfl rfl|exact rfl):Wk L (Tr.lt t .min xs k) E:=wr hk hx (C7i _ _ _ _) ht (A8i _ _) hn
theorem C2D(hk:Wk L k (.cons n (.int q (max a b)) E))(hx:xs.map (D2 E.get)=[.int q a,.int j b]:=by exact rfl)(ht:F1 (.int q (max a b))=t:=by exact rfl)(hn:E.len=n:=by first|exact Eq.trans (b:=Nat.succ _) rfl rfl|exact rfl):Wk L (Tr.lt t .max xs k) E:=wr hk hx (C7j _ _ _ _) ht (A8i _ _) hn
variable {α:Type} {r:Rw α} {o:Option (List α)} {w:Nat}
theorem R2(hk:Wk L k (.cons n (.int .i64 ((el o).length:Int)) E))(hx:xs.map (D2 E.get)=[A8 r o]:=by exact rfl)(hn:E.len=n:=by first|exact Eq.trans (b:=Nat.succ _) rfl rfl|exact rfl):Wk L (Tr.lt 3 .len xs k) E:=wr hk hx (C3D _ _) rfl rfl hn
theorem n7(hk:Wk L k (.cons n (.bool (decide (0≤a∧a<((el o).length:Int)))) E))(hx:xs.map (D2 E.get)=[.int q a,A8 r o]:=by exact rfl)(hw:r.w=w:=by exact rfl)(hn:E.len=n:=by first|exact Eq.trans (b:=Nat.succ _) rfl rfl|exact rfl):Wk L (Tr.lt 8 (.inbs w) xs k) E:=wr hk hx (C0M hw) rfl rfl hn
end
abbrev aA:List Value→Tr→Tr:=.lt 3 (.bin .add)
abbrev aS:List Value→Tr→Tr:=.lt 3 (.bin .sub)
abbrev aE:List Value→Tr→Tr:=.lt 8 (.bin .eql)
abbrev aN:List Value→Tr→Tr:=.lt 8 (.bin .neq)
abbrev aL:List Value→Tr→Tr:=.lt 8 (.bin .lss)
abbrev aQ:List Value→Tr→Tr:=.lt 8 (.bin .leq)
abbrev aG:List Value→Tr→Tr:=.lt 8 (.bin .gtr)
abbrev aH:List Value→Tr→Tr:=.lt 8 (.bin .geq)
abbrev aI:List Value→Tr→Tr:=.lt 8 (.inb)
abbrev aD:List Value→Tr→Tr:=.lt 3 .len
abbrev aX:List Value→Tr→Tr:=.lt 8 (.un .not)
abbrev aC:List Value→Tr→Tr:=.lt 9 (.bin .add)
abbrev h3(i:Nat):Value:=h i 3
end Go.Sx
namespace Go.Sx
set_option linter.all false
open Go
theorem D0I(n:Nat):n &&& 2=n / 2%2*2:=by
 have h:=Nat.and_mod_two_pow (a:=n) (b:=2) (n:=2);have l:n &&& 2≤2:=A2z;have g:∀ m:Nat,m<4→m &&& 2=m / 2%2*2:=by decide
 have k:=g (n%4) (by omega);have e:(2:Nat)%2 ^ 2=2:=by decide
 have e2:(2:Nat) ^ 2=4:=by decide
 rw[e,e2,k]at h;omega
theorem B6u(a:Int):evU (.bin .and) [.int .i64 a,.int .i64 2]=.int .i64 (a / 2%2*2):=by
 rw[A9a];congr 1
 have e1:(BitVec.ofInt 64 a &&& BitVec.ofInt 64 2).toNat=(a%2 ^ 64).toNat &&& 2:=by
  rw[X3,N5];rfl
 show IntKind.i64.wrap (((BitVec.ofInt 64 a &&& BitVec.ofInt 64 2).toNat:Nat):Int)=_;rw[e1,D0I,A1J (by omega) (by show _<(2:Int) ^ 63;omega)];omega
theorem D0H(n:Nat):n &&& 4=n / 4%2*4:=by
 have h:=Nat.and_mod_two_pow (a:=n) (b:=4) (n:=3);have l:n &&& 4≤4:=A2z;have g:∀ m:Nat,m<8→m &&& 4=m / 4%2*4:=by decide
 have k:=g (n%8) (by omega);have e:(4:Nat)%2 ^ 3=4:=by decide
 have e2:(2:Nat) ^ 3=8:=by decide
 rw[e,e2,k]at h;omega
theorem B2d(a:Int):evU (.bin .and) [.int .i64 a,.int .i64 4]=.int .i64 (a / 4%2*4):=by
 rw[A9a];congr 1
 have e1:(BitVec.ofInt 64 a &&& BitVec.ofInt 64 4).toNat=(a%2 ^ 64).toNat &&& 4:=by
  rw[X3,N5];rfl
 show IntKind.i64.wrap (((BitVec.ofInt 64 a &&& BitVec.ofInt 64 4).toNat:Nat):Int)=_;rw[e1,D0H,A1J (by omega) (by show _<(2:Int) ^ 63;omega)];omega
theorem an6(x:BitVec 64):x &&& ~~~(6#64)=0#64↔x.toNat≤7∧x.toNat%2=0:=by
 constructor
 ·intro h;have e:x=(x &&& 6#64) ||| (x &&& ~~~(6#64)):=by
   rw[← BitVec.and_or_distrib_left];have:(6#64 ||| ~~~(6#64))=BitVec.allOnes 64:=by decide
   rw[this,BitVec.and_allOnes]
  rw[h,BitVec.or_zero]at e;have e2:x.toNat=x.toNat &&& 6:=by
   have:=congrArg BitVec.toNat e;rw[X3]at this;exact this
  have h6:x.toNat≤6:=by rw[e2];exact A2z
  refine⟨by omega,?_⟩;have:∀ n:Nat,n≤6→n=n &&& 6→n%2=0:=by decide
  exact this _ h6 e2
 ·intro ⟨h,k⟩;have e:x=BitVec.ofNat 64 x.toNat:=by simp
  have:∀ n:Nat,n≤7→n%2=0→(BitVec.ofNat 64 n) &&& ~~~(6#64)=0#64:=by decide
  rw[e];exact this _ h k
def C3n(a:Int):Int:=IntKind.i64.wrap ((BitVec.ofInt 64 a &&& ~~~(6#64)).toNat:Nat)
theorem C7_(a:Int)(h : -9223372036854775808≤a)(h2:a≤9223372036854775807):C3n a=0↔0≤a∧a≤7∧a%2=0:=by
 have e:C3n a=0↔(BitVec.ofInt 64 a &&& ~~~(6#64)).toNat=0:=by
  have:=(BitVec.ofInt 64 a &&& ~~~(6#64)).isLt;unfold C3n;generalize (BitVec.ofInt 64 a &&& ~~~(6#64)).toNat=m at *;simp only[IntKind.wrap,IntKind.bits,IntKind.signed,Nat.reduceSub]<;>simp<;>omega
 have e2:(BitVec.ofInt 64 a).toNat=(a%2 ^ 64).toNat:=by rw[N5];rfl
 have e3:(BitVec.ofInt 64 a &&& ~~~(6#64)).toNat=0↔BitVec.ofInt 64 a &&& ~~~(6#64)=0#64:=by
  constructor
  ·intro h;exact BitVec.eq_of_toNat_eq (by rw[h];rfl)
  ·intro h;rw[h];rfl
 rw[e,e3,an6,e2];omega
theorem C7t(a:Int):evU (.bin .andNot) [.int .i64 a,.int .i64 6]=.int .i64 (C3n a):=by
 rw[B75];rfl
theorem s0L{L:List U→Prop}{us:List U}{t:Tr}(h:t.sav L (Ev.app us .nil)):t.sat L us:=by
 obtain⟨a,b⟩:=Ev.app_ok (l:=us) (E:=.nil) True.intro
 have:=h a;rw[b]at this;exact this
theorem C5z(n k:Nat):n &&& 2 ^ k=n / 2 ^ k%2*2 ^ k:=by
 have h:(n &&& 2 ^ k)=bif n.testBit k then 2 ^ k else 0:=by
  apply Nat.eq_of_testBit_eq;intro i;rw[Nat.testBit_and,A08];by_cases e:k=i
  ·subst e;cases h:n.testBit k<;>simp[h,A08]
  ·cases h:n.testBit k<;>simp[e,A08]
 rw[h,Nat.testBit_eq_decide_div_mod_eq];by_cases e:n / 2 ^ k%2=1
 ·simp[e]
 ·have:n / 2 ^ k%2=0:=by omega
  simp[this]
theorem B4P(a:Int):evU (.bin .and) [.int .i64 a,.int .i64 32]=.int .i64 (a / 32%2*32):=by
 rw[A9a];congr 1
 have e1:(BitVec.ofInt 64 a &&& BitVec.ofInt 64 32).toNat=(a%2 ^ 64).toNat &&& 2 ^ 5:=by
  rw[X3,N5];rfl
 show IntKind.i64.wrap (((BitVec.ofInt 64 a &&& BitVec.ofInt 64 32).toNat:Nat):Int)=_;rw[e1,C5z,show(2:Nat) ^ 5=32 from rfl,A1J (by omega) (by show _<(2:Int) ^ 63;omega)];omega
theorem B4O(a:Int):evU (.bin .and) [.int .i64 a,.int .i64 64]=.int .i64 (a / 64%2*64):=by
 rw[A9a];congr 1
 have e1:(BitVec.ofInt 64 a &&& BitVec.ofInt 64 64).toNat=(a%2 ^ 64).toNat &&& 2 ^ 6:=by
  rw[X3,N5];rfl
 show IntKind.i64.wrap (((BitVec.ofInt 64 a &&& BitVec.ofInt 64 64).toNat:Nat):Int)=_;rw[e1,C5z,show(2:Nat) ^ 6=64 from rfl,A1J (by omega) (by show _<(2:Int) ^ 63;omega)];omega
end Go.Sx
namespace Go.Proofs
set_option linter.all false
open Go.Shelf
def Tryz.lays103_ren:Go.Shelf.Ren:=⟨fun|103=>142|210=>154|206=>82|n=>n,fun|9=>9|4=>4|24=>117|3=>3|n=>n,fun|n=>n⟩
theorem Tryz.lays103:Go.Proofs.Lays.n103 Tryz.prog Tryz.lays103_ren:={
 mixed:=by kernel_rfl
 f103:=Tryz.func142.trans (congrArg some (by kernel_rfl))
 f206:=Tryz.func82.trans (congrArg some (by kernel_rfl))
 f210:=Tryz.func154.trans (congrArg some (by kernel_rfl))
 t3:=Tryz.underlying3
 a3:=Tryz.isAgg3
 z3:=Tryz.sizeOf3
 v3:=Tryz.zeroValue3
 t4:=Tryz.underlying4
 a4:=Tryz.isAgg4
 z4:=Tryz.sizeOf4
 v4:=Tryz.zeroValue4
 t9:=Tryz.underlying9
 a9:=Tryz.isAgg9
 z9:=Tryz.sizeOf9
 v9:=Tryz.zeroValue9
 t24:=Tryz.underlying117
 a24:=Tryz.isAgg117
 z24:=Tryz.sizeOf117
 v24:=Tryz.zeroValue117 }
open Go.RowKit in
theorem Tryz.strings_CutPrefix(s p:ByteArray)(w:World) :
  Calls Tryz.prog 142 #[.string s,.string p] w fun e w'=>e=.returned (.tuple #[.string ⟨(Lib.trimPrefix s.data.toList p.data.toList).toArray⟩,.bool (Lib.hasPrefix s.data.toList p.data.toList)])∧w'=w:=Any.strings_CutPrefix Tryz.lays103 s p w
def Tryz.laysM171_ren:Go.Shelf.Ren:=⟨fun|171=>79|243=>111|246=>131|283=>146|284=>147|285=>148|286=>149|129=>158|317=>157|318=>159|319=>160|320=>161|337=>168|338=>169|n=>n,fun|3=>3|9=>9|2=>2|4=>4|171=>170|0=>0|53=>122|37=>35|5=>5|173=>173|212=>184|51=>24|20=>20|213=>185|46=>32|232=>198|233=>199|n=>n,fun|17=>3|18=>4|19=>5|n=>n⟩
theorem Tryz.laysM171:Go.Proofs.LaysM.n171 Tryz.prog Tryz.laysM171_ren:={
 mixed:=by kernel_rfl
 f129:=Tryz.func158.trans (congrArg some (by kernel_rfl))
 f171:=Tryz.func79.trans (congrArg some (by kernel_rfl))
 f243:=Tryz.func111.trans (congrArg some (by kernel_rfl))
 f246:=Tryz.func131.trans (congrArg some (by kernel_rfl))
 f283:=Tryz.func146.trans (congrArg some (by kernel_rfl))
 f284:=Tryz.func147.trans (congrArg some (by kernel_rfl))
 f285:=Tryz.func148.trans (congrArg some (by kernel_rfl))
 f286:=Tryz.func149.trans (congrArg some (by kernel_rfl))
 f317:=Tryz.func157.trans (congrArg some (by kernel_rfl))
 f318:=Tryz.func159.trans (congrArg some (by kernel_rfl))
 f319:=Tryz.func160.trans (congrArg some (by kernel_rfl))
 f320:=Tryz.func161.trans (congrArg some (by kernel_rfl))
 f337:=Tryz.func168.trans (congrArg some (by kernel_rfl))
 f338:=Tryz.func169.trans (congrArg some (by kernel_rfl))
 t0:=Tryz.underlying0
 a0:=Tryz.isAgg0
 z0:=Tryz.sizeOf0
 v0:=Tryz.zeroValue0
 t2:=Tryz.underlying2
 a2:=Tryz.isAgg2
 z2:=Tryz.sizeOf2
 v2:=Tryz.zeroValue2
 t3:=Tryz.underlying3
 a3:=Tryz.isAgg3
 z3:=Tryz.sizeOf3
 v3:=Tryz.zeroValue3
 t4:=Tryz.underlying4
 a4:=Tryz.isAgg4
 z4:=Tryz.sizeOf4
 v4:=Tryz.zeroValue4
 t5:=Tryz.underlying5
 a5:=Tryz.isAgg5
 z5:=Tryz.sizeOf5
 v5:=Tryz.zeroValue5
 t9:=Tryz.underlying9
 a9:=Tryz.isAgg9
 z9:=Tryz.sizeOf9
 v9:=Tryz.zeroValue9
 t20:=Tryz.underlying20
 a20:=Tryz.isAgg20
 z20:=Tryz.sizeOf20
 v20:=Tryz.zeroValue20
 t37:=Tryz.underlying35
 a37:=Tryz.isAgg35
 z37:=Tryz.sizeOf35
 v37:=Tryz.zeroValue35
 t46:=Tryz.underlying32
 a46:=Tryz.isAgg32
 z46:=Tryz.sizeOf32
 v46:=Tryz.zeroValue32
 t51:=Tryz.underlying24
 a51:=Tryz.isAgg24
 z51:=Tryz.sizeOf24
 v51:=Tryz.zeroValue24
 t53:=Tryz.underlying122
 a53:=Tryz.isAgg122
 z53:=Tryz.sizeOf122
 v53:=Tryz.zeroValue122
 t171:=Tryz.underlying170
 a171:=Tryz.isAgg170
 z171:=Tryz.sizeOf170
 v171:=Tryz.zeroValue170
 t173:=Tryz.underlying173
 a173:=Tryz.isAgg173
 z173:=Tryz.sizeOf173
 v173:=Tryz.zeroValue173
 t212:=Tryz.underlying184
 a212:=Tryz.isAgg184
 z212:=Tryz.sizeOf184
 v212:=Tryz.zeroValue184
 t213:=Tryz.underlying185
 a213:=Tryz.isAgg185
 z213:=Tryz.sizeOf185
 t232:=Tryz.underlying198
 a232:=Tryz.isAgg198
 z232:=Tryz.sizeOf198
 v232:=Tryz.zeroValue198
 t233:=Tryz.underlying199
 a233:=Tryz.isAgg199
 z233:=Tryz.sizeOf199
 v233:=Tryz.zeroValue199
 g17:=by kernel_rfl
 g18:=by kernel_rfl
 g19:=by kernel_rfl
 i0:=by kernel_rfl
 i2:=by kernel_rfl
 i3:=by kernel_rfl
 i4:=by kernel_rfl
 i5:=by kernel_rfl
 i9:=by kernel_rfl
 i20:=by kernel_rfl
 i37:=by kernel_rfl
 i46:=by kernel_rfl
 i51:=by kernel_rfl
 i53:=by kernel_rfl
 i171:=by kernel_rfl
 i173:=by kernel_rfl
 i212:=by kernel_rfl
 i232:=by kernel_rfl
 i233:=by kernel_rfl
 m17:=by kernel_rfl
 m18:=by kernel_rfl
 m19:=by kernel_rfl }
open Go.RowKit Go.Sort Go.Lib in
theorem Tryz.strconv_Itoa(n:Int)(h0 : -9223372036854775808≤n)(h1:n≤9223372036854775807)(w:World)(htab:Lib.TabIs Tryz.prog w "internal/strconv.uint64pow10" .u64 Lib.pow10Tab) :
  Calls Tryz.prog 79 #[.int .i64 n] w fun e w'=>e=.returned (.string ⟨(Lib.itoa n).toArray⟩)∧∃ k os,w'=grow (w.drewN k) os:=Any.strconv_Itoa Tryz.laysM171 n h0 h1 w htab
def Tryz.lays144_ren:Go.Shelf.Ren:=⟨fun|144=>28|143=>59|219=>85|217=>114|225=>115|224=>116|267=>117|266=>132|314=>133|n=>n,fun|9=>9|4=>4|3=>3|5=>5|46=>32|146=>120|51=>24|n=>n,fun|1=>0|n=>n⟩
theorem Tryz.lays144:Go.Proofs.Lays.n144 Tryz.prog Tryz.lays144_ren:={
 mixed:=by kernel_rfl
 f143:=Tryz.func59.trans (congrArg some (by kernel_rfl))
 f144:=Tryz.func28.trans (congrArg some (by kernel_rfl))
 f217:=Tryz.func114.trans (congrArg some (by kernel_rfl))
 f219:=Tryz.func85.trans (congrArg some (by kernel_rfl))
 f224:=Tryz.func116.trans (congrArg some (by kernel_rfl))
 f225:=Tryz.func115.trans (congrArg some (by kernel_rfl))
 f266:=Tryz.func132.trans (congrArg some (by kernel_rfl))
 f267:=Tryz.func117.trans (congrArg some (by kernel_rfl))
 f314:=Tryz.func133.trans (congrArg some (by kernel_rfl))
 t3:=Tryz.underlying3
 a3:=Tryz.isAgg3
 z3:=Tryz.sizeOf3
 v3:=Tryz.zeroValue3
 t4:=Tryz.underlying4
 a4:=Tryz.isAgg4
 z4:=Tryz.sizeOf4
 v4:=Tryz.zeroValue4
 t5:=Tryz.underlying5
 a5:=Tryz.isAgg5
 z5:=Tryz.sizeOf5
 v5:=Tryz.zeroValue5
 t9:=Tryz.underlying9
 a9:=Tryz.isAgg9
 z9:=Tryz.sizeOf9
 v9:=Tryz.zeroValue9
 t46:=Tryz.underlying32
 a46:=Tryz.isAgg32
 z46:=Tryz.sizeOf32
 v46:=Tryz.zeroValue32
 t51:=Tryz.underlying24
 a51:=Tryz.isAgg24
 z51:=Tryz.sizeOf24
 v51:=Tryz.zeroValue24
 t146:=Tryz.underlying120
 a146:=Tryz.isAgg120
 z146:=Tryz.sizeOf120
 v146:=Tryz.zeroValue120
 g1:=by kernel_rfl }
open Go.RowKit Go.Lib in
theorem Tryz.strings_Contains_one(s:ByteArray)(c:UInt8)(w:World) :
  Calls Tryz.prog 28 #[.string s,.string ⟨#[c]⟩] w fun e w'=>e=.returned (.bool (decide (0≤Lib.indexByte s.data.toList c)))∧w'=w:=Any.strings_Contains_one Tryz.lays144 s c w
def Tryz.laysM144_ren:Go.Shelf.Ren:=⟨fun|144=>28|143=>59|219=>85|217=>114|225=>115|224=>116|267=>117|266=>132|314=>133|n=>n,fun|9=>9|4=>4|3=>3|5=>5|46=>32|146=>120|51=>24|n=>n,fun|1=>0|n=>n⟩
theorem Tryz.laysM144:Go.Proofs.LaysM.n144 Tryz.prog Tryz.laysM144_ren:={
 mixed:=by kernel_rfl
 f143:=Tryz.func59.trans (congrArg some (by kernel_rfl))
 f144:=Tryz.func28.trans (congrArg some (by kernel_rfl))
 f217:=Tryz.func114.trans (congrArg some (by kernel_rfl))
 f219:=Tryz.func85.trans (congrArg some (by kernel_rfl))
 f224:=Tryz.func116.trans (congrArg some (by kernel_rfl))
 f225:=Tryz.func115.trans (congrArg some (by kernel_rfl))
 f266:=Tryz.func132.trans (congrArg some (by kernel_rfl))
 f267:=Tryz.func117.trans (congrArg some (by kernel_rfl))
 f314:=Tryz.func133.trans (congrArg some (by kernel_rfl))
 t3:=Tryz.underlying3
 a3:=Tryz.isAgg3
 z3:=Tryz.sizeOf3
 v3:=Tryz.zeroValue3
 t4:=Tryz.underlying4
 a4:=Tryz.isAgg4
 z4:=Tryz.sizeOf4
 v4:=Tryz.zeroValue4
 t5:=Tryz.underlying5
 a5:=Tryz.isAgg5
 z5:=Tryz.sizeOf5
 v5:=Tryz.zeroValue5
 t9:=Tryz.underlying9
 a9:=Tryz.isAgg9
 z9:=Tryz.sizeOf9
 v9:=Tryz.zeroValue9
 t46:=Tryz.underlying32
 a46:=Tryz.isAgg32
 z46:=Tryz.sizeOf32
 v46:=Tryz.zeroValue32
 t51:=Tryz.underlying24
 a51:=Tryz.isAgg24
 z51:=Tryz.sizeOf24
 v51:=Tryz.zeroValue24
 t146:=Tryz.underlying120
 a146:=Tryz.isAgg120
 z146:=Tryz.sizeOf120
 v146:=Tryz.zeroValue120
 g1:=by kernel_rfl
 i3:=by kernel_rfl
 i4:=by kernel_rfl
 i5:=by kernel_rfl
 i9:=by kernel_rfl
 i46:=by kernel_rfl
 i51:=by kernel_rfl
 i146:=by kernel_rfl
 m1:=by kernel_rfl
 s1_3:=fun w h=>Go.Proofs.cell_of_shapedOpen_int (zero:=#[.int .i64 0]) (t:=3) h (of_decide_eq_true (by kernel_rfl)) (by kernel_rfl) rfl (by kernel_rfl) (by kernel_rfl) Tryz.underlying3 }
open Go.RowKit Go.Lib in
theorem Tryz.strings_Contains_shaped(s sub:ByteArray)(w:World)(h:w.ShapedOpen Tryz.prog)(hs:s.size<4294967281) :
  Calls Tryz.prog 28 #[.string s,.string sub] w fun e w'=>e=.returned (.bool (Lib.contains s.data.toList sub.data.toList))∧w'=w:=Any.strings_Contains_shaped Tryz.laysM144 s sub w h hs
def Tryz.lays99_ren:Go.Shelf.Ren:=⟨fun|99=>54|206=>82|n=>n,fun|9=>9|4=>4|3=>3|n=>n,fun|n=>n⟩
theorem Tryz.lays99:Go.Proofs.Lays.n99 Tryz.prog Tryz.lays99_ren:={
 mixed:=by kernel_rfl
 f99:=Tryz.func54.trans (congrArg some (by kernel_rfl))
 f206:=Tryz.func82.trans (congrArg some (by kernel_rfl))
 t3:=Tryz.underlying3
 a3:=Tryz.isAgg3
 z3:=Tryz.sizeOf3
 v3:=Tryz.zeroValue3
 t4:=Tryz.underlying4
 a4:=Tryz.isAgg4
 z4:=Tryz.sizeOf4
 v4:=Tryz.zeroValue4
 t9:=Tryz.underlying9
 a9:=Tryz.isAgg9
 z9:=Tryz.sizeOf9
 v9:=Tryz.zeroValue9 }
open Go.RowKit Go.Lib in
theorem Tryz.strings_HasPrefix(s p:ByteArray)(w:World) :
  Calls Tryz.prog 54 #[.string s,.string p] w fun e w'=>e=.returned (.bool (Lib.hasPrefix s.data.toList p.data.toList))∧w'=w:=Any.strings_HasPrefix Tryz.lays99 s p w
def Tryz.laysM155_ren:Go.Shelf.Ren:=⟨fun|155=>29|154=>60|138=>86|165=>55|143=>59|166=>56|197=>87|169=>58|195=>118|218=>119|240=>83|241=>84|219=>85|260=>120|276=>112|277=>113|217=>114|225=>115|224=>116|267=>117|266=>132|314=>133|n=>n,fun|9=>9|3=>3|4=>4|72=>92|0=>0|76=>96|105=>126|21=>21|5=>5|70=>90|20=>20|37=>35|75=>95|127=>125|164=>144|46=>32|119=>156|139=>159|138=>158|146=>120|51=>24|80=>99|n=>n,fun|1=>0|3=>1|4=>2|n=>n⟩
theorem Tryz.laysM155:Go.Proofs.LaysM.n155 Tryz.prog Tryz.laysM155_ren:={
 mixed:=by kernel_rfl
 f138:=Tryz.func86.trans (congrArg some (by kernel_rfl))
 f143:=Tryz.func59.trans (congrArg some (by kernel_rfl))
 f154:=Tryz.func60.trans (congrArg some (by kernel_rfl))
 f155:=Tryz.func29.trans (congrArg some (by kernel_rfl))
 f165:=Tryz.func55.trans (congrArg some (by kernel_rfl))
 f166:=Tryz.func56.trans (congrArg some (by kernel_rfl))
 f169:=Tryz.func58.trans (congrArg some (by kernel_rfl))
 f195:=Tryz.func118.trans (congrArg some (by kernel_rfl))
 f197:=Tryz.func87.trans (congrArg some (by kernel_rfl))
 f217:=Tryz.func114.trans (congrArg some (by kernel_rfl))
 f218:=Tryz.func119.trans (congrArg some (by kernel_rfl))
 f219:=Tryz.func85.trans (congrArg some (by kernel_rfl))
 f224:=Tryz.func116.trans (congrArg some (by kernel_rfl))
 f225:=Tryz.func115.trans (congrArg some (by kernel_rfl))
 f240:=Tryz.func83.trans (congrArg some (by kernel_rfl))
 f241:=Tryz.func84.trans (congrArg some (by kernel_rfl))
 f260:=Tryz.func120.trans (congrArg some (by kernel_rfl))
 f266:=Tryz.func132.trans (congrArg some (by kernel_rfl))
 f267:=Tryz.func117.trans (congrArg some (by kernel_rfl))
 f276:=Tryz.func112.trans (congrArg some (by kernel_rfl))
 f277:=Tryz.func113.trans (congrArg some (by kernel_rfl))
 f314:=Tryz.func133.trans (congrArg some (by kernel_rfl))
 t0:=Tryz.underlying0
 a0:=Tryz.isAgg0
 z0:=Tryz.sizeOf0
 v0:=Tryz.zeroValue0
 t3:=Tryz.underlying3
 a3:=Tryz.isAgg3
 z3:=Tryz.sizeOf3
 v3:=Tryz.zeroValue3
 t4:=Tryz.underlying4
 a4:=Tryz.isAgg4
 z4:=Tryz.sizeOf4
 v4:=Tryz.zeroValue4
 t5:=Tryz.underlying5
 a5:=Tryz.isAgg5
 z5:=Tryz.sizeOf5
 v5:=Tryz.zeroValue5
 t9:=Tryz.underlying9
 a9:=Tryz.isAgg9
 z9:=Tryz.sizeOf9
 v9:=Tryz.zeroValue9
 t20:=Tryz.underlying20
 a20:=Tryz.isAgg20
 z20:=Tryz.sizeOf20
 v20:=Tryz.zeroValue20
 t21:=Tryz.underlying21
 a21:=Tryz.isAgg21
 z21:=Tryz.sizeOf21
 v21:=Tryz.zeroValue21
 t37:=Tryz.underlying35
 a37:=Tryz.isAgg35
 z37:=Tryz.sizeOf35
 v37:=Tryz.zeroValue35
 t46:=Tryz.underlying32
 a46:=Tryz.isAgg32
 z46:=Tryz.sizeOf32
 v46:=Tryz.zeroValue32
 t51:=Tryz.underlying24
 a51:=Tryz.isAgg24
 z51:=Tryz.sizeOf24
 v51:=Tryz.zeroValue24
 t70:=Tryz.underlying90
 a70:=Tryz.isAgg90
 z70:=Tryz.sizeOf90
 v70:=Tryz.zeroValue90
 t72:=Tryz.underlying92
 a72:=Tryz.isAgg92
 z72:=Tryz.sizeOf92
 v72:=Tryz.zeroValue92
 t75:=Tryz.underlying95
 a75:=Tryz.isAgg95
 z75:=Tryz.sizeOf95
 v75:=Tryz.zeroValue95
 t76:=Tryz.underlying96
 a76:=Tryz.isAgg96
 z76:=Tryz.sizeOf96
 v76:=Tryz.zeroValue96
 t105:=Tryz.underlying126
 a105:=Tryz.isAgg126
 z105:=Tryz.sizeOf126
 v105:=Tryz.zeroValue126
 t119:=Tryz.underlying156
 a119:=Tryz.isAgg156
 z119:=Tryz.sizeOf156
 t127:=Tryz.underlying125
 a127:=Tryz.isAgg125
 z127:=Tryz.sizeOf125
 v127:=Tryz.zeroValue125
 t138:=Tryz.underlying158
 a138:=Tryz.isAgg158
 z138:=Tryz.sizeOf158
 v138:=Tryz.zeroValue158
 t139:=Tryz.underlying159
 a139:=Tryz.isAgg159
 z139:=Tryz.sizeOf159
 v139:=Tryz.zeroValue159
 t146:=Tryz.underlying120
 a146:=Tryz.isAgg120
 z146:=Tryz.sizeOf120
 v146:=Tryz.zeroValue120
 t164:=Tryz.underlying144
 a164:=Tryz.isAgg144
 z164:=Tryz.sizeOf144
 v164:=Tryz.zeroValue144
 g1:=by kernel_rfl
 g3:=by kernel_rfl
 g4:=by kernel_rfl
 t80:=Tryz.underlying99
 a80:=Tryz.isAgg99
 z80:=Tryz.sizeOf99
 v80:=Tryz.zeroValue99
 i0:=by kernel_rfl
 i3:=by kernel_rfl
 i4:=by kernel_rfl
 i5:=by kernel_rfl
 i9:=by kernel_rfl
 i20:=by kernel_rfl
 i21:=by kernel_rfl
 i37:=by kernel_rfl
 i46:=by kernel_rfl
 i51:=by kernel_rfl
 i70:=by kernel_rfl
 i72:=by kernel_rfl
 i75:=by kernel_rfl
 i76:=by kernel_rfl
 i80:=by kernel_rfl
 i105:=by kernel_rfl
 i127:=by kernel_rfl
 i138:=by kernel_rfl
 i139:=by kernel_rfl
 i146:=by kernel_rfl
 i164:=by kernel_rfl
 m1:=by kernel_rfl
 s1_3:=fun w h=>Go.Proofs.cell_of_shapedOpen_int (zero:=#[.int .i64 0]) (t:=3) h (of_decide_eq_true (by kernel_rfl)) (by kernel_rfl) rfl (by kernel_rfl) (by kernel_rfl) Tryz.underlying3
 m3:=by kernel_rfl
 m4:=by kernel_rfl }
theorem Tryz.Builder_Extra_M155:Builder.Extra Tryz.prog Tryz.laysM155_ren:={
 sizeBuilder:=by kernel_rfl
 liesBuilder:=by kernel_rfl
 t5:=Tryz.underlying5
 a5:=Tryz.isAgg5
 z5:=Tryz.sizeOf5
 v5:=Tryz.zeroValue5
 infoByte:=by kernel_rfl
 cellsByte:=by kernel_rfl
 sizeByte:=by kernel_rfl
 neB5:=by decide }
open Go.RowKit Go.Lib in
theorem Tryz.strings_ReplaceAll_shaped(s old new:ByteArray)(w:World)(h:w.ShapedOpen Tryz.prog)(hs:s.size<4294967281)(h1:1≤old.size)(hlen:s.size+Lib.countB s old*new.size≤140737488355328) :
  Calls Tryz.prog 29 #[.string s,.string old,.string new] w fun e w' =>
   e=.returned (.string ⟨(Lib.replaceAll s.data.toList old.data.toList new.data.toList).toArray⟩)∧Below w.heap.size w w':=Any.strings_ReplaceAll_shaped Tryz.laysM155 Tryz.Builder_Extra_M155 s old new w h hs h1 hlen
end Go.Proofs
namespace Go.Proofs
set_option linter.all false
open Go.Shelf
open Go.RowKit Go.Lib in
def Tryz.lays105_ren:Go.Shelf.Ren:=⟨fun|105=>27|212=>53|99=>54|165=>55|166=>56|170=>57|169=>58|263=>80|264=>81|206=>82|240=>83|241=>84|276=>112|277=>113|n=>n,fun|9=>9|3=>3|4=>4|20=>20|0=>0|46=>32|109=>88|5=>5|72=>92|76=>96|51=>24|146=>120|53=>122|148=>123|70=>90|37=>35|75=>95|127=>125|164=>144|80=>99|n=>n,fun|n=>n⟩
open Go.RowKit Go.Lib in
theorem Tryz.lays105:Go.Proofs.Lays.n105 Tryz.prog Tryz.lays105_ren:={
 mixed:=by kernel_rfl
 f99:=Tryz.func54.trans (congrArg some (by kernel_rfl))
 f105:=Tryz.func27.trans (congrArg some (by kernel_rfl))
 f165:=Tryz.func55.trans (congrArg some (by kernel_rfl))
 f166:=Tryz.func56.trans (congrArg some (by kernel_rfl))
 f169:=Tryz.func58.trans (congrArg some (by kernel_rfl))
 f170:=Tryz.func57.trans (congrArg some (by kernel_rfl))
 f206:=Tryz.func82.trans (congrArg some (by kernel_rfl))
 f212:=Tryz.func53.trans (congrArg some (by kernel_rfl))
 f240:=Tryz.func83.trans (congrArg some (by kernel_rfl))
 f241:=Tryz.func84.trans (congrArg some (by kernel_rfl))
 f263:=Tryz.func80.trans (congrArg some (by kernel_rfl))
 f264:=Tryz.func81.trans (congrArg some (by kernel_rfl))
 f276:=Tryz.func112.trans (congrArg some (by kernel_rfl))
 f277:=Tryz.func113.trans (congrArg some (by kernel_rfl))
 t0:=Tryz.underlying0
 a0:=Tryz.isAgg0
 z0:=Tryz.sizeOf0
 v0:=Tryz.zeroValue0
 t3:=Tryz.underlying3
 a3:=Tryz.isAgg3
 z3:=Tryz.sizeOf3
 v3:=Tryz.zeroValue3
 t4:=Tryz.underlying4
 a4:=Tryz.isAgg4
 z4:=Tryz.sizeOf4
 v4:=Tryz.zeroValue4
 t5:=Tryz.underlying5
 a5:=Tryz.isAgg5
 z5:=Tryz.sizeOf5
 v5:=Tryz.zeroValue5
 t9:=Tryz.underlying9
 a9:=Tryz.isAgg9
 z9:=Tryz.sizeOf9
 v9:=Tryz.zeroValue9
 t20:=Tryz.underlying20
 a20:=Tryz.isAgg20
 z20:=Tryz.sizeOf20
 v20:=Tryz.zeroValue20
 t37:=Tryz.underlying35
 a37:=Tryz.isAgg35
 z37:=Tryz.sizeOf35
 v37:=Tryz.zeroValue35
 t46:=Tryz.underlying32
 a46:=Tryz.isAgg32
 z46:=Tryz.sizeOf32
 v46:=Tryz.zeroValue32
 t51:=Tryz.underlying24
 a51:=Tryz.isAgg24
 z51:=Tryz.sizeOf24
 v51:=Tryz.zeroValue24
 t53:=Tryz.underlying122
 a53:=Tryz.isAgg122
 z53:=Tryz.sizeOf122
 v53:=Tryz.zeroValue122
 t70:=Tryz.underlying90
 a70:=Tryz.isAgg90
 z70:=Tryz.sizeOf90
 v70:=Tryz.zeroValue90
 t72:=Tryz.underlying92
 a72:=Tryz.isAgg92
 z72:=Tryz.sizeOf92
 v72:=Tryz.zeroValue92
 t75:=Tryz.underlying95
 a75:=Tryz.isAgg95
 z75:=Tryz.sizeOf95
 v75:=Tryz.zeroValue95
 t76:=Tryz.underlying96
 a76:=Tryz.isAgg96
 z76:=Tryz.sizeOf96
 v76:=Tryz.zeroValue96
 t109:=Tryz.underlying88
 a109:=Tryz.isAgg88
 z109:=Tryz.sizeOf88
 v109:=Tryz.zeroValue88
 t127:=Tryz.underlying125
 a127:=Tryz.isAgg125
 z127:=Tryz.sizeOf125
 v127:=Tryz.zeroValue125
 t146:=Tryz.underlying120
 a146:=Tryz.isAgg120
 z146:=Tryz.sizeOf120
 v146:=Tryz.zeroValue120
 t148:=Tryz.underlying123
 a148:=Tryz.isAgg123
 z148:=Tryz.sizeOf123
 v148:=Tryz.zeroValue123
 t164:=Tryz.underlying144
 a164:=Tryz.isAgg144
 z164:=Tryz.sizeOf144
 v164:=Tryz.zeroValue144 }
open Go.RowKit Go.Lib in
theorem Tryz.Builder_Extra_105:Builder.Extra Tryz.prog Tryz.lays105_ren:={
 sizeBuilder:=by kernel_rfl
 liesBuilder:=by kernel_rfl
 t5:=Tryz.underlying5
 a5:=Tryz.isAgg5
 z5:=Tryz.sizeOf5
 v5:=Tryz.zeroValue5
 infoByte:=by kernel_rfl
 cellsByte:=by kernel_rfl
 sizeByte:=by kernel_rfl
 neB5:=by decide }
open Go.RowKit Go.Lib in
theorem Tryz.strings_Repeat_main(s:ByteArray)(c:Nat)(w:World)(hc2:2≤c)(hc:c≤9223372036854775807)(hlen:s.size*c≤140737488355328)(h0:0<s.size) :
  Calls Tryz.prog 27 #[.string s,.int .i64 c] w fun e w'=>e=.returned (.string ⟨(Lib.repeatL s.data.toList c).toArray⟩)∧Below w.heap.size w w':=Any.strings_Repeat_main Tryz.lays105 Tryz.Builder_Extra_105 s c w hc2 hc hlen h0
open Go.RowKit Go.Lib in
theorem Tryz.strings_Repeat_zero(s:ByteArray)(w:World) :
  Calls Tryz.prog 27 #[.string s,.int .i64 0] w fun e w'=>e=.returned (.string ⟨#[]⟩)∧w'=w:=Any.strings_Repeat_zero Tryz.lays105 s w
open Go.RowKit Go.Lib in
theorem Tryz.strings_Repeat_one(s:ByteArray)(w:World) :
  Calls Tryz.prog 27 #[.string s,.int .i64 1] w fun e w'=>e=.returned (.string s)∧w'=w:=Any.strings_Repeat_one Tryz.lays105 s w
open Go.RowKit Go.Lib in
theorem Tryz.strings_Repeat_empty(s:ByteArray)(c:Nat)(w:World)(hc2:2≤c)(hc:c≤9223372036854775807)(h0:s.size=0) :
  Calls Tryz.prog 27 #[.string s,.int .i64 c] w fun e w'=>e=.returned (.string ⟨#[]⟩)∧w'=w:=Any.strings_Repeat_empty Tryz.lays105 s c w hc2 hc h0
end Go.Proofs
namespace Go.Proofs.YtdimocjaepnifaaGreatDoor
set_option linter.all false
open Go Go.Sx
set_option maxRecDepth 100000
def gl:Nat:=6
def n0:Nat:=6
def A5C:List (Nat×List Value):=[(4,[.int .u8 (0),.int .u8 (1),.int .u8 (28),.int .u8 (2),.int .u8 (29),.int .u8 (14),.int .u8 (24),.int .u8 (3),.int .u8 (30),.int .u8 (22),.int .u8 (20),.int .u8 (15),.int .u8 (25),.int .u8 (17),.int .u8 (4),.int .u8 (8),.int .u8 (31),.int .u8 (27),.int .u8 (13),.int .u8 (23),.int .u8 (21),.int .u8 (19),.int .u8 (16),.int .u8 (7),.int .u8 (26),.int .u8 (12),.int .u8 (18),.int .u8 (6),.int .u8 (11),.int .u8 (5),.int .u8 (10),.int .u8 (9)]),
 (5,[.int .u8 (0),.int .u8 (1),.int .u8 (56),.int .u8 (2),.int .u8 (57),.int .u8 (49),.int .u8 (28),.int .u8 (3),.int .u8 (61),.int .u8 (58),.int .u8 (42),.int .u8 (50),.int .u8 (38),.int .u8 (29),.int .u8 (17),.int .u8 (4),.int .u8 (62),.int .u8 (47),.int .u8 (59),.int .u8 (36),.int .u8 (45),.int .u8 (43),.int .u8 (51),.int .u8 (22),.int .u8 (53),.int .u8 (39),.int .u8 (33),.int .u8 (30),.int .u8 (24),.int .u8 (18),.int .u8 (12),.int .u8 (5),.int .u8 (63),.int .u8 (55),.int .u8 (48),.int .u8 (27),.int .u8 (60),.int .u8 (41),.int .u8 (37),.int .u8 (16),.int .u8 (46),.int .u8 (35),.int .u8 (44),.int .u8 (21),.int .u8 (52),.int .u8 (32),.int .u8 (23),.int .u8 (11),.int .u8 (54),.int .u8 (26),.int .u8 (40),.int .u8 (15),.int .u8 (34),.int .u8 (20),.int .u8 (31),.int .u8 (10),.int .u8 (25),.int .u8 (14),.int .u8 (19),.int .u8 (9),.int .u8 (13),.int .u8 (8),.int .u8 (7),.int .u8 (6)]),
 (3,[.int .u64 (1),.int .u64 (10),.int .u64 (100),.int .u64 (1000),.int .u64 (10000),.int .u64 (100000),.int .u64 (1000000),.int .u64 (10000000),.int .u64 (100000000),.int .u64 (1000000000),.int .u64 (10000000000),.int .u64 (100000000000),.int .u64 (1000000000000),.int .u64 (10000000000000),.int .u64 (100000000000000),.int .u64 (1000000000000000),.int .u64 (10000000000000000),.int .u64 (100000000000000000),.int .u64 (1000000000000000000),.int .u64 (10000000000000000000)]),
 (2,[.int .u8 (128),.int .u8 (191),.int .u8 (160),.int .u8 (191),.int .u8 (128),.int .u8 (159),.int .u8 (144),.int .u8 (191),.int .u8 (128),.int .u8 (143),.int .u8 (0),.int .u8 (0),.int .u8 (0),.int .u8 (0),.int .u8 (0),.int .u8 (0),.int .u8 (0),.int .u8 (0),.int .u8 (0),.int .u8 (0),.int .u8 (0),.int .u8 (0),.int .u8 (0),.int .u8 (0),.int .u8 (0),.int .u8 (0),.int .u8 (0),.int .u8 (0),.int .u8 (0),.int .u8 (0),.int .u8 (0),.int .u8 (0)]),
 (1,[.int .u8 (240),.int .u8 (240),.int .u8 (240),.int .u8 (240),.int .u8 (240),.int .u8 (240),.int .u8 (240),.int .u8 (240),.int .u8 (240),.int .u8 (240),.int .u8 (240),.int .u8 (240),.int .u8 (240),.int .u8 (240),.int .u8 (240),.int .u8 (240),.int .u8 (240),.int .u8 (240),.int .u8 (240),.int .u8 (240),.int .u8 (240),.int .u8 (240),.int .u8 (240),.int .u8 (240),.int .u8 (240),.int .u8 (240),.int .u8 (240),.int .u8 (240),.int .u8 (240),.int .u8 (240),.int .u8 (240),.int .u8 (240),.int .u8 (240),.int .u8 (240),.int .u8 (240),.int .u8 (240),.int .u8 (240),.int .u8 (240),.int .u8 (240),.int .u8 (240),.int .u8 (240),.int .u8 (240),.int .u8 (240),.int .u8 (240),.int .u8 (240),.int .u8 (240),.int .u8 (240),.int .u8 (240),.int .u8 (240),.int .u8 (240),.int .u8 (240),.int .u8 (240),.int .u8 (240),.int .u8 (240),.int .u8 (240),.int .u8 (240),.int .u8 (240),.int .u8 (240),.int .u8 (240),.int .u8 (240),.int .u8 (240),.int .u8 (240),.int .u8 (240),.int .u8 (240),.int .u8 (240),.int .u8 (240),.int .u8 (240),.int .u8 (240),.int .u8 (240),.int .u8 (240),.int .u8 (240),.int .u8 (240),.int .u8 (240),.int .u8 (240),.int .u8 (240),.int .u8 (240),.int .u8 (240),.int .u8 (240),.int .u8 (240),.int .u8 (240),.int .u8 (240),.int .u8 (240),.int .u8 (240),.int .u8 (240),.int .u8 (240),.int .u8 (240),.int .u8 (240),.int .u8 (240),.int .u8 (240),.int .u8 (240),.int .u8 (240),.int .u8 (240),.int .u8 (240),.int .u8 (240),.int .u8 (240),.int .u8 (240),.int .u8 (240),.int .u8 (240),.int .u8 (240),.int .u8 (240),.int .u8 (240),.int .u8 (240),.int .u8 (240),.int .u8 (240),.int .u8 (240),.int .u8 (240),.int .u8 (240),.int .u8 (240),.int .u8 (240),.int .u8 (240),.int .u8 (240),.int .u8 (240),.int .u8 (240),.int .u8 (240),.int .u8 (240),.int .u8 (240),.int .u8 (240),.int .u8 (240),.int .u8 (240),.int .u8 (240),.int .u8 (240),.int .u8 (240),.int .u8 (240),.int .u8 (240),.int .u8 (240),.int .u8 (240),.int .u8 (240),.int .u8 (240),.int .u8 (241),.int .u8 (241),.int .u8 (241),.int .u8 (241),.int .u8 (241),.int .u8 (241),.int .u8 (241),.int .u8 (241),.int .u8 (241),.int .u8 (241),.int .u8 (241),.int .u8 (241),.int .u8 (241),.int .u8 (241),.int .u8 (241),.int .u8 (241),.int .u8 (241),.int .u8 (241),.int .u8 (241),.int .u8 (241),.int .u8 (241),.int .u8 (241),.int .u8 (241),.int .u8 (241),.int .u8 (241),.int .u8 (241),.int .u8 (241),.int .u8 (241),.int .u8 (241),.int .u8 (241),.int .u8 (241),.int .u8 (241),.int .u8 (241),.int .u8 (241),.int .u8 (241),.int .u8 (241),.int .u8 (241),.int .u8 (241),.int .u8 (241),.int .u8 (241),.int .u8 (241),.int .u8 (241),.int .u8 (241),.int .u8 (241),.int .u8 (241),.int .u8 (241),.int .u8 (241),.int .u8 (241),.int .u8 (241),.int .u8 (241),.int .u8 (241),.int .u8 (241),.int .u8 (241),.int .u8 (241),.int .u8 (241),.int .u8 (241),.int .u8 (241),.int .u8 (241),.int .u8 (241),.int .u8 (241),.int .u8 (241),.int .u8 (241),.int .u8 (241),.int .u8 (241),.int .u8 (241),.int .u8 (241),.int .u8 (2),.int .u8 (2),.int .u8 (2),.int .u8 (2),.int .u8 (2),.int .u8 (2),.int .u8 (2),.int .u8 (2),.int .u8 (2),.int .u8 (2),.int .u8 (2),.int .u8 (2),.int .u8 (2),.int .u8 (2),.int .u8 (2),.int .u8 (2),.int .u8 (2),.int .u8 (2),.int .u8 (2),.int .u8 (2),.int .u8 (2),.int .u8 (2),.int .u8 (2),.int .u8 (2),.int .u8 (2),.int .u8 (2),.int .u8 (2),.int .u8 (2),.int .u8 (2),.int .u8 (2),.int .u8 (19),.int .u8 (3),.int .u8 (3),.int .u8 (3),.int .u8 (3),.int .u8 (3),.int .u8 (3),.int .u8 (3),.int .u8 (3),.int .u8 (3),.int .u8 (3),.int .u8 (3),.int .u8 (3),.int .u8 (35),.int .u8 (3),.int .u8 (3),.int .u8 (52),.int .u8 (4),.int .u8 (4),.int .u8 (4),.int .u8 (68),.int .u8 (241),.int .u8 (241),.int .u8 (241),.int .u8 (241),.int .u8 (241),.int .u8 (241),.int .u8 (241),.int .u8 (241),.int .u8 (241),.int .u8 (241),.int .u8 (241)])]
def H0:Hp AB:=mkH A5C
theorem C2m:Tryz.prog.follows .mixedOrders=true:=by kernel_rfl
theorem C2l:B20 Tryz.prog:=by
 have h:(Tryz.prog.funcs.toList.all fun fn=>!(fn.name == "runtime.NumGoroutine"))=true:=by kernel_rfl
 intro f fn hf;have h1:=D0.1 h fn (Array.mem_def.1 (Array.mem_of_getElem? hf))
 simpa using h1
def C7Y:List (FuncId×EK):=[(132,.indexByteString),(119,.countString),(112,.noEscape),(113,.makeNoZero 5)]
theorem C9A:∀ p ∈ C7Y,A99 Tryz.prog p.1 p.2:=by
 intro p hp;unfold C7Y at hp;rcases B7.1 hp with rfl|hp
 ·exact⟨⟨_,rfl,by kernel_rfl,by kernel_rfl,by kernel_rfl,.inr (.inl ⟨rfl,by kernel_rfl⟩)⟩⟩
 rcases B7.1 hp with rfl|hp
 ·exact⟨⟨_,rfl,by kernel_rfl,by kernel_rfl,by kernel_rfl,.inr (.inr (.inl ⟨rfl,by kernel_rfl⟩))⟩⟩
 rcases B7.1 hp with rfl|hp
 ·exact⟨⟨_,rfl,by kernel_rfl,by kernel_rfl,by kernel_rfl,.inl ⟨rfl,by kernel_rfl⟩⟩⟩
 rcases B7.1 hp with rfl|hp
 ·exact⟨⟨_,rfl,by kernel_rfl,by kernel_rfl,by kernel_rfl,.inr (.inr (.inr ⟨_,_,_,rfl,rfl,by kernel_rfl,by kernel_rfl⟩))⟩⟩
 cases hp
noncomputable abbrev cx(l:List (FuncId×FnC))(lps:List LpE):Cx:=⟨Tryz.prog,C7Y,gl,B78 l,lpT lps⟩
theorem cxg{G:Nat→Option Obj}{l:List (FuncId×FnC)}{lps:List LpE}(h:G4 Tryz.prog G gl l)(k:A0D Tryz.prog G gl lps):CxG (cx l lps) G:=C3R C2m C2l C9A h k
def L0:List (FuncId×FnC):=[]
theorem D0L{G:Nat→Option Obj}(hst:B9 Tryz.prog G gl H0 n0):G4 Tryz.prog G gl L0:=.nil
set_option maxHeartbeats 4000000
def rB:Rw Int:=r1 (t6 .u8)
def rN:Rw Int:=r1 (t6 .i64)
def okU(c:Int):Prop:=0≤c∧c≤1114111∧¬(55296≤c∧c≤57343)
instance(c:Int):Decidable (okU c):=by unfold okU;infer_instance
def A4Q(c:Int):Int:=if c=32 then 0 else if c=105∨c=109 then -1 else if 97≤c∧c≤122 then c-96 else if 92≤c∧c≤95 then c-64 else -1
def chP(c:Int):Prop:=okU c∧32≤c∧¬(127≤c∧c≤159)
instance(c:Int):Decidable (chP c):=by unfold chP;infer_instance
def A6y(c m:Int):Prop:=(chP c∧(m=0∨(m=2∧c≠91∧c≠79)∨(0≤A4Q c∧(m=4∨m=6))))∨(1114113≤c∧c≤1114134∧0≤m∧m≤7)∨((c=1114135∨c=1114137)∧(m=0∨m=2))∨(c=1114136∧(m=0∨m=1∨m=2))∨(c=1114138∧m=0)
instance(c m:Int):Decidable (A6y c m):=by unfold A6y;infer_instance
theorem l2{a b:Int}{c d:Bool}(h:a=b)(k:c=d):[U.int .u8 a,U.bool c]=[U.int .u8 b,U.bool d]:=by rw[h,k]
theorem l1{c d:Bool}(k:c=d):[U.bool c]=[U.bool d]:=by rw[k]
theorem l0{c d:Int}(k:c=d):[U.int .i64 c]=[U.int .i64 d]:=by rw[k]
def A2u:List U→Option (Nat×List U)
 | [.int .i64 c]=>some (0,[.int .u8 (if 0≤A4Q c then A4Q c else 0),.bool (decide (0≤A4Q c))])
 | _=>none
theorem B66(c:Int):A2u [.int .i64 c]=some (0,[.int .u8 (if 0≤A4Q c then A4Q c else 0),.bool (decide (0≤A4Q c))]):=rfl
def C5j:Tr:=aE [h3 0,jI 32]<|.br 1 (.ret [.int .u8 (0),.bool true]) (aE [h3 0,jI 105]<|.br 2 (.ret [.int .u8 (0),.bool false]) (aE [h3 0,jI 109]<|.br 3 (.ret [.int .u8 (0),.bool false]) (aH [h3 0,jI 97]<|.br 4 (aQ [h3 0,jI 122]<|.br 5 (.lt 3 (.bin .and) [h3 0,jI 31]<|.lt 4 (.conv .u8) [h3 6]<|.ret [h 7 4,.bool true]) (aH [h3 0,jI 92]<|.br 6 (aQ [h3 0,jI 95]<|.br 7 (.lt 3 (.bin .and) [h3 0,jI 31]<|.lt 4 (.conv .u8) [h3 8]<|.ret [h 9 4,.bool true]) (.ret [.int .u8 (0),.bool false])) (.ret [.int .u8 (0),.bool false]))) (aH [h3 0,jI 92]<|.br 5 (aQ [h3 0,jI 95]<|.br 6 (.lt 3 (.bin .and) [h3 0,jI 31]<|.lt 4 (.conv .u8) [h3 7]<|.ret [h 8 4,.bool true]) (.ret [.int .u8 (0),.bool false])) (.ret [.int .u8 (0),.bool false])))))
theorem C5k{G:Nat→Option Obj}(hst:B9 Tryz.prog G gl H0 n0):L2 Tryz.prog G 66 [.s 3] A2u [.s 4,.s 8]:=by
 refine E7 (C:=cx L0 []) (d:=60) C5j (cxg (D0L hst) .nil) hst ⟨Tryz.f66,_,Tryz.func66,rfl⟩ (by kernel_rfl) (by kernel_rfl) ?_;intro us outs hs;unfold A2u at hs;split at hs
 ·skip;rename_i c;cases hs;unfold C5j;refine w0 (.cons 0 _ (.nil)) ?_;repeat (first|(refine w7 [.int .u8 _,.bool _] ?_;rotate_left)|refine w4 (fun g=>?_) fun g=>?_|refine t8 ?_|refine Y6 ?_|refine N6 ?_|refine A2d ?_|refine A5K ?_|refine w1 (.bin .and) (e:=A0A 5 32 (by decide) (by decide) (by decide)) (k':=?_))
  all_goals
   refine l2 ?_ ?_
   ·(unfold A4Q;(repeat' split)<;>omega)
   ·symm;first|exact decide_eq_true (by(unfold A4Q;(repeat' split)<;>omega))|exact decide_eq_false (by(unfold A4Q;(repeat' split)<;>omega))
 ·cases hs
theorem C5l(c:Int):(c=32∧A4Q c=0)∨((c=105∨c=109)∧A4Q c = -1)∨(97≤c∧c≤122∧c≠105∧c≠109∧A4Q c=c-96)∨(92≤c∧c≤95∧A4Q c=c-64)∨(c≠32∧¬(97≤c∧c≤122)∧¬(92≤c∧c≤95)∧A4Q c = -1):=by
 unfold A4Q
 (repeat' split)<;>omega
noncomputable def C54:List (FuncId×FnC):=(66,I9 Tryz.prog [.s 3] A2u [.s 4,.s 8])::L0
theorem C09{G:Nat→Option Obj}(hst:B9 Tryz.prog G gl H0 n0):G4 Tryz.prog G gl C54:=(.cons (C5k hst) .nil)
def B0Y:List U→Option (Nat×List U)
 | [.int .i64 c,.int .i64 m]=>if -9223372036854775808≤m∧m≤9223372036854775807 then some (0,[.bool (decide (A6y c m))])else none
 | _=>none
theorem C13(c:Int)(m:Int)(hc : -9223372036854775808≤m∧m≤9223372036854775807):B0Y [.int .i64 c,.int .i64 m]=some (0,[.bool (decide (A6y c m))]):=if_pos hc
def C3r:Tr:=aH [h3 0,jI 0]<|.br 2 (aQ [h3 0,jI 1114111]<|.br 3 (.lt 3 (.bin .shr) [h3 0,.int .u64 (11)]<|aN [h3 4,jI 27]<|.br 5 (aH [h3 0,jI 32]<|.br 6 (aH [h3 0,jI 127]<|.br 7 (aQ [h3 0,jI 159]<|aX [h 8 8]<|.br 9 (.lt 3 (.bin .and) [h3 1,jI 4]<|aN [h3 10,jI 0]<|.br 11 (.fn A2u [h3 0] 2<|.br 13 (.lt 3 (.bin .andNot) [h3 1,jI 6]<|aE [h3 14,jI 0]<|.ret [h 15 8]) (.ret [.bool false])) (aE [h3 1,jI 0]<|.br 12 (.ret [.bool true]) (aE [h3 1,jI 2]<|.br 13 (aN [h3 0,jI 91]<|.br 14 (aN [h3 0,jI 79]<|.ret [h 15 8]) (.ret [.bool false])) (.ret [.bool false])))) (aE [h3 0,jI 1114136]<|.br 10 (aE [h3 1,jI 1]<|.br 11 (.ret [.bool true]) (aE [h3 1,jI 2]<|.br 12 (.ret [.bool true]) (aE [h3 1,jI 0]<|.ret [h 13 8]))) (aE [h3 0,jI 1114135]<|.br 11 (aE [h3 1,jI 2]<|.br 12 (.ret [.bool true]) (aE [h3 1,jI 0]<|.ret [h 13 8])) (aE [h3 0,jI 1114137]<|.br 12 (aE [h3 1,jI 2]<|.br 13 (.ret [.bool true]) (aE [h3 1,jI 0]<|.ret [h 14 8])) (aE [h3 0,jI 1114138]<|.br 13 (aE [h3 1,jI 0]<|.ret [h 14 8]) (aH [h3 0,jI 1114113]<|.br 14 (aQ [h3 0,jI 1114134]<|.br 15 (aH [h3 1,jI 0]<|.br 16 (aQ [h3 1,jI 7]<|.ret [h 17 8]) (.ret [.bool false])) (.ret [.bool false])) (.ret [.bool false]))))))) (.lt 3 (.bin .and) [h3 1,jI 4]<|aN [h3 8,jI 0]<|.br 9 (.fn A2u [h3 0] 2<|.br 11 (.lt 3 (.bin .andNot) [h3 1,jI 6]<|aE [h3 12,jI 0]<|.ret [h 13 8]) (.ret [.bool false])) (aE [h3 1,jI 0]<|.br 10 (.ret [.bool true]) (aE [h3 1,jI 2]<|.br 11 (aN [h3 0,jI 91]<|.br 12 (aN [h3 0,jI 79]<|.ret [h 13 8]) (.ret [.bool false])) (.ret [.bool false]))))) (aE [h3 0,jI 1114136]<|.br 7 (aE [h3 1,jI 1]<|.br 8 (.ret [.bool true]) (aE [h3 1,jI 2]<|.br 9 (.ret [.bool true]) (aE [h3 1,jI 0]<|.ret [h 10 8]))) (aE [h3 0,jI 1114135]<|.br 8 (aE [h3 1,jI 2]<|.br 9 (.ret [.bool true]) (aE [h3 1,jI 0]<|.ret [h 10 8])) (aE [h3 0,jI 1114137]<|.br 9 (aE [h3 1,jI 2]<|.br 10 (.ret [.bool true]) (aE [h3 1,jI 0]<|.ret [h 11 8])) (aE [h3 0,jI 1114138]<|.br 10 (aE [h3 1,jI 0]<|.ret [h 11 8]) (aH [h3 0,jI 1114113]<|.br 11 (aQ [h3 0,jI 1114134]<|.br 12 (aH [h3 1,jI 0]<|.br 13 (aQ [h3 1,jI 7]<|.ret [h 14 8]) (.ret [.bool false])) (.ret [.bool false])) (.ret [.bool false]))))))) (aE [h3 0,jI 1114136]<|.br 6 (aE [h3 1,jI 1]<|.br 7 (.ret [.bool true]) (aE [h3 1,jI 2]<|.br 8 (.ret [.bool true]) (aE [h3 1,jI 0]<|.ret [h 9 8]))) (aE [h3 0,jI 1114135]<|.br 7 (aE [h3 1,jI 2]<|.br 8 (.ret [.bool true]) (aE [h3 1,jI 0]<|.ret [h 9 8])) (aE [h3 0,jI 1114137]<|.br 8 (aE [h3 1,jI 2]<|.br 9 (.ret [.bool true]) (aE [h3 1,jI 0]<|.ret [h 10 8])) (aE [h3 0,jI 1114138]<|.br 9 (aE [h3 1,jI 0]<|.ret [h 10 8]) (aH [h3 0,jI 1114113]<|.br 10 (aQ [h3 0,jI 1114134]<|.br 11 (aH [h3 1,jI 0]<|.br 12 (aQ [h3 1,jI 7]<|.ret [h 13 8]) (.ret [.bool false])) (.ret [.bool false])) (.ret [.bool false]))))))) (aE [h3 0,jI 1114136]<|.br 4 (aE [h3 1,jI 1]<|.br 5 (.ret [.bool true]) (aE [h3 1,jI 2]<|.br 6 (.ret [.bool true]) (aE [h3 1,jI 0]<|.ret [h 7 8]))) (aE [h3 0,jI 1114135]<|.br 5 (aE [h3 1,jI 2]<|.br 6 (.ret [.bool true]) (aE [h3 1,jI 0]<|.ret [h 7 8])) (aE [h3 0,jI 1114137]<|.br 6 (aE [h3 1,jI 2]<|.br 7 (.ret [.bool true]) (aE [h3 1,jI 0]<|.ret [h 8 8])) (aE [h3 0,jI 1114138]<|.br 7 (aE [h3 1,jI 0]<|.ret [h 8 8]) (aH [h3 0,jI 1114113]<|.br 8 (aQ [h3 0,jI 1114134]<|.br 9 (aH [h3 1,jI 0]<|.br 10 (aQ [h3 1,jI 7]<|.ret [h 11 8]) (.ret [.bool false])) (.ret [.bool false])) (.ret [.bool false]))))))) (aE [h3 0,jI 1114136]<|.br 3 (aE [h3 1,jI 1]<|.br 4 (.ret [.bool true]) (aE [h3 1,jI 2]<|.br 5 (.ret [.bool true]) (aE [h3 1,jI 0]<|.ret [h 6 8]))) (aE [h3 0,jI 1114135]<|.br 4 (aE [h3 1,jI 2]<|.br 5 (.ret [.bool true]) (aE [h3 1,jI 0]<|.ret [h 6 8])) (aE [h3 0,jI 1114137]<|.br 5 (aE [h3 1,jI 2]<|.br 6 (.ret [.bool true]) (aE [h3 1,jI 0]<|.ret [h 7 8])) (aE [h3 0,jI 1114138]<|.br 6 (aE [h3 1,jI 0]<|.ret [h 7 8]) (aH [h3 0,jI 1114113]<|.br 7 (aQ [h3 0,jI 1114134]<|.br 8 (aH [h3 1,jI 0]<|.br 9 (aQ [h3 1,jI 7]<|.ret [h 10 8]) (.ret [.bool false])) (.ret [.bool false])) (.ret [.bool false]))))))
theorem C8F{G:Nat→Option Obj}(hst:B9 Tryz.prog G gl H0 n0):L2 Tryz.prog G 36 [.s 3,.s 3] B0Y [.s 8]:=by
 refine E7 (C:=cx C54 []) (d:=60) C3r (cxg (C09 hst) .nil) hst ⟨Tryz.f36,_,Tryz.func36,rfl⟩ (by kernel_rfl) (by kernel_rfl) ?_;intro us outs hs;unfold B0Y at hs;split at hs
 ·skip;rename_i c m;split at hs
  ·rename_i hc;cases hs;unfold C3r;refine w0 (.cons 1 _ (.cons 0 _ (.nil))) ?_;repeat (first|refine w4 (fun g=>?_) fun g=>?_|refine w4B (fun g=>?_) fun g=>?_|(refine w7 [.bool _] ?_;rotate_left)|refine N6 ?_|refine A2d ?_|refine A5K ?_|refine A0k ?_|refine w1 (.bin .and) (e:=B2d _) (k':=?_)|refine w32 A2u (e:=B66 _) (k':=?_)|refine w1 (.bin .andNot) (e:=C7t _) (k':=?_)|refine w1 (.bin .shr) (e:=A2E 2048 (by decide) (by decide)) (k':=?_)|refine m9 ?_)
   all_goals
    have z0:=C7_ m hc.1 hc.2;have z1:=C5l c;refine l1 ?_;first|(refine decide_eq_decide.2 ?_;unfold A6y chP okU;omega)|(symm;first|exact decide_eq_true (by unfold A6y chP okU at *;omega)|exact decide_eq_false (by unfold A6y chP okU at *;omega))
  ·cases hs
 ·cases hs
def msP(m w b r cl:Int):Prop:=0≤w∧w≤3∧0≤b∧b≤3∧(w=0→b≤2)∧(w=3→b≤1)∧0≤m∧m≤7∧0≤r∧r≤39∧0≤cl∧cl≤79
instance(m w b r cl:Int):Decidable (msP m w b r cl):=by unfold msP;infer_instance
theorem B3p(m w b r cl:Int):msP m w b r cl↔(0≤b∧0≤m∧m≤7∧0≤r∧r≤39∧0≤cl∧cl≤79)∧((w=0∧b≤2)∨(w=1∧b≤3)∨(w=2∧b≤3)∨(w=3∧b≤1)):=by
 unfold msP;omega
theorem C4v(w:Int):(w=0∧([2,3,3,1]:List Int).getD w.toNat 0=2)∨(w=1∧([2,3,3,1]:List Int).getD w.toNat 0=3)∨(w=2∧([2,3,3,1]:List Int).getD w.toNat 0=3)∨(w=3∧([2,3,3,1]:List Int).getD w.toNat 0=1)∨w<0∨3<w:=by
 by_cases h:0≤w∧w≤3
 ·have:w=0∨w=1∨w=2∨w=3:=by omega
  rcases this with rfl|rfl|rfl|rfl<;>decide
 ·omega
noncomputable def C52:List (FuncId×FnC):=L0
theorem C07{G:Nat→Option Obj}(hst:B9 Tryz.prog G gl H0 n0):G4 Tryz.prog G gl C52:=.nil
def B0X:List U→Option (Nat×List U)
 | [.int .i64 k,.int .i64 c,.int .i64 m,.int .i64 w,.int .i64 b,.int .i64 r,.int .i64 cl,.str t]=>some (0,[.bool (decide (msP m w b r cl))])
 | _=>none
theorem C10(k:Int)(c:Int)(m:Int)(w:Int)(b:Int)(r:Int)(cl:Int)(t:(List UInt8)):B0X [.int .i64 k,.int .i64 c,.int .i64 m,.int .i64 w,.int .i64 b,.int .i64 r,.int .i64 cl,.str t]=some (0,[.bool (decide (msP m w b r cl))]):=rfl
def C3p:Tr:=aH [h3 3,jI 0]<|.br 8 (aQ [h3 3,jI 3]<|.br 9 (aI [h3 3,jI 4]<|.br 10 (.lt 3 (.sel) [h3 3,jI 2,jI 3,jI 3,jI 1]<|aH [h3 4,jI 0]<|.br 12 (aQ [h3 4,h3 11]<|.br 13 (aH [h3 2,jI 0]<|.br 14 (aQ [h3 2,jI 7]<|.br 15 (aH [h3 5,jI 0]<|.br 16 (aQ [h3 5,jI 39]<|.br 17 (aH [h3 6,jI 0]<|.br 18 (aQ [h3 6,jI 79]<|.ret [h 19 8]) (.ret [.bool false])) (.ret [.bool false])) (.ret [.bool false])) (.ret [.bool false])) (.ret [.bool false])) (.ret [.bool false])) (.ret [.bool false])) (.no)) (.ret [.bool false])) (.ret [.bool false])
theorem C8D{G:Nat→Option Obj}(hst:B9 Tryz.prog G gl H0 n0):L2 Tryz.prog G 37 [.a [3,3,3,3,3,3,3,9]] B0X [.s 8]:=by
 refine E7 (C:=cx C52 []) (d:=60) C3p (cxg (C07 hst) .nil) hst ⟨Tryz.f37,_,Tryz.func37,rfl⟩ (by kernel_rfl) (by kernel_rfl) ?_;intro us outs hs;unfold B0X at hs;split at hs
 ·skip;rename_i k c m w b r cl t;cases hs;unfold C3p;refine w0 (.cons 7 _ (.cons 6 _ (.cons 5 _ (.cons 4 _ (.cons 3 _ (.cons 2 _ (.cons 1 _ (.cons 0 _ (.nil))))))))) ?_;repeat (first|refine w4 (fun g=>?_) fun g=>?_|(refine w7 [.bool _] ?_;rotate_left)|refine A2d ?_|refine A5K ?_|refine C6w ?_|refine w1 (.sel) (e:=B2Z [2,3,3,1] (by omega) (by show _<((4:Nat):Int);omega)) (k':=?_)|(refine w8 ?_;(have z0:=C4v w;omega)))
  all_goals
   have z1:=B3p m w b r cl;have z0:=C4v w;refine l1 ?_;first|(refine decide_eq_decide.2 ⟨fun h=>z1.2 ?_,fun h=>?_⟩;omega;(have:=z1.1 h;omega))|(symm;first|exact decide_eq_true (z1.2 (by omega))|exact decide_eq_false (fun h=>by have:=z1.1 h;omega)|(exfalso;omega))
 ·cases hs
def B1R:List U→Option (Nat×List U)
 | [.str s,.str u]=>if u=[27]then some (0,[.bool (decide (0≤Lib.indexByte s 27))])else none
 | _=>none
theorem C3T(s:(List UInt8))(u:(List UInt8))(hc:u=[27]):B1R [.str s,.str u]=some (0,[.bool (decide (0≤Lib.indexByte s 27))]):=if_pos hc
theorem C90{G:Nat→Option Obj}(hst:B9 Tryz.prog G gl H0 n0):L2 Tryz.prog G 28 [.s 9,.s 9] B1R [.s 8]:=by
 intro us outs w vs R hsh hs hG hR;unfold B1R at hs;split at hs
 ·skip;rename_i s u;split at hs
  ·rename_i hc;cases hs;have hv:=V3 (vs2:=[.string ⟨⟨s⟩⟩,.string ⟨⟨u⟩⟩]) hsh rfl;subst hv;refine A3K (vr:=[.bool (decide (0≤Lib.indexByte s 27))]) Tryz.func28 rfl (by kernel_rfl) rfl ?_;subst hc;exact(Tryz.strings_Contains_one ⟨⟨s⟩⟩ 27 w).mono fun e w' ⟨h1,h2⟩=>⟨h1,by subst h2;exact RowKit.Below.refl _ _⟩
  ·cases hs
 ·cases hs
def isE(x:UInt8):Bool:=decide (x=27)
theorem C3l(t:List UInt8):(0≤Lib.indexByte t 27)↔t.any isE=true:=by
 induction t with
 | nil=>simp[Lib.indexByte]
 | cons b l ih =>
   have h:=Lib.indexByte_ge l 27;rw[Lib.indexByte,A2V];by_cases e:b=27
   ·subst e;simp[isE]
   ·have e1:(b == 27)=false:=by simp[e]
    have e2:isE b=false:=decide_eq_false e;rw[e1,e2,Q7,← ih];by_cases e3:Lib.indexByte l 27 = -1
    ·simp[e3]
    ·simp[e3];omega
def A3F(k c m w b r cl:Int)(t:List UInt8):Prop :=
 (k=1∧w=0∧b=0∧r=0∧cl=0∧t=[]∧A6y c m)∨(k=2∧c=0∧t=[]∧msP m w b r cl)∨(k=3∧c=0∧m=0∧w=0∧b=0∧r=0∧cl=0∧t.length≤1000∧t.any isE=false)∨(k=4∧c=0∧m=0∧b=0∧r=0∧cl=0∧t=[]∧0≤w∧w≤1)
instance(k c m w b r cl:Int)(t:List UInt8):Decidable (A3F k c m w b r cl t):=by unfold A3F;infer_instance
theorem B2a{a b c:Int}(h0:0≤b)(h1:b<c)(h2:(a=128∧c=64)∨(a=192∧c=32)∨(a=224∧c=16)∨(a=240∧c=8)):evU (.bin .or) [.int .u8 a,.int .u8 b]=.int .u8 (a+b):=by
 rw[A4L];have k1:∀ n:Nat,n<64→IntKind.u8.wrap (BitVec.ofInt IntKind.u8.bits 128 ||| BitVec.ofInt IntKind.u8.bits (n:Int)).toNat=128+(n:Int):=by decide
 have k2:∀ n:Nat,n<32→IntKind.u8.wrap (BitVec.ofInt IntKind.u8.bits 192 ||| BitVec.ofInt IntKind.u8.bits (n:Int)).toNat=192+(n:Int):=by decide
 have k3:∀ n:Nat,n<16→IntKind.u8.wrap (BitVec.ofInt IntKind.u8.bits 224 ||| BitVec.ofInt IntKind.u8.bits (n:Int)).toNat=224+(n:Int):=by decide
 have k4:∀ n:Nat,n<8→IntKind.u8.wrap (BitVec.ofInt IntKind.u8.bits 240 ||| BitVec.ofInt IntKind.u8.bits (n:Int)).toNat=240+(n:Int):=by decide
 obtain⟨n,rfl⟩:∃ n:Nat,b=n:=⟨b.toNat,by omega⟩;congr 1
 rcases h2 with⟨rfl,rfl⟩|⟨rfl,rfl⟩|⟨rfl,rfl⟩|⟨rfl,rfl⟩
 ·exact k1 n (by omega)
 ·exact k2 n (by omega)
 ·exact k3 n (by omega)
 ·exact k4 n (by omega)
theorem C0O{j:IntKind}(a:Int):evU (.conv .u8) [.int j a]=.int .u8 (a%256):=by
 rw[B2b];congr 1
def C7C(c:Int):Int:=if okU c then c else 65533
def B16(c:Int):List Int:=if c<128 then[c]else if c<2048 then[192+c / 64,128+c%64]else if c<65536 then[224+c / 4096,128+c / 64%64,128+c%64]else[240+c / 262144,128+c / 4096%64,128+c / 64%64,128+c%64]
def B7o(c:Int):List UInt8:=iB (B16 (C7C c))
theorem A7Y{c:Int}(h:okU c):C7C c=c:=if_pos h
theorem C4f{c:Int}(h:¬okU c):C7C c=65533:=if_neg h
theorem C4j{c:Int}(h:c<128):B16 c=[c]:=if_pos h
theorem C4i{c:Int}(h:¬c<128)(h2:c<2048):B16 c=[192+c / 64,128+c%64]:=by unfold B16;rw[if_neg h,if_pos h2]
theorem C4h{c:Int}(h:¬c<128)(h2:¬c<2048)(h3:c<65536):B16 c=[224+c / 4096,128+c / 64%64,128+c%64]:=by unfold B16;rw[if_neg h,if_neg h2,if_pos h3]
theorem C4g{c:Int}(h:¬c<128)(h2:¬c<2048)(h3:¬c<65536):B16 c=[240+c / 262144,128+c / 4096%64,128+c / 64%64,128+c%64]:=by unfold B16;rw[if_neg h,if_neg h2,if_neg h3]
noncomputable def C6L:List (FuncId×FnC):=L0
theorem C1Q{G:Nat→Option Obj}(hst:B9 Tryz.prog G gl H0 n0):G4 Tryz.prog G gl C6L:=.nil
def A2j:List U→Option (Nat×List U)
 | [.int .i64 c]=>some (0,[.str (B7o c)])
 | _=>none
theorem C2V(c:Int):A2j [.int .i64 c]=some (0,[.str (B7o c)]):=rfl
def C4e:Tr:=aH [h3 0,jI 0]<|.br 1 (aQ [h3 0,jI 1114111]<|.br 2 (.lt 3 (.bin .shr) [h3 0,.int .u64 (11)]<|aN [h3 3,jI 27]<|aX [h 4 8]<|.br 5 (.ret [.string ⟨⟨[239,191,189]⟩⟩]) (aL [h3 0,jI 128]<|.br 6 (.lt 4 (.conv .u8) [h3 0]<|.lt 9 (.mks) [h 7 4]<|.ret [h 8 9]) (aL [h3 0,jI 2048]<|.br 7 (.lt 3 (.bin .shr) [h3 0,.int .u64 (6)]<|.lt 4 (.conv .u8) [h3 8]<|.lt 4 (.bin .or) [.int .u8 (192),h 9 4]<|.lt 3 (.bin .shr) [h3 0,jI 0]<|.lt 4 (.conv .u8) [h3 11]<|.lt 4 (.bin .and) [h 12 4,.int .u8 (63)]<|.lt 4 (.bin .or) [.int .u8 (128),h 13 4]<|.lt 9 (.mks) [h 10 4,h 14 4]<|.ret [h 15 9]) (aL [h3 0,jI 65536]<|.br 8 (.lt 3 (.bin .shr) [h3 0,.int .u64 (12)]<|.lt 4 (.conv .u8) [h3 9]<|.lt 4 (.bin .or) [.int .u8 (224),h 10 4]<|.lt 3 (.bin .shr) [h3 0,jI 6]<|.lt 4 (.conv .u8) [h3 12]<|.lt 4 (.bin .and) [h 13 4,.int .u8 (63)]<|.lt 4 (.bin .or) [.int .u8 (128),h 14 4]<|.lt 3 (.bin .shr) [h3 0,jI 0]<|.lt 4 (.conv .u8) [h3 16]<|.lt 4 (.bin .and) [h 17 4,.int .u8 (63)]<|.lt 4 (.bin .or) [.int .u8 (128),h 18 4]<|.lt 9 (.mks) [h 11 4,h 15 4,h 19 4]<|.ret [h 20 9]) (.lt 3 (.bin .shr) [h3 0,.int .u64 (18)]<|.lt 4 (.conv .u8) [h3 9]<|.lt 4 (.bin .or) [.int .u8 (240),h 10 4]<|.lt 3 (.bin .shr) [h3 0,jI 12]<|.lt 4 (.conv .u8) [h3 12]<|.lt 4 (.bin .and) [h 13 4,.int .u8 (63)]<|.lt 4 (.bin .or) [.int .u8 (128),h 14 4]<|.lt 3 (.bin .shr) [h3 0,jI 6]<|.lt 4 (.conv .u8) [h3 16]<|.lt 4 (.bin .and) [h 17 4,.int .u8 (63)]<|.lt 4 (.bin .or) [.int .u8 (128),h 18 4]<|.lt 3 (.bin .shr) [h3 0,jI 0]<|.lt 4 (.conv .u8) [h3 20]<|.lt 4 (.bin .and) [h 21 4,.int .u8 (63)]<|.lt 4 (.bin .or) [.int .u8 (128),h 22 4]<|.lt 9 (.mks) [h 11 4,h 15 4,h 19 4,h 23 4]<|.ret [h 24 9]))))) (.ret [.string ⟨⟨[239,191,189]⟩⟩])) (.ret [.string ⟨⟨[239,191,189]⟩⟩])
theorem C8n{G:Nat→Option Obj}(hst:B9 Tryz.prog G gl H0 n0):L2 Tryz.prog G 77 [.s 3] A2j [.s 9]:=by
 refine E7 (C:=cx C6L []) (d:=60) C4e (cxg (C1Q hst) .nil) hst ⟨Tryz.f77,_,Tryz.func77,rfl⟩ (by kernel_rfl) (by kernel_rfl) ?_;intro us outs hs;unfold A2j at hs;split at hs
 ·skip;rename_i c;cases hs;unfold C4e;refine w0 (.cons 0 _ (.nil)) ?_;repeat (first|refine t8 ?_|refine w1 (.conv .u8) (e:=C0O _) (k':=?_)|(refine w7 [.str _] ?_;rotate_left)|refine w4 (fun g=>?_) fun g=>?_|refine w1 (.bin .and) (e:=A0A 6 64 (by decide) (by decide) (by decide)) (k':=?_)|refine w1 (.bin .or) (e:=B2a (c:=64) (by omega) (by omega) (by decide)) (k':=?_)|refine A1U ?_|refine w1 (.bin .shr) (e:=A2E 64 (by decide) (by decide)) (k':=?_)|refine w1 (.bin .shr) (e:=A2E 1 (by decide) (by decide)) (k':=?_)|refine w1 (.bin .shr) (e:=A2E 4096 (by decide) (by decide)) (k':=?_)|refine A2d ?_|refine A5K ?_|refine w1 (.bin .shr) (e:=A2E 2048 (by decide) (by decide)) (k':=?_)|refine A0k ?_|refine m9 ?_|refine w1 (.mks) (e:=A7A [_] (by simp only[B7,O1,or_false,forall_eq_or_imp,forall_eq];omega)) (k':=?_)|refine w1 (.bin .or) (e:=B2a (c:=32) (by omega) (by omega) (by decide)) (k':=?_)|refine w1 (.mks) (e:=A7A [_,_] (by simp only[B7,O1,or_false,forall_eq_or_imp,forall_eq];omega)) (k':=?_)|refine w1 (.bin .or) (e:=B2a (c:=16) (by omega) (by omega) (by decide)) (k':=?_)|refine w1 (.mks) (e:=A7A [_,_,_] (by simp only[B7,O1,or_false,forall_eq_or_imp,forall_eq];omega)) (k':=?_)|refine w1 (.bin .shr) (e:=A2E 262144 (by decide) (by decide)) (k':=?_)|refine w1 (.bin .or) (e:=B2a (c:=8) (by omega) (by omega) (by decide)) (k':=?_)|refine w1 (.mks) (e:=A7A [_,_,_,_] (by simp only[B7,O1,or_false,forall_eq_or_imp,forall_eq];omega)) (k':=?_))
  all_goals
   refine congrArg (fun z=>[U.str z]) ?_;symm;unfold B7o;first|(rw[A7Y (by unfold okU;omega),C4j (by omega)];done)|(rw[A7Y (by unfold okU;omega),C4j (by omega)];refine congrArg iB ?_;simp only[G8,and_true,true_and];omega)|(rw[A7Y (by unfold okU;omega),C4i (by omega) (by omega)];done)|(rw[A7Y (by unfold okU;omega),C4i (by omega) (by omega)];refine congrArg iB ?_;simp only[G8,and_true,true_and];omega)|(rw[A7Y (by unfold okU;omega),C4h (by omega) (by omega) (by omega)];done)|(rw[A7Y (by unfold okU;omega),C4h (by omega) (by omega) (by omega)];refine congrArg iB ?_;simp only[G8,and_true,true_and];omega)|(rw[A7Y (by unfold okU;omega),C4g (by omega) (by omega) (by omega)];done)|(rw[A7Y (by unfold okU;omega),C4g (by omega) (by omega) (by omega)];refine congrArg iB ?_;simp only[G8,and_true,true_and];omega)|(rw[C4f (by unfold okU;omega)];rfl)|(rw[C4f (by unfold okU;omega)];decide)
 ·cases hs
def C73:Nat→Nat→List UInt8
 | 0,_=>[]
 | k+1,n=>if n<10 then[UInt8.ofNat (48+n)]else C73 k (n / 10)++[UInt8.ofNat (48+n%10)]
theorem B62:∀ (k n:Nat),n<10 ^ (k+1)→C73 (k+1) n=Lib.decDigits n
 | 0,n,h=>by
   have h1:n<10:=by simpa using h
   show(if n<10 then _ else _)=_;rw[if_pos h1,Lib.decDigits_one h1]
 | k+1,n,h=>by
   show(if n<10 then _ else _)=_;by_cases h1:n<10
   ·rw[if_pos h1,Lib.decDigits_one h1]
   ·rw[if_neg h1];have h2:n / 10<10 ^ (k+1):=Nat.div_lt_of_lt_mul (by rw[i7,← Nat.pow_succ];exact h);rw[B62 k (n / 10) h2];conv=>rhs;rw[Lib.decDigits,dif_neg h1]
def itz(n:Int):List UInt8:=if 0≤n∧n<100000 then C73 5 n.toNat else Lib.itoa n
theorem B90(n:Int):itz n=Lib.itoa n:=by
 unfold itz;by_cases h:0≤n∧n<100000
 ·rw[if_pos h,B62 4 n.toNat (by show n.toNat<100000;omega),← Lib.itoa_nonneg,A0_ h.1]
 ·rw[if_neg h]
def Z8:List U→Option (Nat×List U)
 | [.int .i64 n]=>if -9223372036854775808≤n∧n≤9223372036854775807 then some (0,[.str (itz n)])else none
 | _=>none
theorem A3C(n:Int)(hc : -9223372036854775808≤n∧n≤9223372036854775807):Z8 [.int .i64 n]=some (0,[.str (itz n)]):=if_pos hc
theorem B92{G:Nat→Option Obj}(hst:B9 Tryz.prog G gl H0 n0):L2 Tryz.prog G 79 [.s 3] Z8 [.s 9]:=by
 intro us outs w vs R hsh hs hG hR;unfold Z8 at hs;split at hs
 ·skip;rename_i n;split at hs
  ·rename_i hc;cases hs;have hv:=V3 (vs2:=[.int .i64 n]) hsh rfl;subst hv;refine A3K (vr:=[.string ⟨⟨itz n⟩⟩]) Tryz.func79 rfl (by kernel_rfl) rfl ?_;rw[B90];refine(Tryz.strconv_Itoa n (by omega) (by omega) w (B1q (id:=3) hst hG (by decide) (by decide) (by kernel_rfl) (by kernel_rfl) (by kernel_rfl))).mono fun e w' ⟨h1,k,os,h2⟩=>⟨h1,?_⟩
   subst h2;exact Go.Lib.below_grow _ w (A5 _) k os
  ·cases hs
 ·cases hs
def nuL:List Int:=[2,3,5,6,15,17,18,19,20,21,23,24]
def leL:List UInt8:=[65,66,67,68,70,72,80,81,82,83]
def B9k(k:Int):List UInt8:=(leL.drop k.toNat).take ((k+1).toNat-k.toNat)
def spS(ck:Bool)(k m:Int):List UInt8 :=
 if 10≤k then if 0<m then[27,91]++itz (nuL.getD (k-10).toNat 0)++[59]++itz (m+1)++[126]else[27,91]++itz (nuL.getD (k-10).toNat 0)++[126]
 else if 0<m then[27,91,49,59]++itz (m+1)++B9k k else if 6≤k then[27,79]++B9k k else if ck=true then[27,79]++B9k k else[27,91]++B9k k
theorem C88(n:Nat):0≤nuL.getD n 0∧nuL.getD n 0≤24:=by
 have h:∀ n:Nat,n<12→0≤nuL.getD n 0∧nuL.getD n 0≤24:=by decide
 rcases E9 n 12 with k|k
 ·exact h n k
 ·have e:nuL.getD n 0=0:=by
   rw[B5,A10.2 (by exact k)];rfl
  rw[e];decide
theorem B2M{n:Int}(h : -9223372036854775808≤n)(h2:n≤9223372036854775807):(itz n).length≤21:=by rw[B90];exact Lib.itoa_length_le n h h2
noncomputable def C6a:List (FuncId×FnC):=(79,I9 Tryz.prog [.s 3] Z8 [.s 9])::L0
theorem C1f{G:Nat→Option Obj}(hst:B9 Tryz.prog G gl H0 n0):G4 Tryz.prog G gl C6a:=(.cons (B92 hst) .nil)
def A2s:List U→Option (Nat×List U)
 | [.bool b0,.bool b1,.bool ck,.bool b3,.bool b4,.bool b5,.bool b6,.bool pa,.bool fo,.bool b9,.bool b10,.int .i64 mo,.bool sg,.int .i64 k,.int .i64 m]=>if 0≤k∧k≤21∧0≤m∧m≤7 then some (0,[.str (spS ck k m)])else none
 | _=>none
theorem C3H(b0:Bool)(b1:Bool)(ck:Bool)(b3:Bool)(b4:Bool)(b5:Bool)(b6:Bool)(pa:Bool)(fo:Bool)(b9:Bool)(b10:Bool)(mo:Int)(sg:Bool)(k:Int)(m:Int)(hc:0≤k∧k≤21∧0≤m∧m≤7):A2s [.bool b0,.bool b1,.bool ck,.bool b3,.bool b4,.bool b5,.bool b6,.bool pa,.bool fo,.bool b9,.bool b10,.int .i64 mo,.bool sg,.int .i64 k,.int .i64 m]=some (0,[.str (spS ck k m)]):=if_pos hc
def C5a:Tr:=aA [h3 14,jI 1]<|.fn Z8 [h3 15] 1<|aH [h3 13,jI 10]<|.br 17 (aG [h3 14,jI 0]<|.br 18 (aS [h3 13,jI 10]<|aI [h3 19,jI 12]<|.br 20 (.lt 3 (.sel) [h3 19,jI 2,jI 3,jI 5,jI 6,jI 15,jI 17,jI 18,jI 19,jI 20,jI 21,jI 23,jI 24]<|.fn Z8 [h3 21] 1<|aC [.string ⟨⟨[27,91]⟩⟩,h 22 9]<|aC [h 23 9,.string ⟨⟨[59]⟩⟩]<|aC [h 24 9,h 16 9]<|aC [h 25 9,.string ⟨⟨[126]⟩⟩]<|.ret [h 26 9]) (.no)) (aH [h3 13,jI 10]<|.br 19 (aS [h3 13,jI 10]<|aI [h3 20,jI 12]<|.br 21 (.lt 3 (.sel) [h3 20,jI 2,jI 3,jI 5,jI 6,jI 15,jI 17,jI 18,jI 19,jI 20,jI 21,jI 23,jI 24]<|.fn Z8 [h3 22] 1<|aC [.string ⟨⟨[27,91]⟩⟩,h 23 9]<|aC [h 24 9,.string ⟨⟨[126]⟩⟩]<|.ret [h 25 9]) (.no)) (aG [h3 14,jI 0]<|.br 20 (aC [.string ⟨⟨[27,91,49,59]⟩⟩,h 16 9]<|aA [h3 13,jI 1]<|.lt 9 (.sub) [.string ⟨⟨[65,66,67,68,70,72,80,81,82,83]⟩⟩,h3 13,h3 22]<|aC [h 21 9,h 23 9]<|.ret [h 24 9]) (aH [h3 13,jI 6]<|.br 21 (aA [h3 13,jI 1]<|.lt 9 (.sub) [.string ⟨⟨[65,66,67,68,70,72,80,81,82,83]⟩⟩,h3 13,h3 22]<|aC [.string ⟨⟨[27,79]⟩⟩,h 23 9]<|.ret [h 24 9]) (.br 2 (aA [h3 13,jI 1]<|.lt 9 (.sub) [.string ⟨⟨[65,66,67,68,70,72,80,81,82,83]⟩⟩,h3 13,h3 22]<|aC [.string ⟨⟨[27,79]⟩⟩,h 23 9]<|.ret [h 24 9]) (aA [h3 13,jI 1]<|.lt 9 (.sub) [.string ⟨⟨[65,66,67,68,70,72,80,81,82,83]⟩⟩,h3 13,h3 22]<|aC [.string ⟨⟨[27,91]⟩⟩,h 23 9]<|.ret [h 24 9])))))) (aH [h3 13,jI 10]<|.br 18 (aS [h3 13,jI 10]<|aI [h3 19,jI 12]<|.br 20 (.lt 3 (.sel) [h3 19,jI 2,jI 3,jI 5,jI 6,jI 15,jI 17,jI 18,jI 19,jI 20,jI 21,jI 23,jI 24]<|.fn Z8 [h3 21] 1<|aC [.string ⟨⟨[27,91]⟩⟩,h 22 9]<|aC [h 23 9,.string ⟨⟨[126]⟩⟩]<|.ret [h 24 9]) (.no)) (aG [h3 14,jI 0]<|.br 19 (aC [.string ⟨⟨[27,91,49,59]⟩⟩,h 16 9]<|aA [h3 13,jI 1]<|.lt 9 (.sub) [.string ⟨⟨[65,66,67,68,70,72,80,81,82,83]⟩⟩,h3 13,h3 21]<|aC [h 20 9,h 22 9]<|.ret [h 23 9]) (aH [h3 13,jI 6]<|.br 20 (aA [h3 13,jI 1]<|.lt 9 (.sub) [.string ⟨⟨[65,66,67,68,70,72,80,81,82,83]⟩⟩,h3 13,h3 21]<|aC [.string ⟨⟨[27,79]⟩⟩,h 22 9]<|.ret [h 23 9]) (.br 2 (aA [h3 13,jI 1]<|.lt 9 (.sub) [.string ⟨⟨[65,66,67,68,70,72,80,81,82,83]⟩⟩,h3 13,h3 21]<|aC [.string ⟨⟨[27,79]⟩⟩,h 22 9]<|.ret [h 23 9]) (aA [h3 13,jI 1]<|.lt 9 (.sub) [.string ⟨⟨[65,66,67,68,70,72,80,81,82,83]⟩⟩,h3 13,h3 21]<|aC [.string ⟨⟨[27,91]⟩⟩,h 22 9]<|.ret [h 23 9])))))
theorem C9s{G:Nat→Option Obj}(hst:B9 Tryz.prog G gl H0 n0):L2 Tryz.prog G 78 [.a [8,8,8,8,8,8,8,8,8,8,8,3,8],.s 3,.s 3] A2s [.s 9]:=by
 refine E7 (C:=cx C6a []) (d:=60) C5a (cxg (C1f hst) .nil) hst ⟨Tryz.f78,_,Tryz.func78,rfl⟩ (by kernel_rfl) (by kernel_rfl) ?_;intro us outs hs;unfold A2s at hs;split at hs
 ·skip;rename_i b0 b1 ck b3 b4 b5 b6 pa fo b9 b10 mo sg k m;split at hs
  ·rename_i hc;cases hs;have l1:=B2M (n:=m+1) (by omega) (by omega);have q1:0≤([2,3,5,6,15,17,18,19,20,21,23,24]:List Int).getD (k-10).toNat 0∧([2,3,5,6,15,17,18,19,20,21,23,24]:List Int).getD (k-10).toNat 0≤24:=C88 _;have l2:(itz (([2,3,5,6,15,17,18,19,20,21,23,24]:List Int).getD (k-10).toNat 0)).length≤21:=B2M (by omega) (by omega);unfold C5a;refine w0 (.cons 14 _ (.cons 13 _ (.cons 12 _ (.cons 11 _ (.cons 10 _ (.cons 9 _ (.cons 8 _ (.cons 7 _ (.cons 6 _ (.cons 5 _ (.cons 4 _ (.cons 3 _ (.cons 2 _ (.cons 1 _ (.cons 0 _ (.nil)))))))))))))))) ?_;repeat (first|refine W5 ?_|refine N7 ?_|refine w1 (.bin .add) (e:=S3 _ _ (by simp only[A7,B6,D9,D5];omega)) (k':=?_)|refine w4 (fun g=>?_) fun g=>?_|refine w4B (fun g=>?_) fun g=>?_|(refine w7 [.str _] ?_;rotate_left)|refine B8W ?_|refine l7 ?_|refine S1 ?_|refine A2d ?_|refine w31 Z8 (e:=A3C _ (by omega)) (k':=?_)|refine A7y ?_|refine C6w ?_|refine w1 (.sel) (e:=B2Z [2,3,5,6,15,17,18,19,20,21,23,24] (by omega) (by show _<((12:Nat):Int);omega)) (k':=?_)|(refine w8 ?_;first|omega))
   all_goals
    refine congrArg (fun z=>[U.str z]) ?_;unfold spS B9k
    (repeat' split)<;>first|(exfalso;omega)|rfl|(simp;done)|(simp_all;done)
  ·cases hs
 ·cases hs
def rM:Rw (Int×(List UInt8)):=rC (t6 .i64) (r1 B5n)
def kmL:List (Int×List UInt8):=[(1114135,[13]),(1114136,[9]),(1114137,[127]),(1114138,[27])]
def kmG(c:Int):List UInt8:=(kmL.find? (fun a=>(c == a.1 && true))).elim [] (fun a=>a.2)
def kmH(c:Int):Bool:=kmL.any (fun a=>(c == a.1 && true))
theorem C9N(c:Int):kmH c=decide (c=1114135∨c=1114136∨c=1114137∨c=1114138):=by
 unfold kmH kmL;rw[J1];simp
theorem C9O(c:Int):kmG c=if c=1114135 then[13]else if c=1114136 then[9]else if c=1114137 then[127]else if c=1114138 then[27]else[]:=by
 unfold kmG kmL;simp only[A04,A2W,List.find?_nil];by_cases h1:c=1114135
 ·subst h1;rfl
 ·by_cases h2:c=1114136
  ·subst h2;rfl
  ·by_cases h3:c=1114137
   ·subst h3;rfl
   ·by_cases h4:c=1114138
    ·subst h4;rfl
    ·have e1:(c == 1114135)=false:=by simp[h1]
     have e2:(c == 1114136)=false:=by simp[h2]
     have e3:(c == 1114137)=false:=by simp[h3]
     have e4:(c == 1114138)=false:=by simp[h4]
     rw[e1,e2,e3,e4,if_neg h1,if_neg h2,if_neg h3,if_neg h4];rfl
theorem D0g{c:Int}(h:kmH c=false):c≠1114135∧c≠1114136∧c≠1114137∧c≠1114138:=by
 rw[C9N]at h
 have:=of_decide_eq_false h;omega
theorem C7Q(c:Int):(kmG c).length≤1:=by
 rw[C9O]
 (repeat' split)<;>decide
theorem B9J(c:Int):(B7o c).length≤4:=by
 unfold B7o iB B16;rw[F5]
 (repeat' split)<;>simp
theorem C7o{x:Option (List (Int×List UInt8))}(c:Int)(hx:el x=kmL):evU (.mget 2 1 1) [A8 rM x,.str [],.int .i64 c]=.str (kmG c):=by
 have h:=y8 (x:=x) (z:=([]:List UInt8)) (kc:=[.int .i64 c]) (r:=rM) (w:=2) (kw:=1) (o:=1) U.str (fun a=>(c == a.1 && true)) (fun a=>a.2) rfl rfl (fun _=>rfl) (fun _=>rfl);rw[hx]at h;exact h
theorem C7n{x:Option (List (Int×List UInt8))}(c:Int)(hx:el x=kmL):evU (.mhas 2 1) [A8 rM x,.int .i64 c]=.bool (kmH c):=by
 have h:=B4N (x:=x) (kc:=[.int .i64 c]) (r:=rM) (w:=2) (kw:=1) (fun a=>(c == a.1 && true)) rfl rfl (fun _=>rfl);rw[hx]at h;exact h
theorem X7(l:List Int):(iB l).length=l.length:=by unfold iB;rw[F5]
def B5w(m:Int):List UInt8:=if m / 2%2*2≠0 then[27]else[]
def keS(ck:Bool)(c m:Int):List UInt8 :=
 if c=1114136∧m=1 then[27,91,90]else if c=1114135 then B5w m++[13]else if c=1114136 then B5w m++[9]else if c=1114137 then B5w m++[127]else if c=1114138 then B5w m++[27]
 else if c<1114113 then(if m / 4%2*4≠0 then B5w m++iB [A4Q c]else B5w m++B7o c)else spS ck (c-1114113) m
noncomputable def C6d:List (FuncId×FnC):=(66,I9 Tryz.prog [.s 3] A2u [.s 4,.s 8])::(77,I9 Tryz.prog [.s 3] A2j [.s 9])::(78,I9 Tryz.prog [.a [8,8,8,8,8,8,8,8,8,8,8,3,8],.s 3,.s 3] A2s [.s 9])::L0
theorem C1i{G:Nat→Option Obj}(hst:B9 Tryz.prog G gl H0 n0):G4 Tryz.prog G gl C6d:=(.cons (C5k hst) (.cons (C8n hst) (.cons (C9s hst) .nil)))
def j8:List U→Option (Nat×List U)
 | [.bool b0,.bool b1,.bool ck,.bool b3,.bool b4,.bool b5,.bool b6,.bool pa,.bool fo,.bool b9,.bool b10,.int .i64 mo,.bool sg,.int .i64 k,.int .i64 c,.int .i64 m,.int .i64 w,.int .i64 b,.int .i64 r,.int .i64 cl,.str t]=>if A6y c m then some (0,[.str (keS ck c m)])else none
 | _=>none
theorem B2g(b0:Bool)(b1:Bool)(ck:Bool)(b3:Bool)(b4:Bool)(b5:Bool)(b6:Bool)(pa:Bool)(fo:Bool)(b9:Bool)(b10:Bool)(mo:Int)(sg:Bool)(k:Int)(c:Int)(m:Int)(w:Int)(b:Int)(r:Int)(cl:Int)(t:(List UInt8))(hc:A6y c m):j8 [.bool b0,.bool b1,.bool ck,.bool b3,.bool b4,.bool b5,.bool b6,.bool pa,.bool fo,.bool b9,.bool b10,.int .i64 mo,.bool sg,.int .i64 k,.int .i64 c,.int .i64 m,.int .i64 w,.int .i64 b,.int .i64 r,.int .i64 cl,.str t]=some (0,[.str (keS ck c m)]):=if_pos hc
def C5g:Tr:=.lt 3 (.bin .and) [h3 15,jI 2]<|aN [h3 21,jI 0]<|.br 22 (.dt 12 (.mk 2) []<|.dt 12 (.mput 2 1) [h 23 12,jI 1114135,.string ⟨⟨[13]⟩⟩]<|.dt 12 (.mput 2 1) [h 24 12,jI 1114136,.string ⟨⟨[9]⟩⟩]<|.dt 12 (.mput 2 1) [h 25 12,jI 1114137,.string ⟨⟨[127]⟩⟩]<|.dt 12 (.mput 2 1) [h 26 12,jI 1114138,.string ⟨⟨[27]⟩⟩]<|.lt 9 (.mget 2 1 1) [h 27 12,.string ⟨⟨[]⟩⟩,h3 14]<|.lt 8 (.mhas 2 1) [h 27 12,h3 14]<|aE [h3 14,jI 1114136]<|.br 30 (aE [h3 15,jI 1]<|.br 31 (.ret [.string ⟨⟨[27,91,90]⟩⟩]) (.br 29 (aC [.string ⟨⟨[27]⟩⟩,h 28 9]<|.ret [h 32 9]) (aL [h3 14,jI 1114113]<|.br 32 (.lt 3 (.bin .and) [h3 15,jI 4]<|aN [h3 33,jI 0]<|.br 34 (.fn A2u [h3 14] 2<|.lt 9 (.mks) [h 35 4]<|aC [.string ⟨⟨[27]⟩⟩,h 37 9]<|.ret [h 38 9]) (aL [h3 14,jI 1114113]<|.br 35 (.fn A2j [h3 14] 1<|aC [.string ⟨⟨[27]⟩⟩,h 36 9]<|.ret [h 37 9]) (aS [h3 14,jI 1114113]<|.fn A2s [h 0 8,h 1 8,h 2 8,h 3 8,h 4 8,h 5 8,h 6 8,h 7 8,h 8 8,h 9 8,h 10 8,h3 11,h 12 8,h3 36,h3 15] 1<|.ret [h 37 9]))) (aL [h3 14,jI 1114113]<|.br 33 (.fn A2j [h3 14] 1<|aC [.string ⟨⟨[27]⟩⟩,h 34 9]<|.ret [h 35 9]) (aS [h3 14,jI 1114113]<|.fn A2s [h 0 8,h 1 8,h 2 8,h 3 8,h 4 8,h 5 8,h 6 8,h 7 8,h 8 8,h 9 8,h 10 8,h3 11,h 12 8,h3 34,h3 15] 1<|.ret [h 35 9]))))) (.br 29 (aC [.string ⟨⟨[27]⟩⟩,h 28 9]<|.ret [h 31 9]) (aL [h3 14,jI 1114113]<|.br 31 (.lt 3 (.bin .and) [h3 15,jI 4]<|aN [h3 32,jI 0]<|.br 33 (.fn A2u [h3 14] 2<|.lt 9 (.mks) [h 34 4]<|aC [.string ⟨⟨[27]⟩⟩,h 36 9]<|.ret [h 37 9]) (aL [h3 14,jI 1114113]<|.br 34 (.fn A2j [h3 14] 1<|aC [.string ⟨⟨[27]⟩⟩,h 35 9]<|.ret [h 36 9]) (aS [h3 14,jI 1114113]<|.fn A2s [h 0 8,h 1 8,h 2 8,h 3 8,h 4 8,h 5 8,h 6 8,h 7 8,h 8 8,h 9 8,h 10 8,h3 11,h 12 8,h3 35,h3 15] 1<|.ret [h 36 9]))) (aL [h3 14,jI 1114113]<|.br 32 (.fn A2j [h3 14] 1<|aC [.string ⟨⟨[27]⟩⟩,h 33 9]<|.ret [h 34 9]) (aS [h3 14,jI 1114113]<|.fn A2s [h 0 8,h 1 8,h 2 8,h 3 8,h 4 8,h 5 8,h 6 8,h 7 8,h 8 8,h 9 8,h 10 8,h3 11,h 12 8,h3 33,h3 15] 1<|.ret [h 34 9]))))) (.dt 12 (.mk 2) []<|.dt 12 (.mput 2 1) [h 23 12,jI 1114135,.string ⟨⟨[13]⟩⟩]<|.dt 12 (.mput 2 1) [h 24 12,jI 1114136,.string ⟨⟨[9]⟩⟩]<|.dt 12 (.mput 2 1) [h 25 12,jI 1114137,.string ⟨⟨[127]⟩⟩]<|.dt 12 (.mput 2 1) [h 26 12,jI 1114138,.string ⟨⟨[27]⟩⟩]<|.lt 9 (.mget 2 1 1) [h 27 12,.string ⟨⟨[]⟩⟩,h3 14]<|.lt 8 (.mhas 2 1) [h 27 12,h3 14]<|aE [h3 14,jI 1114136]<|.br 30 (aE [h3 15,jI 1]<|.br 31 (.ret [.string ⟨⟨[27,91,90]⟩⟩]) (.br 29 (aC [.string ⟨⟨[]⟩⟩,h 28 9]<|.ret [h 32 9]) (aL [h3 14,jI 1114113]<|.br 32 (.lt 3 (.bin .and) [h3 15,jI 4]<|aN [h3 33,jI 0]<|.br 34 (.fn A2u [h3 14] 2<|.lt 9 (.mks) [h 35 4]<|aC [.string ⟨⟨[]⟩⟩,h 37 9]<|.ret [h 38 9]) (aL [h3 14,jI 1114113]<|.br 35 (.fn A2j [h3 14] 1<|aC [.string ⟨⟨[]⟩⟩,h 36 9]<|.ret [h 37 9]) (aS [h3 14,jI 1114113]<|.fn A2s [h 0 8,h 1 8,h 2 8,h 3 8,h 4 8,h 5 8,h 6 8,h 7 8,h 8 8,h 9 8,h 10 8,h3 11,h 12 8,h3 36,h3 15] 1<|.ret [h 37 9]))) (aL [h3 14,jI 1114113]<|.br 33 (.fn A2j [h3 14] 1<|aC [.string ⟨⟨[]⟩⟩,h 34 9]<|.ret [h 35 9]) (aS [h3 14,jI 1114113]<|.fn A2s [h 0 8,h 1 8,h 2 8,h 3 8,h 4 8,h 5 8,h 6 8,h 7 8,h 8 8,h 9 8,h 10 8,h3 11,h 12 8,h3 34,h3 15] 1<|.ret [h 35 9]))))) (.br 29 (aC [.string ⟨⟨[]⟩⟩,h 28 9]<|.ret [h 31 9]) (aL [h3 14,jI 1114113]<|.br 31 (.lt 3 (.bin .and) [h3 15,jI 4]<|aN [h3 32,jI 0]<|.br 33 (.fn A2u [h3 14] 2<|.lt 9 (.mks) [h 34 4]<|aC [.string ⟨⟨[]⟩⟩,h 36 9]<|.ret [h 37 9]) (aL [h3 14,jI 1114113]<|.br 34 (.fn A2j [h3 14] 1<|aC [.string ⟨⟨[]⟩⟩,h 35 9]<|.ret [h 36 9]) (aS [h3 14,jI 1114113]<|.fn A2s [h 0 8,h 1 8,h 2 8,h 3 8,h 4 8,h 5 8,h 6 8,h 7 8,h 8 8,h 9 8,h 10 8,h3 11,h 12 8,h3 35,h3 15] 1<|.ret [h 36 9]))) (aL [h3 14,jI 1114113]<|.br 32 (.fn A2j [h3 14] 1<|aC [.string ⟨⟨[]⟩⟩,h 33 9]<|.ret [h 34 9]) (aS [h3 14,jI 1114113]<|.fn A2s [h 0 8,h 1 8,h 2 8,h 3 8,h 4 8,h 5 8,h 6 8,h 7 8,h 8 8,h 9 8,h 10 8,h3 11,h 12 8,h3 33,h3 15] 1<|.ret [h 34 9])))))
theorem A3b{G:Nat→Option Obj}(hst:B9 Tryz.prog G gl H0 n0):L2 Tryz.prog G 50 [.a [8,8,8,8,8,8,8,8,8,8,8,3,8],.a [3,3,3,3,3,3,3,9]] j8 [.s 9]:=by
 refine E7 (C:=cx C6d []) (d:=60) C5g (cxg (C1i hst) .nil) hst ⟨Tryz.f50,_,Tryz.func50,rfl⟩ (by kernel_rfl) (by kernel_rfl) ?_;intro us outs hs;unfold j8 at hs;split at hs
 ·skip;rename_i b0 b1 ck b3 b4 b5 b6 pa fo b9 b10 mo sg k c m w b r cl t;split at hs
  ·rename_i hc;cases hs;have z1:=C5l c;have z2:=C7Q c;have z3:=B9J c;have hk:=hc;unfold A6y chP okU at hk;unfold C5g;refine s0L ?_;show Tr.sav _ _ (.cons 20 _ (.cons 19 _ (.cons 18 _ (.cons 17 _ (.cons 16 _ (.cons 15 _ (.cons 14 _ (.cons 13 _ (.cons 12 _ (.cons 11 _ (.cons 10 _ (.cons 9 _ (.cons 8 _ (.cons 7 _ (.cons 6 _ (.cons 5 _ (.cons 4 _ (.cons 3 _ (.cons 2 _ (.cons 1 _ (.cons 0 _ (.nil))))))))))))))))))))));refine Wk.s ?_;repeat (first|refine w4 (fun g=>?_) fun g=>?_|refine w4B (fun g=>?_) fun g=>?_|(refine w7 [.str _] ?_;rotate_left)|refine w1 (.bin .add) (e:=S3 _ _ (by simp only[A7,B6,D9,X7];omega)) (k':=?_)|refine l7 ?_|refine S1 ?_|refine A1U ?_|refine w2 (.mput 2 1) (r:=rM) (e:=y7 (fun a b=>(a.1 == b.1 && true)) (_,_) rfl rfl (fun _=>rfl) (L8 _)) (k':=?_)|refine w31 A2j (e:=C2V _) (k':=?_)|refine w31 A2s (e:=C3H _ _ _ _ _ _ _ _ _ _ _ _ _ _ _ (by have z6:=D0g ‹_›;omega)) (k':=?_)|refine A0k ?_|refine N6 ?_|refine w1 (.bin .and) (e:=B2d _) (k':=?_)|refine w32 A2u (e:=B66 _) (k':=?_)|refine w1 (.mks) (e:=A7A [_] (by simp only[B7,O1,or_false,forall_eq_or_imp,forall_eq];omega)) (k':=?_)|refine w2 (.mk 2) (r:=rM) (e:=P2 [] rfl (by decide) rfl) (k':=?_)|refine w1x (.mget 2 1 1) (e:=C7o _ rfl) (k':=?_)|refine w1x (.mhas 2 1) (e:=C7n _ rfl) (k':=?_)|refine w1 (.bin .and) (e:=B6u _) (k':=?_))
   all_goals
    refine congrArg (fun z=>[U.str z]) ?_
    (try simp only[C9N,decide_eq_true_eq,decide_eq_false_iff_not]at *)
    (try rw[C9O])
    unfold keS B5w
    (repeat' split)<;>first|(exfalso;omega)|rfl
  ·cases hs
 ·cases hs
def isR(mo w b:Int):Prop:=(mo=9∧w=0)∨(mo=1000∧w≠2)∨(mo=1002∧(w≠2∨b≠3))∨(mo≠0∧mo≠9∧mo≠1000∧mo≠1002)
instance(mo w b:Int):Decidable (isR mo w b):=by unfold isR;infer_instance
def isS(pa fo:Bool)(mo k w b:Int):Bool:=if k=3 then pa else if k=4 then fo else if k=2 then decide (isR mo w b)else true
def B5k(mo k m:Int):Int:=if k=2∧mo=9 then 0 else m
def B5l(sg:Bool)(k w b:Int):Int:=if k=2∧w=1∧sg=false then 3 else b
def ifI(c:Bool)(n:Int):Int:=if c then n else 0
def ifT(c:Bool)(t:List UInt8):List UInt8:=if c then t else[]
noncomputable def C6k:List (FuncId×FnC):=L0
theorem C1p{G:Nat→Option Obj}(hst:B9 Tryz.prog G gl H0 n0):G4 Tryz.prog G gl C6k:=.nil
def B1Y:List U→Option (Nat×List U)
 | [.bool b0,.bool b1,.bool ck,.bool b3,.bool b4,.bool b5,.bool b6,.bool pa,.bool fo,.bool b9,.bool b10,.int .i64 mo,.bool sg,.int .i64 k,.int .i64 c,.int .i64 m,.int .i64 w,.int .i64 b,.int .i64 r,.int .i64 cl,.str t]=>if k=2→b≤3 then some (0,[.int .i64 (ifI (isS pa fo mo k w b) k),.int .i64 (ifI (isS pa fo mo k w b) c),.int .i64 (ifI (isS pa fo mo k w b) (B5k mo k m)),.int .i64 (ifI (isS pa fo mo k w b) w),.int .i64 (ifI (isS pa fo mo k w b) (B5l sg k w b)),.int .i64 (ifI (isS pa fo mo k w b) r),.int .i64 (ifI (isS pa fo mo k w b) cl),.str (ifT (isS pa fo mo k w b) t),.bool (isS pa fo mo k w b)])else none
 | _=>none
theorem C3Z(b0:Bool)(b1:Bool)(ck:Bool)(b3:Bool)(b4:Bool)(b5:Bool)(b6:Bool)(pa:Bool)(fo:Bool)(b9:Bool)(b10:Bool)(mo:Int)(sg:Bool)(k:Int)(c:Int)(m:Int)(w:Int)(b:Int)(r:Int)(cl:Int)(t:(List UInt8))(hc:k=2→b≤3):B1Y [.bool b0,.bool b1,.bool ck,.bool b3,.bool b4,.bool b5,.bool b6,.bool pa,.bool fo,.bool b9,.bool b10,.int .i64 mo,.bool sg,.int .i64 k,.int .i64 c,.int .i64 m,.int .i64 w,.int .i64 b,.int .i64 r,.int .i64 cl,.str t]=some (0,[.int .i64 (ifI (isS pa fo mo k w b) k),.int .i64 (ifI (isS pa fo mo k w b) c),.int .i64 (ifI (isS pa fo mo k w b) (B5k mo k m)),.int .i64 (ifI (isS pa fo mo k w b) w),.int .i64 (ifI (isS pa fo mo k w b) (B5l sg k w b)),.int .i64 (ifI (isS pa fo mo k w b) r),.int .i64 (ifI (isS pa fo mo k w b) cl),.str (ifT (isS pa fo mo k w b) t),.bool (isS pa fo mo k w b)]):=if_pos hc
def C5v:Tr:=aE [h3 13,jI 3]<|.br 21 (aX [h 7 8]<|.br 22 (.ret [jI 0,jI 0,jI 0,jI 0,jI 0,jI 0,jI 0,.string ⟨⟨[]⟩⟩,.bool false]) (.ret [h3 13,h3 14,h3 15,h3 16,h3 17,h3 18,h3 19,h 20 9,.bool true])) (aE [h3 13,jI 4]<|.br 22 (aX [h 8 8]<|.br 23 (.ret [jI 0,jI 0,jI 0,jI 0,jI 0,jI 0,jI 0,.string ⟨⟨[]⟩⟩,.bool false]) (.ret [h3 13,h3 14,h3 15,h3 16,h3 17,h3 18,h3 19,h 20 9,.bool true])) (aE [h3 13,jI 2]<|.br 23 (aE [h3 11,jI 9]<|.br 24 (aE [h3 16,jI 0]<|aE [h3 11,jI 9]<|.br 26 (aE [h3 16,jI 1]<|.br 27 (aX [h 12 8]<|.br 28 (aX [h 25 8]<|.br 29 (.ret [jI 0,jI 0,jI 0,jI 0,jI 0,jI 0,jI 0,.string ⟨⟨[]⟩⟩,.bool false]) (.ret [h3 13,h3 14,jI 0,h3 16,jI 3,h3 18,h3 19,h 20 9,.bool true])) (aX [h 25 8]<|.br 29 (.ret [jI 0,jI 0,jI 0,jI 0,jI 0,jI 0,jI 0,.string ⟨⟨[]⟩⟩,.bool false]) (.ret [h3 13,h3 14,jI 0,h3 16,h3 17,h3 18,h3 19,h 20 9,.bool true]))) (aX [h 25 8]<|.br 28 (.ret [jI 0,jI 0,jI 0,jI 0,jI 0,jI 0,jI 0,.string ⟨⟨[]⟩⟩,.bool false]) (.ret [h3 13,h3 14,jI 0,h3 16,h3 17,h3 18,h3 19,h 20 9,.bool true]))) (aE [h3 16,jI 1]<|.br 27 (aX [h 12 8]<|.br 28 (aX [h 25 8]<|.br 29 (.ret [jI 0,jI 0,jI 0,jI 0,jI 0,jI 0,jI 0,.string ⟨⟨[]⟩⟩,.bool false]) (.ret [h3 13,h3 14,h3 15,h3 16,jI 3,h3 18,h3 19,h 20 9,.bool true])) (aX [h 25 8]<|.br 29 (.ret [jI 0,jI 0,jI 0,jI 0,jI 0,jI 0,jI 0,.string ⟨⟨[]⟩⟩,.bool false]) (.ret [h3 13,h3 14,h3 15,h3 16,h3 17,h3 18,h3 19,h 20 9,.bool true]))) (aX [h 25 8]<|.br 28 (.ret [jI 0,jI 0,jI 0,jI 0,jI 0,jI 0,jI 0,.string ⟨⟨[]⟩⟩,.bool false]) (.ret [h3 13,h3 14,h3 15,h3 16,h3 17,h3 18,h3 19,h 20 9,.bool true])))) (aE [h3 11,jI 1000]<|.br 25 (aN [h3 16,jI 2]<|aE [h3 11,jI 9]<|.br 27 (aE [h3 16,jI 1]<|.br 28 (aX [h 12 8]<|.br 29 (aX [h 26 8]<|.br 30 (.ret [jI 0,jI 0,jI 0,jI 0,jI 0,jI 0,jI 0,.string ⟨⟨[]⟩⟩,.bool false]) (.ret [h3 13,h3 14,jI 0,h3 16,jI 3,h3 18,h3 19,h 20 9,.bool true])) (aX [h 26 8]<|.br 30 (.ret [jI 0,jI 0,jI 0,jI 0,jI 0,jI 0,jI 0,.string ⟨⟨[]⟩⟩,.bool false]) (.ret [h3 13,h3 14,jI 0,h3 16,h3 17,h3 18,h3 19,h 20 9,.bool true]))) (aX [h 26 8]<|.br 29 (.ret [jI 0,jI 0,jI 0,jI 0,jI 0,jI 0,jI 0,.string ⟨⟨[]⟩⟩,.bool false]) (.ret [h3 13,h3 14,jI 0,h3 16,h3 17,h3 18,h3 19,h 20 9,.bool true]))) (aE [h3 16,jI 1]<|.br 28 (aX [h 12 8]<|.br 29 (aX [h 26 8]<|.br 30 (.ret [jI 0,jI 0,jI 0,jI 0,jI 0,jI 0,jI 0,.string ⟨⟨[]⟩⟩,.bool false]) (.ret [h3 13,h3 14,h3 15,h3 16,jI 3,h3 18,h3 19,h 20 9,.bool true])) (aX [h 26 8]<|.br 30 (.ret [jI 0,jI 0,jI 0,jI 0,jI 0,jI 0,jI 0,.string ⟨⟨[]⟩⟩,.bool false]) (.ret [h3 13,h3 14,h3 15,h3 16,h3 17,h3 18,h3 19,h 20 9,.bool true]))) (aX [h 26 8]<|.br 29 (.ret [jI 0,jI 0,jI 0,jI 0,jI 0,jI 0,jI 0,.string ⟨⟨[]⟩⟩,.bool false]) (.ret [h3 13,h3 14,h3 15,h3 16,h3 17,h3 18,h3 19,h 20 9,.bool true])))) (aE [h3 11,jI 1002]<|.br 26 (aN [h3 16,jI 2]<|.br 27 (aE [h3 11,jI 9]<|.br 28 (aE [h3 16,jI 1]<|.br 29 (aX [h 12 8]<|.br 30 (.ret [h3 13,h3 14,jI 0,h3 16,jI 3,h3 18,h3 19,h 20 9,.bool true]) (.ret [h3 13,h3 14,jI 0,h3 16,h3 17,h3 18,h3 19,h 20 9,.bool true])) (.ret [h3 13,h3 14,jI 0,h3 16,h3 17,h3 18,h3 19,h 20 9,.bool true])) (aE [h3 16,jI 1]<|.br 29 (aX [h 12 8]<|.br 30 (.ret [h3 13,h3 14,h3 15,h3 16,jI 3,h3 18,h3 19,h 20 9,.bool true]) (.ret [h3 13,h3 14,h3 15,h3 16,h3 17,h3 18,h3 19,h 20 9,.bool true])) (.ret [h3 13,h3 14,h3 15,h3 16,h3 17,h3 18,h3 19,h 20 9,.bool true]))) (aN [h3 17,jI 3]<|aE [h3 11,jI 9]<|.br 29 (aE [h3 16,jI 1]<|.br 30 (aX [h 12 8]<|.br 31 (aX [h 28 8]<|.br 32 (.ret [jI 0,jI 0,jI 0,jI 0,jI 0,jI 0,jI 0,.string ⟨⟨[]⟩⟩,.bool false]) (.ret [h3 13,h3 14,jI 0,h3 16,jI 3,h3 18,h3 19,h 20 9,.bool true])) (aX [h 28 8]<|.br 32 (.ret [jI 0,jI 0,jI 0,jI 0,jI 0,jI 0,jI 0,.string ⟨⟨[]⟩⟩,.bool false]) (.ret [h3 13,h3 14,jI 0,h3 16,h3 17,h3 18,h3 19,h 20 9,.bool true]))) (aX [h 28 8]<|.br 31 (.ret [jI 0,jI 0,jI 0,jI 0,jI 0,jI 0,jI 0,.string ⟨⟨[]⟩⟩,.bool false]) (.ret [h3 13,h3 14,jI 0,h3 16,h3 17,h3 18,h3 19,h 20 9,.bool true]))) (aE [h3 16,jI 1]<|.br 30 (aX [h 12 8]<|.br 31 (aX [h 28 8]<|.br 32 (.ret [jI 0,jI 0,jI 0,jI 0,jI 0,jI 0,jI 0,.string ⟨⟨[]⟩⟩,.bool false]) (.ret [h3 13,h3 14,h3 15,h3 16,jI 3,h3 18,h3 19,h 20 9,.bool true])) (aX [h 28 8]<|.br 32 (.ret [jI 0,jI 0,jI 0,jI 0,jI 0,jI 0,jI 0,.string ⟨⟨[]⟩⟩,.bool false]) (.ret [h3 13,h3 14,h3 15,h3 16,h3 17,h3 18,h3 19,h 20 9,.bool true]))) (aX [h 28 8]<|.br 31 (.ret [jI 0,jI 0,jI 0,jI 0,jI 0,jI 0,jI 0,.string ⟨⟨[]⟩⟩,.bool false]) (.ret [h3 13,h3 14,h3 15,h3 16,h3 17,h3 18,h3 19,h 20 9,.bool true]))))) (aN [h3 11,jI 0]<|aE [h3 11,jI 9]<|.br 28 (aE [h3 16,jI 1]<|.br 29 (aX [h 12 8]<|.br 30 (aX [h 27 8]<|.br 31 (.ret [jI 0,jI 0,jI 0,jI 0,jI 0,jI 0,jI 0,.string ⟨⟨[]⟩⟩,.bool false]) (.ret [h3 13,h3 14,jI 0,h3 16,jI 3,h3 18,h3 19,h 20 9,.bool true])) (aX [h 27 8]<|.br 31 (.ret [jI 0,jI 0,jI 0,jI 0,jI 0,jI 0,jI 0,.string ⟨⟨[]⟩⟩,.bool false]) (.ret [h3 13,h3 14,jI 0,h3 16,h3 17,h3 18,h3 19,h 20 9,.bool true]))) (aX [h 27 8]<|.br 30 (.ret [jI 0,jI 0,jI 0,jI 0,jI 0,jI 0,jI 0,.string ⟨⟨[]⟩⟩,.bool false]) (.ret [h3 13,h3 14,jI 0,h3 16,h3 17,h3 18,h3 19,h 20 9,.bool true]))) (aE [h3 16,jI 1]<|.br 29 (aX [h 12 8]<|.br 30 (aX [h 27 8]<|.br 31 (.ret [jI 0,jI 0,jI 0,jI 0,jI 0,jI 0,jI 0,.string ⟨⟨[]⟩⟩,.bool false]) (.ret [h3 13,h3 14,h3 15,h3 16,jI 3,h3 18,h3 19,h 20 9,.bool true])) (aX [h 27 8]<|.br 31 (.ret [jI 0,jI 0,jI 0,jI 0,jI 0,jI 0,jI 0,.string ⟨⟨[]⟩⟩,.bool false]) (.ret [h3 13,h3 14,h3 15,h3 16,h3 17,h3 18,h3 19,h 20 9,.bool true]))) (aX [h 27 8]<|.br 30 (.ret [jI 0,jI 0,jI 0,jI 0,jI 0,jI 0,jI 0,.string ⟨⟨[]⟩⟩,.bool false]) (.ret [h3 13,h3 14,h3 15,h3 16,h3 17,h3 18,h3 19,h 20 9,.bool true]))))))) (.ret [h3 13,h3 14,h3 15,h3 16,h3 17,h3 18,h3 19,h 20 9,.bool true])))
theorem D0C{G:Nat→Option Obj}(hst:B9 Tryz.prog G gl H0 n0):L2 Tryz.prog G 49 [.a [8,8,8,8,8,8,8,8,8,8,8,3,8],.a [3,3,3,3,3,3,3,9]] B1Y [.a [3,3,3,3,3,3,3,9],.s 8]:=by
 refine E7 (C:=cx C6k []) (d:=60) C5v (cxg (C1p hst) .nil) hst ⟨Tryz.f49,_,Tryz.func49,rfl⟩ (by kernel_rfl) (by kernel_rfl) ?_;intro us outs hs;unfold B1Y at hs;split at hs
 ·skip;rename_i b0 b1 ck b3 b4 b5 b6 pa fo b9 b10 mo sg k c m w b r cl t;split at hs
  ·rename_i hc;cases hs;unfold C5v;refine s0L ?_;show Tr.sav _ _ (.cons 20 _ (.cons 19 _ (.cons 18 _ (.cons 17 _ (.cons 16 _ (.cons 15 _ (.cons 14 _ (.cons 13 _ (.cons 12 _ (.cons 11 _ (.cons 10 _ (.cons 9 _ (.cons 8 _ (.cons 7 _ (.cons 6 _ (.cons 5 _ (.cons 4 _ (.cons 3 _ (.cons 2 _ (.cons 1 _ (.cons 0 _ (.nil))))))))))))))))))))));refine Wk.s ?_;repeat (first|refine w4 (fun g=>?_) fun g=>?_|refine w4B (fun g=>?_) fun g=>?_|(refine w7 [.int .i64 _,.int .i64 _,.int .i64 _,.int .i64 _,.int .i64 _,.int .i64 _,.int .i64 _,.str _,.bool _] ?_;rotate_left)|refine m9 ?_|refine A3o ?_|refine N6 ?_|refine A0k ?_)
   all_goals
    unfold isS isR B5k B5l ifI ifT;first|(simp_all;done)|(simp_all;omega)
  ·cases hs
 ·cases hs
def kdS(w:Int):Int:=if w=2 then 32 else if w=3 then 64 else 0
theorem C9H(w:Int)(h:0≤w)(h2:w≤3):([0,0,32,64]:List Int).getD w.toNat 0=kdS w:=by
 have:w=0∨w=1∨w=2∨w=3:=by omega
 rcases this with rfl|rfl|rfl|rfl<;>decide
theorem C9S(w:Int):(w=2∧kdS w=32)∨(w=3∧kdS w=64)∨(w≠2∧w≠3∧kdS w=0):=by
 unfold kdS
 (repeat' split)<;>omega
def nuS(m w b:Int):Int:=b+m%2*4+m / 2%2*8+m / 4*16+kdS w
def laS(w:Int):List UInt8:=if w=1 then[109]else[77]
def moS(sg:Bool)(m w b r cl:Int):List UInt8 :=
 if sg=false then[27,91,77]++iB [32+nuS m w b,33+cl,33+r]
 else[27,91,60]++itz (nuS m w b)++[59]++itz (cl+1)++[59]++itz (r+1)++laS w
theorem C7L{sg:Bool}{m w b r cl x y z:Int}(h:sg=false)(hx:x=32+nuS m w b)(hy:y=33+cl)(hz:z=33+r):[27,91,77]++iB [x,y,z]=moS sg m w b r cl:=by
 subst hx hy hz;unfold moS;rw[if_pos h]
theorem C7K{sg:Bool}{m w b r cl x y z:Int}{l:List UInt8}(h:sg=true)(hx:x=nuS m w b)(hy:y=cl+1)(hz:z=r+1)(hl:l=laS w):[27,91,60]++itz x++[59]++itz y++[59]++itz z++l=moS sg m w b r cl:=by
 subst hx hy hz hl;unfold moS;rw[if_neg (by rw[h];decide)]
theorem B91(n:Int)(h0:0≤n)(h:n<10000):(itz n).length≤21:=B2M (by omega) (by omega)
noncomputable def C6b:List (FuncId×FnC):=(79,I9 Tryz.prog [.s 3] Z8 [.s 9])::L0
theorem C1g{G:Nat→Option Obj}(hst:B9 Tryz.prog G gl H0 n0):G4 Tryz.prog G gl C6b:=(.cons (B92 hst) .nil)
def S6:List U→Option (Nat×List U)
 | [.bool b0,.bool b1,.bool ck,.bool b3,.bool b4,.bool b5,.bool b6,.bool pa,.bool fo,.bool b9,.bool b10,.int .i64 mo,.bool sg,.int .i64 k,.int .i64 c,.int .i64 m,.int .i64 w,.int .i64 b,.int .i64 r,.int .i64 cl,.str t]=>if msP m w b r cl then some (0,[.str (moS sg m w b r cl)])else none
 | _=>none
theorem r9(b0:Bool)(b1:Bool)(ck:Bool)(b3:Bool)(b4:Bool)(b5:Bool)(b6:Bool)(pa:Bool)(fo:Bool)(b9:Bool)(b10:Bool)(mo:Int)(sg:Bool)(k:Int)(c:Int)(m:Int)(w:Int)(b:Int)(r:Int)(cl:Int)(t:(List UInt8))(hc:msP m w b r cl):S6 [.bool b0,.bool b1,.bool ck,.bool b3,.bool b4,.bool b5,.bool b6,.bool pa,.bool fo,.bool b9,.bool b10,.int .i64 mo,.bool sg,.int .i64 k,.int .i64 c,.int .i64 m,.int .i64 w,.int .i64 b,.int .i64 r,.int .i64 cl,.str t]=some (0,[.str (moS sg m w b r cl)]):=if_pos hc
def C5c:Tr:=.lt 3 (.bin .and) [h3 15,jI 1]<|.lt 3 (.bin .shl) [h3 21,.int .u64 (2)]<|.lt 3 (.bin .or) [h3 17,h3 22]<|.lt 3 (.bin .and) [h3 15,jI 2]<|.lt 3 (.bin .shl) [h3 24,.int .u64 (2)]<|.lt 3 (.bin .or) [h3 23,h3 25]<|.lt 3 (.bin .and) [h3 15,jI 4]<|.lt 3 (.bin .shl) [h3 27,.int .u64 (2)]<|.lt 3 (.bin .or) [h3 26,h3 28]<|aI [h3 16,jI 4]<|.br 30 (.lt 3 (.sel) [h3 16,jI 0,jI 0,jI 32,jI 64]<|.lt 3 (.bin .or) [h3 29,h3 31]<|aX [h 12 8]<|.br 33 (aA [jI 32,h3 32]<|.lt 4 (.conv .u8) [h3 34]<|aA [jI 33,h3 19]<|.lt 4 (.conv .u8) [h3 36]<|aA [jI 33,h3 18]<|.lt 4 (.conv .u8) [h3 38]<|.lt 9 (.mks) [h 35 4,h 37 4,h 39 4]<|aC [.string ⟨⟨[27,91,77]⟩⟩,h 40 9]<|.ret [h 41 9]) (aE [h3 16,jI 1]<|.br 34 (.fn Z8 [h3 32] 1<|aC [.string ⟨⟨[27,91,60]⟩⟩,h 35 9]<|aC [h 36 9,.string ⟨⟨[59]⟩⟩]<|aA [h3 19,jI 1]<|.fn Z8 [h3 38] 1<|aC [h 37 9,h 39 9]<|aC [h 40 9,.string ⟨⟨[59]⟩⟩]<|aA [h3 18,jI 1]<|.fn Z8 [h3 42] 1<|aC [h 41 9,h 43 9]<|aC [h 44 9,.string ⟨⟨[109]⟩⟩]<|.ret [h 45 9]) (.fn Z8 [h3 32] 1<|aC [.string ⟨⟨[27,91,60]⟩⟩,h 35 9]<|aC [h 36 9,.string ⟨⟨[59]⟩⟩]<|aA [h3 19,jI 1]<|.fn Z8 [h3 38] 1<|aC [h 37 9,h 39 9]<|aC [h 40 9,.string ⟨⟨[59]⟩⟩]<|aA [h3 18,jI 1]<|.fn Z8 [h3 42] 1<|aC [h 41 9,h 43 9]<|aC [h 44 9,.string ⟨⟨[77]⟩⟩]<|.ret [h 45 9]))) (.no)
theorem C5e{G:Nat→Option Obj}(hst:B9 Tryz.prog G gl H0 n0):L2 Tryz.prog G 51 [.a [8,8,8,8,8,8,8,8,8,8,8,3,8],.a [3,3,3,3,3,3,3,9]] S6 [.s 9]:=by
 refine E7 (C:=cx C6b []) (d:=60) C5c (cxg (C1g hst) .nil) hst ⟨Tryz.f51,_,Tryz.func51,rfl⟩ (by kernel_rfl) (by kernel_rfl) ?_;intro us outs hs;unfold S6 at hs;split at hs
 ·skip;rename_i b0 b1 ck b3 b4 b5 b6 pa fo b9 b10 mo sg k c m w b r cl t;split at hs
  ·rename_i hc;cases hs;have hm:=(B3p m w b r cl).1 hc;have z1:=C9S w;have l1:=B91 (cl+1) (by omega) (by omega);have l2:=B91 (r+1) (by omega) (by omega);have z2:=C9H w (by omega) (by omega);have l3:=B91 (b+m%2*4+m / 2%2*2*4+m / 4%2*4*4+([0,0,32,64]:List Int).getD w.toNat 0) (by omega) (by omega);unfold C5c;refine s0L ?_;show Tr.sav _ _ (.cons 20 _ (.cons 19 _ (.cons 18 _ (.cons 17 _ (.cons 16 _ (.cons 15 _ (.cons 14 _ (.cons 13 _ (.cons 12 _ (.cons 11 _ (.cons 10 _ (.cons 9 _ (.cons 8 _ (.cons 7 _ (.cons 6 _ (.cons 5 _ (.cons 4 _ (.cons 3 _ (.cons 2 _ (.cons 1 _ (.cons 0 _ (.nil))))))))))))))))))))));refine Wk.s ?_;refine w1 (.bin .and) (e:=A0A 1 2 (by decide) (by decide) (by decide)) (k':=?_);first|refine w1 (.bin .shl) (e:=A8S 4 (by decide) (by decide) (A3l (by omega) (by omega))) (k':=?_)|refine w1 (.bin .shl) (e:=A6T 4 (by decide) (by decide)) (k':=?_)
   first|refine w1 (.bin .or) (e:=A6_ 2 4 9223372036854775808 (by decide) (by decide) (by omega) (by omega) (by omega) (by omega) (by omega)) (k':=?_)|refine w1 (.bin .or) (e:=A9Y 2 4 9223372036854775808 (by decide) (by decide) (by omega) (by omega) (by omega) (by omega) (by omega)) (k':=?_)|refine w1 (.bin .or) (e:=A4L _ _ _) (k':=?_)
   refine w1 (.bin .and) (e:=B6u _) (k':=?_);first|refine w1 (.bin .shl) (e:=A8S 4 (by decide) (by decide) (A3l (by omega) (by omega))) (k':=?_)|refine w1 (.bin .shl) (e:=A6T 4 (by decide) (by decide)) (k':=?_)
   first|refine w1 (.bin .or) (e:=A6_ 3 8 9223372036854775808 (by decide) (by decide) (by omega) (by omega) (by omega) (by omega) (by omega)) (k':=?_)|refine w1 (.bin .or) (e:=A9Y 3 8 9223372036854775808 (by decide) (by decide) (by omega) (by omega) (by omega) (by omega) (by omega)) (k':=?_)|refine w1 (.bin .or) (e:=A4L _ _ _) (k':=?_)
   refine w1 (.bin .and) (e:=B2d _) (k':=?_);first|refine w1 (.bin .shl) (e:=A8S 4 (by decide) (by decide) (A3l (by omega) (by omega))) (k':=?_)|refine w1 (.bin .shl) (e:=A6T 4 (by decide) (by decide)) (k':=?_)
   first|refine w1 (.bin .or) (e:=A6_ 4 16 9223372036854775808 (by decide) (by decide) (by omega) (by omega) (by omega) (by omega) (by omega)) (k':=?_)|refine w1 (.bin .or) (e:=A9Y 4 16 9223372036854775808 (by decide) (by decide) (by omega) (by omega) (by omega) (by omega) (by omega)) (k':=?_)|refine w1 (.bin .or) (e:=A4L _ _ _) (k':=?_)
   refine C6w ?_;refine w5 (fun g0=>?_) fun g0=>?_
   ·refine w8 ?_;first|omega
   refine w1 (.sel) (e:=B2Z [0,0,32,64] (by omega) (by show _<((4:Nat):Int);omega)) (k':=?_);first|refine w1 (.bin .or) (e:=A6_ 5 32 9223372036854775808 (by decide) (by decide) (by omega) (by omega) (by omega) (by omega) (by omega)) (k':=?_)|refine w1 (.bin .or) (e:=A9Y 5 32 9223372036854775808 (by decide) (by decide) (by omega) (by omega) (by omega) (by omega) (by omega)) (k':=?_)|refine w1 (.bin .or) (e:=A4L _ _ _) (k':=?_)
   first|refine m9 ?_|refine A3o ?_
   first|refine w4 (fun g1=>?_) (fun g1=>?_)|refine w4B (fun g1=>?_) (fun g1=>?_)
   ·first|refine W5 ?_|refine N7 ?_
    first|refine t8 ?_|refine Y6 ?_
    first|refine W5 ?_|refine N7 ?_
    first|refine t8 ?_|refine Y6 ?_
    first|refine W5 ?_|refine N7 ?_
    first|refine t8 ?_|refine Y6 ?_
    refine w1 (.mks) (e:=A7A [_,_,_] (by simp only[B7,O1,or_false,forall_eq_or_imp,forall_eq];omega)) (k':=?_);refine w1 (.bin .add) (e:=S3 _ _ (by simp only[A7,B6,D9,X7];omega)) (k':=?_);refine w7 [.str _] ?_;refine congrArg (fun z=>[U.str z]) ?_;first|exact C7L (by first|assumption|(simp_all;done)) (by unfold nuS;omega) (by omega) (by omega)|exact C7K (by first|assumption|(simp_all;done)) (by unfold nuS;omega) (by omega) (by omega) (by unfold laS;first|exact(if_pos ‹_›).symm|exact(if_neg ‹_›).symm)|(exfalso;omega)
   refine N6 ?_;refine w4 (fun g2=>?_) fun g2=>?_
   ·refine w31 Z8 (e:=A3C _ (by omega)) (k':=?_);refine w1 (.bin .add) (e:=S3 _ _ (by simp only[A7,B6,D9,X7];omega)) (k':=?_);refine w1 (.bin .add) (e:=S3 _ _ (by simp only[A7,B6,D9,X7];omega)) (k':=?_);first|refine W5 ?_|refine N7 ?_
    refine w31 Z8 (e:=A3C _ (by omega)) (k':=?_);refine w1 (.bin .add) (e:=S3 _ _ (by simp only[A7,B6,D9,X7];omega)) (k':=?_);refine w1 (.bin .add) (e:=S3 _ _ (by simp only[A7,B6,D9,X7];omega)) (k':=?_);first|refine W5 ?_|refine N7 ?_
    refine w31 Z8 (e:=A3C _ (by omega)) (k':=?_);refine w1 (.bin .add) (e:=S3 _ _ (by simp only[A7,B6,D9,X7];omega)) (k':=?_);refine w1 (.bin .add) (e:=S3 _ _ (by simp only[A7,B6,D9,X7];omega)) (k':=?_);refine w7 [.str _] ?_;refine congrArg (fun z=>[U.str z]) ?_;first|exact C7L (by first|assumption|(simp_all;done)) (by unfold nuS;omega) (by omega) (by omega)|exact C7K (by first|assumption|(simp_all;done)) (by unfold nuS;omega) (by omega) (by omega) (by unfold laS;first|exact(if_pos ‹_›).symm|exact(if_neg ‹_›).symm)|(exfalso;omega)
   refine w31 Z8 (e:=A3C _ (by omega)) (k':=?_);refine w1 (.bin .add) (e:=S3 _ _ (by simp only[A7,B6,D9,X7];omega)) (k':=?_);refine w1 (.bin .add) (e:=S3 _ _ (by simp only[A7,B6,D9,X7];omega)) (k':=?_);first|refine W5 ?_|refine N7 ?_
   refine w31 Z8 (e:=A3C _ (by omega)) (k':=?_);refine w1 (.bin .add) (e:=S3 _ _ (by simp only[A7,B6,D9,X7];omega)) (k':=?_);refine w1 (.bin .add) (e:=S3 _ _ (by simp only[A7,B6,D9,X7];omega)) (k':=?_);first|refine W5 ?_|refine N7 ?_
   refine w31 Z8 (e:=A3C _ (by omega)) (k':=?_);refine w1 (.bin .add) (e:=S3 _ _ (by simp only[A7,B6,D9,X7];omega)) (k':=?_);refine w1 (.bin .add) (e:=S3 _ _ (by simp only[A7,B6,D9,X7];omega)) (k':=?_);refine w7 [.str _] ?_;refine congrArg (fun z=>[U.str z]) ?_;first|exact C7L (by first|assumption|(simp_all;done)) (by unfold nuS;omega) (by omega) (by omega)|exact C7K (by first|assumption|(simp_all;done)) (by unfold nuS;omega) (by omega) (by omega) (by unfold laS;first|exact(if_pos ‹_›).symm|exact(if_neg ‹_›).symm)|(exfalso;omega)
  ·cases hs
 ·cases hs
theorem C5C{k c m w b r cl:Int}{t:List UInt8}(h:A3F k c m w b r cl t)(e:k=1):A6y c m:=by
 unfold A3F at h;rcases h with h|h|h|h
 ·exact h.2.2.2.2.2.2
 ·omega
 ·omega
 ·omega
theorem A2A{k c m w b r cl:Int}{t:List UInt8}(h:A3F k c m w b r cl t)(e:k=2):msP m w b r cl:=by
 unfold A3F at h;rcases h with h|h|h|h
 ·omega
 ·exact h.2.2.2
 ·omega
 ·omega
theorem C9d{k c m w b r cl:Int}{t:List UInt8}(h:A3F k c m w b r cl t):1≤k∧k≤4∧t.length≤1000∧(k=4→0≤w∧w≤1):=by
 unfold A3F at h;rcases h with⟨a,_,_,_,_,e,_⟩|⟨a,_,e,_⟩|h|⟨a,_,_,_,_,_,e,f,g⟩
 ·subst e;refine⟨by omega,by omega,v7 _,fun h=>by omega⟩
 ·subst e;refine⟨by omega,by omega,v7 _,fun h=>by omega⟩
 ·refine⟨by omega,by omega,h.2.2.2.2.2.2.2.1,fun h=>by omega⟩
 ·subst e;refine⟨by omega,by omega,v7 _,fun h=>⟨f,g⟩⟩
theorem D0f{m w b r cl:Int}(h:msP m w b r cl):b≤3:=by have:=(B3p m w b r cl).1 h;omega
theorem B9c{mo k m w b r cl:Int}{sg:Bool}(h:msP m w b r cl):msP (B5k mo k m) w (B5l sg k w b) r cl:=by
 have h:=(B3p m w b r cl).1 h;refine(B3p _ _ _ _ _).2 ?_;unfold B5k B5l
 (repeat' split)<;>omega
def enS(ck pa fo sg:Bool)(mo k c m w b r cl:Int)(t:List UInt8):List UInt8 :=
 if k=3∧pa=false then t else if isS pa fo mo k w b=false then[]else if k=1 then keS ck c m else if k=2 then moS sg (B5k mo k m) w (B5l sg k w b) r cl
 else if k=3 then[27,91,50,48,48,126]++t++[27,91,50,48,49,126]else[27,91]++(if w=0 then[79]else[73])
def moP(mo:Int):Prop:=mo=0∨mo=9∨mo=1000∨mo=1002∨mo=1003
instance(mo:Int):Decidable (moP mo):=by unfold moP;infer_instance
noncomputable def C6P:List (FuncId×FnC):=L0
theorem C1U{G:Nat→Option Obj}(hst:B9 Tryz.prog G gl H0 n0):G4 Tryz.prog G gl C6P:=.nil
def B02:List U→Option (Nat×List U)
 | [.bool b0,.bool b1,.bool ck,.bool b3,.bool b4,.bool b5,.bool b6,.bool pa,.bool fo,.bool b9,.bool b10,.int .i64 mo,.bool sg]=>some (0,[.int .i64 (if moP mo then 0 else 260)])
 | _=>none
theorem C2q(b0:Bool)(b1:Bool)(ck:Bool)(b3:Bool)(b4:Bool)(b5:Bool)(b6:Bool)(pa:Bool)(fo:Bool)(b9:Bool)(b10:Bool)(mo:Int)(sg:Bool):B02 [.bool b0,.bool b1,.bool ck,.bool b3,.bool b4,.bool b5,.bool b6,.bool pa,.bool fo,.bool b9,.bool b10,.int .i64 mo,.bool sg]=some (0,[.int .i64 (if moP mo then 0 else 260)]):=rfl
def C4x:Tr:=aN [h3 11,jI 0]<|.br 13 (aE [h3 11,jI 9]<|.br 14 (.ret [jI 0]) (aE [h3 11,jI 1000]<|.br 15 (.ret [jI 0]) (aE [h3 11,jI 1002]<|.br 16 (.ret [jI 0]) (aE [h3 11,jI 1003]<|.br 17 (.ret [jI 0]) (.ret [jI 260]))))) (.ret [jI 0])
theorem C9E{G:Nat→Option Obj}(hst:B9 Tryz.prog G gl H0 n0):L2 Tryz.prog G 75 [.a [8,8,8,8,8,8,8,8,8,8,8,3,8]] B02 [.s 3]:=by
 refine E7 (C:=cx C6P []) (d:=60) C4x (cxg (C1U hst) .nil) hst ⟨Tryz.f75,_,Tryz.func75,rfl⟩ (by kernel_rfl) (by kernel_rfl) ?_;intro us outs hs;unfold B02 at hs;split at hs
 ·skip;rename_i b0 b1 ck b3 b4 b5 b6 pa fo b9 b10 mo sg;cases hs;unfold C4x;refine w0 (.cons 12 _ (.cons 11 _ (.cons 10 _ (.cons 9 _ (.cons 8 _ (.cons 7 _ (.cons 6 _ (.cons 5 _ (.cons 4 _ (.cons 3 _ (.cons 2 _ (.cons 1 _ (.cons 0 _ (.nil)))))))))))))) ?_;repeat (first|(refine w7 [.int .i64 _] ?_;rotate_left)|refine w4 (fun g=>?_) fun g=>?_|refine N6 ?_|refine A0k ?_)
  all_goals
   refine l0 ?_;first|exact(if_pos (by unfold moP;omega)).symm|exact(if_neg (by unfold moP;omega)).symm|(exfalso;omega)
 ·cases hs
def A3I(mo k c m w b r cl:Int)(t:List UInt8):Int:=if moP mo then(if A3F k c m w b r cl t then 0 else 430)else 260
theorem C5b{mo k c m w b r cl:Int}{t:List UInt8}(h:A3I mo k c m w b r cl t=0):moP mo∧A3F k c m w b r cl t:=by
 unfold A3I at h;by_cases h1:moP mo
 ·rw[if_pos h1]at h;by_cases h2:A3F k c m w b r cl t
  ·exact⟨h1,h2⟩
  ·rw[if_neg h2]at h;cases h
 ·rw[if_neg h1]at h;cases h
theorem C9t(mo k c m w b r cl:Int)(t:List UInt8):(if moP mo then(if A3F k c m w b r cl t then 0 else 430)else 260)=A3I mo k c m w b r cl t:=rfl
end Go.Proofs.YtdimocjaepnifaaGreatDoor
