import Derived.Test.YtdimocjaepnifaaGreatDoorX9
import Derived.Shelf.Strings.Builder1
import Derived.Shelf.Strings.Builder2
import Derived.Shelf.Small.Wraps
import Derived.Shelf.Strings.BuilderF
import Derived.Shelf.Strings.BuilderK
import Derived.Shelf.Utf8.RuneCount
import Derived.Shelf.Strings.Builder2Cap
import Derived.Shelf.Strconv.Itoa0
import Derived.Shelf.Strconv.Itoa1
import Derived.Shelf.LaysM
import Derived.Shelf.Strconv.Itoa2
import Derived.Shelf.Strconv.Itoa3
import Derived.Shelf.Strings.Search1
import Derived.Shelf.Strings.Search2
import Derived.Shelf.Strings.Search3
import Derived.Shelf.Strings.Count
import Derived.Shelf.Strings.Shaped
import Derived.Shelf.Strings.Prefix
import Derived.Shelf.Strings.Split
import Derived.Shelf.Strings.Replace
import Derived.Shelf.Strings.SplitShaped
import Derived.Shelf.Unicode.Decode
import Derived.Shelf.Strings.RuneCount
import Derived.Shelf.Bits.Mul64
import Derived.Shelf.Strings.Repeat
import Derived.Shelf.Unicode.DecodeSlow
import Derived.Shelf.Unicode.DecodeAny
import Derived.Shelf.Strings.BuilderCap
import Derived.Shelf.Slices.Turned
import Derived.Shelf.Bytes.SlSearch0
import Derived.Shelf.Bytes.SlSmallAll
import Derived.Shelf.Bytes.SlEqualAll
import Derived.Shelf.Bytes.Small
import Derived.Test.YtdimocjaepnifaaGreatDoorProg
set_option linter.all false
set_option maxRecDepth 100000
set_option maxHeartbeats 4000000
namespace Go.Sx
variable {f0 l outs us:List U}{u:U}{i n2:Nat}
section
open Go
set_option autoImplicit false
def Ev.appN:Nat→List U→Ev→Ev
 | _,[],E=>E
 | n,u::l,E=>Ev.appN (Nat.succ n) l (.cons n u E)
def Ev.appN_eq :∀ {E:Ev} {n:Nat},E.len=n→Ev.appN n l E=Ev.app l E:=by
 induction l with
 | nil=>intro E n h;rfl
 | cons u l ih=>intro E n h;subst h;exact ih rfl
structure Wk (L:List U→Prop) (t:Tr) (E:Ev):Prop where
 s:t.sav L E
section
variable {L:List U→Prop} {E:Ev} {k:Tr} {n t:Nat} {xs:D4}
def w0{t:Tr}(E:Ev)(h:Wk L t E)(he:us=E.toL:=by exact rfl)(ho:E.ok:=by simp[Ev.ok,Ev.len]):t.sat L us:=by subst he;exact h.s ho
def w1(op:LOp)(hx:xs.map (E5 E.get)=us:=by exact rfl)(e:evU op us=u)(k':Wk L k (.cons n u E))(ht:G7 u=t:=by exact rfl)(h10:Nat.blt t 10=true:=by exact rfl)(hn:E.len=n:=by first|exact Eq.trans (b:=Nat.succ _) rfl rfl|exact rfl):Wk L (Tr.lt t op xs k) E :=
 ⟨s1 (by rw[hx];exact e) h10 ht hn k'.s⟩
def w1x(op:LOp)(e:evU op (xs.map (E5 E.get))=u)(k':Wk L k (.cons n u E))(ht:G7 u=t:=by exact rfl)(h10:Nat.blt t 10=true:=by exact rfl)(hn:E.len=n:=by first|exact Eq.trans (b:=Nat.succ _) rfl rfl|exact rfl):Wk L (Tr.lt t op xs k) E :=
 ⟨s1 e h10 ht hn k'.s⟩
def wr{op:LOp}(hk:Wk L k (.cons n u E))(hx:xs.map (E5 E.get)=us)(he:evU op us=u)(ht:G7 u=t)(h10:Nat.blt (G7 u) 10=true)(hn:E.len=n):Wk L (Tr.lt t op xs k) E :=
 w1 op hx he hk ht (by rw[← ht];exact h10) hn
def xP(q:IntKind)(a:Int):Nat.blt (G7 (.int q a)) 10=true:=by cases q<;>rfl
def w2(op:LOp){α:Type}{r:Rw α}{x:Option (List α)}(hx:xs.map (E5 E.get)=us:=by exact rfl)(e:evU op us=B6 r x)(k':Wk L k (.cons n (B6 r x) E))(ht:10+r.w=t:=by exact rfl)(hn:E.len=n:=by first|exact Eq.trans (b:=Nat.succ _) rfl rfl|exact rfl):Wk L (Tr.dt t op xs k) E :=
 ⟨s2 (by rw[hx];exact e) ht hn k'.s⟩
def w3(spec:bY){m:Nat}(hx:xs.map (E5 E.get)=us:=by exact rfl)(e:spec us=some (0,outs))(hn:E.len=n:=by first|exact Eq.trans (b:=Nat.succ _) rfl rfl|exact rfl)(k':Wk L k (Ev.appN n outs E))(hm:outs.length=m:=by exact rfl):Wk L (Tr.fn spec xs m k) E:=⟨s3 (by rw[hx];exact e) hm (by rw[← Ev.appN_eq hn];exact k'.s)⟩
def w31(spec:bY){a:U}(hx:xs.map (E5 E.get)=us:=by exact rfl)(e:spec us=some (0,[a]))(k':Wk L k (.cons n a E))(hn:E.len=n:=by first|exact Eq.trans (b:=Nat.succ _) rfl rfl|exact rfl):Wk L (Tr.fn spec xs 1 k) E:=⟨s31 (by rw[hx];exact e) hn k'.s⟩
def w32(spec:bY){a b:U}(hx:xs.map (E5 E.get)=us:=by exact rfl)(e:spec us=some (0,[a,b]))(k':Wk L k (.cons n2 b (.cons n a E)))(hn:E.len=n:=by first|exact Eq.trans (b:=Nat.succ _) rfl rfl|exact rfl)(h2:Nat.succ n=n2:=by exact rfl):Wk L (Tr.fn spec xs 2 k) E:=⟨s32 (by rw[hx];exact e) hn h2 k'.s⟩
def w4{a b:Tr}{p:Prop}{dp:Decidable p}(ha:p→Wk L a E)(hb:¬p→Wk L b E)(he:E.get i=.bool (decide p):=by exact rfl):Wk L (Tr.br i a b) E:=⟨s4 he (fun h=>(ha h).s) fun h=>(hb h).s⟩
def w4B{a b:Tr}{c:Bool}(ha:c=true→Wk L a E)(hb:c=false→Wk L b E)(he:E.get i=.bool c:=by exact rfl):Wk L (Tr.br i a b) E:=⟨s4B he (fun h=>(ha h).s) fun h=>(hb h).s⟩
def w5{a b:Tr}{p:Prop}{dp:Decidable p}(hb:¬p→Wk L b E)(ha:p→Wk L a E)(he:E.get i=.bool (decide p):=by exact rfl):Wk L (Tr.br i a b) E:=w4 ha hb he
def w5B{a b:Tr}{c:Bool}(hb:c=false→Wk L b E)(ha:c=true→Wk L a E)(he:E.get i=.bool c:=by exact rfl):Wk L (Tr.br i a b) E:=w4B ha hb he
def w6(spec:bY){n0 n1:Nat}{k0 k1:Tr}{β:Type}{o:Option β}{f1:β→List U}(he:spec (xs.map (E5 E.get))=fT o f0 f1)(hn:E.len=n:=by first|exact Eq.trans (b:=Nat.succ _) rfl rfl|exact rfl)(h0:o=none→Wk L k0 (Ev.appN n f0 E))(h1:∀ b,o=some b→Wk L k1 (Ev.appN n (f1 b) E))
  (hn0:f0.length=n0:=by exact rfl) (hn1:∀ b,(f1 b).length=n1:=by exact fun _=>rfl):Wk L (Tr.lp spec xs 0 n0 k0 (.lp spec xs 1 n1 k1 .no)) E:=⟨s6 he hn0 hn1 (fun h=>by rw[← Ev.appN_eq hn];exact(h0 h).s) fun b h=>by rw[← Ev.appN_eq hn];exact(h1 b h).s⟩
def w7(r:List U)(h:L r)(he:xs.map (E5 E.get)=r:=by exact rfl):Wk L (Tr.ret xs) E:=⟨s7 r he h⟩
def w8(h:False):Wk L Tr.no E:=h.elim
variable {q j:IntKind} {a b c:Int} {s z:List UInt8} {p:Prop} {dp:Decidable p} {x y:Bool}
def y7(hk:Wk L k (.cons n (.int q (a+b)) E))(hx:xs.map (E5 E.get)=[.int q a,.int q b]:=by exact rfl)(hw:q.wrap (a+b)=a+b:=by first|exact kJ A1 A1|exact KK A1 A1|exact rK A1 A1|exact rL A1 A1|exact zL A1 A1)(ht:G7 (.int q (a+b))=t:=by exact rfl)(hn:E.len=n:=by first|exact Eq.trans (b:=Nat.succ _) rfl rfl|exact rfl):Wk L (Tr.lt t (.bin .add) xs k) E:=wr hk hx (A5w hw) ht (xP _ _) hn
def HN(hk:Wk L k (.cons n (.int q (a-b)) E))(hx:xs.map (E5 E.get)=[.int q a,.int q b]:=by exact rfl)(hw:q.wrap (a-b)=a-b:=by first|exact kJ A1 A1|exact KK A1 A1|exact rK A1 A1|exact rL A1 A1|exact zL A1 A1)(ht:G7 (.int q (a-b))=t:=by exact rfl)(hn:E.len=n:=by first|exact Eq.trans (b:=Nat.succ _) rfl rfl|exact rfl):Wk L (Tr.lt t (.bin .sub) xs k) E:=wr hk hx (A5m hw) ht (xP _ _) hn
def B1g(hk:Wk L k (.cons n (.int q (a*b)) E))(hx:xs.map (E5 E.get)=[.int q a,.int q b]:=by exact rfl)(hw:q.wrap (a*b)=a*b:=by first|exact kJ A1 A1|exact KK A1 A1|exact rK A1 A1|exact rL A1 A1|exact zL A1 A1)(ht:G7 (.int q (a*b))=t:=by exact rfl)(hn:E.len=n:=by first|exact Eq.trans (b:=Nat.succ _) rfl rfl|exact rfl):Wk L (Tr.lt t (.bin .mul) xs k) E:=wr hk hx (A5t hw) ht (xP _ _) hn
def B5L(hk:Wk L k (.cons n (.int q (a / b)) E))(hx:xs.map (E5 E.get)=[.int q a,.int q b]:=by exact rfl)(ha:0≤a:=by omega)(hb:0<b:=by omega)(hw:q.wrap (a / b)=a / b:=by first|exact kJ A1 A1|exact KK A1 A1|exact rK A1 A1|exact rL A1 A1|exact zL A1 A1)(ht:G7 (.int q (a / b))=t:=by exact rfl)(hn:E.len=n:=by first|exact Eq.trans (b:=Nat.succ _) rfl rfl|exact rfl):Wk L (Tr.lt t (.bin .quo) xs k) E:=wr hk hx (A5p ha hb hw) ht (xP _ _) hn
def A9l(hk:Wk L k (.cons n (.int q (a%b)) E))(hx:xs.map (E5 E.get)=[.int q a,.int q b]:=by exact rfl)(ha:0≤a:=by omega)(hb:0<b:=by omega)(ht:G7 (.int q (a%b))=t:=by exact rfl)(hn:E.len=n:=by first|exact Eq.trans (b:=Nat.succ _) rfl rfl|exact rfl):Wk L (Tr.lt t (.bin .rem) xs k) E:=wr hk hx (A5o ha hb) ht (xP _ _) hn
def fV(hk:Wk L k (.cons n (.int q a) E))(hx:xs.map (E5 E.get)=[.int j a]:=by exact rfl)(hw:q.wrap a=a:=by first|exact kJ A1 A1|exact KK A1 A1|exact rK A1 A1|exact rL A1 A1|exact zL A1 A1)(ht:G7 (.int q a)=t:=by exact rfl)(hn:E.len=n:=by first|exact Eq.trans (b:=Nat.succ _) rfl rfl|exact rfl):Wk L (Tr.lt t (.conv q) xs k) E:=wr hk hx (A20 hw) ht (xP _ _) hn
def V4(hk:Wk L k (.cons n (.int q (q.wrap (a+b))) E))(hx:xs.map (E5 E.get)=[.int q a,.int q b]:=by exact rfl)(ht:G7 (.int q (q.wrap (a+b)))=t:=by exact rfl)(hn:E.len=n:=by first|exact Eq.trans (b:=Nat.succ _) rfl rfl|exact rfl):Wk L (Tr.lt t (.bin .add) xs k) E:=wr hk hx (A24 _ _ _) ht (xP _ _) hn
def wF(hk:Wk L k (.cons n (.int q (q.wrap (a-b))) E))(hx:xs.map (E5 E.get)=[.int q a,.int q b]:=by exact rfl)(ht:G7 (.int q (q.wrap (a-b)))=t:=by exact rfl)(hn:E.len=n:=by first|exact Eq.trans (b:=Nat.succ _) rfl rfl|exact rfl):Wk L (Tr.lt t (.bin .sub) xs k) E:=wr hk hx (A2v _ _ _) ht (xP _ _) hn
def A67(hk:Wk L k (.cons n (.int q (q.wrap (a*b))) E))(hx:xs.map (E5 E.get)=[.int q a,.int q b]:=by exact rfl)(ht:G7 (.int q (q.wrap (a*b)))=t:=by exact rfl)(hn:E.len=n:=by first|exact Eq.trans (b:=Nat.succ _) rfl rfl|exact rfl):Wk L (Tr.lt t (.bin .mul) xs k) E:=wr hk hx (A2y _ _ _) ht (xP _ _) hn
def cE(hk:Wk L k (.cons n (.int q (q.wrap a)) E))(hx:xs.map (E5 E.get)=[.int j a]:=by exact rfl)(ht:G7 (.int q (q.wrap a))=t:=by exact rfl)(hn:E.len=n:=by first|exact Eq.trans (b:=Nat.succ _) rfl rfl|exact rfl):Wk L (Tr.lt t (.conv q) xs k) E:=wr hk hx (JM _ _ _) ht (xP _ _) hn
def U1(hk:Wk L k (.cons n (.bool (decide (a=b))) E))(hx:xs.map (E5 E.get)=[.int q a,.int q b]:=by exact rfl)(hn:E.len=n:=by first|exact Eq.trans (b:=Nat.succ _) rfl rfl|exact rfl):Wk L (Tr.lt 8 (.bin .eql) xs k) E:=wr hk hx (B00 _ _ _) rfl rfl hn
def mL(hk:Wk L k (.cons n (.bool (decide (a≠b))) E))(hx:xs.map (E5 E.get)=[.int q a,.int q b]:=by exact rfl)(hn:E.len=n:=by first|exact Eq.trans (b:=Nat.succ _) rfl rfl|exact rfl):Wk L (Tr.lt 8 (.bin .neq) xs k) E:=wr hk hx (B0p _ _ _) rfl rfl hn
def cD(hk:Wk L k (.cons n (.bool (decide (a<b))) E))(hx:xs.map (E5 E.get)=[.int q a,.int q b]:=by exact rfl)(hn:E.len=n:=by first|exact Eq.trans (b:=Nat.succ _) rfl rfl|exact rfl):Wk L (Tr.lt 8 (.bin .lss) xs k) E:=wr hk hx (B0s _ _ _) rfl rfl hn
def mN(hk:Wk L k (.cons n (.bool (decide (a≤b))) E))(hx:xs.map (E5 E.get)=[.int q a,.int q b]:=by exact rfl)(hn:E.len=n:=by first|exact Eq.trans (b:=Nat.succ _) rfl rfl|exact rfl):Wk L (Tr.lt 8 (.bin .leq) xs k) E:=wr hk hx (B0t _ _ _) rfl rfl hn
def mO(hk:Wk L k (.cons n (.bool (decide (b<a))) E))(hx:xs.map (E5 E.get)=[.int q a,.int q b]:=by exact rfl)(hn:E.len=n:=by first|exact Eq.trans (b:=Nat.succ _) rfl rfl|exact rfl):Wk L (Tr.lt 8 (.bin .gtr) xs k) E:=wr hk hx (B0y _ _ _) rfl rfl hn
def jK(hk:Wk L k (.cons n (.bool (decide (b≤a))) E))(hx:xs.map (E5 E.get)=[.int q a,.int q b]:=by exact rfl)(hn:E.len=n:=by first|exact Eq.trans (b:=Nat.succ _) rfl rfl|exact rfl):Wk L (Tr.lt 8 (.bin .geq) xs k) E:=wr hk hx (B0z _ _ _) rfl rfl hn
def A4k(hk:Wk L k (.cons n (.bool (decide (s=z))) E))(hx:xs.map (E5 E.get)=[.str s,.str z]:=by exact rfl)(hn:E.len=n:=by first|exact Eq.trans (b:=Nat.succ _) rfl rfl|exact rfl):Wk L (Tr.lt 8 (.bin .eql) xs k) E:=wr hk hx (B0k _ _) rfl rfl hn
def A9k(hk:Wk L k (.cons n (.bool (decide (s≠z))) E))(hx:xs.map (E5 E.get)=[.str s,.str z]:=by exact rfl)(hn:E.len=n:=by first|exact Eq.trans (b:=Nat.succ _) rfl rfl|exact rfl):Wk L (Tr.lt 8 (.bin .neq) xs k) E:=wr hk hx (B0h _ _) rfl rfl hn
def l4(hk:Wk L k (.cons n (.bool (decide ¬p)) E))(hx:xs.map (E5 E.get)=[.bool (@decide p dp)]:=by exact rfl)(hn:E.len=n:=by first|exact Eq.trans (b:=Nat.succ _) rfl rfl|exact rfl):Wk L (Tr.lt 8 (.un .not) xs k) E:=wr hk hx (A5s _) rfl rfl hn
def mK(hk:Wk L k (.cons n (.bool (!x)) E))(hx:xs.map (E5 E.get)=[.bool x]:=by exact rfl)(hn:E.len=n:=by first|exact Eq.trans (b:=Nat.succ _) rfl rfl|exact rfl):Wk L (Tr.lt 8 (.un .not) xs k) E:=wr hk hx (B0o _) rfl rfl hn
def LB(hk:Wk L k (.cons n (.int .i64 s.length) E))(hx:xs.map (E5 E.get)=[.str s]:=by exact rfl)(hn:E.len=n:=by first|exact Eq.trans (b:=Nat.succ _) rfl rfl|exact rfl):Wk L (Tr.lt 3 .len xs k) E:=wr hk hx (B0u _) rfl rfl hn
def A9o(hk:Wk L k (.cons n (.bool (decide (0≤a∧a<b))) E))(hx:xs.map (E5 E.get)=[.int q a,.int j b]:=by exact rfl)(hn:E.len=n:=by first|exact Eq.trans (b:=Nat.succ _) rfl rfl|exact rfl):Wk L (Tr.lt 8 .inb xs k) E:=wr hk hx (B0x _ _ _ _) rfl rfl hn
def B1h(hk:Wk L k (.cons n (.int .u8 (s.getD a.toNat 0).toNat) E))(hx:xs.map (E5 E.get)=[.str s,.int q a]:=by exact rfl)(h0:0≤a:=by omega)(h1:a<s.length:=by simp[*]<;>omega)(hn:E.len=n:=by first|exact Eq.trans (b:=Nat.succ _) rfl rfl|exact rfl):Wk L (Tr.lt 4 .idx xs k) E:=wr hk hx (SO _ _ _ h0 h1) rfl rfl hn
def A0K(hk:Wk L k (.cons n (.str ((s.drop a.toNat).take (b.toNat-a.toNat))) E))(hx:xs.map (E5 E.get)=[.str s,.int q a,.int j b]:=by exact rfl)(h0:0≤a:=by omega)(h1:a≤b:=by omega)(h2:b≤s.length:=by simp[*]<;>omega)(hn:E.len=n:=by first|exact Eq.trans (b:=Nat.succ _) rfl rfl|exact rfl):Wk L (Tr.lt 9 .sub xs k) E:=wr hk hx (WC _ _ _ _ _ h0 h1 h2) rfl rfl hn
def A9n(hk:Wk L k (.cons n (.int q (min a b)) E))(hx:xs.map (E5 E.get)=[.int q a,.int j b]:=by exact rfl)(ht:G7 (.int q (min a b))=t:=by exact rfl)(hn:E.len=n:=by first|exact Eq.trans (b:=Nat.succ _) rfl rfl|exact rfl):Wk L (Tr.lt t .min xs k) E:=wr hk hx (B0q _ _ _ _) ht (xP _ _) hn
def B5M(hk:Wk L k (.cons n (.int q (max a b)) E))(hx:xs.map (E5 E.get)=[.int q a,.int j b]:=by exact rfl)(ht:G7 (.int q (max a b))=t:=by exact rfl)(hn:E.len=n:=by first|exact Eq.trans (b:=Nat.succ _) rfl rfl|exact rfl):Wk L (Tr.lt t .max xs k) E:=wr hk hx (B0r _ _ _ _) ht (xP _ _) hn
variable {α:Type} {r:Rw α} {o:Option (List α)} {w:Nat}
def W8(hk:Wk L k (.cons n (.int .i64 ((el o).length:Int)) E))(hx:xs.map (E5 E.get)=[B6 r o]:=by exact rfl)(hn:E.len=n:=by first|exact Eq.trans (b:=Nat.succ _) rfl rfl|exact rfl):Wk L (Tr.lt 3 .len xs k) E:=wr hk hx (A5u _ _) rfl rfl hn
def eH(hk:Wk L k (.cons n (.bool (decide (0≤a∧a<((el o).length:Int)))) E))(hx:xs.map (E5 E.get)=[.int q a,B6 r o]:=by exact rfl)(hw:r.w=w:=by exact rfl)(hn:E.len=n:=by first|exact Eq.trans (b:=Nat.succ _) rfl rfl|exact rfl):Wk L (Tr.lt 8 (.inbs w) xs k) E:=wr hk hx (A2z hw) rfl rfl hn
end
abbrev aA:D4→Tr→Tr:=.lt 3 (.bin .add)
abbrev aS:D4→Tr→Tr:=.lt 3 (.bin .sub)
abbrev aE:D4→Tr→Tr:=.lt 8 (.bin .eql)
abbrev aN:D4→Tr→Tr:=.lt 8 (.bin .neq)
abbrev aL:D4→Tr→Tr:=.lt 8 (.bin .lss)
abbrev aQ:D4→Tr→Tr:=.lt 8 (.bin .leq)
abbrev aG:D4→Tr→Tr:=.lt 8 (.bin .gtr)
abbrev aH:D4→Tr→Tr:=.lt 8 (.bin .geq)
abbrev aI:D4→Tr→Tr:=.lt 8 (.inb)
abbrev aD:D4→Tr→Tr:=.lt 3 .len
abbrev aX:D4→Tr→Tr:=.lt 8 (.un .not)
abbrev aC:D4→Tr→Tr:=.lt 9 (.bin .add)
abbrev h3(i:Nat):Value:=h i 3
end
section
open Go
def B39(n:Nat):n &&& 2=n / 2%2*2:=by
 have h:=Nat.and_mod_two_pow (a:=n) (b:=2) (n:=2);have l:n &&& 2≤2:=kI;have g:∀ m:Nat,m<4→m &&& 2=m / 2%2*2:=C3;have k:=g (n%4) A1;have e:(2:Nat)%2 ^ 2=2:=C3;have e2:(2:Nat) ^ 2=4:=C3;rw[e,e2,k]at h;omega
def WD(a:Int):evU (.bin .and) [.int .i64 a,.int .i64 2]=.int .i64 (a / 2%2*2):=by
 rw[qT];congr 1
 have e1:(BitVec.ofInt 64 a &&& BitVec.ofInt 64 2).toNat=(a%2 ^ 64).toNat &&& 2:=by
  rw[Z7,P2];rfl
 show IntKind.i64.wrap (((BitVec.ofInt 64 a &&& BitVec.ofInt 64 2).toNat:Nat):Int)=_;rw[e1,B39,fK A1 (by show _<(2:Int) ^ 63;omega)];omega
def B38(n:Nat):n &&& 4=n / 4%2*4:=by
 have h:=Nat.and_mod_two_pow (a:=n) (b:=4) (n:=3);have l:n &&& 4≤4:=kI;have g:∀ m:Nat,m<8→m &&& 4=m / 4%2*4:=C3;have k:=g (n%8) A1;have e:(4:Nat)%2 ^ 3=4:=C3;have e2:(2:Nat) ^ 3=8:=C3;rw[e,e2,k]at h;omega
def JN(a:Int):evU (.bin .and) [.int .i64 a,.int .i64 4]=.int .i64 (a / 4%2*4):=by
 rw[qT];congr 1
 have e1:(BitVec.ofInt 64 a &&& BitVec.ofInt 64 4).toNat=(a%2 ^ 64).toNat &&& 4:=by
  rw[Z7,P2];rfl
 show IntKind.i64.wrap (((BitVec.ofInt 64 a &&& BitVec.ofInt 64 4).toNat:Nat):Int)=_;rw[e1,B38,fK A1 (by show _<(2:Int) ^ 63;omega)];omega
def an6(x:BitVec 64):x &&& ~~~(6#64)=0#64↔x.toNat≤7∧x.toNat%2=0:=by
 constructor
 ·intro h;have e:x=(x &&& 6#64) ||| (x &&& ~~~(6#64)):=by
   rw[← BitVec.and_or_distrib_left];have:(6#64 ||| ~~~(6#64))=BitVec.allOnes 64:=C3;rw[this,BitVec.and_allOnes]
  rw[h,BitVec.or_zero]at e;have e2:x.toNat=x.toNat &&& 6:=by
   have:=H3 BitVec.toNat e;rw[Z7]at this;exact this
  have h6:x.toNat≤6:=by rw[e2];exact kI
  refine⟨A1,?_⟩;have:∀ n:Nat,n≤6→n=n &&& 6→n%2=0:=C3;exact this _ h6 e2
 ·intro ⟨h,k⟩;have e:x=BitVec.ofNat 64 x.toNat:=by simp
  have:∀ n:Nat,n≤7→n%2=0→(BitVec.ofNat 64 n) &&& ~~~(6#64)=0#64:=C3;rw[e];exact this _ h k
def A6W(a:Int):Int:=IntKind.i64.wrap ((BitVec.ofInt 64 a &&& ~~~(6#64)).toNat:Nat)
def A4F(a:Int)(h : -9223372036854775808≤a)(h2:a≤9223372036854775807):A6W a=0↔0≤a∧a≤7∧a%2=0:=by
 have e:A6W a=0↔(BitVec.ofInt 64 a &&& ~~~(6#64)).toNat=0:=by
  have:=(BitVec.ofInt 64 a &&& ~~~(6#64)).isLt;unfold A6W;generalize (BitVec.ofInt 64 a &&& ~~~(6#64)).toNat=m at *;simp only[IntKind.wrap,IntKind.bits,IntKind.signed,Nat.reduceSub]<;>simp<;>omega
 have e2:(BitVec.ofInt 64 a).toNat=(a%2 ^ 64).toNat:=by rw[P2];rfl
 have e3:(BitVec.ofInt 64 a &&& ~~~(6#64)).toNat=0↔BitVec.ofInt 64 a &&& ~~~(6#64)=0#64:=by
  constructor
  ·intro h;exact BitVec.eq_of_toNat_eq (by rw[h];rfl)
  ·intro h;rw[h];rfl
 rw[e,e3,an6,e2];omega
def B01(a:Int):evU (.bin .andNot) [.int .i64 a,.int .i64 6]=.int .i64 (A6W a):=by
 rw[ZA];rfl
def s0L{L:List U→Prop}{t:Tr}(h:t.sav L (Ev.app us .nil)):t.sat L us:=by
 obtain⟨a,b⟩:=Ev.app_ok (l:=us) (E:=.nil) True.intro
 have:=h a;rw[b]at this;exact this
def A9X(n k:Nat):n &&& 2 ^ k=n / 2 ^ k%2*2 ^ k:=by
 have h:(n &&& 2 ^ k)=bif n.testBit k then 2 ^ k else 0:=by
  apply Nat.eq_of_testBit_eq;intro i;rw[Nat.testBit_and,eN];by_cases e:k=i
  ·subst e;cases h:n.testBit k<;>simp[h,eN]
  ·cases h:n.testBit k<;>simp[e,eN]
 rw[h,Nat.testBit_eq_decide_div_mod_eq];by_cases e:n / 2 ^ k%2=1
 ·simp[e]
 ·have:n / 2 ^ k%2=0:=A1;simp[this]
def A23(a:Int):evU (.bin .and) [.int .i64 a,.int .i64 32]=.int .i64 (a / 32%2*32):=by
 rw[qT];congr 1
 have e1:(BitVec.ofInt 64 a &&& BitVec.ofInt 64 32).toNat=(a%2 ^ 64).toNat &&& 2 ^ 5:=by
  rw[Z7,P2];rfl
 show IntKind.i64.wrap (((BitVec.ofInt 64 a &&& BitVec.ofInt 64 32).toNat:Nat):Int)=_;rw[e1,A9X,show(2:Nat) ^ 5=32 from rfl,fK A1 (by show _<(2:Int) ^ 63;omega)];omega
def A22(a:Int):evU (.bin .and) [.int .i64 a,.int .i64 64]=.int .i64 (a / 64%2*64):=by
 rw[qT];congr 1
 have e1:(BitVec.ofInt 64 a &&& BitVec.ofInt 64 64).toNat=(a%2 ^ 64).toNat &&& 2 ^ 6:=by
  rw[Z7,P2];rfl
 show IntKind.i64.wrap (((BitVec.ofInt 64 a &&& BitVec.ofInt 64 64).toNat:Nat):Int)=_;rw[e1,A9X,show(2:Nat) ^ 6=64 from rfl,fK A1 (by show _<(2:Int) ^ 63;omega)];omega
end
end Go.Sx
namespace Go.Proofs
open Go.Shelf
def Tryz.lays103_ren:Go.Shelf.Ren:=⟨fun|103=>142|210=>154|206=>82|n=>n,fun|9=>9|4=>4|24=>117|3=>3|n=>n,fun|n=>n⟩
def Tryz.lays103:Go.Proofs.Lays.n103 Tryz.prog Tryz.lays103_ren:={
 mixed:=D0
 f103:=U4 Tryz.func142
 f206:=U4 Tryz.func82
 f210:=U4 Tryz.func154
 t3:=Tryz.underlying3
 a3:=Tryz.isAgg3
 z3:=Tryz.sizeOf3
 v3:=Tryz.zeroValue3
 t4:=Tryz.underlying4
 a4:=Tryz.isAgg4
 z4:=Tryz.sizeOf4
 v4:=Tryz.zeroValue4
 t9:=Tryz.underlying9
 a9:=Tryz.isAgg9
 z9:=Tryz.sizeOf9
 v9:=Tryz.zeroValue9
 t24:=Tryz.underlying117
 a24:=Tryz.isAgg117
 z24:=Tryz.sizeOf117
 v24:=Tryz.zeroValue117 }
open Go.RowKit in
def Tryz.strings_CutPrefix(s p:ByteArray)(w:World) :
  Calls Tryz.prog 142 #[.string s,.string p] w fun e w'=>e=.returned (.tuple #[.string ⟨(Lib.trimPrefix s.data.toList p.data.toList).toArray⟩,.bool (Lib.hasPrefix s.data.toList p.data.toList)])∧w'=w:=Any.strings_CutPrefix Tryz.lays103 s p w
def Tryz.laysM171_ren:Go.Shelf.Ren:=⟨fun|171=>79|243=>111|246=>131|283=>146|284=>147|285=>148|286=>149|129=>158|317=>157|318=>159|319=>160|320=>161|337=>168|338=>169|n=>n,fun|3=>3|9=>9|2=>2|4=>4|171=>170|0=>0|53=>122|37=>35|5=>5|173=>173|212=>184|51=>24|20=>20|213=>185|46=>32|232=>198|233=>199|n=>n,fun|17=>3|18=>4|19=>5|n=>n⟩
def Tryz.laysM171:Go.Proofs.LaysM.n171 Tryz.prog Tryz.laysM171_ren:={
 mixed:=D0
 f129:=U4 Tryz.func158
 f171:=U4 Tryz.func79
 f243:=U4 Tryz.func111
 f246:=U4 Tryz.func131
 f283:=U4 Tryz.func146
 f284:=U4 Tryz.func147
 f285:=U4 Tryz.func148
 f286:=U4 Tryz.func149
 f317:=U4 Tryz.func157
 f318:=U4 Tryz.func159
 f319:=U4 Tryz.func160
 f320:=U4 Tryz.func161
 f337:=U4 Tryz.func168
 f338:=U4 Tryz.func169
 t0:=Tryz.underlying0
 a0:=Tryz.isAgg0
 z0:=Tryz.sizeOf0
 v0:=Tryz.zeroValue0
 t2:=Tryz.underlying2
 a2:=Tryz.isAgg2
 z2:=Tryz.sizeOf2
 v2:=Tryz.zeroValue2
 t3:=Tryz.underlying3
 a3:=Tryz.isAgg3
 z3:=Tryz.sizeOf3
 v3:=Tryz.zeroValue3
 t4:=Tryz.underlying4
 a4:=Tryz.isAgg4
 z4:=Tryz.sizeOf4
 v4:=Tryz.zeroValue4
 t5:=Tryz.underlying5
 a5:=Tryz.isAgg5
 z5:=Tryz.sizeOf5
 v5:=Tryz.zeroValue5
 t9:=Tryz.underlying9
 a9:=Tryz.isAgg9
 z9:=Tryz.sizeOf9
 v9:=Tryz.zeroValue9
 t20:=Tryz.underlying20
 a20:=Tryz.isAgg20
 z20:=Tryz.sizeOf20
 v20:=Tryz.zeroValue20
 t37:=Tryz.underlying35
 a37:=Tryz.isAgg35
 z37:=Tryz.sizeOf35
 v37:=Tryz.zeroValue35
 t46:=Tryz.underlying32
 a46:=Tryz.isAgg32
 z46:=Tryz.sizeOf32
 v46:=Tryz.zeroValue32
 t51:=Tryz.underlying24
 a51:=Tryz.isAgg24
 z51:=Tryz.sizeOf24
 v51:=Tryz.zeroValue24
 t53:=Tryz.underlying122
 a53:=Tryz.isAgg122
 z53:=Tryz.sizeOf122
 v53:=Tryz.zeroValue122
 t171:=Tryz.underlying170
 a171:=Tryz.isAgg170
 z171:=Tryz.sizeOf170
 v171:=Tryz.zeroValue170
 t173:=Tryz.underlying173
 a173:=Tryz.isAgg173
 z173:=Tryz.sizeOf173
 v173:=Tryz.zeroValue173
 t212:=Tryz.underlying184
 a212:=Tryz.isAgg184
 z212:=Tryz.sizeOf184
 v212:=Tryz.zeroValue184
 t213:=Tryz.underlying185
 a213:=Tryz.isAgg185
 z213:=Tryz.sizeOf185
 t232:=Tryz.underlying198
 a232:=Tryz.isAgg198
 z232:=Tryz.sizeOf198
 v232:=Tryz.zeroValue198
 t233:=Tryz.underlying199
 a233:=Tryz.isAgg199
 z233:=Tryz.sizeOf199
 v233:=Tryz.zeroValue199
 g17:=D0
 g18:=D0
 g19:=D0
 i0:=D0
 i2:=D0
 i3:=D0
 i4:=D0
 i5:=D0
 i9:=D0
 i20:=D0
 i37:=D0
 i46:=D0
 i51:=D0
 i53:=D0
 i171:=D0
 i173:=D0
 i212:=D0
 i232:=D0
 i233:=D0
 m17:=D0
 m18:=D0
 m19:=by kernel_rfl }
open Go.RowKit Go.Sort Go.Lib in
def Tryz.strconv_Itoa(n:Int)(h0 : -9223372036854775808≤n)(h1:n≤9223372036854775807)(w:World)(htab:Lib.TabIs Tryz.prog w "internal/strconv.uint64pow10" .u64 Lib.pow10Tab) :
  Calls Tryz.prog 79 #[.int .i64 n] w fun e w'=>e=.returned (.string ⟨(Lib.itoa n).toArray⟩)∧∃ k os,w'=grow (w.drewN k) os:=Any.strconv_Itoa Tryz.laysM171 n h0 h1 w htab
def Tryz.lays144_ren:Go.Shelf.Ren:=⟨fun|144=>28|143=>59|219=>85|217=>114|225=>115|224=>116|267=>117|266=>132|314=>133|n=>n,fun|9=>9|4=>4|3=>3|5=>5|46=>32|146=>120|51=>24|n=>n,fun|1=>0|n=>n⟩
def Tryz.lays144:Go.Proofs.Lays.n144 Tryz.prog Tryz.lays144_ren:={
 mixed:=D0
 f143:=U4 Tryz.func59
 f144:=U4 Tryz.func28
 f217:=U4 Tryz.func114
 f219:=U4 Tryz.func85
 f224:=U4 Tryz.func116
 f225:=U4 Tryz.func115
 f266:=U4 Tryz.func132
 f267:=U4 Tryz.func117
 f314:=U4 Tryz.func133
 t3:=Tryz.underlying3
 a3:=Tryz.isAgg3
 z3:=Tryz.sizeOf3
 v3:=Tryz.zeroValue3
 t4:=Tryz.underlying4
 a4:=Tryz.isAgg4
 z4:=Tryz.sizeOf4
 v4:=Tryz.zeroValue4
 t5:=Tryz.underlying5
 a5:=Tryz.isAgg5
 z5:=Tryz.sizeOf5
 v5:=Tryz.zeroValue5
 t9:=Tryz.underlying9
 a9:=Tryz.isAgg9
 z9:=Tryz.sizeOf9
 v9:=Tryz.zeroValue9
 t46:=Tryz.underlying32
 a46:=Tryz.isAgg32
 z46:=Tryz.sizeOf32
 v46:=Tryz.zeroValue32
 t51:=Tryz.underlying24
 a51:=Tryz.isAgg24
 z51:=Tryz.sizeOf24
 v51:=Tryz.zeroValue24
 t146:=Tryz.underlying120
 a146:=Tryz.isAgg120
 z146:=Tryz.sizeOf120
 v146:=Tryz.zeroValue120
 g1:=by kernel_rfl }
open Go.RowKit Go.Lib in
def Tryz.strings_Contains_one(s:ByteArray)(c:UInt8)(w:World) :
  Calls Tryz.prog 28 #[.string s,.string ⟨#[c]⟩] w fun e w'=>e=.returned (.bool (decide (0≤Lib.indexByte s.data.toList c)))∧w'=w:=Any.strings_Contains_one Tryz.lays144 s c w
def Tryz.lays99_ren:Go.Shelf.Ren:=⟨fun|99=>54|206=>82|n=>n,fun|9=>9|4=>4|3=>3|n=>n,fun|n=>n⟩
def Tryz.lays99:Go.Proofs.Lays.n99 Tryz.prog Tryz.lays99_ren:={
 mixed:=D0
 f99:=U4 Tryz.func54
 f206:=U4 Tryz.func82
 t3:=Tryz.underlying3
 a3:=Tryz.isAgg3
 z3:=Tryz.sizeOf3
 v3:=Tryz.zeroValue3
 t4:=Tryz.underlying4
 a4:=Tryz.isAgg4
 z4:=Tryz.sizeOf4
 v4:=Tryz.zeroValue4
 t9:=Tryz.underlying9
 a9:=Tryz.isAgg9
 z9:=Tryz.sizeOf9
 v9:=Tryz.zeroValue9 }
open Go.RowKit Go.Lib in
def Tryz.strings_HasPrefix(s p:ByteArray)(w:World) :
  Calls Tryz.prog 54 #[.string s,.string p] w fun e w'=>e=.returned (.bool (Lib.hasPrefix s.data.toList p.data.toList))∧w'=w:=Any.strings_HasPrefix Tryz.lays99 s p w
def Tryz.laysM155_ren:Go.Shelf.Ren:=⟨fun|155=>29|154=>60|138=>86|165=>55|143=>59|166=>56|197=>87|169=>58|195=>118|218=>119|240=>83|241=>84|219=>85|260=>120|276=>112|277=>113|217=>114|225=>115|224=>116|267=>117|266=>132|314=>133|n=>n,fun|9=>9|3=>3|4=>4|72=>92|0=>0|76=>96|105=>126|21=>21|5=>5|70=>90|20=>20|37=>35|75=>95|127=>125|164=>144|46=>32|119=>156|139=>159|138=>158|146=>120|51=>24|80=>99|n=>n,fun|1=>0|3=>1|4=>2|n=>n⟩
def Tryz.laysM155:Go.Proofs.LaysM.n155 Tryz.prog Tryz.laysM155_ren:={
 mixed:=D0
 f138:=U4 Tryz.func86
 f143:=U4 Tryz.func59
 f154:=U4 Tryz.func60
 f155:=U4 Tryz.func29
 f165:=U4 Tryz.func55
 f166:=U4 Tryz.func56
 f169:=U4 Tryz.func58
 f195:=U4 Tryz.func118
 f197:=U4 Tryz.func87
 f217:=U4 Tryz.func114
 f218:=U4 Tryz.func119
 f219:=U4 Tryz.func85
 f224:=U4 Tryz.func116
 f225:=U4 Tryz.func115
 f240:=U4 Tryz.func83
 f241:=U4 Tryz.func84
 f260:=U4 Tryz.func120
 f266:=U4 Tryz.func132
 f267:=U4 Tryz.func117
 f276:=U4 Tryz.func112
 f277:=U4 Tryz.func113
 f314:=U4 Tryz.func133
 t0:=Tryz.underlying0
 a0:=Tryz.isAgg0
 z0:=Tryz.sizeOf0
 v0:=Tryz.zeroValue0
 t3:=Tryz.underlying3
 a3:=Tryz.isAgg3
 z3:=Tryz.sizeOf3
 v3:=Tryz.zeroValue3
 t4:=Tryz.underlying4
 a4:=Tryz.isAgg4
 z4:=Tryz.sizeOf4
 v4:=Tryz.zeroValue4
 t5:=Tryz.underlying5
 a5:=Tryz.isAgg5
 z5:=Tryz.sizeOf5
 v5:=Tryz.zeroValue5
 t9:=Tryz.underlying9
 a9:=Tryz.isAgg9
 z9:=Tryz.sizeOf9
 v9:=Tryz.zeroValue9
 t20:=Tryz.underlying20
 a20:=Tryz.isAgg20
 z20:=Tryz.sizeOf20
 v20:=Tryz.zeroValue20
 t21:=Tryz.underlying21
 a21:=Tryz.isAgg21
 z21:=Tryz.sizeOf21
 v21:=Tryz.zeroValue21
 t37:=Tryz.underlying35
 a37:=Tryz.isAgg35
 z37:=Tryz.sizeOf35
 v37:=Tryz.zeroValue35
 t46:=Tryz.underlying32
 a46:=Tryz.isAgg32
 z46:=Tryz.sizeOf32
 v46:=Tryz.zeroValue32
 t51:=Tryz.underlying24
 a51:=Tryz.isAgg24
 z51:=Tryz.sizeOf24
 v51:=Tryz.zeroValue24
 t70:=Tryz.underlying90
 a70:=Tryz.isAgg90
 z70:=Tryz.sizeOf90
 v70:=Tryz.zeroValue90
 t72:=Tryz.underlying92
 a72:=Tryz.isAgg92
 z72:=Tryz.sizeOf92
 v72:=Tryz.zeroValue92
 t75:=Tryz.underlying95
 a75:=Tryz.isAgg95
 z75:=Tryz.sizeOf95
 v75:=Tryz.zeroValue95
 t76:=Tryz.underlying96
 a76:=Tryz.isAgg96
 z76:=Tryz.sizeOf96
 v76:=Tryz.zeroValue96
 t105:=Tryz.underlying126
 a105:=Tryz.isAgg126
 z105:=Tryz.sizeOf126
 v105:=Tryz.zeroValue126
 t119:=Tryz.underlying156
 a119:=Tryz.isAgg156
 z119:=Tryz.sizeOf156
 t127:=Tryz.underlying125
 a127:=Tryz.isAgg125
 z127:=Tryz.sizeOf125
 v127:=Tryz.zeroValue125
 t138:=Tryz.underlying158
 a138:=Tryz.isAgg158
 z138:=Tryz.sizeOf158
 v138:=Tryz.zeroValue158
 t139:=Tryz.underlying159
 a139:=Tryz.isAgg159
 z139:=Tryz.sizeOf159
 v139:=Tryz.zeroValue159
 t146:=Tryz.underlying120
 a146:=Tryz.isAgg120
 z146:=Tryz.sizeOf120
 v146:=Tryz.zeroValue120
 t164:=Tryz.underlying144
 a164:=Tryz.isAgg144
 z164:=Tryz.sizeOf144
 v164:=Tryz.zeroValue144
 g1:=D0
 g3:=D0
 g4:=D0
 t80:=Tryz.underlying99
 a80:=Tryz.isAgg99
 z80:=Tryz.sizeOf99
 v80:=Tryz.zeroValue99
 i0:=D0
 i3:=D0
 i4:=D0
 i5:=D0
 i9:=D0
 i20:=D0
 i21:=D0
 i37:=D0
 i46:=D0
 i51:=D0
 i70:=D0
 i72:=D0
 i75:=D0
 i76:=D0
 i80:=D0
 i105:=D0
 i127:=D0
 i138:=D0
 i139:=D0
 i146:=D0
 i164:=D0
 m1:=D0
 s1_3:=fun w h=>Go.Proofs.cell_of_shapedOpen_int (zero:=#[.int .i64 0]) (t:=3) h (J0 D0) D0 rfl D0 D0 Tryz.underlying3
 m3:=D0
 m4:=by kernel_rfl }
def Tryz.Builder_Extra_M155:Builder.Extra Tryz.prog Tryz.laysM155_ren:={
 sizeBuilder:=D0
 liesBuilder:=D0
 t5:=Tryz.underlying5
 a5:=Tryz.isAgg5
 z5:=Tryz.sizeOf5
 v5:=Tryz.zeroValue5
 infoByte:=D0
 cellsByte:=D0
 sizeByte:=D0
 neB5:=by decide }
open Go.RowKit Go.Lib in
def Tryz.strings_ReplaceAll_shaped(s old new:ByteArray)(w:World)(h:w.ShapedOpen Tryz.prog)(hs:s.size<4294967281)(h1:1≤old.size)(hlen:s.size+Lib.countB s old*new.size≤140737488355328) :
  Calls Tryz.prog 29 #[.string s,.string old,.string new] w fun e w' =>
   e=.returned (.string ⟨(Lib.replaceAll s.data.toList old.data.toList new.data.toList).toArray⟩)∧Below w.heap.size w w':=Any.strings_ReplaceAll_shaped Tryz.laysM155 Tryz.Builder_Extra_M155 s old new w h hs h1 hlen
end Go.Proofs
namespace Go.Proofs.YtdimocjaepnifaaGreatDoor
open Go Go.Sx Go.Proofs.Tryz
variable {d sg:Bool}{e i:Int}
def gl:Nat:=6
def n0:Nat:=6
def pY:List (Nat×List Value):=[(4,[.int .u8 (0),.int .u8 (1),.int .u8 (28),.int .u8 (2),.int .u8 (29),.int .u8 (14),.int .u8 (24),.int .u8 (3),.int .u8 (30),.int .u8 (22),.int .u8 (20),.int .u8 (15),.int .u8 (25),.int .u8 (17),.int .u8 (4),.int .u8 (8),.int .u8 (31),.int .u8 (27),.int .u8 (13),.int .u8 (23),.int .u8 (21),.int .u8 (19),.int .u8 (16),.int .u8 (7),.int .u8 (26),.int .u8 (12),.int .u8 (18),.int .u8 (6),.int .u8 (11),.int .u8 (5),.int .u8 (10),.int .u8 (9)]),
 (5,[.int .u8 (0),.int .u8 (1),.int .u8 (56),.int .u8 (2),.int .u8 (57),.int .u8 (49),.int .u8 (28),.int .u8 (3),.int .u8 (61),.int .u8 (58),.int .u8 (42),.int .u8 (50),.int .u8 (38),.int .u8 (29),.int .u8 (17),.int .u8 (4),.int .u8 (62),.int .u8 (47),.int .u8 (59),.int .u8 (36),.int .u8 (45),.int .u8 (43),.int .u8 (51),.int .u8 (22),.int .u8 (53),.int .u8 (39),.int .u8 (33),.int .u8 (30),.int .u8 (24),.int .u8 (18),.int .u8 (12),.int .u8 (5),.int .u8 (63),.int .u8 (55),.int .u8 (48),.int .u8 (27),.int .u8 (60),.int .u8 (41),.int .u8 (37),.int .u8 (16),.int .u8 (46),.int .u8 (35),.int .u8 (44),.int .u8 (21),.int .u8 (52),.int .u8 (32),.int .u8 (23),.int .u8 (11),.int .u8 (54),.int .u8 (26),.int .u8 (40),.int .u8 (15),.int .u8 (34),.int .u8 (20),.int .u8 (31),.int .u8 (10),.int .u8 (25),.int .u8 (14),.int .u8 (19),.int .u8 (9),.int .u8 (13),.int .u8 (8),.int .u8 (7),.int .u8 (6)]),
 (3,[.int .u64 (1),.int .u64 (10),.int .u64 (100),.int .u64 (1000),.int .u64 (10000),.int .u64 (100000),.int .u64 (1000000),.int .u64 (10000000),.int .u64 (100000000),.int .u64 (1000000000),.int .u64 (10000000000),.int .u64 (100000000000),.int .u64 (1000000000000),.int .u64 (10000000000000),.int .u64 (100000000000000),.int .u64 (1000000000000000),.int .u64 (10000000000000000),.int .u64 (100000000000000000),.int .u64 (1000000000000000000),.int .u64 (10000000000000000000)]),
 (2,[.int .u8 (128),.int .u8 (191),.int .u8 (160),.int .u8 (191),.int .u8 (128),.int .u8 (159),.int .u8 (144),.int .u8 (191),.int .u8 (128),.int .u8 (143),.int .u8 (0),.int .u8 (0),.int .u8 (0),.int .u8 (0),.int .u8 (0),.int .u8 (0),.int .u8 (0),.int .u8 (0),.int .u8 (0),.int .u8 (0),.int .u8 (0),.int .u8 (0),.int .u8 (0),.int .u8 (0),.int .u8 (0),.int .u8 (0),.int .u8 (0),.int .u8 (0),.int .u8 (0),.int .u8 (0),.int .u8 (0),.int .u8 (0)]),
 (1,[.int .u8 (240),.int .u8 (240),.int .u8 (240),.int .u8 (240),.int .u8 (240),.int .u8 (240),.int .u8 (240),.int .u8 (240),.int .u8 (240),.int .u8 (240),.int .u8 (240),.int .u8 (240),.int .u8 (240),.int .u8 (240),.int .u8 (240),.int .u8 (240),.int .u8 (240),.int .u8 (240),.int .u8 (240),.int .u8 (240),.int .u8 (240),.int .u8 (240),.int .u8 (240),.int .u8 (240),.int .u8 (240),.int .u8 (240),.int .u8 (240),.int .u8 (240),.int .u8 (240),.int .u8 (240),.int .u8 (240),.int .u8 (240),.int .u8 (240),.int .u8 (240),.int .u8 (240),.int .u8 (240),.int .u8 (240),.int .u8 (240),.int .u8 (240),.int .u8 (240),.int .u8 (240),.int .u8 (240),.int .u8 (240),.int .u8 (240),.int .u8 (240),.int .u8 (240),.int .u8 (240),.int .u8 (240),.int .u8 (240),.int .u8 (240),.int .u8 (240),.int .u8 (240),.int .u8 (240),.int .u8 (240),.int .u8 (240),.int .u8 (240),.int .u8 (240),.int .u8 (240),.int .u8 (240),.int .u8 (240),.int .u8 (240),.int .u8 (240),.int .u8 (240),.int .u8 (240),.int .u8 (240),.int .u8 (240),.int .u8 (240),.int .u8 (240),.int .u8 (240),.int .u8 (240),.int .u8 (240),.int .u8 (240),.int .u8 (240),.int .u8 (240),.int .u8 (240),.int .u8 (240),.int .u8 (240),.int .u8 (240),.int .u8 (240),.int .u8 (240),.int .u8 (240),.int .u8 (240),.int .u8 (240),.int .u8 (240),.int .u8 (240),.int .u8 (240),.int .u8 (240),.int .u8 (240),.int .u8 (240),.int .u8 (240),.int .u8 (240),.int .u8 (240),.int .u8 (240),.int .u8 (240),.int .u8 (240),.int .u8 (240),.int .u8 (240),.int .u8 (240),.int .u8 (240),.int .u8 (240),.int .u8 (240),.int .u8 (240),.int .u8 (240),.int .u8 (240),.int .u8 (240),.int .u8 (240),.int .u8 (240),.int .u8 (240),.int .u8 (240),.int .u8 (240),.int .u8 (240),.int .u8 (240),.int .u8 (240),.int .u8 (240),.int .u8 (240),.int .u8 (240),.int .u8 (240),.int .u8 (240),.int .u8 (240),.int .u8 (240),.int .u8 (240),.int .u8 (240),.int .u8 (240),.int .u8 (240),.int .u8 (240),.int .u8 (240),.int .u8 (240),.int .u8 (240),.int .u8 (241),.int .u8 (241),.int .u8 (241),.int .u8 (241),.int .u8 (241),.int .u8 (241),.int .u8 (241),.int .u8 (241),.int .u8 (241),.int .u8 (241),.int .u8 (241),.int .u8 (241),.int .u8 (241),.int .u8 (241),.int .u8 (241),.int .u8 (241),.int .u8 (241),.int .u8 (241),.int .u8 (241),.int .u8 (241),.int .u8 (241),.int .u8 (241),.int .u8 (241),.int .u8 (241),.int .u8 (241),.int .u8 (241),.int .u8 (241),.int .u8 (241),.int .u8 (241),.int .u8 (241),.int .u8 (241),.int .u8 (241),.int .u8 (241),.int .u8 (241),.int .u8 (241),.int .u8 (241),.int .u8 (241),.int .u8 (241),.int .u8 (241),.int .u8 (241),.int .u8 (241),.int .u8 (241),.int .u8 (241),.int .u8 (241),.int .u8 (241),.int .u8 (241),.int .u8 (241),.int .u8 (241),.int .u8 (241),.int .u8 (241),.int .u8 (241),.int .u8 (241),.int .u8 (241),.int .u8 (241),.int .u8 (241),.int .u8 (241),.int .u8 (241),.int .u8 (241),.int .u8 (241),.int .u8 (241),.int .u8 (241),.int .u8 (241),.int .u8 (241),.int .u8 (241),.int .u8 (241),.int .u8 (241),.int .u8 (2),.int .u8 (2),.int .u8 (2),.int .u8 (2),.int .u8 (2),.int .u8 (2),.int .u8 (2),.int .u8 (2),.int .u8 (2),.int .u8 (2),.int .u8 (2),.int .u8 (2),.int .u8 (2),.int .u8 (2),.int .u8 (2),.int .u8 (2),.int .u8 (2),.int .u8 (2),.int .u8 (2),.int .u8 (2),.int .u8 (2),.int .u8 (2),.int .u8 (2),.int .u8 (2),.int .u8 (2),.int .u8 (2),.int .u8 (2),.int .u8 (2),.int .u8 (2),.int .u8 (2),.int .u8 (19),.int .u8 (3),.int .u8 (3),.int .u8 (3),.int .u8 (3),.int .u8 (3),.int .u8 (3),.int .u8 (3),.int .u8 (3),.int .u8 (3),.int .u8 (3),.int .u8 (3),.int .u8 (3),.int .u8 (35),.int .u8 (3),.int .u8 (3),.int .u8 (52),.int .u8 (4),.int .u8 (4),.int .u8 (4),.int .u8 (68),.int .u8 (241),.int .u8 (241),.int .u8 (241),.int .u8 (241),.int .u8 (241),.int .u8 (241),.int .u8 (241),.int .u8 (241),.int .u8 (241),.int .u8 (241),.int .u8 (241)])]
def H0:Hp AB:=mkH pY
def A5M:prog.follows .mixedOrders=true:=D0
def A5L:KJ prog:=by
 have h:(prog.funcs.toList.all fun fn=>!(fn.name == "runtime.NumGoroutine"))=true:=D0;intro f fn hf;have h1:=E4.1 h fn (Array.mem_def.1 (Array.mem_of_getElem? hf))
 simpa using h1
def B0g:List (FuncId×EK):=[(132,.indexByteString),(119,.countString),(112,.noEscape),(113,.makeNoZero 5)]
def B2b:∀ p ∈ B0g,DB prog p.1 p.2:=by
 intro p hp;unfold B0g at hp;rcases C6.1 hp with rfl|hp
 ·exact⟨⟨_,rfl,by kernel_rfl,by kernel_rfl,by kernel_rfl,.inr (.inl ⟨rfl,by kernel_rfl⟩)⟩⟩
 rcases C6.1 hp with rfl|hp
 ·exact⟨⟨_,rfl,by kernel_rfl,by kernel_rfl,by kernel_rfl,.inr (.inr (.inl ⟨rfl,by kernel_rfl⟩))⟩⟩
 rcases C6.1 hp with rfl|hp
 ·exact⟨⟨_,rfl,by kernel_rfl,by kernel_rfl,by kernel_rfl,.inl ⟨rfl,by kernel_rfl⟩⟩⟩
 rcases C6.1 hp with rfl|hp
 ·exact⟨⟨_,rfl,by kernel_rfl,by kernel_rfl,by kernel_rfl,.inr (.inr (.inr ⟨_,_,_,rfl,rfl,by kernel_rfl,by kernel_rfl⟩))⟩⟩
 cases hp
noncomputable abbrev cx(l:List (FuncId×FnC))(lps:List LpE):Cx:=⟨prog,B0g,gl,ZD l,lpT lps⟩
def cxg{G:Nat→Option Obj}{l:List (FuncId×FnC)}{lps:List LpE}(h:eE prog G gl l)(k:r7 prog G gl lps):CxG (cx l lps) G:=A6B A5M A5L B2b h k
abbrev Y2:=Int×Int×Int×Int×Int×Int×Int×List UInt8
abbrev E0:=Option (List Int)
abbrev D1:=List UInt8
abbrev L9(G:Nat→Option Obj):Prop:=y5 Tryz.prog G gl H0 n0
abbrev Q1:={L:List (FuncId×FnC) // ∀ {G:Nat→Option Obj},L9 G→eE Tryz.prog G gl L}
def L0:List (FuncId×FnC):=[]
def A9d{G:Nat→Option Obj}(hst:y5 prog G gl H0 n0):eE prog G gl L0:=.nil
def rB:Rw Int:=r1 (Z8 .u8)
def rN:Rw Int:=r1 (Z8 .i64)
def okU(c:Int):Prop:=0≤c∧c≤1114111∧¬(55296≤c∧c≤57343)
instance(c:Int):Decidable (okU c):=by unfold okU;infer_instance
def fC(c:Int):Int:=if c=32 then 0 else if c=105∨c=109 then -1 else if 97≤c∧c≤122 then c-96 else if 92≤c∧c≤95 then c-64 else -1
def chP(c:Int):Prop:=okU c∧32≤c∧¬(127≤c∧c≤159)
instance(c:Int):Decidable (chP c):=by unfold chP;infer_instance
def i7(c m:Int):Prop:=(chP c∧(m=0∨(m=2∧c≠91∧c≠79)∨(0≤fC c∧(m=4∨m=6))))∨(1114113≤c∧c≤1114134∧0≤m∧m≤7)∨((c=1114135∨c=1114137)∧(m=0∨m=2))∨(c=1114136∧(m=0∨m=1∨m=2))∨(c=1114138∧m=0)
instance(c m:Int):Decidable (i7 c m):=by unfold i7;infer_instance
def l2{a b:Int}{c:Bool}(h:a=b)(k:c=d):[U.int .u8 a,U.bool c]=[U.int .u8 b,U.bool d]:=by rw[h,k]
def l1{c:Bool}(k:c=d):[U.bool c]=[U.bool d]:=by rw[k]
def l0{c d:Int}(k:c=d):[U.int .i64 c]=[U.int .i64 d]:=by rw[k]
def xE:List U→Option (Nat×List U)
 | [.int .i64 c]=>some (0,[.int .u8 (if 0≤fC c then fC c else 0),.bool (decide (0≤fC c))])
 | _=>none
def WP(c:Int):xE [.int .i64 c]=some (0,[.int .u8 (if 0≤fC c then fC c else 0),.bool (decide (0≤fC c))]):=rfl
def A3c(n:Nat):Tr:=.lt 3 (.bin .and) [h3 0,jI 31]<|.lt 4 (.conv .u8) [h3 n]<|.ret [h (n+1) 4,.bool true]
def W9(a0:Nat)(a1:Nat)(a2:Int)(k0 k1:Tr):Tr:=aQ [h3 a0,jI a2]<|.br a1 k0 k1
def L4(a0:Nat)(a1:Nat)(a2:Int)(k0 k1:Tr):Tr:=aH [h3 a0,jI a2]<|.br a1 k0 k1
def A3b(n:Nat):Tr:=L4 0 n 92 (W9 0 (n+1) 95 (A3c (n+2)) (.ret [.int .u8 (0),.bool false])) (.ret [.int .u8 (0),.bool false])
def G3(a0:Nat)(a1:Nat)(a2:Int)(k0 k1:Tr):Tr:=aE [h3 a0,jI a2]<|.br a1 k0 k1
def A9E:Tr:=G3 0 1 32 (.ret [.int .u8 (0),.bool true]) (G3 0 2 105 (.ret [.int .u8 (0),.bool false]) (G3 0 3 109 (.ret [.int .u8 (0),.bool false]) (L4 0 4 97 (W9 0 5 122 (A3c 6) (A3b 6)) (A3b 5))))
def A3d{G}(hst:L9 G):M2 prog G 66 [.s 3] xE [.s 4,.s 8]:=by
 refine F1 (C:=cx L0 []) (d:=60) A9E (cxg (A9d hst) .nil) hst ⟨f66,_,func66,rfl⟩ D0 D0 ?_;intro us outs hs;unfold xE at hs;split at hs
 ·skip;rename_i c;cases hs;unfold A9E;refine w0 (.cons 0 _ (.nil)) ?_;repeat (first|(refine w7 [.int .u8 _,.bool _] ?_;rotate_left)|refine w4 (fun g=>?_) fun g=>?_|refine fV ?_|refine cE ?_|refine U1 ?_|refine jK ?_|refine mN ?_|refine w1 (.bin .and) (e:=fA 5 32 C3 C3 C3) (k':=?_))
  all_goals
   refine l2 ?_ ?_
   ·(unfold fC;(repeat' split)<;>omega)
   ·symm;first|exact F4 (by(unfold fC;(repeat' split)<;>omega))|exact F6 (by(unfold fC;(repeat' split)<;>omega))
 ·cases hs
noncomputable def B5C:Q1:=⟨_,fun hst=>.cons (A3d hst) (A9d hst)⟩
def ML:List U→Option (Nat×List U)
 | [.int .i64 c]=>some (0,[.int .i64 (fC c)])
 | _=>none
def A45(c:Int):ML [.int .i64 c]=some (0,[.int .i64 (fC c)]):=rfl
def K8(a0:Int):Tr:=.ret [jI a0]
def IB(n:Nat):Tr:=L4 0 n 92 (W9 0 (n+1) 95 (aS [h3 0,jI 92]<|aA [h3 (n+2),jI 28]<|.ret [h3 (n+3)]) (K8 (-1))) (K8 (-1))
def cC(a0:Nat)(a1:Nat)(a2:Int)(k0 k1:Tr):Tr:=aN [h3 a0,jI a2]<|.br a1 k0 k1
def A7i:Tr:=G3 0 1 32 (K8 0) (L4 0 2 97 (W9 0 3 122 (cC 0 4 105 (cC 0 5 109 (aS [h3 0,jI 97]<|aA [h3 6,jI 1]<|.ret [h3 7]) (IB 6)) (IB 5)) (IB 4)) (IB 3))
def B2E{G}(hst:L9 G):M2 prog G 64 [.s 3] ML [.s 3]:=by
 refine F1 (d:=60) A7i (cxg (B5C.2 hst) .nil) hst ⟨f64,_,func64,rfl⟩ D0 D0 ?_;intro us outs hs;unfold ML at hs;split at hs
 ·skip;rename_i c;cases hs;unfold A7i;refine w0 (.cons 0 _ (.nil)) ?_;repeat (first|(refine w7 [.int .i64 _] ?_;rotate_left)|refine w4 (fun g=>?_) fun g=>?_|refine HN ?_|refine wF ?_|refine y7 ?_|refine V4 ?_|refine jK ?_|refine mN ?_|refine mL ?_|refine U1 ?_)
  all_goals
   refine l0 ?_
   (unfold fC;(repeat' split)<;>omega)
 ·cases hs
def WQ(c:Int):(c=32∧fC c=0)∨((c=105∨c=109)∧fC c = -1)∨(97≤c∧c≤122∧c≠105∧c≠109∧fC c=c-96)∨(92≤c∧c≤95∧fC c=c-64)∨(c≠32∧¬(97≤c∧c≤122)∧¬(92≤c∧c≤95)∧fC c = -1):=by
 unfold fC
 (repeat' split)<;>omega
noncomputable def B4D:Q1:=⟨_,fun hst=>(.cons (A3d hst) .nil)⟩
def KR:List U→Option (Nat×List U)
 | [.int .i64 c,.int .i64 m]=>if -9223372036854775808≤m∧m≤9223372036854775807 then some (0,[.bool (decide (i7 c m))])else none
 | _=>none
def A4b(c:Int)(m:Int)(hc : -9223372036854775808≤m∧m≤9223372036854775807):KR [.int .i64 c,.int .i64 m]=some (0,[.bool (decide (i7 c m))]):=A4 hc
def iX(a0:Nat)(a1:Nat)(a2:Int):Tr:=aE [h3 a0,jI a2]<|.ret [h a1 8]
def J5:Tr:=.ret [.bool false]
def cB:Tr:=.ret [.bool true]
def mM(a0:Nat)(a1:Nat)(a2:Int)(k0 k1:Tr):Tr:=.lt 3 (.bin .and) [h3 a0,jI a2]<|aN [h3 a1,jI 0]<|.br (a1+1) k0 k1
def ZU(n:Nat):Tr:=mM 1 n 4 (.fn xE [h3 0] 2<|.br (n+3) (.lt 3 (.bin .andNot) [h3 1,jI 6]<|iX (n+4) (n+5) 0) (J5)) (G3 1 (n+2) 0 cB (G3 1 (n+3) 2 (cC 0 (n+4) 91 (aN [h3 0,jI 79]<|.ret [h (n+5) 8]) J5) J5))
def QJ(n:Nat):Tr:=G3 1 n 2 cB (iX 1 (n+1) 0)
def zM(n:Nat):Tr:=G3 0 n 1114136 (G3 1 (n+1) 1 cB (QJ (n+2))) (G3 0 (n+1) 1114135 (QJ (n+2)) (G3 0 (n+2) 1114137 (QJ (n+3)) (G3 0 (n+3) 1114138 (iX 1 (n+4) 0) (L4 0 (n+4) 1114113 (W9 0 (n+5) 1114134 (L4 1 (n+6) 0 (aQ [h3 1,jI 7]<|.ret [h (n+7) 8]) J5) J5) J5))))
def I3(a0:Nat)(a1:Nat)(k0 k1:Tr):Tr:=aX [h a1 8]<|.br a0 k0 k1
def A6e:Tr:=L4 0 2 0 (W9 0 3 1114111 (.lt 3 (.bin .shr) [h3 0,.int .u64 (11)]<|cC 4 5 27 (L4 0 6 32 (L4 0 7 127 (aQ [h3 0,jI 159]<|I3 9 8 (ZU 10) (zM 10)) (ZU 8)) (zM 7)) (zM 6)) (zM 4)) (zM 3)
def B1T{G}(hst:L9 G):M2 prog G 36 [.s 3,.s 3] KR [.s 8]:=by
 refine F1 (d:=60) A6e (cxg (B4D.2 hst) .nil) hst ⟨f36,_,func36,rfl⟩ D0 D0 ?_;intro us outs hs;unfold KR at hs;split at hs
 ·skip;rename_i c m;split at hs
  ·rename_i hc;cases hs;unfold A6e;refine w0 (.cons 1 _ (.cons 0 _ (.nil))) ?_;repeat (first|refine w4 (fun g=>?_) fun g=>?_|refine w4B (fun g=>?_) fun g=>?_|(refine w7 [.bool _] ?_;rotate_left)|refine U1 ?_|refine jK ?_|refine mN ?_|refine mL ?_|refine w1 (.bin .and) (e:=JN _) (k':=?_)|refine w32 xE (e:=WP _) (k':=?_)|refine w1 (.bin .andNot) (e:=B01 _) (k':=?_)|refine w1 (.bin .shr) (e:=T7 2048 C3 C3) (k':=?_)|refine l4 ?_)
   all_goals
    have z0:=A4F m hc.1 hc.2;have z1:=WQ c;refine l1 ?_;first|(refine decide_eq_decide.2 ?_;unfold i7 chP okU;omega)|(symm;first|exact F4 (by unfold i7 chP okU at *;omega)|exact F6 (by unfold i7 chP okU at *;omega))
  ·cases hs
 ·cases hs
noncomputable def B4X:Q1:=⟨_,fun hst=>(.cons (B2E hst) .nil)⟩
def lQ:List U→Option (Nat×List U)
 | [.int .i64 c,.int .i64 m]=>if -9223372036854775808≤m∧m≤9223372036854775807 then some (0,[.bool (decide (i7 c m))])else none
 | _=>none
def UG(c:Int)(m:Int)(hc : -9223372036854775808≤m∧m≤9223372036854775807):lQ [.int .i64 c,.int .i64 m]=some (0,[.bool (decide (i7 c m))]):=A4 hc
def A1M(n:Nat):Tr:=G3 1 n 0 cB (G3 1 (n+1) 2 (cC 0 (n+2) 91 (aN [h3 0,jI 79]<|.ret [h (n+3) 8]) J5) (.fn ML [h3 0] 1<|L4 (n+2) (n+3) 0 (G3 1 (n+4) 4 cB (iX 1 (n+5) 6)) J5))
def A1L(n:Nat):Tr:=G3 1 n 0 cB (iX 1 (n+1) 2)
def A1K(n:Nat):Tr:=G3 0 n 1114135 (A1L (n+1)) (G3 0 (n+1) 1114137 (A1L (n+2)) (G3 0 (n+2) 1114136 (G3 1 (n+3) 0 cB (G3 1 (n+4) 1 cB (iX 1 (n+5) 2))) (G3 0 (n+3) 1114138 (iX 1 (n+4) 0) J5)))
def AK(n:Nat):Tr:=L4 0 n 1114113 (W9 0 (n+1) 1114134 (L4 1 (n+2) 0 (aQ [h3 1,jI 7]<|.ret [h (n+3) 8]) J5) (A1K (n+2))) (A1K (n+1))
def A1J(n:Nat):Tr:=L4 0 n 32 (L4 0 (n+1) 127 (aQ [h3 0,jI 159]<|I3 (n+3) (n+2) (A1M (n+4)) (AK (n+4))) (A1M (n+2))) (AK (n+1))
def aV(a0:Nat)(a1:Nat)(a2:Int)(k0 k1:Tr):Tr:=aG [h3 a0,jI a2]<|.br a1 k0 k1
def S6(a0:Nat)(a1:Nat)(a2:Int)(k0 k1:Tr):Tr:=aL [h3 a0,jI a2]<|.br a1 k0 k1
def A7Z:Tr:=L4 0 2 0 (W9 0 3 1114111 (S6 0 4 55296 (A1J 5) (aV 0 5 57343 (A1J 6) (AK 6))) (AK 4)) (AK 3)
def UH{G}(hst:L9 G):M2 prog G 34 [.s 3,.s 3] lQ [.s 8]:=by
 refine F1 (d:=60) A7Z (cxg (B4X.2 hst) .nil) hst ⟨f34,_,func34,rfl⟩ D0 D0 ?_;intro us outs hs;unfold lQ at hs;split at hs
 ·skip;rename_i c m;split at hs
  ·rename_i hc;cases hs;unfold A7Z;refine w0 (.cons 1 _ (.cons 0 _ (.nil))) ?_;repeat (first|refine U1 ?_|(refine w7 [.bool _] ?_;rotate_left)|refine w4 (fun g=>?_) fun g=>?_|refine jK ?_|refine mN ?_|refine mL ?_|refine w31 ML (e:=A45 _) (k':=?_)|refine l4 ?_|refine cD ?_|refine mO ?_)
   all_goals
    have z0:=A4F m hc.1 hc.2;have z1:=WQ c;refine l1 ?_;first|(refine decide_eq_decide.2 ?_;unfold i7 chP okU;omega)|(symm;first|exact F4 (by unfold i7 chP okU at *;omega)|exact F6 (by unfold i7 chP okU at *;omega))
  ·cases hs
 ·cases hs
def msP(m w b r cl:Int):Prop:=0≤w∧w≤3∧0≤b∧b≤3∧(w=0→b≤2)∧(w=3→b≤1)∧0≤m∧m≤7∧0≤r∧r≤39∧0≤cl∧cl≤79
instance(m w b r cl:Int):Decidable (msP m w b r cl):=by unfold msP;infer_instance
def FI(m w b r cl:Int):msP m w b r cl↔(0≤b∧0≤m∧m≤7∧0≤r∧r≤39∧0≤cl∧cl≤79)∧((w=0∧b≤2)∨(w=1∧b≤3)∨(w=2∧b≤3)∨(w=3∧b≤1)):=by
 unfold msP;omega
def A1z(w:Int):(w=0∧([2,3,3,1]:List Int).getD w.toNat 0=2)∨(w=1∧([2,3,3,1]:List Int).getD w.toNat 0=3)∨(w=2∧([2,3,3,1]:List Int).getD w.toNat 0=3)∨(w=3∧([2,3,3,1]:List Int).getD w.toNat 0=1)∨w<0∨3<w:=by
 by_cases h:0≤w∧w≤3
 ·have:w=0∨w=1∨w=2∨w=3:=A1;rcases this with rfl|rfl|rfl|rfl<;>decide
 ·omega
noncomputable def B4B:Q1:=⟨_,fun hst=>.nil⟩
def KQ:List U→Option (Nat×List U)
 | [.int .i64 k,.int .i64 c,.int .i64 m,.int .i64 w,.int .i64 b,.int .i64 r,.int .i64 cl,.str t]=>some (0,[.bool (decide (msP m w b r cl))])
 | _=>none
def A4Z(k:Int)(c:Int)(m:Int)(w:Int)(b:Int)(r:Int)(cl:Int)(t:D1):KQ [.int .i64 k,.int .i64 c,.int .i64 m,.int .i64 w,.int .i64 b,.int .i64 r,.int .i64 cl,.str t]=some (0,[.bool (decide (msP m w b r cl))]):=rfl
def A6b:Tr:=L4 3 8 0 (W9 3 9 3 (aI [h3 3,jI 4]<|.br 10 (.lt 3 (.sel) [h3 3,jI 2,jI 3,jI 3,jI 1]<|L4 4 12 0 (aQ [h3 4,h3 11]<|.br 13 (L4 2 14 0 (W9 2 15 7 (L4 5 16 0 (W9 5 17 39 (L4 6 18 0 (aQ [h3 6,jI 79]<|.ret [h 19 8]) J5) J5) J5) J5) J5) (J5)) J5) (.no)) J5) J5
def B1S{G}(hst:L9 G):M2 prog G 37 [.a [3,3,3,3,3,3,3,9]] KQ [.s 8]:=by
 refine F1 (d:=60) A6b (cxg (B4B.2 hst) .nil) hst ⟨f37,_,func37,rfl⟩ D0 D0 ?_;intro us outs hs;unfold KQ at hs;split at hs
 ·skip;rename_i k c m w b r cl t;cases hs;unfold A6b;refine w0 (.cons 7 _ (.cons 6 _ (.cons 5 _ (.cons 4 _ (.cons 3 _ (.cons 2 _ (.cons 1 _ (.cons 0 _ (.nil))))))))) ?_;repeat (first|refine w4 (fun g=>?_) fun g=>?_|(refine w7 [.bool _] ?_;rotate_left)|refine jK ?_|refine mN ?_|refine A9o ?_|refine w1 (.sel) (e:=zE [2,3,3,1] A1 (by show _<((4:Nat):Int);omega)) (k':=?_)|(refine w8 ?_;(have z0:=A1z w;omega)))
  all_goals
   have z1:=FI m w b r cl;have z0:=A1z w;refine l1 ?_;first|(refine decide_eq_decide.2 ⟨fun h=>z1.2 ?_,fun h=>?_⟩;omega;(have:=z1.1 h;omega))|(symm;first|exact F4 (z1.2 A1)|exact F6 (fun h=>by have:=z1.1 h;omega)|(exfalso;omega))
 ·cases hs
noncomputable def B4W:Q1:=⟨_,fun hst=>.nil⟩
def ME:List U→Option (Nat×List U)
 | [.int .i64 k,.int .i64 c,.int .i64 m,.int .i64 w,.int .i64 b,.int .i64 r,.int .i64 cl,.str t]=>some (0,[.bool (decide (msP m w b r cl))])
 | _=>none
def A40(k:Int)(c:Int)(m:Int)(w:Int)(b:Int)(r:Int)(cl:Int)(t:D1):ME [.int .i64 k,.int .i64 c,.int .i64 m,.int .i64 w,.int .i64 b,.int .i64 r,.int .i64 cl,.str t]=some (0,[.bool (decide (msP m w b r cl))]):=rfl
def RJ(n:Nat):Tr:=.br 13 (L4 2 n 0 (W9 2 (n+1) 7 (L4 5 (n+2) 0 (W9 5 (n+3) 39 (L4 6 (n+4) 0 (aQ [h3 6,jI 79]<|.ret [h (n+5) 8]) J5) J5) J5) J5) J5) (J5)
def A1I(n:Nat):Tr:=L4 3 n 0 (W9 3 (n+1) 3 (L4 4 (n+2) 0 (aQ [h3 4,jI 1]<|RJ (n+4)) J5) J5) J5
def A7X:Tr:=G3 3 8 0 (G3 3 9 3 (A1I 10) (L4 3 10 0 (W9 3 11 3 (L4 4 12 0 (aQ [h3 4,jI 2]<|RJ 14) J5) J5) J5)) (G3 3 9 3 (A1I 10) (L4 3 10 0 (W9 3 11 3 (L4 4 12 0 (aQ [h3 4,jI 3]<|RJ 14) J5) J5) J5))
def A7Y{G}(hst:L9 G):M2 prog G 61 [.a [3,3,3,3,3,3,3,9]] ME [.s 8]:=by
 refine F1 (d:=60) A7X (cxg (B4W.2 hst) .nil) hst ⟨f61,_,func61,rfl⟩ D0 D0 ?_;intro us outs hs;unfold ME at hs;split at hs
 ·skip;rename_i k c m w b r cl t;cases hs;unfold A7X;refine w0 (.cons 7 _ (.cons 6 _ (.cons 5 _ (.cons 4 _ (.cons 3 _ (.cons 2 _ (.cons 1 _ (.cons 0 _ (.nil))))))))) ?_;repeat (first|(refine w7 [.bool _] ?_;rotate_left)|refine w4 (fun g=>?_) fun g=>?_|refine jK ?_|refine mN ?_|refine U1 ?_)
  all_goals
   have z1:=FI m w b r cl;have z0:=A1z w;refine l1 ?_;first|(refine decide_eq_decide.2 ⟨fun h=>z1.2 ?_,fun h=>?_⟩;omega;(have:=z1.1 h;omega))|(symm;first|exact F4 (z1.2 A1)|exact F6 (fun h=>by have:=z1.1 h;omega)|(exfalso;omega))
 ·cases hs
def PF:List U→Option (Nat×List U)
 | [.str s,.str u]=>if u=[27]then some (0,[.bool (decide (0≤Lib.indexByte s 27))])else none
 | _=>none
def A6C(s:D1)(u:D1)(hc:u=[27]):PF [.str s,.str u]=some (0,[.bool (decide (0≤Lib.indexByte s 27))]):=A4 hc
def B3n{G}(hst:L9 G):M2 prog G 28 [.s 9,.s 9] PF [.s 8]:=by
 intro us outs w vs R hsh hs hG hR;unfold PF at hs;split at hs
 ·skip;rename_i s u;split at hs
  ·rename_i hc;cases hs;have hv:=m9 (vs2:=[.string ⟨⟨s⟩⟩,.string ⟨⟨u⟩⟩]) hsh rfl;subst hv;refine uD (vr:=[.bool (decide (0≤Lib.indexByte s 27))]) func28 rfl D0 rfl ?_;subst hc;exact(Tryz.strings_Contains_one ⟨⟨s⟩⟩ 27 w).mono fun e w' ⟨h1,h2⟩=>⟨h1,by subst h2;exact RowKit.Below.refl _ _⟩
  ·cases hs
 ·cases hs
def bU(b:Bool):Option Unit:=if b then some ()else none
def bO{b:Bool}{u:Unit}(h:bU b=some u):b=true:=by cases b<;>first|rfl|cases h
def bP{b:Bool}(h:bU b=none):b=false:=by cases b<;>first|rfl|cases h
def isE(x:UInt8):Bool:=decide (x=27)
def A5z{l:D1}(h:(l.length:Int)≤i):(l.drop i.toNat).any isE=false:=by rw[v8 l h];rfl
def A8w{x:UInt8}(h:((x.toNat:Nat):Int)=27):x=27:=by
 apply UInt8.toNat_inj.1;show x.toNat=27;omega
def JC(l:D1)(n:Nat):l.getD n default=l.getD n 0:=rfl
def B3X{l:D1}(h0:0≤i)(h1:i<(l.length:Int))(h2:(((l.getD i.toNat 0).toNat:Nat):Int)=27):(l.drop i.toNat).any isE=true:=by
 rw[R3 l h0 h1,x4,JC,A8w h2];rfl
def B3Y{l:D1}(h0:0≤i)(h1:i<(l.length:Int))(h2:¬(((l.getD i.toNat 0).toNat:Nat):Int)=27):(l.drop i.toNat).any isE=(l.drop (i+1).toNat).any isE:=by
 rw[R3 l h0 h1,x4,JC];have:isE (l.getD i.toNat 0)=false:=F6 fun h=>h2 (by rw[h];rfl)
 rw[this,Q4]
noncomputable def B4Z:Q1:=⟨_,fun hst=>(.cons (UH hst) (.cons (A7Y hst) .nil))⟩
def AL:List U→Option (Nat×List U)
 | [.int .i64 i,.int .i64 k,.int .i64 c,.int .i64 m,.int .i64 w,.int .i64 b,.int .i64 r,.int .i64 cl,.str t]=>if 0≤i∧i≤(t.length:Int)∧(t.length:Int)≤140737488351232 then fT (bU ((t.drop i.toNat).any isE)) [.int .i64 k,.int .i64 c,.int .i64 m,.int .i64 w,.int .i64 b,.int .i64 r,.int .i64 cl,.str t] (fun _=>[])else none
 | _=>none
def sQ(i:Int)(k:Int)(c:Int)(m:Int)(w:Int)(b:Int)(r:Int)(cl:Int)(t:D1)(hc:0≤i∧i≤(t.length:Int)∧(t.length:Int)≤140737488351232):AL [.int .i64 i,.int .i64 k,.int .i64 c,.int .i64 m,.int .i64 w,.int .i64 b,.int .i64 r,.int .i64 cl,.str t]=fT (bU ((t.drop i.toNat).any isE)) [.int .i64 k,.int .i64 c,.int .i64 m,.int .i64 w,.int .i64 b,.int .i64 r,.int .i64 cl,.str t] (fun _=>[]):=A4 hc
def A7h:Q8:=⟨[(1,.pointer (some ⟨6,0,none⟩)),(3,h 0 3)],[(6,.cells 23 [h 1 3,h 2 3,h 3 3,h 4 3,h 5 3,h 6 3,h 7 3,h 8 9])],9,[⟨.exit 1,[(1,.pointer (some ⟨6,0,none⟩))],[(6,.cells 23 [h 0 3,h 1 3,h 2 3,h 3 3,h 4 3,h 5 3,h 6 3,h 7 9])],8⟩,⟨.ret,[(2,.bool false)],[],0⟩]⟩
noncomputable def A1P:Code:=(f32.body).getD .skip
noncomputable def A7c:Code:=match I0 [true,false,true,false,true,true,true,true,true,false,false,true,false] A1P with|some (.loop x)=>x|_=>.skip
def A7g:f32.body=some A1P:=rfl
def A7e:I0 [true,false,true,false,true,true,true,true,true,false,false,true,false] A1P=some (.loop A7c):=D0
def p7(a0:Nat)(a1:Nat)(a2:Nat)(k0 k1:Tr):Tr:=aL [h3 a0,h3 a1]<|.br a2 k0 k1
def A7d:Tr:=aD [h 8 9]<|p7 0 9 10 (.lt 4 (.idx) [h 8 9,h3 0]<|aE [h 11 4,.int .u8 (27)]<|.br 12 (K8 1) (aA [h3 0,jI 1]<|.ret [jI (-1),h3 13,h3 1,h3 2,h3 3,h3 4,h3 5,h3 6,h3 7,h 8 9])) (.ret [jI 0,h3 1,h3 2,h3 3,h3 4,h3 5,h3 6,h3 7,h 8 9])
def A7f:List U→Nat
 | [.int .i64 i,.int .i64 k,.int .i64 c,.int .i64 m,.int .i64 w,.int .i64 b,.int .i64 r,.int .i64 cl,.str t]=>((t.length:Int)-i).toNat
 | _=>0
def A1O(i:Int)(k:Int)(c:Int)(m:Int)(w:Int)(b:Int)(r:Int)(cl:Int)(t:D1):A7f [.int .i64 i,.int .i64 k,.int .i64 c,.int .i64 m,.int .i64 w,.int .i64 b,.int .i64 r,.int .i64 cl,.str t]=((t.length:Int)-i).toNat:=rfl
def B2B{G}(hst:L9 G):∀ (E:Nat→U) (base:Nat),@X1 ⟨E,G⟩ prog base gl f32.ntmps A7c (P3 prog gl n0 7 A7h AL):=by
 refine l6 (dep:=60) (f:=32) (n0:=n0) (nB:=7) (H0:=H0) A7f A7d (cxg (B4Z.2 hst) .nil) hst func32 A7g A7e D0 D0 D0 ?_;intro us d outs hs;have hs0:=hs;unfold AL at hs;split at hs
 ·skip;rename_i i k c m w b r cl t;split at hs
  ·rename_i hc;clear hs hs0;refine⟨rfl,?_⟩;unfold A7d;refine w0 (.cons 8 _ (.cons 7 _ (.cons 6 _ (.cons 5 _ (.cons 4 _ (.cons 3 _ (.cons 2 _ (.cons 1 _ (.cons 0 _ (.nil)))))))))) ?_;repeat (first|refine w4 (fun g=>?_) fun g=>?_|refine y7 ?_|refine V4 ?_|refine LB ?_|refine cD ?_|refine B1h ?_|refine U1 ?_|(refine w7 [.int .i64 _] ?_;rotate_left)|(refine w7 [.int .i64 _,.int .i64 _,.int .i64 _,.int .i64 _,.int .i64 _,.int .i64 _,.int .i64 _,.int .i64 _,.int .i64 _,.str _] ?_;rotate_left)|(refine w7 [.int .i64 _,.int .i64 _,.int .i64 _,.int .i64 _,.int .i64 _,.int .i64 _,.int .i64 _,.int .i64 _,.str _] ?_;rotate_left))
   all_goals first
    | refine P4 ?_ ?_
      ·rw[sQ i k c m w b r cl t hc,B3Y (i:=i) A1 A1 ‹_›];exact sQ (i+1) k c m w b r cl t ⟨A1,A1,hc.2.2⟩
      ·rw[A1O,A1O];omega
    | refine L7 (d:=0) ?_
      rw[sQ i k c m w b r cl t hc,A5z A1];rfl
    | refine L7 (d:=1) ?_
      rw[sQ i k c m w b r cl t hc,B3X (i:=i) A1 A1 ‹_›];rfl
  ·cases hs
 ·cases hs
noncomputable def B4_:List LpE:=(32,([true,false,true,false,true,true,true,true,true,false,false,true,false],P3 prog gl n0 7 A7h AL))::[]
def A4M{G}(hst:L9 G):r7 prog G gl B4_:=.cons func32 A7g A7e (B2B hst) .nil
def A6U(t:D1):(0≤Lib.indexByte t 27)↔t.any isE=true:=by
 induction t with
 | nil=>simp[Lib.indexByte]
 | cons b l ih =>
   have h:=Lib.indexByte_ge l 27;rw[Lib.indexByte,x4];by_cases e:b=27
   ·subst e;simp[isE]
   ·have e1:(b == 27)=false:=by simp[e]
    have e2:isE b=false:=F6 e;rw[e1,e2,Q4,← ih];by_cases e3:Lib.indexByte l 27 = -1
    ·simp[e3]
    ·simp[e3];omega
def O5(k c m w b r cl:Int)(t:D1):Prop :=
 (k=1∧w=0∧b=0∧r=0∧cl=0∧t=[]∧i7 c m)∨(k=2∧c=0∧t=[]∧msP m w b r cl)∨(k=3∧c=0∧m=0∧w=0∧b=0∧r=0∧cl=0∧t.length≤1000∧t.any isE=false)∨(k=4∧c=0∧m=0∧b=0∧r=0∧cl=0∧t=[]∧0≤w∧w≤1)
instance(k c m w b r cl:Int)(t:D1):Decidable (O5 k c m w b r cl t):=by unfold O5;infer_instance
noncomputable def B4Y:Q1:=⟨_,fun hst=>(.cons (UH hst) (.cons (A7Y hst) .nil))⟩
def MF:List U→Option (Nat×List U)
 | [.int .i64 k,.int .i64 c,.int .i64 m,.int .i64 w,.int .i64 b,.int .i64 r,.int .i64 cl,.str t]=>if -9223372036854775808≤m∧m≤9223372036854775807∧(t.length:Int)≤140737488351232 then some (0,[.bool (decide (O5 k c m w b r cl t))])else none
 | _=>none
def A41(k:Int)(c:Int)(m:Int)(w:Int)(b:Int)(r:Int)(cl:Int)(t:D1)(hc : -9223372036854775808≤m∧m≤9223372036854775807∧(t.length:Int)≤140737488351232):MF [.int .i64 k,.int .i64 c,.int .i64 m,.int .i64 w,.int .i64 b,.int .i64 r,.int .i64 cl,.str t]=some (0,[.bool (decide (O5 k c m w b r cl t))]):=A4 hc
def A7a:Tr:=G3 0 8 1 (.lt 8 (.eqs) [h3 0,h3 0,h3 1,h3 1,h3 2,h3 2,h3 3,jI 0,h3 4,jI 0,h3 5,jI 0,h3 6,jI 0,h 7 9,.string ⟨⟨[]⟩⟩]<|.br 9 (.fn lQ [h3 1,h3 2] 1<|.ret [h 10 8]) (J5)) (G3 0 9 2 (.lt 8 (.eqs) [h3 0,h3 0,h3 1,jI 0,h3 2,h3 2,h3 3,h3 3,h3 4,h3 4,h3 5,h3 5,h3 6,h3 6,h 7 9,.string ⟨⟨[]⟩⟩]<|.br 10 (.fn ME [h3 0,h3 1,h3 2,h3 3,h3 4,h3 5,h3 6,h 7 9] 1<|.ret [h 11 8]) (J5)) (G3 0 10 3 (.lp AL [jI 0,h3 0,h3 1,h3 2,h3 3,h3 4,h3 5,h3 6,h 7 9] 0 8 (.lt 8 (.eqs) [h3 11,h3 11,h3 12,jI 0,h3 13,jI 0,h3 14,jI 0,h3 15,jI 0,h3 16,jI 0,h3 17,jI 0,h 18 9,h 18 9]<|.br 19 (aD [h 18 9]<|aQ [h3 20,jI 1000]<|.ret [h 21 8]) (J5)) (.lp AL [jI 0,h3 0,h3 1,h3 2,h3 3,h3 4,h3 5,h3 6,h 7 9] 1 0 (J5) (.no))) (G3 0 11 4 (.lt 8 (.eqs) [h3 0,h3 0,h3 1,jI 0,h3 2,jI 0,h3 3,h3 3,h3 4,jI 0,h3 5,jI 0,h3 6,jI 0,h 7 9,.string ⟨⟨[]⟩⟩]<|.br 12 (L4 3 13 0 (aQ [h3 3,jI 1]<|.ret [h 14 8]) J5) (J5)) J5)))
def A7b{G}(hst:L9 G):M2 prog G 32 [.a [3,3,3,3,3,3,3,9]] MF [.s 8]:=by
 refine F1 (d:=60) A7a (cxg (B4Y.2 hst) (A4M hst)) hst ⟨f32,_,func32,rfl⟩ D0 D0 ?_;intro us outs hs;unfold MF at hs;split at hs
 ·skip;rename_i k c m w b r cl t;split at hs
  ·rename_i hc;cases hs;unfold A7a;refine w0 (.cons 7 _ (.cons 6 _ (.cons 5 _ (.cons 4 _ (.cons 3 _ (.cons 2 _ (.cons 1 _ (.cons 0 _ (.nil))))))))) ?_;refine U1 ?_;refine w4 (fun g0=>?_) fun g0=>?_
   ·refine w1 (.eqs) (e:=rfl) (k':=?_);first|refine w5 (fun g1=>?_) (fun g1=>?_)|refine w5B (fun g1=>?_) (fun g1=>?_)
    ·refine w7 [.bool _] ?_;refine l1 ?_;unfold O5
     (try replace g3:=bO g3)
     (try replace g3:=bP g3)
     first|(simp_all;done)|(simp_all;omega)
    refine w31 lQ (e:=UG _ _ A1) (k':=?_);refine w7 [.bool _] ?_;refine l1 ?_;unfold O5
    (try replace g3:=bO g3)
    (try replace g3:=bP g3)
    first|(simp_all;done)|(simp_all;omega)
   refine U1 ?_;refine w4 (fun g1=>?_) fun g1=>?_
   ·refine w1 (.eqs) (e:=rfl) (k':=?_);first|refine w5 (fun g2=>?_) (fun g2=>?_)|refine w5B (fun g2=>?_) (fun g2=>?_)
    ·refine w7 [.bool _] ?_;refine l1 ?_;unfold O5
     (try replace g3:=bO g3)
     (try replace g3:=bP g3)
     first|(simp_all;done)|(simp_all;omega)
    refine w31 ME (e:=A40 _ _ _ _ _ _ _ _) (k':=?_);refine w7 [.bool _] ?_;refine l1 ?_;unfold O5
    (try replace g3:=bO g3)
    (try replace g3:=bP g3)
    first|(simp_all;done)|(simp_all;omega)
   refine U1 ?_;refine w4 (fun g2=>?_) fun g2=>?_
   ·refine w6 AL (sQ _ _ _ _ _ _ _ _ _ A1) (h0:=fun g3=>?_) (h1:=fun v3 g3=>?_)
    ·show Wk _ _ (.cons _ _ (.cons _ _ (.cons _ _ (.cons _ _ (.cons _ _ (.cons _ _ (.cons _ _ (.cons _ _ _))))))));refine w1 (.eqs) (e:=rfl) (k':=?_);first|refine w5 (fun g4=>?_) (fun g4=>?_)|refine w5B (fun g4=>?_) (fun g4=>?_)
     ·refine w7 [.bool _] ?_;refine l1 ?_;unfold O5
      (try replace g3:=bO g3)
      (try replace g3:=bP g3)
      first|(simp_all;done)|(simp_all;omega)
     refine LB ?_;refine mN ?_;refine w7 [.bool _] ?_;refine l1 ?_;unfold O5
     (try replace g3:=bO g3)
     (try replace g3:=bP g3)
     first|(simp_all;done)|(simp_all;omega)
    show Wk _ _ _;refine w7 [.bool _] ?_;refine l1 ?_;unfold O5
    (try replace g3:=bO g3)
    (try replace g3:=bP g3)
    first|(simp_all;done)|(simp_all;omega)
   refine U1 ?_;refine w5 (fun g3=>?_) fun g3=>?_
   ·refine w7 [.bool _] ?_;refine l1 ?_;unfold O5
    (try replace g3:=bO g3)
    (try replace g3:=bP g3)
    first|(simp_all;done)|(simp_all;omega)
   refine w1 (.eqs) (e:=rfl) (k':=?_);first|refine w5 (fun g4=>?_) (fun g4=>?_)|refine w5B (fun g4=>?_) (fun g4=>?_)
   ·refine w7 [.bool _] ?_;refine l1 ?_;unfold O5
    (try replace g3:=bO g3)
    (try replace g3:=bP g3)
    first|(simp_all;done)|(simp_all;omega)
   refine jK ?_;refine w5 (fun g5=>?_) fun g5=>?_
   ·refine w7 [.bool _] ?_;refine l1 ?_;unfold O5
    (try replace g3:=bO g3)
    (try replace g3:=bP g3)
    first|(simp_all;done)|(simp_all;omega)
   refine mN ?_;refine w7 [.bool _] ?_;refine l1 ?_;unfold O5
   (try replace g3:=bO g3)
   (try replace g3:=bP g3)
   first|(simp_all;done)|(simp_all;omega)
  ·cases hs
 ·cases hs
def JL{a b c:Int}(h0:0≤b)(h1:b<c)(h2:(a=128∧c=64)∨(a=192∧c=32)∨(a=224∧c=16)∨(a=240∧c=8)):evU (.bin .or) [.int .u8 a,.int .u8 b]=.int .u8 (a+b):=by
 rw[nZ];have k1:∀ n:Nat,n<64→IntKind.u8.wrap (BitVec.ofInt IntKind.u8.bits 128 ||| BitVec.ofInt IntKind.u8.bits (n:Int)).toNat=128+(n:Int):=C3;have k2:∀ n:Nat,n<32→IntKind.u8.wrap (BitVec.ofInt IntKind.u8.bits 192 ||| BitVec.ofInt IntKind.u8.bits (n:Int)).toNat=192+(n:Int):=C3;have k3:∀ n:Nat,n<16→IntKind.u8.wrap (BitVec.ofInt IntKind.u8.bits 224 ||| BitVec.ofInt IntKind.u8.bits (n:Int)).toNat=224+(n:Int):=C3;have k4:∀ n:Nat,n<8→IntKind.u8.wrap (BitVec.ofInt IntKind.u8.bits 240 ||| BitVec.ofInt IntKind.u8.bits (n:Int)).toNat=240+(n:Int):=C3;obtain⟨n,rfl⟩:∃ n:Nat,b=n:=⟨b.toNat,A1⟩;congr 1
 rcases h2 with⟨rfl,rfl⟩|⟨rfl,rfl⟩|⟨rfl,rfl⟩|⟨rfl,rfl⟩
 ·exact k1 n A1
 ·exact k2 n A1
 ·exact k3 n A1
 ·exact k4 n A1
def A21{j:IntKind}(a:Int):evU (.conv .u8) [.int j a]=.int .u8 (a%256):=by
 rw[JM];congr 1
def B0E(c:Int):Int:=if okU c then c else 65533
def xS(c:Int):List Int:=if c<128 then[c]else if c<2048 then[192+c / 64,128+c%64]else if c<65536 then[224+c / 4096,128+c / 64%64,128+c%64]else[240+c / 262144,128+c / 4096%64,128+c / 64%64,128+c%64]
def ID(c:Int):D1:=iB (xS (B0E c))
def sT{c:Int}(h:okU c):B0E c=c:=A4 h
def A7k{c:Int}(h:¬okU c):B0E c=65533:=A3 h
def A1a{c:Int}(h:c<128):xS c=[c]:=A4 h
def A1Z{c:Int}(h:¬c<128)(h2:c<2048):xS c=[192+c / 64,128+c%64]:=by unfold xS;rw[A3 h,A4 h2]
def A1Y{c:Int}(h:¬c<128)(h2:¬c<2048)(h3:c<65536):xS c=[224+c / 4096,128+c / 64%64,128+c%64]:=by unfold xS;rw[A3 h,A3 h2,A4 h3]
def A1X{c:Int}(h:¬c<128)(h2:¬c<2048)(h3:¬c<65536):xS c=[240+c / 262144,128+c / 4096%64,128+c / 64%64,128+c%64]:=by unfold xS;rw[A3 h,A3 h2,A3 h3]
noncomputable def B4a:Q1:=⟨_,fun hst=>.nil⟩
def EX:List U→Option (Nat×List U)
 | [.int .i64 c]=>some (0,[.str (ID c)])
 | _=>none
def A46(c:Int):EX [.int .i64 c]=some (0,[.str (ID c)]):=rfl
def A7j:Tr:=L4 0 1 0 (W9 0 2 1114111 (.lt 3 (.bin .shr) [h3 0,.int .u64 (11)]<|aN [h3 3,jI 27]<|I3 5 4 (.ret [.string ⟨⟨[239,191,189]⟩⟩]) (S6 0 6 128 (.lt 4 (.conv .u8) [h3 0]<|.lt 9 (.mks) [h 7 4]<|.ret [h 8 9]) (S6 0 7 2048 (.lt 3 (.bin .shr) [h3 0,.int .u64 (6)]<|.lt 4 (.conv .u8) [h3 8]<|.lt 4 (.bin .or) [.int .u8 (192),h 9 4]<|.lt 3 (.bin .shr) [h3 0,jI 0]<|.lt 4 (.conv .u8) [h3 11]<|.lt 4 (.bin .and) [h 12 4,.int .u8 (63)]<|.lt 4 (.bin .or) [.int .u8 (128),h 13 4]<|.lt 9 (.mks) [h 10 4,h 14 4]<|.ret [h 15 9]) (S6 0 8 65536 (.lt 3 (.bin .shr) [h3 0,.int .u64 (12)]<|.lt 4 (.conv .u8) [h3 9]<|.lt 4 (.bin .or) [.int .u8 (224),h 10 4]<|.lt 3 (.bin .shr) [h3 0,jI 6]<|.lt 4 (.conv .u8) [h3 12]<|.lt 4 (.bin .and) [h 13 4,.int .u8 (63)]<|.lt 4 (.bin .or) [.int .u8 (128),h 14 4]<|.lt 3 (.bin .shr) [h3 0,jI 0]<|.lt 4 (.conv .u8) [h3 16]<|.lt 4 (.bin .and) [h 17 4,.int .u8 (63)]<|.lt 4 (.bin .or) [.int .u8 (128),h 18 4]<|.lt 9 (.mks) [h 11 4,h 15 4,h 19 4]<|.ret [h 20 9]) (.lt 3 (.bin .shr) [h3 0,.int .u64 (18)]<|.lt 4 (.conv .u8) [h3 9]<|.lt 4 (.bin .or) [.int .u8 (240),h 10 4]<|.lt 3 (.bin .shr) [h3 0,jI 12]<|.lt 4 (.conv .u8) [h3 12]<|.lt 4 (.bin .and) [h 13 4,.int .u8 (63)]<|.lt 4 (.bin .or) [.int .u8 (128),h 14 4]<|.lt 3 (.bin .shr) [h3 0,jI 6]<|.lt 4 (.conv .u8) [h3 16]<|.lt 4 (.bin .and) [h 17 4,.int .u8 (63)]<|.lt 4 (.bin .or) [.int .u8 (128),h 18 4]<|.lt 3 (.bin .shr) [h3 0,jI 0]<|.lt 4 (.conv .u8) [h3 20]<|.lt 4 (.bin .and) [h 21 4,.int .u8 (63)]<|.lt 4 (.bin .or) [.int .u8 (128),h 22 4]<|.lt 9 (.mks) [h 11 4,h 15 4,h 19 4,h 23 4]<|.ret [h 24 9]))))) (.ret [.string ⟨⟨[239,191,189]⟩⟩])) (.ret [.string ⟨⟨[239,191,189]⟩⟩])
def B2F{G}(hst:L9 G):M2 prog G 77 [.s 3] EX [.s 9]:=by
 refine F1 (d:=60) A7j (cxg (B4a.2 hst) .nil) hst ⟨f77,_,func77,rfl⟩ D0 D0 ?_;intro us outs hs;unfold EX at hs;split at hs
 ·skip;rename_i c;cases hs;unfold A7j;refine w0 (.cons 0 _ (.nil)) ?_;repeat (first|refine fV ?_|refine w1 (.conv .u8) (e:=A21 _) (k':=?_)|(refine w7 [.str _] ?_;rotate_left)|refine w4 (fun g=>?_) fun g=>?_|refine w1 (.bin .and) (e:=fA 6 64 C3 C3 C3) (k':=?_)|refine w1 (.bin .or) (e:=JL (c:=64) A1 A1 C3) (k':=?_)|refine cD ?_|refine w1 (.bin .shr) (e:=T7 64 C3 C3) (k':=?_)|refine w1 (.bin .shr) (e:=T7 1 C3 C3) (k':=?_)|refine w1 (.bin .shr) (e:=T7 4096 C3 C3) (k':=?_)|refine jK ?_|refine mN ?_|refine w1 (.bin .shr) (e:=T7 2048 C3 C3) (k':=?_)|refine mL ?_|refine l4 ?_|refine w1 (.mks) (e:=vO [_] (by simp only[C6,M7,or_false,forall_eq_or_imp,forall_eq];omega)) (k':=?_)|refine w1 (.bin .or) (e:=JL (c:=32) A1 A1 C3) (k':=?_)|refine w1 (.mks) (e:=vO [_,_] (by simp only[C6,M7,or_false,forall_eq_or_imp,forall_eq];omega)) (k':=?_)|refine w1 (.bin .or) (e:=JL (c:=16) A1 A1 C3) (k':=?_)|refine w1 (.mks) (e:=vO [_,_,_] (by simp only[C6,M7,or_false,forall_eq_or_imp,forall_eq];omega)) (k':=?_)|refine w1 (.bin .shr) (e:=T7 262144 C3 C3) (k':=?_)|refine w1 (.bin .or) (e:=JL (c:=8) A1 A1 C3) (k':=?_)|refine w1 (.mks) (e:=vO [_,_,_,_] (by simp only[C6,M7,or_false,forall_eq_or_imp,forall_eq];omega)) (k':=?_))
  all_goals
   refine H3 (fun z=>[U.str z]) ?_;symm;unfold ID;first|(rw[sT (by unfold okU;omega),A1a A1];done)|(rw[sT (by unfold okU;omega),A1a A1];refine H3 iB ?_;simp only[I8,and_true,true_and];omega)|(rw[sT (by unfold okU;omega),A1Z A1 A1];done)|(rw[sT (by unfold okU;omega),A1Z A1 A1];refine H3 iB ?_;simp only[I8,and_true,true_and];omega)|(rw[sT (by unfold okU;omega),A1Y A1 A1 A1];done)|(rw[sT (by unfold okU;omega),A1Y A1 A1 A1];refine H3 iB ?_;simp only[I8,and_true,true_and];omega)|(rw[sT (by unfold okU;omega),A1X A1 A1 A1];done)|(rw[sT (by unfold okU;omega),A1X A1 A1 A1];refine H3 iB ?_;simp only[I8,and_true,true_and];omega)|(rw[A7k (by unfold okU;omega)];rfl)|(rw[A7k (by unfold okU;omega)];decide)
 ·cases hs
def B1B:Nat→Nat→D1
 | 0,_=>[]
 | k+1,n=>if n<10 then[UInt8.ofNat (48+n)]else B1B k (n / 10)++[UInt8.ofNat (48+n%10)]
def WN:∀ (k n:Nat),n<10 ^ (k+1)→B1B (k+1) n=Lib.decDigits n
 | 0,n,h=>by
   have h1:n<10:=by simpa using h
   show(if n<10 then _ else _)=_;rw[A4 h1,Lib.decDigits_one h1]
 | k+1,n,h=>by
   show(if n<10 then _ else _)=_;by_cases h1:n<10
   ·rw[A4 h1,Lib.decDigits_one h1]
   ·rw[A3 h1];have h2:n / 10<10 ^ (k+1):=Nat.div_lt_of_lt_mul (by rw[q9,← Nat.pow_succ];exact h);rw[WN k (n / 10) h2];conv=>rhs;rw[Lib.decDigits,dif_neg h1]
def itz(n:Int):D1:=if 0≤n∧n<100000 then B1B 5 n.toNat else Lib.itoa n
def SH(n:Int):itz n=Lib.itoa n:=by
 unfold itz;by_cases h:0≤n∧n<100000
 ·rw[A4 h,WN 4 n.toNat (by show n.toNat<100000;omega),← Lib.itoa_nonneg,R5 h.1]
 ·rw[A3 h]
def bE:List U→Option (Nat×List U)
 | [.int .i64 n]=>if -9223372036854775808≤n∧n≤9223372036854775807 then some (0,[.str (itz n)])else none
 | _=>none
def lC(n:Int)(hc : -9223372036854775808≤n∧n≤9223372036854775807):bE [.int .i64 n]=some (0,[.str (itz n)]):=A4 hc
def A2Z{G}(hst:L9 G):M2 prog G 79 [.s 3] bE [.s 9]:=by
 intro us outs w vs R hsh hs hG hR;unfold bE at hs;split at hs
 ·skip;rename_i n;split at hs
  ·rename_i hc;cases hs;have hv:=m9 (vs2:=[.int .i64 n]) hsh rfl;subst hv;refine uD (vr:=[.string ⟨⟨itz n⟩⟩]) func79 rfl D0 rfl ?_;rw[SH];refine(Tryz.strconv_Itoa n A1 A1 w (HM (id:=3) hst hG C3 C3 D0 D0 D0)).mono fun e w' ⟨h1,k,os,h2⟩=>⟨h1,?_⟩
   subst h2;exact Go.Lib.below_grow _ w (B0 _) k os
  ·cases hs
 ·cases hs
def nuL:List Int:=[2,3,5,6,15,17,18,19,20,21,23,24]
def leL:D1:=[65,66,67,68,70,72,80,81,82,83]
def SB(k:Int):D1:=(leL.drop k.toNat).take ((k+1).toNat-k.toNat)
def spS(ck:Bool)(k m:Int):D1 :=
 if 10≤k then if 0<m then[27,91]++itz (nuL.getD (k-10).toNat 0)++[59]++itz (m+1)++[126]else[27,91]++itz (nuL.getD (k-10).toNat 0)++[126]
 else if 0<m then[27,91,49,59]++itz (m+1)++SB k else if 6≤k then[27,79]++SB k else if ck=true then[27,79]++SB k else[27,91]++SB k
def A7w(n:Nat):0≤nuL.getD n 0∧nuL.getD n 0≤24:=by
 have h:∀ n:Nat,n<12→0≤nuL.getD n 0∧nuL.getD n 0≤24:=C3;rcases G4 n 12 with k|k
 ·exact h n k
 ·have e:nuL.getD n 0=0:=by
   rw[B4,hO.2 (by exact k)];rfl
  rw[e];decide
def IV{n:Int}(h : -9223372036854775808≤n)(h2:n≤9223372036854775807):(itz n).length≤21:=by rw[SH];exact Lib.itoa_length_le n h h2
noncomputable def B4t:Q1:=⟨_,fun hst=>(.cons (A2Z hst) .nil)⟩
def OX:List U→Option (Nat×List U)
 | [.bool b0,.bool b1,.bool ck,.bool b3,.bool b4,.bool b5,.bool b6,.bool pa,.bool fo,.bool b9,.bool b10,.int .i64 mo,.bool sg,.int .i64 k,.int .i64 m]=>if 0≤k∧k≤21∧0≤m∧m≤7 then some (0,[.str (spS ck k m)])else none
 | _=>none
def A5y(b0:Bool)(b1:Bool)(ck:Bool)(b3:Bool)(b4:Bool)(b5:Bool)(b6:Bool)(pa:Bool)(fo:Bool)(b9:Bool)(b10:Bool)(mo:Int)(sg:Bool)(k:Int)(m:Int)(hc:0≤k∧k≤21∧0≤m∧m≤7):OX [.bool b0,.bool b1,.bool ck,.bool b3,.bool b4,.bool b5,.bool b6,.bool pa,.bool fo,.bool b9,.bool b10,.int .i64 mo,.bool sg,.int .i64 k,.int .i64 m]=some (0,[.str (spS ck k m)]):=A4 hc
def A27(n:Nat):Tr:=aA [h3 13,jI 1]<|.lt 9 (.sub) [.string ⟨⟨[65,66,67,68,70,72,80,81,82,83]⟩⟩,h3 13,h3 n]<|aC [.string ⟨⟨[27,79]⟩⟩,h (n+1) 9]<|.ret [h (n+2) 9]
def A26(n:Nat):Tr:=L4 13 n 10 (aS [h3 13,jI 10]<|aI [h3 (n+1),jI 12]<|.br (n+2) (.lt 3 (.sel) [h3 (n+1),jI 2,jI 3,jI 5,jI 6,jI 15,jI 17,jI 18,jI 19,jI 20,jI 21,jI 23,jI 24]<|.fn bE [h3 (n+3)] 1<|aC [.string ⟨⟨[27,91]⟩⟩,h (n+4) 9]<|aC [h (n+5) 9,.string ⟨⟨[126]⟩⟩]<|.ret [h (n+6) 9]) (.no)) (aV 14 (n+1) 0 (aC [.string ⟨⟨[27,91,49,59]⟩⟩,h 16 9]<|aA [h3 13,jI 1]<|.lt 9 (.sub) [.string ⟨⟨[65,66,67,68,70,72,80,81,82,83]⟩⟩,h3 13,h3 (n+3)]<|aC [h (n+2) 9,h (n+4) 9]<|.ret [h (n+5) 9]) (L4 13 (n+2) 6 (A27 (n+3)) (.br 2 (A27 (n+3)) (aA [h3 13,jI 1]<|.lt 9 (.sub) [.string ⟨⟨[65,66,67,68,70,72,80,81,82,83]⟩⟩,h3 13,h3 (n+3)]<|aC [.string ⟨⟨[27,91]⟩⟩,h (n+4) 9]<|.ret [h (n+5) 9]))))
def A8v:Tr:=aA [h3 14,jI 1]<|.fn bE [h3 15] 1<|L4 13 17 10 (aV 14 18 0 (aS [h3 13,jI 10]<|aI [h3 19,jI 12]<|.br 20 (.lt 3 (.sel) [h3 19,jI 2,jI 3,jI 5,jI 6,jI 15,jI 17,jI 18,jI 19,jI 20,jI 21,jI 23,jI 24]<|.fn bE [h3 21] 1<|aC [.string ⟨⟨[27,91]⟩⟩,h 22 9]<|aC [h 23 9,.string ⟨⟨[59]⟩⟩]<|aC [h 24 9,h 16 9]<|aC [h 25 9,.string ⟨⟨[126]⟩⟩]<|.ret [h 26 9]) (.no)) (A26 19)) (A26 18)
def B3W{G}(hst:L9 G):M2 prog G 78 [.a [8,8,8,8,8,8,8,8,8,8,8,3,8],.s 3,.s 3] OX [.s 9]:=by
 refine F1 (d:=60) A8v (cxg (B4t.2 hst) .nil) hst ⟨f78,_,func78,rfl⟩ D0 D0 ?_;intro us outs hs;unfold OX at hs;split at hs
 ·skip;rename_i b0 b1 ck b3 b4 b5 b6 pa fo b9 b10 mo sg k m;split at hs
  ·rename_i hc;cases hs;have l1:=IV (n:=m+1) A1 A1;have q1:0≤([2,3,5,6,15,17,18,19,20,21,23,24]:List Int).getD (k-10).toNat 0∧([2,3,5,6,15,17,18,19,20,21,23,24]:List Int).getD (k-10).toNat 0≤24:=A7w _;have l2:(itz (([2,3,5,6,15,17,18,19,20,21,23,24]:List Int).getD (k-10).toNat 0)).length≤21:=IV A1 A1;unfold A8v;refine w0 (.cons 14 _ (.cons 13 _ (.cons 12 _ (.cons 11 _ (.cons 10 _ (.cons 9 _ (.cons 8 _ (.cons 7 _ (.cons 6 _ (.cons 5 _ (.cons 4 _ (.cons 3 _ (.cons 2 _ (.cons 1 _ (.cons 0 _ (.nil)))))))))))))))) ?_;repeat (first|refine y7 ?_|refine V4 ?_|refine w1 (.bin .add) (e:=Y1 _ _ (by simp only[A7,B3,D2,D5];omega)) (k':=?_)|refine w4 (fun g=>?_) fun g=>?_|refine w4B (fun g=>?_) fun g=>?_|(refine w7 [.str _] ?_;rotate_left)|refine A0K ?_|refine HN ?_|refine wF ?_|refine jK ?_|refine w31 bE (e:=lC _ A1) (k':=?_)|refine mO ?_|refine A9o ?_|refine w1 (.sel) (e:=zE [2,3,5,6,15,17,18,19,20,21,23,24] A1 (by show _<((12:Nat):Int);omega)) (k':=?_)|(refine w8 ?_;first|omega))
   all_goals
    refine H3 (fun z=>[U.str z]) ?_;unfold spS SB
    (repeat' split)<;>first|(exfalso;omega)|rfl|(simp;done)|(simp_all;done)
  ·cases hs
 ·cases hs
def rM:Rw (Int×D1):=rC (Z8 .i64) (r1 SY)
def kmL:List (Int×D1):=[(1114135,[13]),(1114136,[9]),(1114137,[127]),(1114138,[27])]
def kmG(c:Int):D1:=(kmL.find? (fun a=>(c == a.1 && true))).elim [] (fun a=>a.2)
def kmH(c:Int):Bool:=kmL.any (fun a=>(c == a.1 && true))
def B2q(c:Int):kmH c=decide (c=1114135∨c=1114136∨c=1114137∨c=1114138):=by
 unfold kmH kmL;rw[L1];simp
def B2r(c:Int):kmG c=if c=1114135 then[13]else if c=1114136 then[9]else if c=1114137 then[127]else if c=1114138 then[27]else[]:=by
 unfold kmG kmL;simp only[eF,jD,List.find?_nil];by_cases h1:c=1114135
 ·subst h1;rfl
 ·by_cases h2:c=1114136
  ·subst h2;rfl
  ·by_cases h3:c=1114137
   ·subst h3;rfl
   ·by_cases h4:c=1114138
    ·subst h4;rfl
    ·have e1:(c == 1114135)=false:=by simp[h1]
     have e2:(c == 1114136)=false:=by simp[h2]
     have e3:(c == 1114137)=false:=by simp[h3]
     have e4:(c == 1114138)=false:=by simp[h4]
     rw[e1,e2,e3,e4,A3 h1,A3 h2,A3 h3,A3 h4];rfl
def B5c{c:Int}(h:kmH c=false):c≠1114135∧c≠1114136∧c≠1114137∧c≠1114138:=by
 rw[B2q]at h
 have:=of_decide_eq_false h;omega
def B0X(c:Int):(kmG c).length≤1:=by
 rw[B2r]
 (repeat' split)<;>decide
def MN(c:Int):(ID c).length≤4:=by
 unfold ID iB xS;rw[G5]
 (repeat' split)<;>simp
def B0w{x:Option (List (Int×D1))}(c:Int)(hx:el x=kmL):evU (.mget 2 1 1) [B6 rM x,.str [],.int .i64 c]=.str (kmG c):=by
 have h:=bL (x:=x) (z:=([]:D1)) (kc:=[.int .i64 c]) (r:=rM) (w:=2) (kw:=1) (o:=1) U.str (fun a=>(c == a.1 && true)) (fun a=>a.2) rfl rfl (fun _=>rfl) (fun _=>rfl);rw[hx]at h;exact h
def B0v{x:Option (List (Int×D1))}(c:Int)(hx:el x=kmL):evU (.mhas 2 1) [B6 rM x,.int .i64 c]=.bool (kmH c):=by
 have h:=OW (x:=x) (kc:=[.int .i64 c]) (r:=rM) (w:=2) (kw:=1) (fun a=>(c == a.1 && true)) rfl rfl (fun _=>rfl);rw[hx]at h;exact h
def s8(l:List Int):(iB l).length=l.length:=by unfold iB;rw[G5]
def CV(m:Int):D1:=if m / 2%2*2≠0 then[27]else[]
def keS(ck:Bool)(c m:Int):D1 :=
 if c=1114136∧m=1 then[27,91,90]else if c=1114135 then CV m++[13]else if c=1114136 then CV m++[9]else if c=1114137 then CV m++[127]else if c=1114138 then CV m++[27]
 else if c<1114113 then(if m / 4%2*4≠0 then CV m++iB [fC c]else CV m++ID c)else spS ck (c-1114113) m
noncomputable def B4w:Q1:=⟨_,fun hst=>(.cons (A3d hst) (.cons (B2F hst) (.cons (B3W hst) .nil)))⟩
def tZ:List U→Option (Nat×List U)
 | [.bool b0,.bool b1,.bool ck,.bool b3,.bool b4,.bool b5,.bool b6,.bool pa,.bool fo,.bool b9,.bool b10,.int .i64 mo,.bool sg,.int .i64 k,.int .i64 c,.int .i64 m,.int .i64 w,.int .i64 b,.int .i64 r,.int .i64 cl,.str t]=>if i7 c m then some (0,[.str (keS ck c m)])else none
 | _=>none
def JQ(b0:Bool)(b1:Bool)(ck:Bool)(b3:Bool)(b4:Bool)(b5:Bool)(b6:Bool)(pa:Bool)(fo:Bool)(b9:Bool)(b10:Bool)(mo:Int)(sg:Bool)(k:Int)(c:Int)(m:Int)(w:Int)(b:Int)(r:Int)(cl:Int)(t:D1)(hc:i7 c m):tZ [.bool b0,.bool b1,.bool ck,.bool b3,.bool b4,.bool b5,.bool b6,.bool pa,.bool fo,.bool b9,.bool b10,.int .i64 mo,.bool sg,.int .i64 k,.int .i64 c,.int .i64 m,.int .i64 w,.int .i64 b,.int .i64 r,.int .i64 cl,.str t]=some (0,[.str (keS ck c m)]):=A4 hc
def A3M(n:Nat):Tr:=aS [h3 14,jI 1114113]<|.fn OX [h 0 8,h 1 8,h 2 8,h 3 8,h 4 8,h 5 8,h 6 8,h 7 8,h 8 8,h 9 8,h 10 8,h3 11,h 12 8,h3 n,h3 15] 1<|.ret [h (n+1) 9]
def A3L(n:Nat):Tr:=S6 14 n 1114113 (.fn EX [h3 14] 1<|aC [.string ⟨⟨[27]⟩⟩,h (n+1) 9]<|.ret [h (n+2) 9]) (A3M (n+1))
def A3K(n:Nat):Tr:=.br 29 (aC [.string ⟨⟨[27]⟩⟩,h 28 9]<|.ret [h n 9]) (S6 14 n 1114113 (mM 15 (n+1) 4 (.fn xE [h3 14] 2<|.lt 9 (.mks) [h (n+3) 4]<|aC [.string ⟨⟨[27]⟩⟩,h (n+5) 9]<|.ret [h (n+6) 9]) (A3L (n+3))) (A3L (n+1)))
def A3J(n:Nat):Tr:=S6 14 n 1114113 (.fn EX [h3 14] 1<|aC [.string ⟨⟨[]⟩⟩,h (n+1) 9]<|.ret [h (n+2) 9]) (A3M (n+1))
def A3I(n:Nat):Tr:=.br 29 (aC [.string ⟨⟨[]⟩⟩,h 28 9]<|.ret [h n 9]) (S6 14 n 1114113 (mM 15 (n+1) 4 (.fn xE [h3 14] 2<|.lt 9 (.mks) [h (n+3) 4]<|aC [.string ⟨⟨[]⟩⟩,h (n+5) 9]<|.ret [h (n+6) 9]) (A3J (n+3))) (A3J (n+1)))
def A81:Tr:=mM 15 21 2 (.dt 12 (.mk 2) []<|.dt 12 (.mput 2 1) [h 23 12,jI 1114135,.string ⟨⟨[13]⟩⟩]<|.dt 12 (.mput 2 1) [h 24 12,jI 1114136,.string ⟨⟨[9]⟩⟩]<|.dt 12 (.mput 2 1) [h 25 12,jI 1114137,.string ⟨⟨[127]⟩⟩]<|.dt 12 (.mput 2 1) [h 26 12,jI 1114138,.string ⟨⟨[27]⟩⟩]<|.lt 9 (.mget 2 1 1) [h 27 12,.string ⟨⟨[]⟩⟩,h3 14]<|.lt 8 (.mhas 2 1) [h 27 12,h3 14]<|G3 14 30 1114136 (G3 15 31 1 (.ret [.string ⟨⟨[27,91,90]⟩⟩]) (A3K 32)) (A3K 31)) (.dt 12 (.mk 2) []<|.dt 12 (.mput 2 1) [h 23 12,jI 1114135,.string ⟨⟨[13]⟩⟩]<|.dt 12 (.mput 2 1) [h 24 12,jI 1114136,.string ⟨⟨[9]⟩⟩]<|.dt 12 (.mput 2 1) [h 25 12,jI 1114137,.string ⟨⟨[127]⟩⟩]<|.dt 12 (.mput 2 1) [h 26 12,jI 1114138,.string ⟨⟨[27]⟩⟩]<|.lt 9 (.mget 2 1 1) [h 27 12,.string ⟨⟨[]⟩⟩,h3 14]<|.lt 8 (.mhas 2 1) [h 27 12,h3 14]<|G3 14 30 1114136 (G3 15 31 1 (.ret [.string ⟨⟨[27,91,90]⟩⟩]) (A3I 32)) (A3I 31))
def lW{G}(hst:L9 G):M2 prog G 50 [.a [8,8,8,8,8,8,8,8,8,8,8,3,8],.a [3,3,3,3,3,3,3,9]] tZ [.s 9]:=by
 refine F1 (d:=60) A81 (cxg (B4w.2 hst) .nil) hst ⟨f50,_,func50,rfl⟩ D0 D0 ?_;intro us outs hs;unfold tZ at hs;split at hs
 ·skip;rename_i b0 b1 ck b3 b4 b5 b6 pa fo b9 b10 mo sg k c m w b r cl t;split at hs
  ·rename_i hc;cases hs;have z1:=WQ c;have z2:=B0X c;have z3:=MN c;have hk:=hc;unfold i7 chP okU at hk;unfold A81;refine s0L ?_;show Tr.sav _ _ (.cons 20 _ (.cons 19 _ (.cons 18 _ (.cons 17 _ (.cons 16 _ (.cons 15 _ (.cons 14 _ (.cons 13 _ (.cons 12 _ (.cons 11 _ (.cons 10 _ (.cons 9 _ (.cons 8 _ (.cons 7 _ (.cons 6 _ (.cons 5 _ (.cons 4 _ (.cons 3 _ (.cons 2 _ (.cons 1 _ (.cons 0 _ (.nil))))))))))))))))))))));refine Wk.s ?_;repeat (first|refine w4 (fun g=>?_) fun g=>?_|refine w4B (fun g=>?_) fun g=>?_|(refine w7 [.str _] ?_;rotate_left)|refine w1 (.bin .add) (e:=Y1 _ _ (by simp only[A7,B3,D2,s8];omega)) (k':=?_)|refine HN ?_|refine wF ?_|refine cD ?_|refine w2 (.mput 2 1) (r:=rM) (e:=bK (fun a b=>(a.1 == b.1 && true)) (_,_) rfl rfl (fun _=>rfl) (O1 _)) (k':=?_)|refine w31 EX (e:=A46 _) (k':=?_)|refine w31 OX (e:=A5y _ _ _ _ _ _ _ _ _ _ _ _ _ _ _ (by have z6:=B5c ‹_›;omega)) (k':=?_)|refine mL ?_|refine U1 ?_|refine w1 (.bin .and) (e:=JN _) (k':=?_)|refine w32 xE (e:=WP _) (k':=?_)|refine w1 (.mks) (e:=vO [_] (by simp only[C6,M7,or_false,forall_eq_or_imp,forall_eq];omega)) (k':=?_)|refine w2 (.mk 2) (r:=rM) (e:=S7 [] rfl C3 rfl) (k':=?_)|refine w1x (.mget 2 1 1) (e:=B0w _ rfl) (k':=?_)|refine w1x (.mhas 2 1) (e:=B0v _ rfl) (k':=?_)|refine w1 (.bin .and) (e:=WD _) (k':=?_))
   all_goals
    refine H3 (fun z=>[U.str z]) ?_
    (try simp only[B2q,decide_eq_true_eq,decide_eq_false_iff_not]at *)
    (try rw[B2r])
    unfold keS CV
    (repeat' split)<;>first|(exfalso;omega)|rfl
  ·cases hs
 ·cases hs
def zG{n:Int}(h:0≤n):Lib.decDigits n.toNat=itz n:=by
 rw[SH,← Lib.itoa_nonneg,R5 h]
def isR(mo w b:Int):Prop:=(mo=9∧w=0)∨(mo=1000∧w≠2)∨(mo=1002∧(w≠2∨b≠3))∨(mo≠0∧mo≠9∧mo≠1000∧mo≠1002)
instance(mo w b:Int):Decidable (isR mo w b):=by unfold isR;infer_instance
def isS(pa fo:Bool)(mo k w b:Int):Bool:=if k=3 then pa else if k=4 then fo else if k=2 then decide (isR mo w b)else true
def dZ(mo k m:Int):Int:=if k=2∧mo=9 then 0 else m
def eA(sg:Bool)(k w b:Int):Int:=if k=2∧w=1∧sg=false then 3 else b
def ifI(c:Bool)(n:Int):Int:=if c then n else 0
def ifT(c:Bool)(t:D1):D1:=if c then t else[]
noncomputable def B46:Q1:=⟨_,fun hst=>.nil⟩
def CJ:List U→Option (Nat×List U)
 | [.bool b0,.bool b1,.bool ck,.bool b3,.bool b4,.bool b5,.bool b6,.bool pa,.bool fo,.bool b9,.bool b10,.int .i64 mo,.bool sg,.int .i64 k,.int .i64 c,.int .i64 m,.int .i64 w,.int .i64 b,.int .i64 r,.int .i64 cl,.str t]=>if k=2→b≤3 then some (0,[.int .i64 (ifI (isS pa fo mo k w b) k),.int .i64 (ifI (isS pa fo mo k w b) c),.int .i64 (ifI (isS pa fo mo k w b) (dZ mo k m)),.int .i64 (ifI (isS pa fo mo k w b) w),.int .i64 (ifI (isS pa fo mo k w b) (eA sg k w b)),.int .i64 (ifI (isS pa fo mo k w b) r),.int .i64 (ifI (isS pa fo mo k w b) cl),.str (ifT (isS pa fo mo k w b) t),.bool (isS pa fo mo k w b)])else none
 | _=>none
def WV(b0:Bool)(b1:Bool)(ck:Bool)(b3:Bool)(b4:Bool)(b5:Bool)(b6:Bool)(pa:Bool)(fo:Bool)(b9:Bool)(b10:Bool)(mo:Int)(sg:Bool)(k:Int)(c:Int)(m:Int)(w:Int)(b:Int)(r:Int)(cl:Int)(t:D1)(hc:k=2→b≤3):CJ [.bool b0,.bool b1,.bool ck,.bool b3,.bool b4,.bool b5,.bool b6,.bool pa,.bool fo,.bool b9,.bool b10,.int .i64 mo,.bool sg,.int .i64 k,.int .i64 c,.int .i64 m,.int .i64 w,.int .i64 b,.int .i64 r,.int .i64 cl,.str t]=some (0,[.int .i64 (ifI (isS pa fo mo k w b) k),.int .i64 (ifI (isS pa fo mo k w b) c),.int .i64 (ifI (isS pa fo mo k w b) (dZ mo k m)),.int .i64 (ifI (isS pa fo mo k w b) w),.int .i64 (ifI (isS pa fo mo k w b) (eA sg k w b)),.int .i64 (ifI (isS pa fo mo k w b) r),.int .i64 (ifI (isS pa fo mo k w b) cl),.str (ifT (isS pa fo mo k w b) t),.bool (isS pa fo mo k w b)]):=A4 hc
def K7:Tr:=.ret [jI 0,jI 0,jI 0,jI 0,jI 0,jI 0,jI 0,.string ⟨⟨[]⟩⟩,.bool false]
def oS:Tr:=.ret [h3 13,h3 14,jI 0,h3 16,h3 17,h3 18,h3 19,h 20 9,.bool true]
def A30(n:Nat):Tr:=I3 n 25 K7 oS
def eR:Tr:=.ret [h3 13,h3 14,h3 15,h3 16,h3 17,h3 18,h3 19,h 20 9,.bool true]
def A3z(n:Nat):Tr:=I3 n 25 K7 eR
def A3y(n:Nat):Tr:=I3 n 26 K7 oS
def A3x(n:Nat):Tr:=I3 n 26 K7 eR
def A3w(n:Nat):Tr:=I3 n 28 K7 oS
def A3v(n:Nat):Tr:=I3 n 28 K7 eR
def A3u(n:Nat):Tr:=I3 n 27 K7 oS
def A3t(n:Nat):Tr:=I3 n 27 K7 eR
def sB:Tr:=.ret [h3 13,h3 14,jI 0,h3 16,jI 3,h3 18,h3 19,h 20 9,.bool true]
def sA:Tr:=.ret [h3 13,h3 14,h3 15,h3 16,jI 3,h3 18,h3 19,h 20 9,.bool true]
def A9S:Tr:=G3 13 21 3 (I3 22 7 K7 eR) (G3 13 22 4 (I3 23 8 K7 eR) (G3 13 23 2 (G3 11 24 9 (aE [h3 16,jI 0]<|G3 11 26 9 (G3 16 27 1 (I3 28 12 (I3 29 25 K7 sB) (A30 29)) (A30 28)) (G3 16 27 1 (I3 28 12 (I3 29 25 K7 sA) (A3z 29)) (A3z 28))) (G3 11 25 1000 (aN [h3 16,jI 2]<|G3 11 27 9 (G3 16 28 1 (I3 29 12 (I3 30 26 K7 sB) (A3y 30)) (A3y 29)) (G3 16 28 1 (I3 29 12 (I3 30 26 K7 sA) (A3x 30)) (A3x 29))) (G3 11 26 1002 (cC 16 27 2 (G3 11 28 9 (G3 16 29 1 (I3 30 12 sB oS) oS) (G3 16 29 1 (I3 30 12 sA eR) eR)) (aN [h3 17,jI 3]<|G3 11 29 9 (G3 16 30 1 (I3 31 12 (I3 32 28 K7 sB) (A3w 32)) (A3w 31)) (G3 16 30 1 (I3 31 12 (I3 32 28 K7 sA) (A3v 32)) (A3v 31)))) (aN [h3 11,jI 0]<|G3 11 28 9 (G3 16 29 1 (I3 30 12 (I3 31 27 K7 sB) (A3u 31)) (A3u 30)) (G3 16 29 1 (I3 30 12 (I3 31 27 K7 sA) (A3t 31)) (A3t 30)))))) eR))
def A9T{G}(hst:L9 G):M2 prog G 49 [.a [8,8,8,8,8,8,8,8,8,8,8,3,8],.a [3,3,3,3,3,3,3,9]] CJ [.a [3,3,3,3,3,3,3,9],.s 8]:=by
 refine F1 (d:=60) A9S (cxg (B46.2 hst) .nil) hst ⟨f49,_,func49,rfl⟩ D0 D0 ?_;intro us outs hs;unfold CJ at hs;split at hs
 ·skip;rename_i b0 b1 ck b3 b4 b5 b6 pa fo b9 b10 mo sg k c m w b r cl t;split at hs
  ·rename_i hc;cases hs;unfold A9S;refine s0L ?_;show Tr.sav _ _ (.cons 20 _ (.cons 19 _ (.cons 18 _ (.cons 17 _ (.cons 16 _ (.cons 15 _ (.cons 14 _ (.cons 13 _ (.cons 12 _ (.cons 11 _ (.cons 10 _ (.cons 9 _ (.cons 8 _ (.cons 7 _ (.cons 6 _ (.cons 5 _ (.cons 4 _ (.cons 3 _ (.cons 2 _ (.cons 1 _ (.cons 0 _ (.nil))))))))))))))))))))));refine Wk.s ?_;repeat (first|refine w4 (fun g=>?_) fun g=>?_|refine w4B (fun g=>?_) fun g=>?_|(refine w7 [.int .i64 _,.int .i64 _,.int .i64 _,.int .i64 _,.int .i64 _,.int .i64 _,.int .i64 _,.str _,.bool _] ?_;rotate_left)|refine l4 ?_|refine mK ?_|refine U1 ?_|refine mL ?_)
   all_goals
    unfold isS isR dZ eA ifI ifT;first|(simp_all;done)|(simp_all;omega)
  ·cases hs
 ·cases hs
def kdS(w:Int):Int:=if w=2 then 32 else if w=3 then 64 else 0
def B2l(w:Int)(h:0≤w)(h2:w≤3):([0,0,32,64]:List Int).getD w.toNat 0=kdS w:=by
 have:w=0∨w=1∨w=2∨w=3:=A1;rcases this with rfl|rfl|rfl|rfl<;>decide
def VK(w:Int):(w=2∧kdS w=32)∨(w=3∧kdS w=64)∨(w≠2∧w≠3∧kdS w=0):=by
 unfold kdS
 (repeat' split)<;>omega
def nuS(m w b:Int):Int:=b+m%2*4+m / 2%2*8+m / 4*16+kdS w
def laS(w:Int):D1:=if w=1 then[109]else[77]
def moS(sg:Bool)(m w b r cl:Int):D1 :=
 if sg=false then[27,91,77]++iB [32+nuS m w b,33+cl,33+r]
 else[27,91,60]++itz (nuS m w b)++[59]++itz (cl+1)++[59]++itz (r+1)++laS w
def B0R{m w b r cl x y z:Int}(h:sg=false)(hx:x=32+nuS m w b)(hy:y=33+cl)(hz:z=33+r):[27,91,77]++iB [x,y,z]=moS sg m w b r cl:=by
 subst hx hy hz;unfold moS;rw[A4 h]
def B0Q{m w b r cl x y z:Int}{l:D1}(h:sg=true)(hx:x=nuS m w b)(hy:y=cl+1)(hz:z=r+1)(hl:l=laS w):[27,91,60]++itz x++[59]++itz y++[59]++itz z++l=moS sg m w b r cl:=by
 subst hx hy hz hl;unfold moS;rw[A3 (by rw[h];decide)]
def nO(n:Int)(h0:0≤n)(h:n<10000):(itz n).length≤21:=IV A1 A1
noncomputable def B4u:Q1:=⟨_,fun hst=>(.cons (A2Z hst) .nil)⟩
def tY:List U→Option (Nat×List U)
 | [.bool b0,.bool b1,.bool ck,.bool b3,.bool b4,.bool b5,.bool b6,.bool pa,.bool fo,.bool b9,.bool b10,.int .i64 mo,.bool sg,.int .i64 k,.int .i64 c,.int .i64 m,.int .i64 w,.int .i64 b,.int .i64 r,.int .i64 cl,.str t]=>if msP m w b r cl then some (0,[.str (moS sg m w b r cl)])else none
 | _=>none
def WJ(b0:Bool)(b1:Bool)(ck:Bool)(b3:Bool)(b4:Bool)(b5:Bool)(b6:Bool)(pa:Bool)(fo:Bool)(b9:Bool)(b10:Bool)(mo:Int)(sg:Bool)(k:Int)(c:Int)(m:Int)(w:Int)(b:Int)(r:Int)(cl:Int)(t:D1)(hc:msP m w b r cl):tY [.bool b0,.bool b1,.bool ck,.bool b3,.bool b4,.bool b5,.bool b6,.bool pa,.bool fo,.bool b9,.bool b10,.int .i64 mo,.bool sg,.int .i64 k,.int .i64 c,.int .i64 m,.int .i64 w,.int .i64 b,.int .i64 r,.int .i64 cl,.str t]=some (0,[.str (moS sg m w b r cl)]):=A4 hc
def A8x:Tr:=.lt 3 (.bin .and) [h3 15,jI 1]<|.lt 3 (.bin .shl) [h3 21,.int .u64 (2)]<|.lt 3 (.bin .or) [h3 17,h3 22]<|.lt 3 (.bin .and) [h3 15,jI 2]<|.lt 3 (.bin .shl) [h3 24,.int .u64 (2)]<|.lt 3 (.bin .or) [h3 23,h3 25]<|.lt 3 (.bin .and) [h3 15,jI 4]<|.lt 3 (.bin .shl) [h3 27,.int .u64 (2)]<|.lt 3 (.bin .or) [h3 26,h3 28]<|aI [h3 16,jI 4]<|.br 30 (.lt 3 (.sel) [h3 16,jI 0,jI 0,jI 32,jI 64]<|.lt 3 (.bin .or) [h3 29,h3 31]<|I3 33 12 (aA [jI 32,h3 32]<|.lt 4 (.conv .u8) [h3 34]<|aA [jI 33,h3 19]<|.lt 4 (.conv .u8) [h3 36]<|aA [jI 33,h3 18]<|.lt 4 (.conv .u8) [h3 38]<|.lt 9 (.mks) [h 35 4,h 37 4,h 39 4]<|aC [.string ⟨⟨[27,91,77]⟩⟩,h 40 9]<|.ret [h 41 9]) (G3 16 34 1 (.fn bE [h3 32] 1<|aC [.string ⟨⟨[27,91,60]⟩⟩,h 35 9]<|aC [h 36 9,.string ⟨⟨[59]⟩⟩]<|aA [h3 19,jI 1]<|.fn bE [h3 38] 1<|aC [h 37 9,h 39 9]<|aC [h 40 9,.string ⟨⟨[59]⟩⟩]<|aA [h3 18,jI 1]<|.fn bE [h3 42] 1<|aC [h 41 9,h 43 9]<|aC [h 44 9,.string ⟨⟨[109]⟩⟩]<|.ret [h 45 9]) (.fn bE [h3 32] 1<|aC [.string ⟨⟨[27,91,60]⟩⟩,h 35 9]<|aC [h 36 9,.string ⟨⟨[59]⟩⟩]<|aA [h3 19,jI 1]<|.fn bE [h3 38] 1<|aC [h 37 9,h 39 9]<|aC [h 40 9,.string ⟨⟨[59]⟩⟩]<|aA [h3 18,jI 1]<|.fn bE [h3 42] 1<|aC [h 41 9,h 43 9]<|aC [h 44 9,.string ⟨⟨[77]⟩⟩]<|.ret [h 45 9]))) (.no)
def A8z{G}(hst:L9 G):M2 prog G 51 [.a [8,8,8,8,8,8,8,8,8,8,8,3,8],.a [3,3,3,3,3,3,3,9]] tY [.s 9]:=by
 refine F1 (d:=60) A8x (cxg (B4u.2 hst) .nil) hst ⟨f51,_,func51,rfl⟩ D0 D0 ?_;intro us outs hs;unfold tY at hs;split at hs
 ·skip;rename_i b0 b1 ck b3 b4 b5 b6 pa fo b9 b10 mo sg k c m w b r cl t;split at hs
  ·rename_i hc;cases hs;have hm:=(FI m w b r cl).1 hc;have z1:=VK w;have l1:=nO (cl+1) A1 A1;have l2:=nO (r+1) A1 A1;have z2:=B2l w A1 A1;have l3:=nO (b+m%2*4+m / 2%2*2*4+m / 4%2*4*4+([0,0,32,64]:List Int).getD w.toNat 0) A1 A1;unfold A8x;refine s0L ?_;show Tr.sav _ _ (.cons 20 _ (.cons 19 _ (.cons 18 _ (.cons 17 _ (.cons 16 _ (.cons 15 _ (.cons 14 _ (.cons 13 _ (.cons 12 _ (.cons 11 _ (.cons 10 _ (.cons 9 _ (.cons 8 _ (.cons 7 _ (.cons 6 _ (.cons 5 _ (.cons 4 _ (.cons 3 _ (.cons 2 _ (.cons 1 _ (.cons 0 _ (.nil))))))))))))))))))))));refine Wk.s ?_;refine w1 (.bin .and) (e:=fA 1 2 C3 C3 C3) (k':=?_);first|refine w1 (.bin .shl) (e:=zD 4 C3 C3 (kJ A1 A1)) (k':=?_)|refine w1 (.bin .shl) (e:=tV 4 C3 C3) (k':=?_)
   first|refine w1 (.bin .or) (e:=vN 2 4 9223372036854775808 C3 C3 A1 A1 A1 A1 A1) (k':=?_)|refine w1 (.bin .or) (e:=BX 2 4 9223372036854775808 C3 C3 A1 A1 A1 A1 A1) (k':=?_)|refine w1 (.bin .or) (e:=nZ _ _ _) (k':=?_)
   refine w1 (.bin .and) (e:=WD _) (k':=?_);first|refine w1 (.bin .shl) (e:=zD 4 C3 C3 (kJ A1 A1)) (k':=?_)|refine w1 (.bin .shl) (e:=tV 4 C3 C3) (k':=?_)
   first|refine w1 (.bin .or) (e:=vN 3 8 9223372036854775808 C3 C3 A1 A1 A1 A1 A1) (k':=?_)|refine w1 (.bin .or) (e:=BX 3 8 9223372036854775808 C3 C3 A1 A1 A1 A1 A1) (k':=?_)|refine w1 (.bin .or) (e:=nZ _ _ _) (k':=?_)
   refine w1 (.bin .and) (e:=JN _) (k':=?_);first|refine w1 (.bin .shl) (e:=zD 4 C3 C3 (kJ A1 A1)) (k':=?_)|refine w1 (.bin .shl) (e:=tV 4 C3 C3) (k':=?_)
   first|refine w1 (.bin .or) (e:=vN 4 16 9223372036854775808 C3 C3 A1 A1 A1 A1 A1) (k':=?_)|refine w1 (.bin .or) (e:=BX 4 16 9223372036854775808 C3 C3 A1 A1 A1 A1 A1) (k':=?_)|refine w1 (.bin .or) (e:=nZ _ _ _) (k':=?_)
   refine A9o ?_;refine w5 (fun g0=>?_) fun g0=>?_
   ·refine w8 ?_;first|omega
   refine w1 (.sel) (e:=zE [0,0,32,64] A1 (by show _<((4:Nat):Int);omega)) (k':=?_);first|refine w1 (.bin .or) (e:=vN 5 32 9223372036854775808 C3 C3 A1 A1 A1 A1 A1) (k':=?_)|refine w1 (.bin .or) (e:=BX 5 32 9223372036854775808 C3 C3 A1 A1 A1 A1 A1) (k':=?_)|refine w1 (.bin .or) (e:=nZ _ _ _) (k':=?_)
   first|refine l4 ?_|refine mK ?_
   first|refine w4 (fun g1=>?_) (fun g1=>?_)|refine w4B (fun g1=>?_) (fun g1=>?_)
   ·first|refine y7 ?_|refine V4 ?_
    first|refine fV ?_|refine cE ?_
    first|refine y7 ?_|refine V4 ?_
    first|refine fV ?_|refine cE ?_
    first|refine y7 ?_|refine V4 ?_
    first|refine fV ?_|refine cE ?_
    refine w1 (.mks) (e:=vO [_,_,_] (by simp only[C6,M7,or_false,forall_eq_or_imp,forall_eq];omega)) (k':=?_);refine w1 (.bin .add) (e:=Y1 _ _ (by simp only[A7,B3,D2,s8];omega)) (k':=?_);refine w7 [.str _] ?_;refine H3 (fun z=>[U.str z]) ?_;first|exact B0R (by first|assumption|(simp_all;done)) (by unfold nuS;omega) A1 A1|exact B0Q (by first|assumption|(simp_all;done)) (by unfold nuS;omega) A1 A1 (by unfold laS;first|exact(A4 ‹_›).symm|exact(A3 ‹_›).symm)|(exfalso;omega)
   refine U1 ?_;refine w4 (fun g2=>?_) fun g2=>?_
   ·refine w31 bE (e:=lC _ A1) (k':=?_);refine w1 (.bin .add) (e:=Y1 _ _ (by simp only[A7,B3,D2,s8];omega)) (k':=?_);refine w1 (.bin .add) (e:=Y1 _ _ (by simp only[A7,B3,D2,s8];omega)) (k':=?_);first|refine y7 ?_|refine V4 ?_
    refine w31 bE (e:=lC _ A1) (k':=?_);refine w1 (.bin .add) (e:=Y1 _ _ (by simp only[A7,B3,D2,s8];omega)) (k':=?_);refine w1 (.bin .add) (e:=Y1 _ _ (by simp only[A7,B3,D2,s8];omega)) (k':=?_);first|refine y7 ?_|refine V4 ?_
    refine w31 bE (e:=lC _ A1) (k':=?_);refine w1 (.bin .add) (e:=Y1 _ _ (by simp only[A7,B3,D2,s8];omega)) (k':=?_);refine w1 (.bin .add) (e:=Y1 _ _ (by simp only[A7,B3,D2,s8];omega)) (k':=?_);refine w7 [.str _] ?_;refine H3 (fun z=>[U.str z]) ?_;first|exact B0R (by first|assumption|(simp_all;done)) (by unfold nuS;omega) A1 A1|exact B0Q (by first|assumption|(simp_all;done)) (by unfold nuS;omega) A1 A1 (by unfold laS;first|exact(A4 ‹_›).symm|exact(A3 ‹_›).symm)|(exfalso;omega)
   refine w31 bE (e:=lC _ A1) (k':=?_);refine w1 (.bin .add) (e:=Y1 _ _ (by simp only[A7,B3,D2,s8];omega)) (k':=?_);refine w1 (.bin .add) (e:=Y1 _ _ (by simp only[A7,B3,D2,s8];omega)) (k':=?_);first|refine y7 ?_|refine V4 ?_
   refine w31 bE (e:=lC _ A1) (k':=?_);refine w1 (.bin .add) (e:=Y1 _ _ (by simp only[A7,B3,D2,s8];omega)) (k':=?_);refine w1 (.bin .add) (e:=Y1 _ _ (by simp only[A7,B3,D2,s8];omega)) (k':=?_);first|refine y7 ?_|refine V4 ?_
   refine w31 bE (e:=lC _ A1) (k':=?_);refine w1 (.bin .add) (e:=Y1 _ _ (by simp only[A7,B3,D2,s8];omega)) (k':=?_);refine w1 (.bin .add) (e:=Y1 _ _ (by simp only[A7,B3,D2,s8];omega)) (k':=?_);refine w7 [.str _] ?_;refine H3 (fun z=>[U.str z]) ?_;first|exact B0R (by first|assumption|(simp_all;done)) (by unfold nuS;omega) A1 A1|exact B0Q (by first|assumption|(simp_all;done)) (by unfold nuS;omega) A1 A1 (by unfold laS;first|exact(A4 ‹_›).symm|exact(A3 ‹_›).symm)|(exfalso;omega)
  ·cases hs
 ·cases hs
def A8Y{k c m w b r cl:Int}{t:D1}(h:O5 k c m w b r cl t)(e:k=1):i7 c m:=by
 unfold O5 at h;rcases h with h|h|h|h
 ·exact h.2.2.2.2.2.2
 ·omega
 ·omega
 ·omega
def OD{k c m w b r cl:Int}{t:D1}(h:O5 k c m w b r cl t)(e:k=2):msP m w b r cl:=by
 unfold O5 at h;rcases h with h|h|h|h
 ·omega
 ·exact h.2.2.2
 ·omega
 ·omega
def B3C{k c m w b r cl:Int}{t:D1}(h:O5 k c m w b r cl t):1≤k∧k≤4∧t.length≤1000∧(k=4→0≤w∧w≤1):=by
 unfold O5 at h;rcases h with⟨a,_,_,_,_,e,_⟩|⟨a,_,e,_⟩|h|⟨a,_,_,_,_,_,e,f,g⟩
 ·subst e;refine⟨A1,A1,U9 _,fun h=>by omega⟩
 ·subst e;refine⟨A1,A1,U9 _,fun h=>by omega⟩
 ·refine⟨A1,A1,h.2.2.2.2.2.2.2.1,fun h=>by omega⟩
 ·subst e;refine⟨A1,A1,U9 _,fun h=>⟨f,g⟩⟩
def B2e{m w b r cl:Int}(h:msP m w b r cl):b≤3:=by have:=(FI m w b r cl).1 h;omega
def IM{mo k m w b r cl:Int}(h:msP m w b r cl):msP (dZ mo k m) w (eA sg k w b) r cl:=by
 have h:=(FI m w b r cl).1 h;refine(FI _ _ _ _ _).2 ?_;unfold dZ eA
 (repeat' split)<;>omega
def enS(ck pa fo sg:Bool)(mo k c m w b r cl:Int)(t:D1):D1 :=
 if k=3∧pa=false then t else if isS pa fo mo k w b=false then[]else if k=1 then keS ck c m else if k=2 then moS sg (dZ mo k m) w (eA sg k w b) r cl
 else if k=3 then[27,91,50,48,48,126]++t++[27,91,50,48,49,126]else[27,91]++(if w=0 then[79]else[73])
def moP(mo:Int):Prop:=mo=0∨mo=9∨mo=1000∨mo=1002∨mo=1003
instance(mo:Int):Decidable (moP mo):=by unfold moP;infer_instance
noncomputable def B4e:Q1:=⟨_,fun hst=>.nil⟩
def NK:List U→Option (Nat×List U)
 | [.bool b0,.bool b1,.bool ck,.bool b3,.bool b4,.bool b5,.bool b6,.bool pa,.bool fo,.bool b9,.bool b10,.int .i64 mo,.bool sg]=>some (0,[.int .i64 (if moP mo then 0 else 260)])
 | _=>none
def A5R(b0:Bool)(b1:Bool)(ck:Bool)(b3:Bool)(b4:Bool)(b5:Bool)(b6:Bool)(pa:Bool)(fo:Bool)(b9:Bool)(b10:Bool)(mo:Int)(sg:Bool):NK [.bool b0,.bool b1,.bool ck,.bool b3,.bool b4,.bool b5,.bool b6,.bool pa,.bool fo,.bool b9,.bool b10,.int .i64 mo,.bool sg]=some (0,[.int .i64 (if moP mo then 0 else 260)]):=rfl
def A72:Tr:=cC 11 13 0 (G3 11 14 9 (K8 0) (G3 11 15 1000 (K8 0) (G3 11 16 1002 (K8 0) (G3 11 17 1003 (K8 0) (K8 260))))) (K8 0)
def B2i{G}(hst:L9 G):M2 prog G 75 [.a [8,8,8,8,8,8,8,8,8,8,8,3,8]] NK [.s 3]:=by
 refine F1 (d:=60) A72 (cxg (B4e.2 hst) .nil) hst ⟨f75,_,func75,rfl⟩ D0 D0 ?_;intro us outs hs;unfold NK at hs;split at hs
 ·skip;rename_i b0 b1 ck b3 b4 b5 b6 pa fo b9 b10 mo sg;cases hs;unfold A72;refine w0 (.cons 12 _ (.cons 11 _ (.cons 10 _ (.cons 9 _ (.cons 8 _ (.cons 7 _ (.cons 6 _ (.cons 5 _ (.cons 4 _ (.cons 3 _ (.cons 2 _ (.cons 1 _ (.cons 0 _ (.nil)))))))))))))) ?_;repeat (first|(refine w7 [.int .i64 _] ?_;rotate_left)|refine w4 (fun g=>?_) fun g=>?_|refine U1 ?_|refine mL ?_)
  all_goals
   refine l0 ?_;first|exact(A4 (by unfold moP;omega)).symm|exact(A3 (by unfold moP;omega)).symm|(exfalso;omega)
 ·cases hs
def M9(mo k c m w b r cl:Int)(t:D1):Int:=if moP mo then(if O5 k c m w b r cl t then 0 else 430)else 260
def A28{mo k c m w b r cl:Int}{t:D1}(h:M9 mo k c m w b r cl t=0):moP mo∧O5 k c m w b r cl t:=by
 unfold M9 at h;by_cases h1:moP mo
 ·rw[A4 h1]at h;by_cases h2:O5 k c m w b r cl t
  ·exact⟨h1,h2⟩
  ·rw[A3 h2]at h;cases h
 ·rw[A3 h1]at h;cases h
def B3Z(mo k c m w b r cl:Int)(t:D1):(if moP mo then(if O5 k c m w b r cl t then 0 else 430)else 260)=M9 mo k c m w b r cl t:=rfl
def cnS(e:Int)(z:Bool):Bool:=if e=0 then z else false
def B3t{z:Bool}(h:e≠0):cnS e z=false:=A3 h
def rI:Rw (Int×Int×Int×Int×Int×Int×Int×D1):=rC (Z8 .i64) (rC (Z8 .i64) (rC (Z8 .i64) (rC (Z8 .i64) (rC (Z8 .i64) (rC (Z8 .i64) (rC (Z8 .i64) (r1 SY)))))))
def B5D{α:Type}{l r:List α}(h:l.length=r.length):(l.zip r).length=l.length:=by rw[List.length_zip];omega
def eqX(x y:Y2):Bool:=(x.1 == y.1) && ((x.2.1 == y.2.1) && ((x.2.2.1 == y.2.2.1) && ((x.2.2.2.1 == y.2.2.2.1) && ((x.2.2.2.2.1 == y.2.2.2.2.1) && ((x.2.2.2.2.2.1 == y.2.2.2.2.2.1) && ((x.2.2.2.2.2.2.1 == y.2.2.2.2.2.2.1) && ((x.2.2.2.2.2.2.2 == y.2.2.2.2.2.2.2) && true)))))))
def neX(p:Y2×Y2):Bool:=!eqX p.1 p.2
def DO(a b:Option (List Y2)):Bool:=decide ((el a).length=(el b).length) && (Y4 neX ((el a).zip (el b)) 0).isNone
def B3a{x y:Y2}(h:eqX x y=true):x=y:=by
 obtain⟨a1,a2,a3,a4,a5,a6,a7,a8⟩:=x;obtain⟨b1,b2,b3,b4,b5,b6,b7,b8⟩:=y;simp[eqX]at h;obtain⟨h1,h2,h3,h4,h5,h6,h7,h8⟩:=h;subst h1 h2 h3 h4 h5 h6 h7 h8;rfl
noncomputable def B4S:Q1:=⟨_,fun hst=>.nil⟩
def wH:List U→Option (Nat×List U)
 | [u_a,u_b,.int .i64 i]=>(J8 rI u_a).bind fun a=>(J8 rI u_b).bind fun b=>if 0≤i∧i≤((el a).length:Int)∧(el a).length=(el b).length∧(el a).length≤140737488351232 then fT (Y4 neX (((el a).zip (el b)).drop i.toNat) i) [] (fun _=>[])else none
 | _=>none
def sJ(a:(Option (List (Int×Int×Int×Int×Int×Int×Int×D1))))(b:(Option (List (Int×Int×Int×Int×Int×Int×Int×D1))))(i:Int)(hc:0≤i∧i≤((el a).length:Int)∧(el a).length=(el b).length∧(el a).length≤140737488351232):wH [B6 rI a,B6 rI b,.int .i64 i]=fT (Y4 neX (((el a).zip (el b)).drop i.toNat) i) [] (fun _=>[]):=by
 simp only[wH,G9,D8];exact A4 hc
def A7N:Q8:=⟨[(0,dat 7 0 18),(1,dat 8 1 18),(5,h 2 3)],[(7,.frz),(8,.frz)],3,[⟨.exit 0,[],[],0⟩,⟨.ret,[(4,.bool false)],[],0⟩]⟩
noncomputable def A0u:Code:=(f22.body).getD .skip
noncomputable def A7J:Code:=match I0 [true,true,false,true,false] A0u with|some (.loop x)=>x|_=>.skip
def A7M:f22.body=some A0u:=rfl
def A7L:I0 [true,true,false,true,false] A0u=some (.loop A7J):=D0
def A7K:Tr:=aD [h 0 18]<|p7 2 3 4 (.lt 8 (.inbs 8) [h3 2,h 0 18]<|.br 5 (.lt 3 (.get 8 0) [h 0 18,h3 2]<|.lt 3 (.get 8 1) [h 0 18,h3 2]<|.lt 3 (.get 8 2) [h 0 18,h3 2]<|.lt 3 (.get 8 3) [h 0 18,h3 2]<|.lt 3 (.get 8 4) [h 0 18,h3 2]<|.lt 3 (.get 8 5) [h 0 18,h3 2]<|.lt 3 (.get 8 6) [h 0 18,h3 2]<|.lt 9 (.get 8 7) [h 0 18,h3 2]<|.lt 8 (.inbs 8) [h3 2,h 1 18]<|.br 14 (.lt 3 (.get 8 0) [h 1 18,h3 2]<|.lt 3 (.get 8 1) [h 1 18,h3 2]<|.lt 3 (.get 8 2) [h 1 18,h3 2]<|.lt 3 (.get 8 3) [h 1 18,h3 2]<|.lt 3 (.get 8 4) [h 1 18,h3 2]<|.lt 3 (.get 8 5) [h 1 18,h3 2]<|.lt 3 (.get 8 6) [h 1 18,h3 2]<|.lt 9 (.get 8 7) [h 1 18,h3 2]<|.lt 8 (.eqs) [h3 6,h3 15,h3 7,h3 16,h3 8,h3 17,h3 9,h3 18,h3 10,h3 19,h3 11,h3 20,h3 12,h3 21,h 13 9,h 22 9]<|I3 24 23 (K8 1) (aA [h3 2,jI 1]<|.ret [jI (-1),h 0 18,h 1 18,h3 25])) (.no)) (.no)) (K8 0)
def A0t:List U→Nat
 | [u_a,u_b,.int .i64 i]=>(match J8 rI u_a with|some a=>(match J8 rI u_b with|some b=>(((el a).length:Int)-i).toNat|none=>0)|none=>0)
 | _=>0
def A0s(a:(Option (List (Int×Int×Int×Int×Int×Int×Int×D1))))(b:(Option (List (Int×Int×Int×Int×Int×Int×Int×D1))))(i:Int):A0t [B6 rI a,B6 rI b,.int .i64 i]=(((el a).length:Int)-i).toNat:=by
 simp only[A0t,G9]
def B1y{G}(hst:L9 G):∀ (E:Nat→U) (base:Nat),@X1 ⟨E,G⟩ prog base gl f22.ntmps A7J (P3 prog gl n0 9 A7N wH):=by
 refine l6 (dep:=60) (f:=22) (n0:=n0) (nB:=9) (H0:=H0) A0t A7K (cxg (B4S.2 hst) .nil) hst func22 A7M A7L D0 D0 D0 ?_;intro us d outs hs;have hs0:=hs;unfold wH at hs;split at hs
 ·skip;rename_i u_a u_b i;have hq_a:=A9.1 hs;clear hs;obtain⟨a,hd_a,hs⟩:=hq_a;replace hd_a:=G1 hd_a;subst hd_a;have hq_b:=A9.1 hs;clear hs;obtain⟨b,hd_b,hs⟩:=hq_b;replace hd_b:=G1 hd_b;subst hd_b;split at hs
  ·rename_i hc;clear hs hs0;have hz:=B5D hc.2.2.1;refine⟨rfl,?_⟩;unfold A7K;refine w0 (.cons 2 _ (.cons 1 _ (.cons 0 _ (.nil)))) ?_;refine W8 ?_;refine cD ?_;refine w5 (fun g0=>?_) fun g0=>?_
   ·refine w7 [.int .i64 _] ?_;refine L7 (d:=0) ?_;rw[sJ a b i hc,vM A1];rfl
   refine eH ?_;refine w5 (fun g1=>?_) fun g1=>?_
   ·refine w8 ?_;first|omega
   refine w1 (.get 8 0) (u:=.int .i64 _) (e:=J6 rfl A1 A1 rfl) (k':=?_);refine w1 (.get 8 1) (u:=.int .i64 _) (e:=J6 rfl A1 A1 rfl) (k':=?_);refine w1 (.get 8 2) (u:=.int .i64 _) (e:=J6 rfl A1 A1 rfl) (k':=?_);refine w1 (.get 8 3) (u:=.int .i64 _) (e:=J6 rfl A1 A1 rfl) (k':=?_);refine w1 (.get 8 4) (u:=.int .i64 _) (e:=J6 rfl A1 A1 rfl) (k':=?_);refine w1 (.get 8 5) (u:=.int .i64 _) (e:=J6 rfl A1 A1 rfl) (k':=?_);refine w1 (.get 8 6) (u:=.int .i64 _) (e:=J6 rfl A1 A1 rfl) (k':=?_);refine w1 (.get 8 7) (u:=.str _) (e:=J6 rfl A1 A1 rfl) (k':=?_);refine eH ?_;refine w5 (fun g2=>?_) fun g2=>?_
   ·refine w8 ?_;first|omega
   refine w1 (.get 8 0) (u:=.int .i64 _) (e:=J6 rfl A1 A1 rfl) (k':=?_);refine w1 (.get 8 1) (u:=.int .i64 _) (e:=J6 rfl A1 A1 rfl) (k':=?_);refine w1 (.get 8 2) (u:=.int .i64 _) (e:=J6 rfl A1 A1 rfl) (k':=?_);refine w1 (.get 8 3) (u:=.int .i64 _) (e:=J6 rfl A1 A1 rfl) (k':=?_);refine w1 (.get 8 4) (u:=.int .i64 _) (e:=J6 rfl A1 A1 rfl) (k':=?_);refine w1 (.get 8 5) (u:=.int .i64 _) (e:=J6 rfl A1 A1 rfl) (k':=?_);refine w1 (.get 8 6) (u:=.int .i64 _) (e:=J6 rfl A1 A1 rfl) (k':=?_);refine w1 (.get 8 7) (u:=.str _) (e:=J6 rfl A1 A1 rfl) (k':=?_);refine w1 (.eqs) (e:=rfl) (k':=?_);first|refine l4 ?_|refine mK ?_
   first|refine w4 (fun g3=>?_) (fun g3=>?_)|refine w4B (fun g3=>?_) (fun g3=>?_)
   ·refine w7 [.int .i64 _] ?_;refine L7 (d:=1) ?_;rw[sJ a b i hc,vL A1 A1 (by rw[TJ A1 A1 A1];exact g3)];rfl
   first|refine y7 ?_|refine V4 ?_
   refine w7 [.int .i64 _,B6 rI _,B6 rI _,.int .i64 _] ?_;refine P4 ?_ ?_
   ·rw[sJ a b (i+1) ⟨A1,A1,hc.2.2⟩,sJ a b i hc,qQ (i:=i) A1 A1 (by rw[TJ A1 A1 A1];exact g3)]
   ·rw[A0s,A0s];omega
  ·cases hs
 ·cases hs
noncomputable def A9Z:List LpE:=(22,([true,true,false,true,false],P3 prog gl n0 9 A7N wH))::[]
def gW{G}(hst:L9 G):r7 prog G gl A9Z:=.cons func22 A7M A7L (B1y hst) .nil
def RG{a b:Option (List Y2)}(h:¬((el a).length:Int)=(el b).length):DO a b=false:=by
 unfold DO;rw[F6 A1,Z6]
def RF{a b:Option (List Y2)}(h:(el a).length=(el b).length)(hf:Y4 neX (((el a).zip (el b)).drop (0:Int).toNat) 0=none):DO a b=true:=by
 unfold DO;rw[F4 h];have hf:Y4 neX ((el a).zip (el b)) 0=none:=hf;rw[hf];rfl
def RE{a b:Option (List Y2)}{j:Int}(hf:Y4 neX (((el a).zip (el b)).drop (0:Int).toNat) 0=some j):DO a b=false:=by
 unfold DO;have hf:Y4 neX ((el a).zip (el b)) 0=some j:=hf;rw[hf,Bool.and_comm];rfl
noncomputable def B4T:Q1:=⟨_,fun hst=>.nil⟩
def EP:List U→Option (Nat×List U)
 | [u_a,u_b]=>(J8 rI u_a).bind fun a=>(J8 rI u_b).bind fun b=>if(el a).length≤140737488351232∧(el b).length≤140737488351232 then some (0,[.bool (DO a b)])else none
 | _=>none
def A4v(a:(Option (List (Int×Int×Int×Int×Int×Int×Int×D1))))(b:(Option (List (Int×Int×Int×Int×Int×Int×Int×D1))))(hc:(el a).length≤140737488351232∧(el b).length≤140737488351232):EP [B6 rI a,B6 rI b]=some (0,[.bool (DO a b)]):=by
 simp only[EP,G9,D8];exact A4 hc
def A7O:Tr:=aD [h 0 18]<|aD [h 1 18]<|aN [h3 2,h3 3]<|.br 4 (J5) (.lp wH [h 0 18,h 1 18,jI 0] 0 0 (cB) (.lp wH [h 0 18,h 1 18,jI 0] 1 0 (J5) (.no)))
def UF{G}(hst:L9 G):M2 prog G 22 [.s 18,.s 18] EP [.s 8]:=by
 refine F1 (d:=60) A7O (cxg (B4T.2 hst) (gW hst)) hst ⟨f22,_,func22,rfl⟩ D0 D0 ?_;intro us outs hs;unfold EP at hs;split at hs
 ·skip;rename_i u_a u_b;have hq_a:=A9.1 hs;clear hs;obtain⟨a,hd_a,hs⟩:=hq_a;replace hd_a:=G1 hd_a;subst hd_a;have hq_b:=A9.1 hs;clear hs;obtain⟨b,hd_b,hs⟩:=hq_b;replace hd_b:=G1 hd_b;subst hd_b;split at hs
  ·rename_i hc;cases hs;unfold A7O;refine w0 (.cons 1 _ (.cons 0 _ (.nil))) ?_;refine W8 ?_;refine W8 ?_;refine mL ?_;refine w4 (fun g0=>?_) fun g0=>?_
   ·refine w7 [.bool _] ?_;first|(rw[RG A1];done)|(rw[RF A1 g1];done)|(rw[RE g1];done)
   refine w6 wH (sJ _ _ _ ⟨A1,A1,A1,A1⟩) (h0:=fun g1=>?_) (h1:=fun v1 g1=>?_)
   ·show Wk _ _ _;refine w7 [.bool _] ?_;first|(rw[RG A1];done)|(rw[RF A1 g1];done)|(rw[RE g1];done)
   show Wk _ _ _;refine w7 [.bool _] ?_;first|(rw[RG A1];done)|(rw[RF A1 g1];done)|(rw[RE g1];done)
  ·cases hs
 ·cases hs
end Go.Proofs.YtdimocjaepnifaaGreatDoor
